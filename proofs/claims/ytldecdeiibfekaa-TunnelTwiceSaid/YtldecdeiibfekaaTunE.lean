/- Wrap; the law TunnelReads. -/
import Derived.Test.YtldecdeiibfekaaTunC
import Derived.Test.YtldecdeiibfekaaIp4N
import Derived.Test.YtldecdeiibfekaaIp4K
namespace Go.Proofs.Ytldecdeiibfekaa
open Go.RowKit
set_option linter.unusedVariables false
set_option linter.unusedSimpArgs false
attribute [local go_sem ↓] sliced_cut
attribute [local go_sem] cutA_zero

theorem wayRight (d6 : Bool) (sh sl dh dl tl : Nat) (htl : 0 < tl) (w : World) : Calls Try.prog 140 #[.agg (wyC d6 sh sl d6 dh dl tl).toArray] w (RetV w (.bool true)) := by
  have hd : decide (0 < tl) = true := by simp only [decide_eq_true_eq]; omega
  have hd2 : decide (0 < (tl : Int)) = true := by simp only [decide_eq_true_eq]; omega
  unfold wyC
  go_enter Try.func140, Try.ntmps140
  go_wp2
  go_ret
  exact RetV.is_ (by first | rfl | simp) (Below.allocS (Below.refl _ _) _)
set_option maxHeartbeats 4000000 in
set_option maxRecDepth 100000 in
theorem wrap44 (A : Option Addr) (n c : Nat) (l : List UInt8) (w : World) (h : Rb w A n c l) (ts ln id : Nat) (st mo : Bool) (fo tl0 pr sm sa da : Nat) (o load : List UInt8) (sl dl tl : Nat) (hn : n ≤ 65515) (k1 : sl < 4294967296) (k2 : dl < 4294967296) (ht0 : 0 < tl) (htl : tl < 256) (s : Sx l 4 false 0)
    (HP : ∀ w', Below w.heap.size w w' → Calls Try.prog 44 #[.slice A n c] w' (RetPE w' ts ln id st mo fo tl0 pr sm sa da o load 0)) : Calls Try.prog 79 #[.agg (wyC false 0 sl false 0 dl tl).toArray, .slice A n c] w (RetBE w (ip4B 0 (20 + 0 + n) 0 (pl4 st false 0) tl 4 (ip4K 0 (20 + 0 + n) 0 (pl4 st false 0) tl 4 sl dl []) sl dl [] ++ l) 0) := by
  obtain ⟨dy, y1, y2⟩ := rowWy
  obtain ⟨du, u1, u2⟩ := rowH4
  obtain ⟨dv, v1, v2⟩ : ∃ d, Try.prog.underlying 29 = some d ∧ d.isRow = true := ⟨_, Try.underlying29, rfl⟩
  have HS := Lib.hid (fun w (h : Rb w A n c l) => tunSix A n c l w h _ _ _ s)
  have HPR := Lib.hid (tunProto false)
  have HR := Lib.hid (wayRight false 0 sl 0 dl tl ht0)
  have HPK0 := fun w A n c (h : Rb w A n c l) (hn : n ≤ 65515) => packet4_ok 0 0 0 st false 0 tl 4 0 sl dl none 0 0 [] A n c l w Rb.nil_ h (by decide) (by decide) htl (by decide) k1 k2 (by decide) (by decide) (by omega) (by decide)
  have hPn := hn
  generalize hL : ip4B 0 (20 + 0 + n) 0 (pl4 st false 0) tl 4 (ip4K 0 (20 + 0 + n) 0 (pl4 st false 0) tl 4 sl dl []) sl dl [] ++ l = L
  have HPK1 : ∀ w, Rb w A n c l → Calls Try.prog 42 #[.agg (h4C 0 0 0 st false 0 tl 4 0 false 0 sl false 0 dl none 0 0).toArray, .slice A n c] w (RetBE w L 0) := fun w h => by
    have := HPK0 w A n c h hn
    rw [hL] at this
    exact this
  have HPK := Lib.hid HPK1
  clear HPK0 HPK1 hL s
  replace HP := Lib.hid HP
  have b2 : Bk (w.alloc (.cells (wyC false 0 sl false 0 dl tl).toArray 126)) w.heap.size 126 (wyC false 0 sl false 0 dl tl) := Bk.new w 126 (wyC false 0 sl false 0 dl tl).toArray
  have be : Below w.heap.size w (w.alloc (.cells (wyC false 0 sl false 0 dl tl).toArray 126)) := Below.allocS (Below.refl _ _) _
  replace h := h.alloc (.cells (wyC false 0 sl false 0 dl tl).toArray 126)
  go_enter Try.func79, Try.ntmps79
  go_upto_region 1 with (fail)
  generalize w.alloc (.cells (wyC false 0 sl false 0 dl tl).toArray 126) = V at *
  have zb2 := b2.lt
  go_wp2_with fail
  refine (HS.out _ h).mono ?_
  rintro e w1 ⟨rfl, rfl⟩
  go_upto_region 6 with (first
    | (refine at_op (.load 126 (.tmp 2)) rfl ?_; refine wpList_ldA (t := 126) 126 (.tmp 2) rfl rfl (wyC false 0 sl false 0 dl tl) rfl (by with_reducible repeat (first | exact b2 | refine Bk.later ?_ (below_plus _ _ _) | refine Bk.alloc ?_ _)) (whole_ _) y1 y2 (szWy _ _ _ _ _ _ _) ?_)
    | (go_at_call 140; (with_reducible refine (HR.out _).mono ?_); rintro e w1 ⟨bs1, d1, rfl, rfl⟩))
  replace b2 := b2.later (below_plus _ bs1 d1)
  replace h := h.plus_ bs1 d1
  replace be := belowP be bs1 d1
  generalize plus V bs1 d1 = V1 at *
  have zb3 := b2.lt
  have q3 : V1.cell? ⟨w.heap.size, 3, none⟩ = some (.bool false) := b2.cell 3
  go_upto_region 8 with (fail)
  go_wp2
  refine wp_relS 10 67 rfl (by kernel_rfl) (by kernel_rfl) ?_
  apply Steps.one (MP.eq _) 1 rfl
  · intro o ho FA x hO hD K hK
    obtain rfl := Option.some.inj ho.symm
    clear ho
    have e2 := hO 2 (by kernel_rfl)
    simp only [eval_tmp, List.getElem?_toArray, List.getElem?_cons_succ, List.getElem?_cons_zero, Option.getD_some] at e2
    have ev2 := Lib.hid ((eval_tmp FA 2).trans e2)
    clear hO hD
    go_simp
    exact hK.out _ _ (Ex.refl _) rfl
  apply Steps.one (MP.eq _) 2 rfl
  · intro o ho FA x hO hD K hK
    obtain rfl := Option.some.inj ho.symm
    clear ho
    have ev39 : FA.eval (.tmp 39) = _ := hD 0 39 (by kernel_rfl)
    have e39 := (eval_tmp FA 39).symm.trans ev39
    replace ev39 := Lib.hid ev39
    clear hO hD
    refine wanted_if rfl ?_
    refine wp_ld1 5 (.tmp 39) rfl ev39.out (b2.later (below_plus _ _ _)) rfl Try.underlying5 rfl ?_
    exact hK.out _ _ (Ex.refl _) rfl
  apply Steps.one (MP.eq _) 3 rfl
  · intro o ho FA x hO hD K hK
    obtain rfl := Option.some.inj ho.symm
    clear ho
    have e6 := hO 6 (by kernel_rfl)
    simp only [eval_tmp, List.getElem?_toArray, List.getElem?_cons_succ, List.getElem?_cons_zero, Option.getD_some] at e6
    have ev6 := Lib.hid ((eval_tmp FA 6).trans e6)
    clear hO hD
    go_simp
    exact hK.out _ _ (Ex.refl _) rfl
  apply Steps.one (MP.eq _) 4 rfl
  · intro o ho FA x hO hD K hK
    obtain rfl := Option.some.inj ho.symm
    clear ho
    have ev41 : FA.eval (.tmp 41) = _ := hD 2 41 (by kernel_rfl)
    have e41 := (eval_tmp FA 41).symm.trans ev41
    replace ev41 := Lib.hid ev41
    clear hO hD
    go_simp
    refine (HPR.out _).mono ?_
    rintro e w1 ⟨rfl, rfl⟩
    exact hK.out _ _ (Ex.refl _) rfl
  apply Steps.one (MP.eq _) 5 rfl
  · intro o ho FA x hO hD K hK
    obtain rfl := Option.some.inj ho.symm
    clear ho
    have e2 := hO 2 (by kernel_rfl)
    simp only [eval_tmp, List.getElem?_toArray, List.getElem?_cons_succ, List.getElem?_cons_zero, Option.getD_some] at e2
    have ev2 := Lib.hid ((eval_tmp FA 2).trans e2)
    clear hO hD
    go_simp
    exact hK.out _ _ (Ex.refl _) rfl
  apply Steps.one (MP.eq _) 6 rfl
  · intro o ho FA x hO hD K hK
    obtain rfl := Option.some.inj ho.symm
    clear ho
    have ev43 : FA.eval (.tmp 43) = _ := hD 4 43 (by kernel_rfl)
    have e43 := (eval_tmp FA 43).symm.trans ev43
    replace ev43 := Lib.hid ev43
    clear hO hD
    refine wanted_if rfl ?_
    refine wp_ldA 29 (.tmp 43) rfl ([.bool false, .int .u64 (0 : Int), .int .u64 (sl : Int)]) ev43.out (b2.later (below_plus _ _ _)) rfl v1 v2 (szAd _ _ _) ?_
    exact hK.out _ _ (Ex.refl _) rfl
  apply Steps.one (MP.eq _) 7 rfl
  · intro o ho FA x hO hD K hK
    obtain rfl := Option.some.inj ho.symm
    clear ho
    have e2 := hO 2 (by kernel_rfl)
    simp only [eval_tmp, List.getElem?_toArray, List.getElem?_cons_succ, List.getElem?_cons_zero, Option.getD_some] at e2
    have ev2 := Lib.hid ((eval_tmp FA 2).trans e2)
    clear hO hD
    go_simp
    exact hK.out _ _ (Ex.refl _) rfl
  apply Steps.one (MP.eq _) 8 rfl
  · intro o ho FA x hO hD K hK
    obtain rfl := Option.some.inj ho.symm
    clear ho
    have ev45 : FA.eval (.tmp 45) = _ := hD 6 45 (by kernel_rfl)
    have e45 := (eval_tmp FA 45).symm.trans ev45
    replace ev45 := Lib.hid ev45
    clear hO hD
    refine wanted_if rfl ?_
    refine wp_ldA 29 (.tmp 45) rfl ([.bool false, .int .u64 (0 : Int), .int .u64 (dl : Int)]) ev45.out (b2.later (below_plus _ _ _)) rfl v1 v2 (szAd _ _ _) ?_
    exact hK.out _ _ (Ex.refl _) rfl
  apply Steps.one (MP.eq _) 9 rfl
  · intro o ho FA x hO hD K hK
    obtain rfl := Option.some.inj ho.symm
    clear ho
    have ev40 : FA.eval (.tmp 40) = _ := hD 1 40 (by kernel_rfl)
    have e40 := (eval_tmp FA 40).symm.trans ev40
    replace ev40 := Lib.hid ev40
    have ev42 : FA.eval (.tmp 42) = _ := hD 3 42 (by kernel_rfl)
    have e42 := (eval_tmp FA 42).symm.trans ev42
    replace ev42 := Lib.hid ev42
    have ev44 : FA.eval (.tmp 44) = _ := hD 5 44 (by kernel_rfl)
    have e44 := (eval_tmp FA 44).symm.trans ev44
    replace ev44 := Lib.hid ev44
    have ev46 : FA.eval (.tmp 46) = _ := hD 7 46 (by kernel_rfl)
    have e46 := (eval_tmp FA 46).symm.trans ev46
    replace ev46 := Lib.hid ev46
    clear hO hD
    go_simp
    exact hK.out _ _ (Ex.refl _) rfl
  apply Steps.one (MP.blk V1.heap.size 77 (h4C 0 0 0 false false 0 0 0 0 false 0 0 false 0 0 none 0 0)) 10 rfl
  · intro o ho FA x hO hD K hK
    obtain rfl := Option.some.inj ho.symm
    clear ho
    clear hO hD
    go_simp
    refine hK.out _ _ (Ex.alloc _ _) ⟨_, rfl, ?_, ?_⟩
    · simp [size_plus]
    · refine Bk.newK _ _ _ ?_ rfl
      simp [size_plus]
  refine Steps.fin_ (fun vs x hp => ?_)
  have p0 : vs 0 = _ := hp 0 (by omega)
  have p1 : vs 1 = _ := hp 1 (by omega)
  have p2 : vs 2 = _ := hp 2 (by omega)
  have p3 : vs 3 = _ := hp 3 (by omega)
  have p4 : vs 4 = _ := hp 4 (by omega)
  have p5 : vs 5 = _ := hp 5 (by omega)
  have p6 : vs 6 = _ := hp 6 (by omega)
  have p7 : vs 7 = _ := hp 7 (by omega)
  have p8 : vs 8 = _ := hp 8 (by omega)
  have p9 := hp 9 (by omega)
  clear hp
  simp only [List.take_succ_cons, List.take_zero, List.drop_succ_cons, List.drop_zero, putAll, Nat.zero_add, Nat.reduceAdd, Act.put, List.setIfInBounds_toArray, List.set_cons_zero, List.set_cons_succ, p0, p1, p2, p3, p4, p5, p6, p7, p8]
  clear p0 p1 p2 p3 p4 p5 p6 p7 p8
  generalize vs 9 = y9 at *
  clear vs
  obtain ⟨g8, rfl, hg8, hb⟩ := p9
  go_upto_region 9 with (refine at_op (.store 77 (.tmp 8) (.tmp 47)) rfl ?_; refine wpList_stA (t := 77) 77 (.tmp 8) (.tmp 47) rfl rfl (h4C 0 0 0 true false 0 tl 4 0 false 0 sl false 0 dl none 0 0) (h4C 0 0 0 false false 0 0 0 0 false 0 0 false 0 0 none 0 0) rfl (h4C_one _ _ _ _ _ _ _ _ _ _ _ _ _ _ _ _ _ _) rfl rfl hb (szH4 _ _ _ _ _ _ _ _ _ _ _ _ _ _ _ _ _ _) ?_; intro W8 hX gr8)
  have z1 := be.size
  have b8 := below_grown (below_plus V1 x.bs x.d) gr8 hg8
  replace be := be.trans (b8.mono z1)
  replace h := h.later b8
  replace b2 := b2.later b8
  clear b8 gr8 hb
  have zX := hX.lt
  go_wp2_with fail
  refine (HP.out _ be).mono ?_
  rintro e w1 ⟨Ao, no, ko, A1, n1, k1', bs1, d1, rfl, rfl, -, -, -⟩
  go_upto_region 11 with (refine at_op (.store 77 (.tmp 9) (.tmp 53)) rfl ?_; refine wpList_stA (t := 77) 77 (.tmp 9) (.tmp 53) rfl rfl (h4C ts (ln : Int) id st mo (fo : Int) tl0 pr sm false 0 sa false 0 da Ao no ko) (h4C 0 0 0 false false 0 0 0 0 false 0 0 false 0 0 none 0 0) rfl (h4C_one _ _ _ _ _ _ _ _ _ _ _ _ _ _ _ _ _ _) rfl rfl ?_ (szH4 _ _ _ _ _ _ _ _ _ _ _ _ _ _ _ _ _ _) ?_; (· refine Bk.newK _ _ _ ?_ rfl; simp [size_plus]); intro W9 hY gr9)
  have z2 := be.size
  have b9 := below_grown (Below.allocS (below_plus W8 bs1 d1) _) gr9 (by omega)
  replace be := be.trans (b9.mono z2)
  replace h := h.later b9
  replace hX := hX.later b9
  have hne : g8 < W8.heap.size + bs1.length := by omega
  have z9 := hY.lt
  clear b9 gr9 b2
  generalize W8.heap.size + bs1.length = g9 at *
  have q3' : W9.cell? ⟨g9, 3, none⟩ = some (.bool st) := hY.cell 3
  have hbg : w.heap.size ≤ g8 := by omega
  go_upto_region 14 with (refine at_op (.store 4 (.tmp 61) (.tmp 60)) rfl ?_; refine wpList_st1R 4 (.tmp 61) (.tmp 60) rfl rfl rfl rfl hX rfl (by intro x h; cases h) rfl (by kernel_rfl) ?_; intro W10 hX2 gr10 fr10)
  replace h := fr10 _ _ _ _ h
  replace hX : Bk W10 g8 77 (h4C 0 0 0 st false 0 tl 4 0 false 0 sl false 0 dl none 0 0) := hX2
  replace be := below_grown be gr10 hbg
  clear hX2 gr10 fr10
  go_wp2_with (first
    | (refine at_op (.load 77 (.tmp 8)) rfl ?_; refine wpList_ldA (t := 77) 77 (.tmp 8) rfl rfl (h4C 0 0 0 st false 0 tl 4 0 false 0 sl false 0 dl none 0 0) rfl (by with_reducible repeat (first | exact hX | refine Bk.later ?_ (below_plus _ _ _) | refine Bk.alloc ?_ _)) (whole_ _) u1 u2 (szH4 _ _ _ _ _ _ _ _ _ _ _ _ _ _ _ _ _ _) ?_)
    | (go_at_call 42; (with_reducible refine (HPK.out _ h).mono ?_); rintro e w1 ⟨A6, n6, c6, bs6, d6, rfl, rfl, hb6⟩))
  go_ret2
  exact RetBE.mk hb6 (belowP be _ _)
set_option maxHeartbeats 4000000 in
set_option maxRecDepth 100000 in
theorem wrap46 (A : Option Addr) (n c : Nat) (l : List UInt8) (w : World) (h : Rb w A n c l) (sl dl tl : Nat) (hn : n ≤ 65515) (k1 : sl < 4294967296) (k2 : dl < 4294967296) (ht0 : 0 < tl) (htl : tl < 256) (s : Sx l 6 true 0) :
    Calls Try.prog 79 #[.agg (wyC false 0 sl false 0 dl tl).toArray, .slice A n c] w (RetBE w (ip4B 0 (20 + 0 + n) 0 (pl4 true false 0) tl 41 (ip4K 0 (20 + 0 + n) 0 (pl4 true false 0) tl 41 sl dl []) sl dl [] ++ l) 0) := by
  obtain ⟨dy, y1, y2⟩ := rowWy
  obtain ⟨du, u1, u2⟩ := rowH4
  obtain ⟨dv, v1, v2⟩ : ∃ d, Try.prog.underlying 29 = some d ∧ d.isRow = true := ⟨_, Try.underlying29, rfl⟩
  have HS := Lib.hid (fun w (h : Rb w A n c l) => tunSix A n c l w h _ _ _ s)
  have HPR := Lib.hid (tunProto true)
  have HR := Lib.hid (wayRight false 0 sl 0 dl tl ht0)
  have HPK0 := fun w A n c (h : Rb w A n c l) (hn : n ≤ 65515) => packet4_ok 0 0 0 true false 0 tl 41 0 sl dl none 0 0 [] A n c l w Rb.nil_ h (by decide) (by decide) htl (by decide) k1 k2 (by decide) (by decide) (by omega) (by decide)
  generalize hL : ip4B 0 (20 + 0 + n) 0 (pl4 true false 0) tl 41 (ip4K 0 (20 + 0 + n) 0 (pl4 true false 0) tl 41 sl dl []) sl dl [] ++ l = L
  have HPK1 : ∀ w, Rb w A n c l → Calls Try.prog 42 #[.agg (h4C 0 0 0 true false 0 tl 41 0 false 0 sl false 0 dl none 0 0).toArray, .slice A n c] w (RetBE w L 0) := fun w h => by
    have := HPK0 w A n c h hn
    rw [hL] at this
    exact this
  have HPK := Lib.hid HPK1
  clear HPK0 HPK1 hL s
  have b2 : Bk (w.alloc (.cells (wyC false 0 sl false 0 dl tl).toArray 126)) w.heap.size 126 (wyC false 0 sl false 0 dl tl) := Bk.new w 126 (wyC false 0 sl false 0 dl tl).toArray
  have be : Below w.heap.size w (w.alloc (.cells (wyC false 0 sl false 0 dl tl).toArray 126)) := Below.allocS (Below.refl _ _) _
  replace h := h.alloc (.cells (wyC false 0 sl false 0 dl tl).toArray 126)
  go_enter Try.func79, Try.ntmps79
  go_upto_region 1 with (fail)
  generalize w.alloc (.cells (wyC false 0 sl false 0 dl tl).toArray 126) = V at *
  have zb2 := b2.lt
  go_wp2_with fail
  refine (HS.out _ h).mono ?_
  rintro e w1 ⟨rfl, rfl⟩
  go_upto_region 6 with (first
    | (refine at_op (.load 126 (.tmp 2)) rfl ?_; refine wpList_ldA (t := 126) 126 (.tmp 2) rfl rfl (wyC false 0 sl false 0 dl tl) rfl (by with_reducible repeat (first | exact b2 | refine Bk.later ?_ (below_plus _ _ _) | refine Bk.alloc ?_ _)) (whole_ _) y1 y2 (szWy _ _ _ _ _ _ _) ?_)
    | (go_at_call 140; (with_reducible refine (HR.out _).mono ?_); rintro e w1 ⟨bs1, d1, rfl, rfl⟩))
  replace b2 := b2.later (below_plus _ bs1 d1)
  replace h := h.plus_ bs1 d1
  replace be := belowP be bs1 d1
  generalize plus V bs1 d1 = V1 at *
  have zb3 := b2.lt
  have q3 : V1.cell? ⟨w.heap.size, 3, none⟩ = some (.bool false) := b2.cell 3
  go_upto_region 8 with (fail)
  go_wp2
  refine wp_relS 10 67 rfl (by kernel_rfl) (by kernel_rfl) ?_
  apply Steps.one (MP.eq _) 1 rfl
  · intro o ho FA x hO hD K hK
    obtain rfl := Option.some.inj ho.symm
    clear ho
    have e2 := hO 2 (by kernel_rfl)
    simp only [eval_tmp, List.getElem?_toArray, List.getElem?_cons_succ, List.getElem?_cons_zero, Option.getD_some] at e2
    have ev2 := Lib.hid ((eval_tmp FA 2).trans e2)
    clear hO hD
    go_simp
    exact hK.out _ _ (Ex.refl _) rfl
  apply Steps.one (MP.eq _) 2 rfl
  · intro o ho FA x hO hD K hK
    obtain rfl := Option.some.inj ho.symm
    clear ho
    have ev39 : FA.eval (.tmp 39) = _ := hD 0 39 (by kernel_rfl)
    have e39 := (eval_tmp FA 39).symm.trans ev39
    replace ev39 := Lib.hid ev39
    clear hO hD
    refine wanted_if rfl ?_
    refine wp_ld1 5 (.tmp 39) rfl ev39.out (b2.later (below_plus _ _ _)) rfl Try.underlying5 rfl ?_
    exact hK.out _ _ (Ex.refl _) rfl
  apply Steps.one (MP.eq _) 3 rfl
  · intro o ho FA x hO hD K hK
    obtain rfl := Option.some.inj ho.symm
    clear ho
    have e6 := hO 6 (by kernel_rfl)
    simp only [eval_tmp, List.getElem?_toArray, List.getElem?_cons_succ, List.getElem?_cons_zero, Option.getD_some] at e6
    have ev6 := Lib.hid ((eval_tmp FA 6).trans e6)
    clear hO hD
    go_simp
    exact hK.out _ _ (Ex.refl _) rfl
  apply Steps.one (MP.eq _) 4 rfl
  · intro o ho FA x hO hD K hK
    obtain rfl := Option.some.inj ho.symm
    clear ho
    have ev41 : FA.eval (.tmp 41) = _ := hD 2 41 (by kernel_rfl)
    have e41 := (eval_tmp FA 41).symm.trans ev41
    replace ev41 := Lib.hid ev41
    clear hO hD
    go_simp
    refine (HPR.out _).mono ?_
    rintro e w1 ⟨rfl, rfl⟩
    exact hK.out _ _ (Ex.refl _) rfl
  apply Steps.one (MP.eq _) 5 rfl
  · intro o ho FA x hO hD K hK
    obtain rfl := Option.some.inj ho.symm
    clear ho
    have e2 := hO 2 (by kernel_rfl)
    simp only [eval_tmp, List.getElem?_toArray, List.getElem?_cons_succ, List.getElem?_cons_zero, Option.getD_some] at e2
    have ev2 := Lib.hid ((eval_tmp FA 2).trans e2)
    clear hO hD
    go_simp
    exact hK.out _ _ (Ex.refl _) rfl
  apply Steps.one (MP.eq _) 6 rfl
  · intro o ho FA x hO hD K hK
    obtain rfl := Option.some.inj ho.symm
    clear ho
    have ev43 : FA.eval (.tmp 43) = _ := hD 4 43 (by kernel_rfl)
    have e43 := (eval_tmp FA 43).symm.trans ev43
    replace ev43 := Lib.hid ev43
    clear hO hD
    refine wanted_if rfl ?_
    refine wp_ldA 29 (.tmp 43) rfl ([.bool false, .int .u64 (0 : Int), .int .u64 (sl : Int)]) ev43.out (b2.later (below_plus _ _ _)) rfl v1 v2 (szAd _ _ _) ?_
    exact hK.out _ _ (Ex.refl _) rfl
  apply Steps.one (MP.eq _) 7 rfl
  · intro o ho FA x hO hD K hK
    obtain rfl := Option.some.inj ho.symm
    clear ho
    have e2 := hO 2 (by kernel_rfl)
    simp only [eval_tmp, List.getElem?_toArray, List.getElem?_cons_succ, List.getElem?_cons_zero, Option.getD_some] at e2
    have ev2 := Lib.hid ((eval_tmp FA 2).trans e2)
    clear hO hD
    go_simp
    exact hK.out _ _ (Ex.refl _) rfl
  apply Steps.one (MP.eq _) 8 rfl
  · intro o ho FA x hO hD K hK
    obtain rfl := Option.some.inj ho.symm
    clear ho
    have ev45 : FA.eval (.tmp 45) = _ := hD 6 45 (by kernel_rfl)
    have e45 := (eval_tmp FA 45).symm.trans ev45
    replace ev45 := Lib.hid ev45
    clear hO hD
    refine wanted_if rfl ?_
    refine wp_ldA 29 (.tmp 45) rfl ([.bool false, .int .u64 (0 : Int), .int .u64 (dl : Int)]) ev45.out (b2.later (below_plus _ _ _)) rfl v1 v2 (szAd _ _ _) ?_
    exact hK.out _ _ (Ex.refl _) rfl
  apply Steps.one (MP.eq _) 9 rfl
  · intro o ho FA x hO hD K hK
    obtain rfl := Option.some.inj ho.symm
    clear ho
    have ev40 : FA.eval (.tmp 40) = _ := hD 1 40 (by kernel_rfl)
    have e40 := (eval_tmp FA 40).symm.trans ev40
    replace ev40 := Lib.hid ev40
    have ev42 : FA.eval (.tmp 42) = _ := hD 3 42 (by kernel_rfl)
    have e42 := (eval_tmp FA 42).symm.trans ev42
    replace ev42 := Lib.hid ev42
    have ev44 : FA.eval (.tmp 44) = _ := hD 5 44 (by kernel_rfl)
    have e44 := (eval_tmp FA 44).symm.trans ev44
    replace ev44 := Lib.hid ev44
    have ev46 : FA.eval (.tmp 46) = _ := hD 7 46 (by kernel_rfl)
    have e46 := (eval_tmp FA 46).symm.trans ev46
    replace ev46 := Lib.hid ev46
    clear hO hD
    go_simp
    exact hK.out _ _ (Ex.refl _) rfl
  apply Steps.one (MP.blk V1.heap.size 77 (h4C 0 0 0 false false 0 0 0 0 false 0 0 false 0 0 none 0 0)) 10 rfl
  · intro o ho FA x hO hD K hK
    obtain rfl := Option.some.inj ho.symm
    clear ho
    clear hO hD
    go_simp
    refine hK.out _ _ (Ex.alloc _ _) ⟨_, rfl, ?_, ?_⟩
    · simp [size_plus]
    · refine Bk.newK _ _ _ ?_ rfl
      simp [size_plus]
  refine Steps.fin_ (fun vs x hp => ?_)
  have p0 : vs 0 = _ := hp 0 (by omega)
  have p1 : vs 1 = _ := hp 1 (by omega)
  have p2 : vs 2 = _ := hp 2 (by omega)
  have p3 : vs 3 = _ := hp 3 (by omega)
  have p4 : vs 4 = _ := hp 4 (by omega)
  have p5 : vs 5 = _ := hp 5 (by omega)
  have p6 : vs 6 = _ := hp 6 (by omega)
  have p7 : vs 7 = _ := hp 7 (by omega)
  have p8 : vs 8 = _ := hp 8 (by omega)
  have p9 := hp 9 (by omega)
  clear hp
  simp only [List.take_succ_cons, List.take_zero, List.drop_succ_cons, List.drop_zero, putAll, Nat.zero_add, Nat.reduceAdd, Act.put, List.setIfInBounds_toArray, List.set_cons_zero, List.set_cons_succ, p0, p1, p2, p3, p4, p5, p6, p7, p8]
  clear p0 p1 p2 p3 p4 p5 p6 p7 p8
  generalize vs 9 = y9 at *
  clear vs
  obtain ⟨g8, rfl, hg8, hb⟩ := p9
  go_upto_region 9 with (refine at_op (.store 77 (.tmp 8) (.tmp 47)) rfl ?_; refine wpList_stA (t := 77) 77 (.tmp 8) (.tmp 47) rfl rfl (h4C 0 0 0 true false 0 tl 41 0 false 0 sl false 0 dl none 0 0) (h4C 0 0 0 false false 0 0 0 0 false 0 0 false 0 0 none 0 0) rfl (h4C_one _ _ _ _ _ _ _ _ _ _ _ _ _ _ _ _ _ _) rfl rfl hb (szH4 _ _ _ _ _ _ _ _ _ _ _ _ _ _ _ _ _ _) ?_; intro W8 hX gr8)
  have z1 := be.size
  have b8 := below_grown (below_plus V1 x.bs x.d) gr8 hg8
  replace be := be.trans (b8.mono z1)
  replace h := h.later b8
  replace b2 := b2.later b8
  clear b8 gr8 hb
  have zX := hX.lt
  go_wp2_with (first
    | (refine at_op (.load 77 (.tmp 8)) rfl ?_; refine wpList_ldA (t := 77) 77 (.tmp 8) rfl rfl (h4C 0 0 0 true false 0 tl 41 0 false 0 sl false 0 dl none 0 0) rfl (by with_reducible repeat (first | exact hX | refine Bk.later ?_ (below_plus _ _ _) | refine Bk.alloc ?_ _)) (whole_ _) u1 u2 (szH4 _ _ _ _ _ _ _ _ _ _ _ _ _ _ _ _ _ _) ?_)
    | (go_at_call 42; (with_reducible refine (HPK.out _ h).mono ?_); rintro e w1 ⟨A6, n6, c6, bs6, d6, rfl, rfl, hb6⟩))
  go_ret2
  exact RetBE.mk hb6 (belowP be _ _)
end Go.Proofs.Ytldecdeiibfekaa
