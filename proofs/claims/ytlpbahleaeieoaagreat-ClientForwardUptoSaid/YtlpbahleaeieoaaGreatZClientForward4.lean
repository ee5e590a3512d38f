/- Texts of the law ClientForward, part 4. -/
import Derived.Test.YtlpbahleaeieoaaGreatZClientForward3
set_option linter.unusedVariables false
set_option linter.unusedSimpArgs false
namespace Go.Proofs.YtlpbahleaeieoaaGreat
section
open Go.RowKit
attribute [local go_sem ↓] sliced_cut
attribute [local go_sem] cutA_zero
def Tk (w : World) (g : Nat) (why : Int) (p : PI) (fr : Bool) (Ar : Option Addr) (nr kr : Nat) (e : Ending) (w' : World) : Prop := e = .returned (.int .i64 why) ∧ Chg (fun b => b = g) w w' ∧ (why = 0 → ∃ A1 n1 c1 A2 n2 c2 A3 n3 c3 A4 n4 c4, Bk w' g 111 (p.cs A1 n1 c1 A2 n2 c2 A3 n3 c3 A4 n4 c4 ++ [.bool fr, .slice Ar nr kr]) ∧ Rb w' A1 n1 c1 p.o1 ∧ Rb w' A2 n2 c2 p.o2 ∧ Rb w' A3 n3 c3 p.o3 ∧ Rb w' A4 n4 c4 p.o4 ∧ (∀ a, A1 = some a → w.heap.size ≤ a.block) ∧ (∀ a, A2 = some a → w.heap.size ≤ a.block) ∧ (∀ a, A3 = some a → w.heap.size ≤ a.block) ∧ ∀ a, A4 = some a → w.heap.size ≤ a.block)
theorem Tk.bad {w w' : World} {g : Nat} {why : Int} {p : PI} {fr : Bool} {Ar : Option Addr} {nr kr : Nat} (hw : why ≠ 0) (hb : Below w.heap.size w w') : Tk w g why p fr Ar nr kr (.returned (.int .i64 why)) w' := ⟨rfl, Chg.of_below hb, fun h => absurd h hw⟩
theorem ofN_ne {E : Int} (h : ¬ E = 0) : ofN E ≠ 0 := by
 unfold ofN
 rw [if_neg h]
 repeat (first | (split; decide) | decide)
def bad3 (fine : Bool) : Int := if fine then 0 else 3
def tkW (E : Int) (fine : Bool) : Int := if E = 0 then bad3 fine else ofN E
theorem rowSeg : ∃ d, Tryz.prog.underlying 49 = some d ∧ d.isRow = true := ⟨_, Tryz.underlying49, rfl⟩
set_option maxHeartbeats 4000000
set_option maxRecDepth 100000
theorem takeTCP (g : Nat) (A : Option Addr) (n c : Nat) (si st : Bool) (tl : Nat) (s6 : Bool) (sh sl dh dl pr : Nat) (fr : Bool) (Ar : Option Addr) (nr kr : Nat) (L : List UInt8) (w : World) (x0 x1 x2 x3 x4 x5 x6 x7 : Nat) (o1 o2 : List UInt8) (E : Int) (any : TcpAny L x0 x1 x2 x3 x4 x5 x6 x7 o1 o2 E) (k1 : sh < 18446744073709551616) (k2 : sl < 18446744073709551616) (k3 : dh < 18446744073709551616) (k4 : dl < 18446744073709551616) (hI : Bk w g 111 (hdC (fhC si st tl s6 sh sl s6 dh dl 0 0 pr) (tcC 0 0 0 0 0 0 0 0 none 0 0 none 0 0) (dgX 0 0 0 none 0 0) (msgC 0 0 0 0 none 0 0) fr Ar nr kr)) (h : Rb w A n c L) (hn : n ≤ 65535) : Calls Tryz.prog 52 #[.pointer (some ⟨g, 0, none⟩), .slice A n c] w (Tk w g (tkW E (65535 - fd (tcT s6 sh sl s6 dh dl L) == 0)) { si := si, st := st, tl := tl, s6 := s6, sh := sh, sl := sl, d6 := s6, dh := dh, dl := dl, sp := x0, dp := x1, pr := pr, x0 := x0, x1 := x1, x2 := x2, x3 := x3, x4 := x4, x5 := x5, x6 := x6, x7 := x7, o1 := o1, o2 := o2 } fr Ar nr kr) := by
 obtain ⟨dp_, q1, q2⟩ := rowSeg
 obtain ⟨du_, u1, u2⟩ := rowHd
 obtain ⟨dv_, v1, v2⟩ := rowAd
 have hg := hI.lt
 obtain ⟨b0, b1, b2, b3, b4, b5, b6, b7⟩ := any.b
 have hlo := any.o
 have HP := any.P
 have hLn := h.1
 by_cases hE : ¬ E = 0
 ·have hE1 : (E != 0) = true := by rw [bne_iff_ne]; exact hE
  unfold RetSegE at HP
  simp only [if_neg hE] at HP
  replace HP := Lib.hid HP
  have hw : tkW E (65535 - fd (tcT s6 sh sl s6 dh dl L) == 0) = ofN E := by unfold tkW; rw [if_neg hE]
  rw [hw]
  clear hw any hlo b0
  go_enter Tryz.func52, Tryz.ntmps52
  go_upto_region 1 with (fail)
  go_wp2_with fail
  refine (HP.out _ _ _ _ h).mono ?_
  rintro e w1 ⟨A1, n1, c1, A2, n2, c2, bs1, d1, rfl, rfl, -, -⟩
  go_upto_region 2 with (refine at_op (.store 49 (.tmp 5) (.tmp 10)) rfl ?_; refine wpList_stA (t := 49) 49 (.tmp 5) (.tmp 10) rfl rfl (tcC 0 0 0 0 0 0 0 0 A1 n1 c1 A2 n2 c2) (tcC 0 0 0 0 0 0 0 0 none 0 0 none 0 0) rfl (tcC_one _ _ _ _ _ _ _ _ _ _ _ _ _ _ ) rfl rfl ?_ (szSeg _ rfl) ?_; (· refine Bk.newK _ _ _ ?_ rfl; simp [size_plus]); intro W8 hS gr8)
  have b8 := below_grown (Below.allocS (below_plus w bs1 d1) _) gr8 (by simp)
  clear gr8 hS
  go_wp2_with (go_at_call 51; refine (ofP _ _).mono ?_; rintro e w1 ⟨rfl, rfl⟩)
  go_ret
  exact Tk.bad (ofN_ne hE) b8
 ·obtain rfl : E = 0 := Classical.not_not.1 hE
  unfold RetSegE at HP
  simp only [if_true] at HP
  replace HP := Lib.hid HP
  have HF := Lib.hid (fun w (h : Rb w A n c L) => tcpFine A n c s6 sh sl s6 dh dl L w k1 k2 k3 k4 h (by omega))
  have hw : tkW 0 (65535 - fd (tcT s6 sh sl s6 dh dl L) == 0) = bad3 (65535 - fd (tcT s6 sh sl s6 dh dl L) == 0) := by unfold tkW; simp
  rw [hw]
  clear hw hE
  generalize (65535 - fd (tcT s6 sh sl s6 dh dl L) == 0) = fi at *
  go_enter Tryz.func52, Tryz.ntmps52
  go_upto_region 1 with (fail)
  go_wp2_with fail
  refine (HP.out _ _ _ _ h).mono ?_
  rintro e w1 ⟨A1, n1, c1, A2, n2, c2, bs1, d1, rfl, rfl, h1, h2, f1, f2⟩
  go_upto_region 2 with (refine at_op (.store 49 (.tmp 5) (.tmp 10)) rfl ?_; refine wpList_stA (t := 49) 49 (.tmp 5) (.tmp 10) rfl rfl (tcC x0 x1 x2 x3 x4 x5 x6 x7 A1 n1 c1 A2 n2 c2) (tcC 0 0 0 0 0 0 0 0 none 0 0 none 0 0) rfl (tcC_one _ _ _ _ _ _ _ _ _ _ _ _ _ _ ) rfl rfl ?_ (szSeg _ rfl) ?_; (· refine Bk.newK _ _ _ ?_ rfl; simp [size_plus]); intro W8 hS gr8)
  have b8 := below_grown (Below.allocS (below_plus w bs1 d1) _) gr8 (by simp)
  have b9 := below_grown (Below.allocS (Below.refl _ _) _) gr8 (by simp [size_plus])
  replace hI := hI.later b8
  replace h := h.later b8
  replace h1 := h1.later b9
  replace h2 := h2.later b9
  have hgs : w.heap.size + bs1.length ≥ w.heap.size := by omega
  clear gr8 b9 hlo hLn
  generalize w.heap.size + bs1.length = gs at *
  go_upto_region 4 with (fail)
  go_wp2
  refine wp_relS 13 45 rfl (by kernel_rfl) (by kernel_rfl) ?_
  apply Steps.o1 (MP.eq _) 1 rfl rfl
  ·intro FA x hO hD K hK
   have e1 := hO 1 (by kernel_rfl)
   simp only [eval_tmp, qgT, qgS, qgZ, qoS] at e1
   have ev1 := Lib.hid ((eval_tmp FA 1).trans e1)
   clear hO hD
   go_simp
   exact hK.out _ _ (Ex.refl _) rfl
  apply Steps.o1 (MP.eq _) 2 rfl rfl
  ·intro FA x hO hD K hK
   have e0 := hO 0 (by kernel_rfl)
   simp only [eval_tmp, qgT, qgS, qgZ, qoS] at e0
   have ev0 := Lib.hid ((eval_tmp FA 0).trans e0)
   clear hO hD
   go_simp
   exact hK.out _ _ (Ex.refl _) rfl
  apply Steps.o1 (MP.eq _) 3 rfl rfl
  ·intro FA x hO hD K hK
   obtain ⟨e17, ev17⟩ := qE (hD 1 17 (by kernel_rfl))
   clear hO hD
   go_simp
   exact hK.out _ _ (Ex.refl _) rfl
  apply Steps.o1 (MP.eq _) 4 rfl rfl
  ·intro FA x hO hD K hK
   obtain ⟨e18, ev18⟩ := qE (hD 2 18 (by kernel_rfl))
   clear hO hD
   go_simp
   exact hK.out _ _ (Ex.refl _) rfl
  apply Steps.o1 (MP.eq _) 5 rfl rfl
  ·intro FA x hO hD K hK
   obtain ⟨e19, ev19⟩ := qE (hD 3 19 (by kernel_rfl))
   clear hO hD
   go_simp
   exact hK.out _ _ (Ex.refl _) rfl
  apply Steps.o1 (MP.eq _) 6 rfl rfl
  ·intro FA x hO hD K hK
   obtain ⟨e20, ev20⟩ := qE (hD 4 20 (by kernel_rfl))
   clear hO hD
   refine wanted_if rfl ?_
   refine wp_ldA 24 (.tmp 20) rfl ([.bool s6, .int .u64 (sh : Int), .int .u64 (sl : Int)]) ev20.out (hI.later (below_plus _ _ _)) rfl v1 v2 (szAd _ _ _) ?_
   exact hK.out _ _ (Ex.refl _) rfl
  apply Steps.o1 (MP.eq _) 7 rfl rfl
  ·intro FA x hO hD K hK
   have e0 := hO 0 (by kernel_rfl)
   simp only [eval_tmp, qgT, qgS, qgZ, qoS] at e0
   have ev0 := Lib.hid ((eval_tmp FA 0).trans e0)
   clear hO hD
   go_simp
   exact hK.out _ _ (Ex.refl _) rfl
  apply Steps.o1 (MP.eq _) 8 rfl rfl
  ·intro FA x hO hD K hK
   obtain ⟨e22, ev22⟩ := qE (hD 6 22 (by kernel_rfl))
   clear hO hD
   go_simp
   exact hK.out _ _ (Ex.refl _) rfl
  apply Steps.o1 (MP.eq _) 9 rfl rfl
  ·intro FA x hO hD K hK
   obtain ⟨e23, ev23⟩ := qE (hD 7 23 (by kernel_rfl))
   clear hO hD
   go_simp
   exact hK.out _ _ (Ex.refl _) rfl
  apply Steps.o1 (MP.eq _) 10 rfl rfl
  ·intro FA x hO hD K hK
   obtain ⟨e24, ev24⟩ := qE (hD 8 24 (by kernel_rfl))
   clear hO hD
   go_simp
   exact hK.out _ _ (Ex.refl _) rfl
  apply Steps.o1 (MP.eq _) 11 rfl rfl
  ·intro FA x hO hD K hK
   obtain ⟨e25, ev25⟩ := qE (hD 9 25 (by kernel_rfl))
   clear hO hD
   refine wanted_if rfl ?_
   refine wp_ldA 24 (.tmp 25) rfl ([.bool s6, .int .u64 (dh : Int), .int .u64 (dl : Int)]) ev25.out (hI.later (below_plus _ _ _)) rfl v1 v2 (szAd _ _ _) ?_
   exact hK.out _ _ (Ex.refl _) rfl
  apply Steps.o1 (MP.eq _) 12 rfl rfl
  ·intro FA x hO hD K hK
   obtain ⟨e16, ev16⟩ := qE (hD 0 16 (by kernel_rfl))
   obtain ⟨e21, ev21⟩ := qE (hD 5 21 (by kernel_rfl))
   obtain ⟨e26, ev26⟩ := qE (hD 10 26 (by kernel_rfl))
   clear hO hD
   go_simp
   refine (HF.out _ (h.plus_ _ _)).mono ?_
   rintro e w1 ⟨bs2, d2, rfl, rfl⟩
   exact hK.out _ _ (Ex.plus_ _ _ _) rfl
  apply Steps.o1 (MP.eq _) 13 rfl rfl
  ·intro FA x hO hD K hK
   obtain ⟨e27, ev27⟩ := qE (hD 11 27 (by kernel_rfl))
   clear hO hD
   go_simp
   exact hK.out _ _ (Ex.refl _) rfl
  refine Steps.fin_ (fun vs x hp => ?_)
  have p0 : vs 0 = _ := hp 0 (by omega)
  have p1 : vs 1 = _ := hp 1 (by omega)
  have p2 : vs 2 = _ := hp 2 (by omega)
  have p3 : vs 3 = _ := hp 3 (by omega)
  have p4 : vs 4 = _ := hp 4 (by omega)
  have p5 : vs 5 = _ := hp 5 (by omega)
  have p6 : vs 6 = _ := hp 6 (by omega)
  have p7 : vs 7 = _ := hp 7 (by omega)
  have p8 : vs 8 = _ := hp 8 (by omega)
  have p9 : vs 9 = _ := hp 9 (by omega)
  have p10 : vs 10 = _ := hp 10 (by omega)
  have p11 : vs 11 = _ := hp 11 (by omega)
  have p12 : vs 12 = _ := hp 12 (by omega)
  clear hp
  simp only [List.take_succ_cons, List.take_zero, List.drop_succ_cons, List.drop_zero, putAll, Nat.zero_add, Nat.reduceAdd, Act.put, qsT, qsZ, qsS, p0, p1, p2, p3, p4, p5, p6, p7, p8, p9, p10, p11, p12]
  clear p0 p1 p2 p3 p4 p5 p6 p7 p8 p9 p10 p11 p12
  clear vs
  replace hI := hI.later (below_plus _ x.bs x.d)
  replace hS := hS.later (below_plus _ x.bs x.d)
  replace h1 := h1.plus_ x.bs x.d
  replace h2 := h2.plus_ x.bs x.d
  replace b8 := belowP b8 x.bs x.d
  generalize plus W8 x.bs x.d = W7 at *
  cases fi
  ·go_wp2
   go_ret
   exact Tk.bad (by decide) b8
  ·have hC : Chg (fun b => b = g) W7 W7 := Chg.refl _
   have B8 := b8
   have nS : ¬ (fun b => b = g) gs := fun h => by have h' : gs = g := h; omega
   go_upto_region 6 with (fail)
   refine wp_region_lit ?_
   refine wpList_plain rfl (fun K hK => ?_); go_simp; with_reducible refine hK _ _ ?_; clear hK K
   refine wpList_ldA (t := 49) 49 (.tmp 5) rfl rfl (tcC x0 x1 x2 x3 x4 x5 x6 x7 A1 n1 c1 A2 n2 c2) rfl (hS) (whole_ _) q1 q2 (szSeg _ rfl) ?_
   iterate 2 (refine wpList_plain rfl (fun K hK => ?_); go_simp; with_reducible refine hK _ _ ?_; clear hK K)
   refine wpList_stM 49 (.tmp 32) (.tmp 30) rfl rfl (tcC x0 x1 x2 x3 x4 x5 x6 x7 A1 n1 c1 A2 n2 c2) (hdC (fhC si st tl s6 sh sl s6 dh dl 0 0 pr) (tcC 0 0 0 0 0 0 0 0 none 0 0 none 0 0) (dgX 0 0 0 none 0 0) (msgC 0 0 0 0 none 0 0) fr Ar nr kr) (Nat.le_of_ble_eq_true rfl) (tcC_one _ _ _ _ _ _ _ _ _ _ _ _ _ _ ) (by rfl) (by rfl) hI (szSeg _ rfl) ?_
   intro W9 hI' gr'
   replace hI : Bk W9 g 111 (hdC (fhC si st tl s6 sh sl s6 dh dl 0 0 pr) (tcC x0 x1 x2 x3 x4 x5 x6 x7 A1 n1 c1 A2 n2 c2) (dgX 0 0 0 none 0 0) (msgC 0 0 0 0 none 0 0) fr Ar nr kr) := hI'
   replace hC := hC.trans (Chg.one gr' rfl)
   clear hI' gr'
   simp only [Act.put, qsT, qsZ, qsS]
   have hSS := hS.chg hC nS
   replace b8 : Below w.heap.size w w := Below.refl _ _
   go_upto_region 7 with (fail)
   go_wp2
   refine wp_suS (fun b => b = g) 14 45 2 [9, 13] rfl (by kernel_rfl) (by kernel_rfl) (fun k w' => Bk w' g 111 (if k = 0 then hdC (fhC si st tl s6 sh sl s6 dh dl 0 0 pr) (tcC x0 x1 x2 x3 x4 x5 x6 x7 A1 n1 c1 A2 n2 c2) (dgX 0 0 0 none 0 0) (msgC 0 0 0 0 none 0 0) fr Ar nr kr else if k = 1 then hdC (fhC si st tl s6 sh sl s6 dh dl x0 0 pr) (tcC x0 x1 x2 x3 x4 x5 x6 x7 A1 n1 c1 A2 n2 c2) (dgX 0 0 0 none 0 0) (msgC 0 0 0 0 none 0 0) fr Ar nr kr else hdC (fhC si st tl s6 sh sl s6 dh dl x0 x1 pr) (tcC x0 x1 x2 x3 x4 x5 x6 x7 A1 n1 c1 A2 n2 c2) (dgX 0 0 0 none 0 0) (msgC 0 0 0 0 none 0 0) fr Ar nr kr)) (fun k w w' h h' => h.later h'.below) (hI) ?_
   apply StepsC.one (MC.eq _) 1 rfl (by decide)
   ·intro o ho FA w' hC7 hO hD K hK
    obtain rfl := qoi ho
    have e0 := hO 0 (by kernel_rfl)
    simp only [eval_tmp, qgT, qgS, qgZ, qoS] at e0
    have ev0 := Lib.hid ((eval_tmp FA 0).trans e0)
    clear hO hD ho
    go_simp
    exact hK.out _ _ (Ex.refl _) rfl
   apply StepsC.one (MC.eq _) 2 rfl (by decide)
   ·intro o ho FA w' hC7 hO hD K hK
    obtain rfl := qoi ho
    have e0 := hO 0 (by kernel_rfl)
    simp only [eval_tmp, qgT, qgS, qgZ, qoS] at e0
    have ev0 := Lib.hid ((eval_tmp FA 0).trans e0)
    clear hO hD ho
    go_simp
    exact hK.out _ _ (Ex.refl _) rfl
   apply StepsC.one (MC.eq _) 3 rfl (by decide)
   ·intro o ho FA w' hC7 hO hD K hK
    obtain rfl := qoi ho
    have e5 := hO 5 (by kernel_rfl)
    simp only [eval_tmp, qgT, qgS, qgZ, qoS] at e5
    have ev5 := Lib.hid ((eval_tmp FA 5).trans e5)
    clear hO hD ho
    go_simp
    exact hK.out _ _ (Ex.refl _) rfl
   apply StepsC.one (MC.eq _) 4 rfl (by decide)
   ·intro o ho FA w' hC7 hO hD K hK
    obtain rfl := qoi ho
    obtain ⟨e35, ev35⟩ := qE (hD 2 35 (by kernel_rfl))
    clear hO hD ho
    refine wanted_if rfl ?_
    refine wp_ld1 25 (.tmp 35) rfl ev35.out (hSS.chg hC7 nS) rfl Tryz.underlying25 rfl ?_
    exact hK.out _ _ (Ex.refl _) rfl
   apply StepsC.one (MC.eq _) 5 rfl (by decide)
   ·intro o ho FA w' hC7 hO hD K hK
    obtain rfl := qoi ho
    have e5 := hO 5 (by kernel_rfl)
    simp only [eval_tmp, qgT, qgS, qgZ, qoS] at e5
    have ev5 := Lib.hid ((eval_tmp FA 5).trans e5)
    clear hO hD ho
    go_simp
    exact hK.out _ _ (Ex.refl _) rfl
   apply StepsC.one (MC.eq _) 6 rfl (by decide)
   ·intro o ho FA w' hC7 hO hD K hK
    obtain rfl := qoi ho
    obtain ⟨e37, ev37⟩ := qE (hD 4 37 (by kernel_rfl))
    clear hO hD ho
    refine wanted_if rfl ?_
    refine wp_ld1 25 (.tmp 37) rfl ev37.out (hSS.chg hC7 nS) rfl Tryz.underlying25 rfl ?_
    exact hK.out _ _ (Ex.refl _) rfl
   apply StepsC.one (MC.eq _) 7 rfl (by decide)
   ·intro o ho FA w' hC7 hO hD K hK
    obtain rfl := qoi ho
    obtain ⟨e33, ev33⟩ := qE (hD 0 33 (by kernel_rfl))
    clear hO hD ho
    go_simp
    exact hK.out _ _ (Ex.refl _) rfl
   apply StepsC.one (MC.eq _) 8 rfl (by decide)
   ·intro o ho FA w' hC7 hO hD K hK
    obtain rfl := qoi ho
    obtain ⟨e39, ev39⟩ := qE (hD 6 39 (by kernel_rfl))
    clear hO hD ho
    go_simp
    exact hK.out _ _ (Ex.refl _) rfl
   apply StepsC.one (MC.eq _) 9 rfl (by decide)
   ·intro o ho FA w' hC7 hO hD K hK
    obtain rfl := qoi ho
    obtain ⟨e40, ev40⟩ := qE (hD 7 40 (by kernel_rfl))
    clear hO hD ho
    go_simp
    exact hK.out _ _ (Ex.refl _) rfl
   apply StepsC.mov MC.any 10 0 rfl rfl rfl
   ·intro o ho FA w' hC7 hO hD hS7 K hK
    obtain rfl := qoi ho
    obtain ⟨e41, ev41⟩ := qE (hD 8 41 (by kernel_rfl))
    obtain ⟨e36, ev36⟩ := qE (hD 3 36 (by kernel_rfl))
    clear hO hD ho
    refine wanted_if rfl ?_
    refine wp_st1 25 (.tmp 41) (.tmp 36) rfl ev41.out ev36.out hS7 (Nat.le_of_ble_eq_true rfl) rfl (by kernel_rfl) ?_
    intro w'' hn' hg'
    exact hK.out undef _ (Chg.one hg' rfl) hn' trivial
   apply StepsC.one (MC.eq _) 11 rfl (by decide)
   ·intro o ho FA w' hC7 hO hD K hK
    obtain rfl := qoi ho
    obtain ⟨e34, ev34⟩ := qE (hD 1 34 (by kernel_rfl))
    clear hO hD ho
    go_simp
    exact hK.out _ _ (Ex.refl _) rfl
   apply StepsC.one (MC.eq _) 12 rfl (by decide)
   ·intro o ho FA w' hC7 hO hD K hK
    obtain rfl := qoi ho
    obtain ⟨e42, ev42⟩ := qE (hD 10 42 (by kernel_rfl))
    clear hO hD ho
    go_simp
    exact hK.out _ _ (Ex.refl _) rfl
   apply StepsC.one (MC.eq _) 13 rfl (by decide)
   ·intro o ho FA w' hC7 hO hD K hK
    obtain rfl := qoi ho
    obtain ⟨e43, ev43⟩ := qE (hD 11 43 (by kernel_rfl))
    clear hO hD ho
    go_simp
    exact hK.out _ _ (Ex.refl _) rfl
   apply StepsC.mov MC.any 14 1 rfl rfl rfl
   ·intro o ho FA w' hC7 hO hD hS7 K hK
    obtain rfl := qoi ho
    obtain ⟨e44, ev44⟩ := qE (hD 12 44 (by kernel_rfl))
    obtain ⟨e38, ev38⟩ := qE (hD 5 38 (by kernel_rfl))
    clear hO hD ho
    refine wanted_if rfl ?_
    refine wp_st1 25 (.tmp 44) (.tmp 38) rfl ev44.out ev38.out hS7 (Nat.le_of_ble_eq_true rfl) rfl (by kernel_rfl) ?_
    intro w'' hn' hg'
    exact hK.out undef _ (Chg.one hg' rfl) hn' trivial
   refine StepsC.fin_ (fun vs w' hC7 hI7 hp => ?_)
   have p0 : vs 0 = _ := hp 0 (by omega) rfl
   have p1 : vs 1 = _ := hp 1 (by omega) rfl
   have p2 : vs 2 = _ := hp 2 (by omega) rfl
   have p3 : vs 3 = _ := hp 3 (by omega) rfl
   have p4 : vs 4 = _ := hp 4 (by omega) rfl
   have p5 : vs 5 = _ := hp 5 (by omega) rfl
   have p6 : vs 6 = _ := hp 6 (by omega) rfl
   have p7 : vs 7 = _ := hp 7 (by omega) rfl
   have p8 : vs 8 = _ := hp 8 (by omega) rfl
   have p10 : vs 10 = _ := hp 10 (by omega) rfl
   have p11 : vs 11 = _ := hp 11 (by omega) rfl
   have p12 : vs 12 = _ := hp 12 (by omega) rfl
   clear hp
   simp only [List.take_succ_cons, List.take_zero, List.drop_succ_cons, List.drop_zero, putAll, Nat.zero_add, Nat.reduceAdd, Act.put, qsT, qsZ, qsS, p0, p1, p2, p3, p4, p5, p6, p7, p8, p10, p11, p12]
   clear p0 p1 p2 p3 p4 p5 p6 p7 p8 p10 p11 p12
   clear vs
   replace hC := hC.trans hC7
   replace hI := hI7
   clear hI7 hC7
   go_wp2
   go_ret
   refine ⟨rfl, (Chg.of_below B8).trans hC, fun _ => ⟨A1, n1, c1, A2, n2, c2, none, 0, 0, none, 0, 0, hI, ?_⟩⟩
   exact ⟨h1.chg hC (fun a ha hb => by have h' : a.block = g := hb; have := f1 a ha; omega), h2.chg hC (fun a ha hb => by have h' : a.block = g := hb; have := f2 a ha; omega), Rb.nil_, Rb.nil_, f1, f2, noRow, noRow⟩
theorem takeUDP (g : Nat) (A : Option Addr) (n c : Nat) (si st : Bool) (tl : Nat) (s6 : Bool) (sh sl dh dl pr : Nat) (fr : Bool) (Ar : Option Addr) (nr kr : Nat) (L : List UInt8) (w : World) (x0 x1 x2 : Nat) (o1 : List UInt8) (E : Int) (any : UdpAny L x0 x1 x2 o1 E) (k1 : sh < 18446744073709551616) (k2 : sl < 18446744073709551616) (k3 : dh < 18446744073709551616) (k4 : dl < 18446744073709551616) (hI : Bk w g 111 (hdC (fhC si st tl s6 sh sl s6 dh dl 0 0 pr) (tcC 0 0 0 0 0 0 0 0 none 0 0 none 0 0) (dgX 0 0 0 none 0 0) (msgC 0 0 0 0 none 0 0) fr Ar nr kr)) (h : Rb w A n c L) (hn : n ≤ 65535) : Calls Tryz.prog 53 #[.pointer (some ⟨g, 0, none⟩), .slice A n c] w (Tk w g (tkW E (udF s6 sh sl dh dl x0 x1 x2 o1)) { si := si, st := st, tl := tl, s6 := s6, sh := sh, sl := sl, d6 := s6, dh := dh, dl := dl, sp := x0, dp := x1, pr := pr, u0 := x0, u1 := x1, u2 := x2, o3 := o1 } fr Ar nr kr) := by
 obtain ⟨dp_, q1, q2⟩ := rowDX
 obtain ⟨du_, u1, u2⟩ := rowHd
 obtain ⟨dv_, v1, v2⟩ := rowAd
 have hg := hI.lt
 obtain ⟨b0, b1, b2⟩ := any.b
 have hlo := any.o
 have HP := any.P
 have hLn := h.1
 by_cases hE : ¬ E = 0
 ·have hE1 : (E != 0) = true := by rw [bne_iff_ne]; exact hE
  unfold RetDgE at HP
  simp only [if_neg hE] at HP
  replace HP := Lib.hid HP
  have hw : tkW E (udF s6 sh sl dh dl x0 x1 x2 o1) = ofN E := by unfold tkW; rw [if_neg hE]
  rw [hw]
  clear hw any hlo b0
  go_enter Tryz.func53, Tryz.ntmps53
  go_upto_region 1 with (fail)
  go_wp2_with fail
  refine (HP.out _ _ _ _ h).mono ?_
  rintro e w1 ⟨A1, n1, c1, bs1, d1, rfl, rfl, -⟩
  go_upto_region 2 with (refine at_op (.store 51 (.tmp 5) (.tmp 10)) rfl ?_; refine wpList_stA (t := 51) 51 (.tmp 5) (.tmp 10) rfl rfl (dgX 0 0 0 A1 n1 c1) (dgX 0 0 0 none 0 0) rfl (dgX_one _ _ _ _ _ _ ) rfl rfl ?_ (szDX _ _ _ _ _ _) ?_; (· refine Bk.newK _ _ _ ?_ rfl; simp [size_plus]); intro W8 hS gr8)
  have b8 := below_grown (Below.allocS (below_plus w bs1 d1) _) gr8 (by simp)
  clear gr8 hS
  go_wp2_with (go_at_call 51; refine (ofP _ _).mono ?_; rintro e w1 ⟨rfl, rfl⟩)
  go_ret
  exact Tk.bad (ofN_ne hE) b8
 ·obtain rfl : E = 0 := Classical.not_not.1 hE
  unfold RetDgE at HP
  simp only [if_true] at HP
  replace HP := Lib.hid HP
  have HF := Lib.hid (fun w A n c (h : Rb w A n c o1) (hn : n ≤ 65527) => udpFine x0 x1 x2 A n c s6 sh sl dh dl o1 w b0 b1 b2 k1 k2 k3 k4 h hn)
  have hw : tkW 0 (udF s6 sh sl dh dl x0 x1 x2 o1) = bad3 (udF s6 sh sl dh dl x0 x1 x2 o1) := by unfold tkW; simp
  rw [hw]
  clear hw hE
  generalize (udF s6 sh sl dh dl x0 x1 x2 o1) = fi at *
  go_enter Tryz.func53, Tryz.ntmps53
  go_upto_region 1 with (fail)
  go_wp2_with fail
  refine (HP.out _ _ _ _ h).mono ?_
  rintro e w1 ⟨A1, n1, c1, bs1, d1, rfl, rfl, h1, f1⟩
  go_upto_region 2 with (refine at_op (.store 51 (.tmp 5) (.tmp 10)) rfl ?_; refine wpList_stA (t := 51) 51 (.tmp 5) (.tmp 10) rfl rfl (dgX x0 x1 x2 A1 n1 c1) (dgX 0 0 0 none 0 0) rfl (dgX_one _ _ _ _ _ _ ) rfl rfl ?_ (szDX _ _ _ _ _ _) ?_; (· refine Bk.newK _ _ _ ?_ rfl; simp [size_plus]); intro W8 hS gr8)
  have b8 := below_grown (Below.allocS (below_plus w bs1 d1) _) gr8 (by simp)
  have b9 := below_grown (Below.allocS (Below.refl _ _) _) gr8 (by simp [size_plus])
  replace hI := hI.later b8
  replace h := h.later b8
  replace h1 := h1.later b9
  have hn1 : n1 ≤ 65527 := by have := h1.1; omega
  have hgs : w.heap.size + bs1.length ≥ w.heap.size := by omega
  clear gr8 b9 hlo hLn
  generalize w.heap.size + bs1.length = gs at *
  go_upto_region 4 with (fail)
  go_wp2
  refine wp_relS 13 45 rfl (by kernel_rfl) (by kernel_rfl) ?_
  apply Steps.o1 (MP.eq _) 1 rfl rfl
  ·intro FA x hO hD K hK
   have e5 := hO 5 (by kernel_rfl)
   simp only [eval_tmp, qgT, qgS, qgZ, qoS] at e5
   have ev5 := Lib.hid ((eval_tmp FA 5).trans e5)
   clear hO hD
   refine wanted_if rfl ?_
   refine wp_ldA 51 (.tmp 5) rfl (dgX x0 x1 x2 A1 n1 c1) ev5.out (hS.later (below_plus _ _ _)) (whole_ _) q1 q2 (szDX _ _ _ _ _ _) ?_
   exact hK.out _ _ (Ex.refl _) rfl
  apply Steps.o1 (MP.eq _) 2 rfl rfl
  ·intro FA x hO hD K hK
   have e0 := hO 0 (by kernel_rfl)
   simp only [eval_tmp, qgT, qgS, qgZ, qoS] at e0
   have ev0 := Lib.hid ((eval_tmp FA 0).trans e0)
   clear hO hD
   go_simp
   exact hK.out _ _ (Ex.refl _) rfl
  apply Steps.o1 (MP.eq _) 3 rfl rfl
  ·intro FA x hO hD K hK
   obtain ⟨e17, ev17⟩ := qE (hD 1 17 (by kernel_rfl))
   clear hO hD
   go_simp
   exact hK.out _ _ (Ex.refl _) rfl
  apply Steps.o1 (MP.eq _) 4 rfl rfl
  ·intro FA x hO hD K hK
   obtain ⟨e18, ev18⟩ := qE (hD 2 18 (by kernel_rfl))
   clear hO hD
   go_simp
   exact hK.out _ _ (Ex.refl _) rfl
  apply Steps.o1 (MP.eq _) 5 rfl rfl
  ·intro FA x hO hD K hK
   obtain ⟨e19, ev19⟩ := qE (hD 3 19 (by kernel_rfl))
   clear hO hD
   go_simp
   exact hK.out _ _ (Ex.refl _) rfl
  apply Steps.o1 (MP.eq _) 6 rfl rfl
  ·intro FA x hO hD K hK
   obtain ⟨e20, ev20⟩ := qE (hD 4 20 (by kernel_rfl))
   clear hO hD
   refine wanted_if rfl ?_
   refine wp_ldA 24 (.tmp 20) rfl ([.bool s6, .int .u64 (sh : Int), .int .u64 (sl : Int)]) ev20.out (hI.later (below_plus _ _ _)) rfl v1 v2 (szAd _ _ _) ?_
   exact hK.out _ _ (Ex.refl _) rfl
  apply Steps.o1 (MP.eq _) 7 rfl rfl
  ·intro FA x hO hD K hK
   have e0 := hO 0 (by kernel_rfl)
   simp only [eval_tmp, qgT, qgS, qgZ, qoS] at e0
   have ev0 := Lib.hid ((eval_tmp FA 0).trans e0)
   clear hO hD
   go_simp
   exact hK.out _ _ (Ex.refl _) rfl
  apply Steps.o1 (MP.eq _) 8 rfl rfl
  ·intro FA x hO hD K hK
   obtain ⟨e22, ev22⟩ := qE (hD 6 22 (by kernel_rfl))
   clear hO hD
   go_simp
   exact hK.out _ _ (Ex.refl _) rfl
  apply Steps.o1 (MP.eq _) 9 rfl rfl
  ·intro FA x hO hD K hK
   obtain ⟨e23, ev23⟩ := qE (hD 7 23 (by kernel_rfl))
   clear hO hD
   go_simp
   exact hK.out _ _ (Ex.refl _) rfl
  apply Steps.o1 (MP.eq _) 10 rfl rfl
  ·intro FA x hO hD K hK
   obtain ⟨e24, ev24⟩ := qE (hD 8 24 (by kernel_rfl))
   clear hO hD
   go_simp
   exact hK.out _ _ (Ex.refl _) rfl
  apply Steps.o1 (MP.eq _) 11 rfl rfl
  ·intro FA x hO hD K hK
   obtain ⟨e25, ev25⟩ := qE (hD 9 25 (by kernel_rfl))
   clear hO hD
   refine wanted_if rfl ?_
   refine wp_ldA 24 (.tmp 25) rfl ([.bool s6, .int .u64 (dh : Int), .int .u64 (dl : Int)]) ev25.out (hI.later (below_plus _ _ _)) rfl v1 v2 (szAd _ _ _) ?_
   exact hK.out _ _ (Ex.refl _) rfl
  apply Steps.o1 (MP.eq _) 12 rfl rfl
  ·intro FA x hO hD K hK
   obtain ⟨e16, ev16⟩ := qE (hD 0 16 (by kernel_rfl))
   obtain ⟨e21, ev21⟩ := qE (hD 5 21 (by kernel_rfl))
   obtain ⟨e26, ev26⟩ := qE (hD 10 26 (by kernel_rfl))
   clear hO hD
   go_simp
   refine (HF.out _ _ _ _ (h1.plus_ _ _) hn1).mono ?_
   rintro e w1 ⟨bs2, d2, rfl, rfl⟩
   exact hK.out _ _ (Ex.plus_ _ _ _) rfl
  apply Steps.o1 (MP.eq _) 13 rfl rfl
  ·intro FA x hO hD K hK
   obtain ⟨e27, ev27⟩ := qE (hD 11 27 (by kernel_rfl))
   clear hO hD
   go_simp
   exact hK.out _ _ (Ex.refl _) rfl
  refine Steps.fin_ (fun vs x hp => ?_)
  have p0 : vs 0 = _ := hp 0 (by omega)
  have p1 : vs 1 = _ := hp 1 (by omega)
  have p2 : vs 2 = _ := hp 2 (by omega)
  have p3 : vs 3 = _ := hp 3 (by omega)
  have p4 : vs 4 = _ := hp 4 (by omega)
  have p5 : vs 5 = _ := hp 5 (by omega)
  have p6 : vs 6 = _ := hp 6 (by omega)
  have p7 : vs 7 = _ := hp 7 (by omega)
  have p8 : vs 8 = _ := hp 8 (by omega)
  have p9 : vs 9 = _ := hp 9 (by omega)
  have p10 : vs 10 = _ := hp 10 (by omega)
  have p11 : vs 11 = _ := hp 11 (by omega)
  have p12 : vs 12 = _ := hp 12 (by omega)
  clear hp
  simp only [List.take_succ_cons, List.take_zero, List.drop_succ_cons, List.drop_zero, putAll, Nat.zero_add, Nat.reduceAdd, Act.put, qsT, qsZ, qsS, p0, p1, p2, p3, p4, p5, p6, p7, p8, p9, p10, p11, p12]
  clear p0 p1 p2 p3 p4 p5 p6 p7 p8 p9 p10 p11 p12
  clear vs
  replace hI := hI.later (below_plus _ x.bs x.d)
  replace hS := hS.later (below_plus _ x.bs x.d)
  replace h1 := h1.plus_ x.bs x.d
  skip
  replace b8 := belowP b8 x.bs x.d
  generalize plus W8 x.bs x.d = W7 at *
  cases fi
  ·go_wp2
   go_ret
   exact Tk.bad (by decide) b8
  ·have hC : Chg (fun b => b = g) W7 W7 := Chg.refl _
   have B8 := b8
   have nS : ¬ (fun b => b = g) gs := fun h => by have h' : gs = g := h; omega
   go_upto_region 6 with (fail)
   refine wp_region_lit ?_
   refine wpList_plain rfl (fun K hK => ?_); go_simp; with_reducible refine hK _ _ ?_; clear hK K
   refine wpList_ldA (t := 51) 51 (.tmp 5) rfl rfl (dgX x0 x1 x2 A1 n1 c1) rfl (hS) (whole_ _) q1 q2 (szDX _ _ _ _ _ _) ?_
   iterate 2 (refine wpList_plain rfl (fun K hK => ?_); go_simp; with_reducible refine hK _ _ ?_; clear hK K)
   refine wpList_stM 51 (.tmp 32) (.tmp 30) rfl rfl (dgX x0 x1 x2 A1 n1 c1) (hdC (fhC si st tl s6 sh sl s6 dh dl 0 0 pr) (tcC 0 0 0 0 0 0 0 0 none 0 0 none 0 0) (dgX 0 0 0 none 0 0) (msgC 0 0 0 0 none 0 0) fr Ar nr kr) (Nat.le_of_ble_eq_true rfl) (dgX_one _ _ _ _ _ _ ) (by rfl) (by rfl) hI (szDX _ _ _ _ _ _) ?_
   intro W9 hI' gr'
   replace hI : Bk W9 g 111 (hdC (fhC si st tl s6 sh sl s6 dh dl 0 0 pr) (tcC 0 0 0 0 0 0 0 0 none 0 0 none 0 0) (dgX x0 x1 x2 A1 n1 c1) (msgC 0 0 0 0 none 0 0) fr Ar nr kr) := hI'
   replace hC := hC.trans (Chg.one gr' rfl)
   clear hI' gr'
   simp only [Act.put, qsT, qsZ, qsS]
   have hSS := hS.chg hC nS
   replace b8 : Below w.heap.size w w := Below.refl _ _
   go_upto_region 7 with (fail)
   go_wp2
   refine wp_suS (fun b => b = g) 14 45 2 [9, 13] rfl (by kernel_rfl) (by kernel_rfl) (fun k w' => Bk w' g 111 (if k = 0 then hdC (fhC si st tl s6 sh sl s6 dh dl 0 0 pr) (tcC 0 0 0 0 0 0 0 0 none 0 0 none 0 0) (dgX x0 x1 x2 A1 n1 c1) (msgC 0 0 0 0 none 0 0) fr Ar nr kr else if k = 1 then hdC (fhC si st tl s6 sh sl s6 dh dl x0 0 pr) (tcC 0 0 0 0 0 0 0 0 none 0 0 none 0 0) (dgX x0 x1 x2 A1 n1 c1) (msgC 0 0 0 0 none 0 0) fr Ar nr kr else hdC (fhC si st tl s6 sh sl s6 dh dl x0 x1 pr) (tcC 0 0 0 0 0 0 0 0 none 0 0 none 0 0) (dgX x0 x1 x2 A1 n1 c1) (msgC 0 0 0 0 none 0 0) fr Ar nr kr)) (fun k w w' h h' => h.later h'.below) (hI) ?_
   apply StepsC.one (MC.eq _) 1 rfl (by decide)
   ·intro o ho FA w' hC7 hO hD K hK
    obtain rfl := qoi ho
    have e0 := hO 0 (by kernel_rfl)
    simp only [eval_tmp, qgT, qgS, qgZ, qoS] at e0
    have ev0 := Lib.hid ((eval_tmp FA 0).trans e0)
    clear hO hD ho
    go_simp
    exact hK.out _ _ (Ex.refl _) rfl
   apply StepsC.one (MC.eq _) 2 rfl (by decide)
   ·intro o ho FA w' hC7 hO hD K hK
    obtain rfl := qoi ho
    have e0 := hO 0 (by kernel_rfl)
    simp only [eval_tmp, qgT, qgS, qgZ, qoS] at e0
    have ev0 := Lib.hid ((eval_tmp FA 0).trans e0)
    clear hO hD ho
    go_simp
    exact hK.out _ _ (Ex.refl _) rfl
   apply StepsC.one (MC.eq _) 3 rfl (by decide)
   ·intro o ho FA w' hC7 hO hD K hK
    obtain rfl := qoi ho
    have e5 := hO 5 (by kernel_rfl)
    simp only [eval_tmp, qgT, qgS, qgZ, qoS] at e5
    have ev5 := Lib.hid ((eval_tmp FA 5).trans e5)
    clear hO hD ho
    go_simp
    exact hK.out _ _ (Ex.refl _) rfl
   apply StepsC.one (MC.eq _) 4 rfl (by decide)
   ·intro o ho FA w' hC7 hO hD K hK
    obtain rfl := qoi ho
    obtain ⟨e35, ev35⟩ := qE (hD 2 35 (by kernel_rfl))
    clear hO hD ho
    refine wanted_if rfl ?_
    refine wp_ld1 25 (.tmp 35) rfl ev35.out (hSS.chg hC7 nS) rfl Tryz.underlying25 rfl ?_
    exact hK.out _ _ (Ex.refl _) rfl
   apply StepsC.one (MC.eq _) 5 rfl (by decide)
   ·intro o ho FA w' hC7 hO hD K hK
    obtain rfl := qoi ho
    have e5 := hO 5 (by kernel_rfl)
    simp only [eval_tmp, qgT, qgS, qgZ, qoS] at e5
    have ev5 := Lib.hid ((eval_tmp FA 5).trans e5)
    clear hO hD ho
    go_simp
    exact hK.out _ _ (Ex.refl _) rfl
   apply StepsC.one (MC.eq _) 6 rfl (by decide)
   ·intro o ho FA w' hC7 hO hD K hK
    obtain rfl := qoi ho
    obtain ⟨e37, ev37⟩ := qE (hD 4 37 (by kernel_rfl))
    clear hO hD ho
    refine wanted_if rfl ?_
    refine wp_ld1 25 (.tmp 37) rfl ev37.out (hSS.chg hC7 nS) rfl Tryz.underlying25 rfl ?_
    exact hK.out _ _ (Ex.refl _) rfl
   apply StepsC.one (MC.eq _) 7 rfl (by decide)
   ·intro o ho FA w' hC7 hO hD K hK
    obtain rfl := qoi ho
    obtain ⟨e33, ev33⟩ := qE (hD 0 33 (by kernel_rfl))
    clear hO hD ho
    go_simp
    exact hK.out _ _ (Ex.refl _) rfl
   apply StepsC.one (MC.eq _) 8 rfl (by decide)
   ·intro o ho FA w' hC7 hO hD K hK
    obtain rfl := qoi ho
    obtain ⟨e39, ev39⟩ := qE (hD 6 39 (by kernel_rfl))
    clear hO hD ho
    go_simp
    exact hK.out _ _ (Ex.refl _) rfl
   apply StepsC.one (MC.eq _) 9 rfl (by decide)
   ·intro o ho FA w' hC7 hO hD K hK
    obtain rfl := qoi ho
    obtain ⟨e40, ev40⟩ := qE (hD 7 40 (by kernel_rfl))
    clear hO hD ho
    go_simp
    exact hK.out _ _ (Ex.refl _) rfl
   apply StepsC.mov MC.any 10 0 rfl rfl rfl
   ·intro o ho FA w' hC7 hO hD hS7 K hK
    obtain rfl := qoi ho
    obtain ⟨e41, ev41⟩ := qE (hD 8 41 (by kernel_rfl))
    obtain ⟨e36, ev36⟩ := qE (hD 3 36 (by kernel_rfl))
    clear hO hD ho
    refine wanted_if rfl ?_
    refine wp_st1 25 (.tmp 41) (.tmp 36) rfl ev41.out ev36.out hS7 (Nat.le_of_ble_eq_true rfl) rfl (by kernel_rfl) ?_
    intro w'' hn' hg'
    exact hK.out undef _ (Chg.one hg' rfl) hn' trivial
   apply StepsC.one (MC.eq _) 11 rfl (by decide)
   ·intro o ho FA w' hC7 hO hD K hK
    obtain rfl := qoi ho
    obtain ⟨e34, ev34⟩ := qE (hD 1 34 (by kernel_rfl))
    clear hO hD ho
    go_simp
    exact hK.out _ _ (Ex.refl _) rfl
   apply StepsC.one (MC.eq _) 12 rfl (by decide)
   ·intro o ho FA w' hC7 hO hD K hK
    obtain rfl := qoi ho
    obtain ⟨e42, ev42⟩ := qE (hD 10 42 (by kernel_rfl))
    clear hO hD ho
    go_simp
    exact hK.out _ _ (Ex.refl _) rfl
   apply StepsC.one (MC.eq _) 13 rfl (by decide)
   ·intro o ho FA w' hC7 hO hD K hK
    obtain rfl := qoi ho
    obtain ⟨e43, ev43⟩ := qE (hD 11 43 (by kernel_rfl))
    clear hO hD ho
    go_simp
    exact hK.out _ _ (Ex.refl _) rfl
   apply StepsC.mov MC.any 14 1 rfl rfl rfl
   ·intro o ho FA w' hC7 hO hD hS7 K hK
    obtain rfl := qoi ho
    obtain ⟨e44, ev44⟩ := qE (hD 12 44 (by kernel_rfl))
    obtain ⟨e38, ev38⟩ := qE (hD 5 38 (by kernel_rfl))
    clear hO hD ho
    refine wanted_if rfl ?_
    refine wp_st1 25 (.tmp 44) (.tmp 38) rfl ev44.out ev38.out hS7 (Nat.le_of_ble_eq_true rfl) rfl (by kernel_rfl) ?_
    intro w'' hn' hg'
    exact hK.out undef _ (Chg.one hg' rfl) hn' trivial
   refine StepsC.fin_ (fun vs w' hC7 hI7 hp => ?_)
   have p0 : vs 0 = _ := hp 0 (by omega) rfl
   have p1 : vs 1 = _ := hp 1 (by omega) rfl
   have p2 : vs 2 = _ := hp 2 (by omega) rfl
   have p3 : vs 3 = _ := hp 3 (by omega) rfl
   have p4 : vs 4 = _ := hp 4 (by omega) rfl
   have p5 : vs 5 = _ := hp 5 (by omega) rfl
   have p6 : vs 6 = _ := hp 6 (by omega) rfl
   have p7 : vs 7 = _ := hp 7 (by omega) rfl
   have p8 : vs 8 = _ := hp 8 (by omega) rfl
   have p10 : vs 10 = _ := hp 10 (by omega) rfl
   have p11 : vs 11 = _ := hp 11 (by omega) rfl
   have p12 : vs 12 = _ := hp 12 (by omega) rfl
   clear hp
   simp only [List.take_succ_cons, List.take_zero, List.drop_succ_cons, List.drop_zero, putAll, Nat.zero_add, Nat.reduceAdd, Act.put, qsT, qsZ, qsS, p0, p1, p2, p3, p4, p5, p6, p7, p8, p10, p11, p12]
   clear p0 p1 p2 p3 p4 p5 p6 p7 p8 p10 p11 p12
   clear vs
   replace hC := hC.trans hC7
   replace hI := hI7
   clear hI7 hC7
   go_wp2
   go_ret
   refine ⟨rfl, (Chg.of_below B8).trans hC, fun _ => ⟨none, 0, 0, none, 0, 0, A1, n1, c1, none, 0, 0, hI, ?_⟩⟩
   exact ⟨Rb.nil_, Rb.nil_, h1.chg hC (fun a ha hb => by have h' : a.block = g := hb; have := f1 a ha; omega), Rb.nil_, noRow, noRow, f1, noRow⟩
theorem takeICMP (g : Nat) (A : Option Addr) (n c : Nat) (si st : Bool) (tl : Nat) (s6 : Bool) (sh sl dh dl pr : Nat) (fr : Bool) (Ar : Option Addr) (nr kr : Nat) (L : List UInt8) (w : World) (x0 x1 x2 x3 : Nat) (o1 : List UInt8) (ok : Bool) (any : IcmpAny L x0 x1 x2 x3 o1 ok) (k1 : sh < 18446744073709551616) (k2 : sl < 18446744073709551616) (k3 : dh < 18446744073709551616) (k4 : dl < 18446744073709551616) (hI : Bk w g 111 (hdC (fhC si st tl s6 sh sl s6 dh dl 0 0 pr) (tcC 0 0 0 0 0 0 0 0 none 0 0 none 0 0) (dgX 0 0 0 none 0 0) (msgC 0 0 0 0 none 0 0) fr Ar nr kr)) (h : Rb w A n c L) (hn : n ≤ 65535) : Calls Tryz.prog 54 #[.pointer (some ⟨g, 0, none⟩), .slice A n c] w (Tk w g (tkW (if ok then 0 else 20) (65535 - fd (icT s6 sh sl s6 dh dl x0 x1 x2 x3 o1) == 0)) { si := si, st := st, tl := tl, s6 := s6, sh := sh, sl := sl, d6 := s6, dh := dh, dl := dl, sp := 0, dp := 0, pr := pr, m0 := x0, m1 := x1, m2 := x2, m3 := x3, o4 := o1 } fr Ar nr kr) := by
 obtain ⟨dp_, q1, q2⟩ := rowMs
 obtain ⟨du_, u1, u2⟩ := rowHd
 obtain ⟨dv_, v1, v2⟩ := rowAd
 have hg := hI.lt
 obtain ⟨b0, b1, b2, b3⟩ := any.b
 have hlo := any.o
 have HP := any.P
 have hLn := h.1
 by_cases hE : ok = false
 ·subst hE
  skip
  simp only [Bool.false_eq_true, if_false] at HP
  replace HP := Lib.hid HP
  have hw : tkW (if false = true then 0 else 20) (65535 - fd (icT s6 sh sl s6 dh dl x0 x1 x2 x3 o1) == 0) = ofN 20 := by unfold tkW; simp
  rw [hw]
  clear hw any hlo b0
  go_enter Tryz.func54, Tryz.ntmps54
  go_upto_region 1 with (fail)
  go_wp2_with fail
  refine (HP.out _ _ _ _ h).mono ?_
  rintro e w1 ⟨A1, n1, c1, bs1, d1, rfl, rfl, -, -⟩
  go_upto_region 2 with (refine at_op (.store 53 (.tmp 5) (.tmp 10)) rfl ?_; refine wpList_stA (t := 53) 53 (.tmp 5) (.tmp 10) rfl rfl (msgC x0 x1 x2 x3 A1 n1 c1) (msgC 0 0 0 0 none 0 0) rfl (msgC_one _ _ _ _ _ _ _ ) rfl rfl ?_ (szMs _ _ _ _ _ _ _ ) ?_; (· refine Bk.newK _ _ _ ?_ rfl; simp [size_plus]); intro W8 hS gr8)
  have b8 := below_grown (Below.allocS (below_plus w bs1 d1) _) gr8 (by simp)
  clear gr8 hS
  go_wp2_with (go_at_call 51; refine (ofP _ _).mono ?_; rintro e w1 ⟨rfl, rfl⟩)
  go_ret
  exact Tk.bad (ofN_ne (by decide)) b8
 ·obtain rfl : ok = true := by cases ok <;> simp_all
  skip
  simp only [if_true] at HP
  replace HP := Lib.hid HP
  have HF := Lib.hid (fun w A n c (h : Rb w A n c o1) (hn : n ≤ 65527) => icmpFine x0 x1 x2 x3 A n c s6 sh sl s6 dh dl o1 w b0 b1 b2 b3 k1 k2 k3 k4 h hn)
  have hw : tkW (if true = true then 0 else 20) (65535 - fd (icT s6 sh sl s6 dh dl x0 x1 x2 x3 o1) == 0) = bad3 (65535 - fd (icT s6 sh sl s6 dh dl x0 x1 x2 x3 o1) == 0) := by unfold tkW; simp
  rw [hw]
  clear hw hE
  generalize (65535 - fd (icT s6 sh sl s6 dh dl x0 x1 x2 x3 o1) == 0) = fi at *
  go_enter Tryz.func54, Tryz.ntmps54
  go_upto_region 1 with (fail)
  go_wp2_with fail
  refine (HP.out _ _ _ _ h).mono ?_
  rintro e w1 ⟨A1, n1, c1, bs1, d1, rfl, rfl, h1, f1⟩
  go_upto_region 2 with (refine at_op (.store 53 (.tmp 5) (.tmp 10)) rfl ?_; refine wpList_stA (t := 53) 53 (.tmp 5) (.tmp 10) rfl rfl (msgC x0 x1 x2 x3 A1 n1 c1) (msgC 0 0 0 0 none 0 0) rfl (msgC_one _ _ _ _ _ _ _ ) rfl rfl ?_ (szMs _ _ _ _ _ _ _ ) ?_; (· refine Bk.newK _ _ _ ?_ rfl; simp [size_plus]); intro W8 hS gr8)
  have b8 := below_grown (Below.allocS (below_plus w bs1 d1) _) gr8 (by simp)
  have b9 := below_grown (Below.allocS (Below.refl _ _) _) gr8 (by simp [size_plus])
  replace hI := hI.later b8
  replace h := h.later b8
  replace h1 := h1.later b9
  have hn1 : n1 ≤ 65527 := by have := h1.1; omega
  have hgs : w.heap.size + bs1.length ≥ w.heap.size := by omega
  clear gr8 b9 hlo hLn
  generalize w.heap.size + bs1.length = gs at *
  go_upto_region 4 with (fail)
  go_wp2
  refine wp_relS 13 33 rfl (by kernel_rfl) (by kernel_rfl) ?_
  apply Steps.o1 (MP.eq _) 1 rfl rfl
  ·intro FA x hO hD K hK
   have e5 := hO 5 (by kernel_rfl)
   simp only [eval_tmp, qgT, qgS, qgZ, qoS] at e5
   have ev5 := Lib.hid ((eval_tmp FA 5).trans e5)
   clear hO hD
   refine wanted_if rfl ?_
   refine wp_ldA 53 (.tmp 5) rfl (msgC x0 x1 x2 x3 A1 n1 c1) ev5.out (hS.later (below_plus _ _ _)) (whole_ _) q1 q2 (szMs _ _ _ _ _ _ _ ) ?_
   exact hK.out _ _ (Ex.refl _) rfl
  apply Steps.o1 (MP.eq _) 2 rfl rfl
  ·intro FA x hO hD K hK
   have e0 := hO 0 (by kernel_rfl)
   simp only [eval_tmp, qgT, qgS, qgZ, qoS] at e0
   have ev0 := Lib.hid ((eval_tmp FA 0).trans e0)
   clear hO hD
   go_simp
   exact hK.out _ _ (Ex.refl _) rfl
  apply Steps.o1 (MP.eq _) 3 rfl rfl
  ·intro FA x hO hD K hK
   obtain ⟨e17, ev17⟩ := qE (hD 1 17 (by kernel_rfl))
   clear hO hD
   go_simp
   exact hK.out _ _ (Ex.refl _) rfl
  apply Steps.o1 (MP.eq _) 4 rfl rfl
  ·intro FA x hO hD K hK
   obtain ⟨e18, ev18⟩ := qE (hD 2 18 (by kernel_rfl))
   clear hO hD
   go_simp
   exact hK.out _ _ (Ex.refl _) rfl
  apply Steps.o1 (MP.eq _) 5 rfl rfl
  ·intro FA x hO hD K hK
   obtain ⟨e19, ev19⟩ := qE (hD 3 19 (by kernel_rfl))
   clear hO hD
   go_simp
   exact hK.out _ _ (Ex.refl _) rfl
  apply Steps.o1 (MP.eq _) 6 rfl rfl
  ·intro FA x hO hD K hK
   obtain ⟨e20, ev20⟩ := qE (hD 4 20 (by kernel_rfl))
   clear hO hD
   refine wanted_if rfl ?_
   refine wp_ldA 24 (.tmp 20) rfl ([.bool s6, .int .u64 (sh : Int), .int .u64 (sl : Int)]) ev20.out (hI.later (below_plus _ _ _)) rfl v1 v2 (szAd _ _ _) ?_
   exact hK.out _ _ (Ex.refl _) rfl
  apply Steps.o1 (MP.eq _) 7 rfl rfl
  ·intro FA x hO hD K hK
   have e0 := hO 0 (by kernel_rfl)
   simp only [eval_tmp, qgT, qgS, qgZ, qoS] at e0
   have ev0 := Lib.hid ((eval_tmp FA 0).trans e0)
   clear hO hD
   go_simp
   exact hK.out _ _ (Ex.refl _) rfl
  apply Steps.o1 (MP.eq _) 8 rfl rfl
  ·intro FA x hO hD K hK
   obtain ⟨e22, ev22⟩ := qE (hD 6 22 (by kernel_rfl))
   clear hO hD
   go_simp
   exact hK.out _ _ (Ex.refl _) rfl
  apply Steps.o1 (MP.eq _) 9 rfl rfl
  ·intro FA x hO hD K hK
   obtain ⟨e23, ev23⟩ := qE (hD 7 23 (by kernel_rfl))
   clear hO hD
   go_simp
   exact hK.out _ _ (Ex.refl _) rfl
  apply Steps.o1 (MP.eq _) 10 rfl rfl
  ·intro FA x hO hD K hK
   obtain ⟨e24, ev24⟩ := qE (hD 8 24 (by kernel_rfl))
   clear hO hD
   go_simp
   exact hK.out _ _ (Ex.refl _) rfl
  apply Steps.o1 (MP.eq _) 11 rfl rfl
  ·intro FA x hO hD K hK
   obtain ⟨e25, ev25⟩ := qE (hD 9 25 (by kernel_rfl))
   clear hO hD
   refine wanted_if rfl ?_
   refine wp_ldA 24 (.tmp 25) rfl ([.bool s6, .int .u64 (dh : Int), .int .u64 (dl : Int)]) ev25.out (hI.later (below_plus _ _ _)) rfl v1 v2 (szAd _ _ _) ?_
   exact hK.out _ _ (Ex.refl _) rfl
  apply Steps.o1 (MP.eq _) 12 rfl rfl
  ·intro FA x hO hD K hK
   obtain ⟨e16, ev16⟩ := qE (hD 0 16 (by kernel_rfl))
   obtain ⟨e21, ev21⟩ := qE (hD 5 21 (by kernel_rfl))
   obtain ⟨e26, ev26⟩ := qE (hD 10 26 (by kernel_rfl))
   clear hO hD
   go_simp
   refine (HF.out _ _ _ _ (h1.plus_ _ _) hn1).mono ?_
   rintro e w1 ⟨bs2, d2, rfl, rfl⟩
   exact hK.out _ _ (Ex.plus_ _ _ _) rfl
  apply Steps.o1 (MP.eq _) 13 rfl rfl
  ·intro FA x hO hD K hK
   obtain ⟨e27, ev27⟩ := qE (hD 11 27 (by kernel_rfl))
   clear hO hD
   go_simp
   exact hK.out _ _ (Ex.refl _) rfl
  refine Steps.fin_ (fun vs x hp => ?_)
  have p0 : vs 0 = _ := hp 0 (by omega)
  have p1 : vs 1 = _ := hp 1 (by omega)
  have p2 : vs 2 = _ := hp 2 (by omega)
  have p3 : vs 3 = _ := hp 3 (by omega)
  have p4 : vs 4 = _ := hp 4 (by omega)
  have p5 : vs 5 = _ := hp 5 (by omega)
  have p6 : vs 6 = _ := hp 6 (by omega)
  have p7 : vs 7 = _ := hp 7 (by omega)
  have p8 : vs 8 = _ := hp 8 (by omega)
  have p9 : vs 9 = _ := hp 9 (by omega)
  have p10 : vs 10 = _ := hp 10 (by omega)
  have p11 : vs 11 = _ := hp 11 (by omega)
  have p12 : vs 12 = _ := hp 12 (by omega)
  clear hp
  simp only [List.take_succ_cons, List.take_zero, List.drop_succ_cons, List.drop_zero, putAll, Nat.zero_add, Nat.reduceAdd, Act.put, qsT, qsZ, qsS, p0, p1, p2, p3, p4, p5, p6, p7, p8, p9, p10, p11, p12]
  clear p0 p1 p2 p3 p4 p5 p6 p7 p8 p9 p10 p11 p12
  clear vs
  replace hI := hI.later (below_plus _ x.bs x.d)
  replace hS := hS.later (below_plus _ x.bs x.d)
  replace h1 := h1.plus_ x.bs x.d
  skip
  replace b8 := belowP b8 x.bs x.d
  generalize plus W8 x.bs x.d = W7 at *
  cases fi
  ·go_wp2
   go_ret
   exact Tk.bad (by decide) b8
  ·have hC : Chg (fun b => b = g) W7 W7 := Chg.refl _
   have B8 := b8
   have nS : ¬ (fun b => b = g) gs := fun h => by have h' : gs = g := h; omega
   go_upto_region 6 with (fail)
   refine wp_region_lit ?_
   refine wpList_plain rfl (fun K hK => ?_); go_simp; with_reducible refine hK _ _ ?_; clear hK K
   refine wpList_ldA (t := 53) 53 (.tmp 5) rfl rfl (msgC x0 x1 x2 x3 A1 n1 c1) rfl (hS) (whole_ _) q1 q2 (szMs _ _ _ _ _ _ _ ) ?_
   iterate 2 (refine wpList_plain rfl (fun K hK => ?_); go_simp; with_reducible refine hK _ _ ?_; clear hK K)
   refine wpList_stM 53 (.tmp 32) (.tmp 30) rfl rfl (msgC x0 x1 x2 x3 A1 n1 c1) (hdC (fhC si st tl s6 sh sl s6 dh dl 0 0 pr) (tcC 0 0 0 0 0 0 0 0 none 0 0 none 0 0) (dgX 0 0 0 none 0 0) (msgC 0 0 0 0 none 0 0) fr Ar nr kr) (Nat.le_of_ble_eq_true rfl) (msgC_one _ _ _ _ _ _ _ ) (by rfl) (by rfl) hI (szMs _ _ _ _ _ _ _ ) ?_
   intro W9 hI' gr'
   replace hI : Bk W9 g 111 (hdC (fhC si st tl s6 sh sl s6 dh dl 0 0 pr) (tcC 0 0 0 0 0 0 0 0 none 0 0 none 0 0) (dgX 0 0 0 none 0 0) (msgC x0 x1 x2 x3 A1 n1 c1) fr Ar nr kr) := hI'
   replace hC := hC.trans (Chg.one gr' rfl)
   clear hI' gr'
   simp only [Act.put, qsT, qsZ, qsS]
   go_wp2
   go_ret
   refine ⟨rfl, (Chg.of_below B8).trans hC, fun _ => ⟨none, 0, 0, none, 0, 0, none, 0, 0, A1, n1, c1, hI, ?_⟩⟩
   exact ⟨Rb.nil_, Rb.nil_, Rb.nil_, h1.chg hC (fun a ha hb => by have h' : a.block = g := hb; have := f1 a ha; omega), noRow, noRow, noRow, f1⟩
end

section
open Go.RowKit
attribute [local go_sem ↓] sliced_cut
attribute [local go_sem] cutA_zero
def RetOu (w : World) (F : List Value) (load : List UInt8) (why : Int) (e : Ending) (w' : World) : Prop := ∃ A n k bs d, e = .returned (.tuple #[.agg (inPk (F) (tcC 0 0 0 0 0 0 0 0 none 0 0 none 0 0) (dgX 0 0 0 none 0 0) (msgC 0 0 0 0 none 0 0)).toArray, .slice A n k, .int .i64 why]) ∧ w' = plus w bs d ∧ Rb (plus w bs d) A n k load ∧ ∀ a, A = some a → w.heap.size ≤ a.block
theorem RetOu.mk {w w' : World} {F : List Value} {load : List UInt8} {why : Int} {A : Option Addr} {n k : Nat} (h : Rb w' A n k load) (hf : ∀ a, A = some a → w.heap.size ≤ a.block) (hb : Below w.heap.size w w') : RetOu w F load why (.returned (.tuple #[.agg (inPk (F) (tcC 0 0 0 0 0 0 0 0 none 0 0 none 0 0) (dgX 0 0 0 none 0 0) (msgC 0 0 0 0 none 0 0)).toArray, .slice A n k, .int .i64 why])) w' := by
 obtain ⟨bs, d, rfl⟩ := plus_of hb
 exact ⟨A, n, k, bs, d, rfl, rfl, h, hf⟩
def OuR (w : World) (F : List Value) (fr : Bool) (load : List UInt8) (E : Int) (e : Ending) (w' : World) : Prop := if E = 0 then (if fr = true then RetOu w (fhC false false 0 false 0 0 false 0 0 0 0 0) [] 4 e w' else RetOu w F load 0 e w') else RetOu w (fhC false false 0 false 0 0 false 0 0 0 0 0) [] (ofN E) e w'
theorem OuR.ok {w : World} {F : List Value} {load : List UInt8} {e : Ending} {w' : World} (h : RetOu w F load 0 e w') : OuR w F false load 0 e w' := by unfold OuR; rw [if_pos rfl, if_neg (by decide)]; exact h
theorem OuR.frag {w : World} {F : List Value} {fr : Bool} {load : List UInt8} {e : Ending} {w' : World} (hf : fr = true) (h : RetOu w (fhC false false 0 false 0 0 false 0 0 0 0 0) [] 4 e w') : OuR w F fr load 0 e w' := by unfold OuR; rw [if_pos rfl, if_pos hf]; exact h
theorem OuR.err {w : World} {F : List Value} {fr : Bool} {load : List UInt8} {E : Int} {e : Ending} {w' : World} (hE : ¬ E = 0) (h : RetOu w (fhC false false 0 false 0 0 false 0 0 0 0 0) [] (ofN E) e w') : OuR w F fr load E e w' := by unfold OuR; rw [if_neg hE]; exact h
end

section
open Go.RowKit
attribute [local go_sem ↓] sliced_cut
attribute [local go_sem] cutA_zero
inductive Carries (si st : Bool) (tl : Nat) (s6 : Bool) (sh sl dh dl pr : Nat) (load : List UInt8) : PI → Int → Prop
 | tBad (x0 x1 x2 x3 x4 x5 x6 x7 : Nat) (o1 o2 : List UInt8) (E2 : Int) (any : TcpAny load x0 x1 x2 x3 x4 x5 x6 x7 o1 o2 E2) (hp : pr = 6) (why : Int) (hw : tkW E2 (65535 - fd (tcT s6 sh sl s6 dh dl load) == 0) = why) (h0 : (why != 0) = true) : Carries si st tl s6 sh sl dh dl pr load PI.zero why
 | tOk (x0 x1 x2 x3 x4 x5 x6 x7 : Nat) (o1 o2 : List UInt8) (E2 : Int) (any : TcpAny load x0 x1 x2 x3 x4 x5 x6 x7 o1 o2 E2) (hp : pr = 6) (hw : tkW E2 (65535 - fd (tcT s6 sh sl s6 dh dl load) == 0) = 0) : Carries si st tl s6 sh sl dh dl pr load { si := si, st := st, tl := tl, s6 := s6, sh := sh, sl := sl, d6 := s6, dh := dh, dl := dl, sp := x0, dp := x1, pr := pr, x0 := x0, x1 := x1, x2 := x2, x3 := x3, x4 := x4, x5 := x5, x6 := x6, x7 := x7, o1 := o1, o2 := o2 } 0
 | uBad (x0 x1 x2 : Nat) (o1 : List UInt8) (E2 : Int) (any : UdpAny load x0 x1 x2 o1 E2) (hp : pr = 17) (why : Int) (hw : tkW E2 (udF s6 sh sl dh dl x0 x1 x2 o1) = why) (h0 : (why != 0) = true) : Carries si st tl s6 sh sl dh dl pr load PI.zero why
 | uOk (x0 x1 x2 : Nat) (o1 : List UInt8) (E2 : Int) (any : UdpAny load x0 x1 x2 o1 E2) (hp : pr = 17) (hw : tkW E2 (udF s6 sh sl dh dl x0 x1 x2 o1) = 0) : Carries si st tl s6 sh sl dh dl pr load { si := si, st := st, tl := tl, s6 := s6, sh := sh, sl := sl, d6 := s6, dh := dh, dl := dl, sp := x0, dp := x1, pr := pr, u0 := x0, u1 := x1, u2 := x2, o3 := o1 } 0
 | mBad (x0 x1 x2 x3 : Nat) (o1 : List UInt8) (ok : Bool) (any : IcmpAny load x0 x1 x2 x3 o1 ok) (hp : pr = 1 ∧ si = false ∨ pr = 58 ∧ si = true) (why : Int) (hw : tkW (if ok then 0 else 20) (65535 - fd (icT s6 sh sl s6 dh dl x0 x1 x2 x3 o1) == 0) = why) (h0 : (why != 0) = true) : Carries si st tl s6 sh sl dh dl pr load PI.zero why
 | mOk (x0 x1 x2 x3 : Nat) (o1 : List UInt8) (ok : Bool) (any : IcmpAny load x0 x1 x2 x3 o1 ok) (hp : pr = 1 ∧ si = false ∨ pr = 58 ∧ si = true) (hw : tkW (if ok then 0 else 20) (65535 - fd (icT s6 sh sl s6 dh dl x0 x1 x2 x3 o1) == 0) = 0) : Carries si st tl s6 sh sl dh dl pr load { si := si, st := st, tl := tl, s6 := s6, sh := sh, sl := sl, d6 := s6, dh := dh, dl := dl, sp := 0, dp := 0, pr := pr, m0 := x0, m1 := x1, m2 := x2, m3 := x3, o4 := o1 } 0
 | none_ (hp : pr ≠ 6 ∧ pr ≠ 17 ∧ ¬ (pr = 1 ∧ si = false) ∧ ¬ (pr = 58 ∧ si = true)) : Carries si st tl s6 sh sl dh dl pr load PI.zero 6
theorem carries_any (si st : Bool) (tl : Nat) (s6 : Bool) (sh sl dh dl pr : Nat) (load : List UInt8) (hl : load.length ≤ 2000000) : ∃ p why, Carries si st tl s6 sh sl dh dl pr load p why := by
 by_cases hp : pr = 6
 ·obtain ⟨_, _, _, _, _, _, _, _, _, _, _, any, -⟩ := tcp_any load hl
  exact Classical.byCases (fun h0 => ⟨_, _, .tOk _ _ _ _ _ _ _ _ _ _ _ any hp h0⟩) (fun h0 => ⟨_, _, .tBad _ _ _ _ _ _ _ _ _ _ _ any hp _ rfl (bne_iff_ne.2 h0)⟩)
 have ht := hp
 clear hp
 by_cases hp : pr = 17
 ·obtain ⟨_, _, _, _, _, any, -⟩ := udp_any load hl
  exact Classical.byCases (fun h0 => ⟨_, _, .uOk _ _ _ _ _ any hp h0⟩) (fun h0 => ⟨_, _, .uBad _ _ _ _ _ any hp _ rfl (bne_iff_ne.2 h0)⟩)
 have hu := hp
 clear hp
 by_cases hp : pr = 1 ∧ si = false ∨ pr = 58 ∧ si = true
 ·obtain ⟨_, _, _, _, _, _, any⟩ := icmp_any load hl
  exact Classical.byCases (fun h0 => ⟨_, _, .mOk _ _ _ _ _ _ any hp h0⟩) (fun h0 => ⟨_, _, .mBad _ _ _ _ _ _ any hp _ rfl (bne_iff_ne.2 h0)⟩)
 have hm := hp
 clear hp
 exact ⟨_, _, .none_ ⟨ht, hu, fun h => hm (.inl h), fun h => hm (.inr h)⟩⟩
inductive Lk (si st : Bool) (tl : Nat) (s6 : Bool) (sh sl dh dl pr : Nat) (fr : Bool) (load : List UInt8) (ex : Int) (E : Int) : PI → Int → Prop
 | err (h : ¬ E = 0) : Lk si st tl s6 sh sl dh dl pr fr load ex E PI.zero (ofN E)
 | frag (h : E = 0) (hf : fr = true) : Lk si st tl s6 sh sl dh dl pr fr load ex E PI.zero 4
 | exp (h : E = 0) (hf : fr = false) (ht : decide ((tl : Int) ≤ ex) = true) : Lk si st tl s6 sh sl dh dl pr fr load ex E PI.zero 5
 | go (h : E = 0) (hf : fr = false) (ht : decide ((tl : Int) ≤ ex) = false) (p : PI) (why : Int) (c : Carries si st tl s6 sh sl dh dl pr load p why) : Lk si st tl s6 sh sl dh dl pr fr load ex E p why
theorem lk_any (si st : Bool) (tl : Nat) (s6 : Bool) (sh sl dh dl pr : Nat) (fr : Bool) (load : List UInt8) (ex : Int) (E : Int) (hl : load.length ≤ 2000000) : ∃ p why, Lk si st tl s6 sh sl dh dl pr fr load ex E p why := by
 by_cases h : E = 0
 case neg => exact ⟨_, _, .err h⟩
 cases fr with
 | true => exact ⟨_, _, .frag h rfl⟩
 | false =>
  cases ht : decide ((tl : Int) ≤ ex) with
  | true => exact ⟨_, _, .exp h rfl ht⟩
  | false =>
   obtain ⟨p, why, c⟩ := carries_any si st tl s6 sh sl dh dl pr load hl
   exact ⟨p, why, .go h rfl ht p why c⟩
theorem RetPI.zero_ {w w' : World} {why : Int} (hb : Below w.heap.size w w') : RetPI w PI.zero why (.returned (.tuple #[.agg (inPk (fhC false false 0 false 0 0 false 0 0 0 0 0) (tcC 0 0 0 0 0 0 0 0 none 0 0 none 0 0) (dgX 0 0 0 none 0 0) (msgC 0 0 0 0 none 0 0)).toArray, .int .i64 why])) w' := RetPI.mk (p := PI.zero) Rb.nil_ Rb.nil_ Rb.nil_ Rb.nil_ noRow noRow noRow noRow hb
set_option maxHeartbeats 4000000 in
set_option maxRecDepth 100000 in
theorem look_all (A : Option Addr) (n c : Nat) (si st : Bool) (tl : Nat) (s6 : Bool) (sh sl dh dl pr : Nat) (fr : Bool) (load : List UInt8) (ex E : Int) (w : World) (p : PI) (why : Int) (L : Lk si st tl s6 sh sl dh dl pr fr load ex E p why) (hpr : pr < 256) (htl : tl < 256) (hll : load.length ≤ 65535) (k1 : sh < 18446744073709551616) (k2 : sl < 18446744073709551616) (k3 : dh < 18446744073709551616) (k4 : dl < 18446744073709551616)
  (HO : ∀ w', Below w.heap.size w w' → Calls Tryz.prog 50 #[.slice A n c] w' (OpR w' (fhC si st tl s6 sh sl s6 dh dl 0 0 pr) fr load E)) : Calls Tryz.prog 29 #[.slice A n c, .int .i64 ex] w (RetPI w p why) := by
 have wt : IntKind.i64.wrap (tl : Int) = (tl : Int) := IntWalk.i64_in _ (by omega)
 by_cases hE : E = 0
 case neg =>
  cases L with
  | frag h _ => exact absurd h hE
  | exp h _ _ => exact absurd h hE
  | go h _ _ _ _ _ => exact absurd h hE
  | err _ =>
  have hE1 : (E != 0) = true := by rw [bne_iff_ne]; exact hE
  unfold OpR at HO
  simp only [if_neg hE] at HO
  replace HO := Lib.hid HO
  obtain ⟨di_, i1, i2⟩ := rowIn
  obtain ⟨dh_, u1, u2⟩ := rowHd
  have b3 : Bk (w.alloc (.cells #[.bool false, .bool false, .int .u8 0, .bool false, .int .u64 0, .int .u64 0, .bool false, .int .u64 0, .int .u64 0, .int .u16 0, .int .u16 0, .int .u8 0, .int .u16 0, .int .u16 0, .int .u32 0, .int .u32 0, .int .u8 0, .int .u16 0, .int .u16 0, .int .u16 0, .slice none 0 0, .slice none 0 0, .int .u16 0, .int .u16 0, .int .u16 0, .slice none 0 0, .int .u8 0, .int .u8 0, .int .u16 0, .int .u32 0, .slice none 0 0] 55)) w.heap.size 55 (inPk (fhC false false 0 false 0 0 false 0 0 0 0 0) (tcC 0 0 0 0 0 0 0 0 none 0 0 none 0 0) (dgX 0 0 0 none 0 0) (msgC 0 0 0 0 none 0 0)) := Bk.new w 55 #[.bool false, .bool false, .int .u8 0, .bool false, .int .u64 0, .int .u64 0, .bool false, .int .u64 0, .int .u64 0, .int .u16 0, .int .u16 0, .int .u8 0, .int .u16 0, .int .u16 0, .int .u32 0, .int .u32 0, .int .u8 0, .int .u16 0, .int .u16 0, .int .u16 0, .slice none 0 0, .slice none 0 0, .int .u16 0, .int .u16 0, .int .u16 0, .slice none 0 0, .int .u8 0, .int .u8 0, .int .u16 0, .int .u32 0, .slice none 0 0]
  have be : Below w.heap.size w (w.alloc (.cells #[.bool false, .bool false, .int .u8 0, .bool false, .int .u64 0, .int .u64 0, .bool false, .int .u64 0, .int .u64 0, .int .u16 0, .int .u16 0, .int .u8 0, .int .u16 0, .int .u16 0, .int .u32 0, .int .u32 0, .int .u8 0, .int .u16 0, .int .u16 0, .int .u16 0, .slice none 0 0, .slice none 0 0, .int .u16 0, .int .u16 0, .int .u16 0, .slice none 0 0, .int .u8 0, .int .u8 0, .int .u16 0, .int .u32 0, .slice none 0 0] 55)) := Below.allocS (Below.refl _ _) _
  have zV : w.heap.size + 1 ≤ (w.alloc (.cells #[.bool false, .bool false, .int .u8 0, .bool false, .int .u64 0, .int .u64 0, .bool false, .int .u64 0, .int .u64 0, .int .u16 0, .int .u16 0, .int .u8 0, .int .u16 0, .int .u16 0, .int .u32 0, .int .u32 0, .int .u8 0, .int .u16 0, .int .u16 0, .int .u16 0, .slice none 0 0, .slice none 0 0, .int .u16 0, .int .u16 0, .int .u16 0, .slice none 0 0, .int .u8 0, .int .u8 0, .int .u16 0, .int .u32 0, .slice none 0 0] 55)).heap.size := by simp
  go_enter Tryz.func29, Tryz.ntmps29
  go_upto_region 1 with (fail)
  generalize w.alloc (.cells #[.bool false, .bool false, .int .u8 0, .bool false, .int .u64 0, .int .u64 0, .bool false, .int .u64 0, .int .u64 0, .int .u16 0, .int .u16 0, .int .u8 0, .int .u16 0, .int .u16 0, .int .u32 0, .int .u32 0, .int .u8 0, .int .u16 0, .int .u16 0, .int .u16 0, .slice none 0 0, .slice none 0 0, .int .u16 0, .int .u16 0, .int .u16 0, .slice none 0 0, .int .u8 0, .int .u8 0, .int .u16 0, .int .u32 0, .slice none 0 0] 55) = V at *
  go_wp2_with fail
  refine (HO.out _ be).mono ?_
  rintro e w1 ⟨Ar, nr, kr, bs1, d1, rfl, rfl, hl, hf_⟩
  go_upto_region 2 with (refine at_op (.store 111 (.tmp 6) (.tmp 13)) rfl ?_; refine wpList_stA (t := 111) 111 (.tmp 6) (.tmp 13) rfl rfl (hdC (fhC false false 0 false 0 0 false 0 0 0 0 0) (tcC 0 0 0 0 0 0 0 0 none 0 0 none 0 0) (dgX 0 0 0 none 0 0) (msgC 0 0 0 0 none 0 0) false Ar nr kr) (hdC (fhC false false 0 false 0 0 false 0 0 0 0 0) (tcC 0 0 0 0 0 0 0 0 none 0 0 none 0 0) (dgX 0 0 0 none 0 0) (msgC 0 0 0 0 none 0 0) false none 0 0) rfl (hdC_one (fhC_one _ _ _ _ _ _ _ _ _ _ _ _ ) (tcC_one _ _ _ _ _ _ _ _ _ _ _ _ _ _ ) (dgX_one _ _ _ _ _ _) (msgC_one _ _ _ _ _ _ _) _ _ _ _) rfl rfl ?_ (szHD_ (by rfl)) ?_; (· refine Bk.newK _ _ _ ?_ rfl; simp [size_plus]); intro W8 hX gr8)
  have z0 := be.size
  have b8 := below_grown (Below.allocS (below_plus V bs1 d1) _) gr8 (by omega)
  replace be := be.trans (b8.mono z0)
  replace b3 := b3.later b8
  replace hl := hl.later (below_grown (Below.allocS (Below.refl _ _) _) gr8 (by simp [size_plus]))
  have zx : w.heap.size < V.heap.size + bs1.length := by omega
  have nl : ∀ a, Ar = some a → V.heap.size ≤ a.block := hf_
  clear b8 gr8
  generalize V.heap.size + bs1.length = gx at *
  go_upto_region 3 with (fail)
  refine wp_region_lit ?_
  iterate 2 (refine wpList_plain rfl (fun K hK => ?_); go_simp; with_reducible refine hK _ _ ?_; clear hK K)
  refine wpList_plain rfl (fun K hK => ?_)
  go_simp
  refine (ofP _ _).mono ?_
  rintro e w1 ⟨rfl, rfl⟩
  with_reducible refine hK _ _ ?_
  clear hK K
  refine wpList_stA 55 (.tmp 4) (.tmp 17) rfl rfl (inPk (fhC false false 0 false 0 0 false 0 0 0 0 0) (tcC 0 0 0 0 0 0 0 0 none 0 0 none 0 0) (dgX 0 0 0 none 0 0) (msgC 0 0 0 0 none 0 0)) (inPk (fhC false false 0 false 0 0 false 0 0 0 0 0) (tcC 0 0 0 0 0 0 0 0 none 0 0 none 0 0) (dgX 0 0 0 none 0 0) (msgC 0 0 0 0 none 0 0)) rfl (inPk_one (fhC_one _ _ _ _ _ _ _ _ _ _ _ _ ) (tcC_one _ _ _ _ _ _ _ _ _ _ _ _ _ _ ) (dgX_one _ _ _ _ _ _) (msgC_one _ _ _ _ _ _ _)) rfl rfl (b3) (szIN_ (by rfl)) ?_
  intro W9 h9 g9
  simp only [Act.put, qsT, qsZ, qsS]
  go_wp2
  refine bodyPost_agg2 Tryz.results29 rfl rfl h9.range i1 i2 (szIN_ (by rfl)) rfl ?_
  exact RetPI.zero_ (below_grown be g9 (by omega))
 subst hE
 unfold OpR at HO
 simp only [if_true] at HO
 replace HO := Lib.hid HO
 obtain ⟨di_, i1, i2⟩ := rowIn
 obtain ⟨dh_, u1, u2⟩ := rowHd
 have b3 : Bk (w.alloc (.cells #[.bool false, .bool false, .int .u8 0, .bool false, .int .u64 0, .int .u64 0, .bool false, .int .u64 0, .int .u64 0, .int .u16 0, .int .u16 0, .int .u8 0, .int .u16 0, .int .u16 0, .int .u32 0, .int .u32 0, .int .u8 0, .int .u16 0, .int .u16 0, .int .u16 0, .slice none 0 0, .slice none 0 0, .int .u16 0, .int .u16 0, .int .u16 0, .slice none 0 0, .int .u8 0, .int .u8 0, .int .u16 0, .int .u32 0, .slice none 0 0] 55)) w.heap.size 55 (inPk (fhC false false 0 false 0 0 false 0 0 0 0 0) (tcC 0 0 0 0 0 0 0 0 none 0 0 none 0 0) (dgX 0 0 0 none 0 0) (msgC 0 0 0 0 none 0 0)) := Bk.new w 55 #[.bool false, .bool false, .int .u8 0, .bool false, .int .u64 0, .int .u64 0, .bool false, .int .u64 0, .int .u64 0, .int .u16 0, .int .u16 0, .int .u8 0, .int .u16 0, .int .u16 0, .int .u32 0, .int .u32 0, .int .u8 0, .int .u16 0, .int .u16 0, .int .u16 0, .slice none 0 0, .slice none 0 0, .int .u16 0, .int .u16 0, .int .u16 0, .slice none 0 0, .int .u8 0, .int .u8 0, .int .u16 0, .int .u32 0, .slice none 0 0]
 have be : Below w.heap.size w (w.alloc (.cells #[.bool false, .bool false, .int .u8 0, .bool false, .int .u64 0, .int .u64 0, .bool false, .int .u64 0, .int .u64 0, .int .u16 0, .int .u16 0, .int .u8 0, .int .u16 0, .int .u16 0, .int .u32 0, .int .u32 0, .int .u8 0, .int .u16 0, .int .u16 0, .int .u16 0, .slice none 0 0, .slice none 0 0, .int .u16 0, .int .u16 0, .int .u16 0, .slice none 0 0, .int .u8 0, .int .u8 0, .int .u16 0, .int .u32 0, .slice none 0 0] 55)) := Below.allocS (Below.refl _ _) _
 have zV : w.heap.size + 1 ≤ (w.alloc (.cells #[.bool false, .bool false, .int .u8 0, .bool false, .int .u64 0, .int .u64 0, .bool false, .int .u64 0, .int .u64 0, .int .u16 0, .int .u16 0, .int .u8 0, .int .u16 0, .int .u16 0, .int .u32 0, .int .u32 0, .int .u8 0, .int .u16 0, .int .u16 0, .int .u16 0, .slice none 0 0, .slice none 0 0, .int .u16 0, .int .u16 0, .int .u16 0, .slice none 0 0, .int .u8 0, .int .u8 0, .int .u16 0, .int .u32 0, .slice none 0 0] 55)).heap.size := by simp
 go_enter Tryz.func29, Tryz.ntmps29
 go_upto_region 1 with (fail)
 generalize w.alloc (.cells #[.bool false, .bool false, .int .u8 0, .bool false, .int .u64 0, .int .u64 0, .bool false, .int .u64 0, .int .u64 0, .int .u16 0, .int .u16 0, .int .u8 0, .int .u16 0, .int .u16 0, .int .u32 0, .int .u32 0, .int .u8 0, .int .u16 0, .int .u16 0, .int .u16 0, .slice none 0 0, .slice none 0 0, .int .u16 0, .int .u16 0, .int .u16 0, .slice none 0 0, .int .u8 0, .int .u8 0, .int .u16 0, .int .u32 0, .slice none 0 0] 55) = V at *
 go_wp2_with fail
 refine (HO.out _ be).mono ?_
 rintro e w1 ⟨Ar, nr, kr, bs1, d1, rfl, rfl, hl, hf_⟩
 go_upto_region 2 with (refine at_op (.store 111 (.tmp 6) (.tmp 13)) rfl ?_; refine wpList_stA (t := 111) 111 (.tmp 6) (.tmp 13) rfl rfl (hdC (fhC si st tl s6 sh sl s6 dh dl 0 0 pr) (tcC 0 0 0 0 0 0 0 0 none 0 0 none 0 0) (dgX 0 0 0 none 0 0) (msgC 0 0 0 0 none 0 0) fr Ar nr kr) (hdC (fhC false false 0 false 0 0 false 0 0 0 0 0) (tcC 0 0 0 0 0 0 0 0 none 0 0 none 0 0) (dgX 0 0 0 none 0 0) (msgC 0 0 0 0 none 0 0) false none 0 0) rfl (hdC_one (fhC_one _ _ _ _ _ _ _ _ _ _ _ _ ) (tcC_one _ _ _ _ _ _ _ _ _ _ _ _ _ _ ) (dgX_one _ _ _ _ _ _) (msgC_one _ _ _ _ _ _ _) _ _ _ _) rfl rfl ?_ (szHD_ (by rfl)) ?_; (· refine Bk.newK _ _ _ ?_ rfl; simp [size_plus]); intro W8 hX gr8)
 have z0 := be.size
 have b8 := below_grown (Below.allocS (below_plus V bs1 d1) _) gr8 (by omega)
 replace be := be.trans (b8.mono z0)
 replace b3 := b3.later b8
 replace hl := hl.later (below_grown (Below.allocS (Below.refl _ _) _) gr8 (by simp [size_plus]))
 have zx : w.heap.size < V.heap.size + bs1.length := by omega
 have nl : ∀ a, Ar = some a → V.heap.size ≤ a.block := hf_
 clear b8 gr8
 generalize V.heap.size + bs1.length = gx at *
 cases L with
 | err h => exact absurd rfl h
 | frag _ hf =>
  subst hf
  go_upto_region 4 with (fail)
  refine wp_region_lit ?_
  refine wpList_plain rfl (fun K hK => ?_); go_simp; with_reducible refine hK _ _ ?_; clear hK K
  refine wpList_ld1 (t := 111) (cs := hdC (fhC si st tl s6 sh sl s6 dh dl 0 0 pr) (tcC 0 0 0 0 0 0 0 0 none 0 0 none 0 0) (dgX 0 0 0 none 0 0) (msgC 0 0 0 0 none 0 0) true Ar nr kr) 4 (.tmp 20) rfl (by rfl) rfl (hX) rfl Tryz.underlying4 rfl ?_
  simp only [Act.put, qsT, qsZ, qsS]
  go_upto_region 5 with (fail)
  refine wp_region_lit ?_
  refine wpList_plain rfl (fun K hK => ?_); go_simp; with_reducible refine hK _ _ ?_; clear hK K
  refine wpList_stA 55 (.tmp 4) (.tmp 22) rfl rfl (inPk (fhC false false 0 false 0 0 false 0 0 0 0 0) (tcC 0 0 0 0 0 0 0 0 none 0 0 none 0 0) (dgX 0 0 0 none 0 0) (msgC 0 0 0 0 none 0 0)) (inPk (fhC false false 0 false 0 0 false 0 0 0 0 0) (tcC 0 0 0 0 0 0 0 0 none 0 0 none 0 0) (dgX 0 0 0 none 0 0) (msgC 0 0 0 0 none 0 0)) rfl (inPk_one (fhC_one _ _ _ _ _ _ _ _ _ _ _ _ ) (tcC_one _ _ _ _ _ _ _ _ _ _ _ _ _ _ ) (dgX_one _ _ _ _ _ _) (msgC_one _ _ _ _ _ _ _)) rfl rfl (b3) (szIN_ (by rfl)) ?_
  intro W9 h9 g9
  simp only [Act.put, qsT, qsZ, qsS]
  go_wp2
  refine bodyPost_agg2 Tryz.results29 rfl rfl h9.range i1 i2 (szIN_ (by rfl)) rfl ?_
  exact RetPI.zero_ (below_grown be g9 (by omega))
 | exp _ hf ht =>
  subst hf
  go_upto_region 4 with (fail)
  refine wp_region_lit ?_
  refine wpList_plain rfl (fun K hK => ?_); go_simp; with_reducible refine hK _ _ ?_; clear hK K
  refine wpList_ld1 (t := 111) (cs := hdC (fhC si st tl s6 sh sl s6 dh dl 0 0 pr) (tcC 0 0 0 0 0 0 0 0 none 0 0 none 0 0) (dgX 0 0 0 none 0 0) (msgC 0 0 0 0 none 0 0) false Ar nr kr) 4 (.tmp 20) rfl (by rfl) rfl (hX) rfl Tryz.underlying4 rfl ?_
  simp only [Act.put, qsT, qsZ, qsS]
  go_upto_region 6 with (fail)
  refine wp_region_lit ?_
  iterate 2 (refine wpList_plain rfl (fun K hK => ?_); go_simp; with_reducible refine hK _ _ ?_; clear hK K)
  refine wpList_ld1 (t := 111) (cs := hdC (fhC si st tl s6 sh sl s6 dh dl 0 0 pr) (tcC 0 0 0 0 0 0 0 0 none 0 0 none 0 0) (dgX 0 0 0 none 0 0) (msgC 0 0 0 0 none 0 0) false Ar nr kr) 5 (.tmp 24) rfl (by rfl) rfl (hX) rfl Tryz.underlying5 rfl ?_
  iterate 3 (refine wpList_plain rfl (fun K hK => ?_); go_simp; with_reducible refine hK _ _ ?_; clear hK K)
  go_upto_region 7 with (fail)
  refine wp_region_lit ?_
  refine wpList_plain rfl (fun K hK => ?_); go_simp; with_reducible refine hK _ _ ?_; clear hK K
  refine wpList_stA 55 (.tmp 4) (.tmp 29) rfl rfl (inPk (fhC false false 0 false 0 0 false 0 0 0 0 0) (tcC 0 0 0 0 0 0 0 0 none 0 0 none 0 0) (dgX 0 0 0 none 0 0) (msgC 0 0 0 0 none 0 0)) (inPk (fhC false false 0 false 0 0 false 0 0 0 0 0) (tcC 0 0 0 0 0 0 0 0 none 0 0 none 0 0) (dgX 0 0 0 none 0 0) (msgC 0 0 0 0 none 0 0)) rfl (inPk_one (fhC_one _ _ _ _ _ _ _ _ _ _ _ _ ) (tcC_one _ _ _ _ _ _ _ _ _ _ _ _ _ _ ) (dgX_one _ _ _ _ _ _) (msgC_one _ _ _ _ _ _ _)) rfl rfl (b3) (szIN_ (by rfl)) ?_
  intro W9 h9 g9
  simp only [Act.put, qsT, qsZ, qsS]
  go_wp2
  refine bodyPost_agg2 Tryz.results29 rfl rfl h9.range i1 i2 (szIN_ (by rfl)) rfl ?_
  exact RetPI.zero_ (below_grown be g9 (by omega))
 | go _ hf ht _ _ c =>
  subst hf
  go_upto_region 4 with (fail)
  refine wp_region_lit ?_
  refine wpList_plain rfl (fun K hK => ?_); go_simp; with_reducible refine hK _ _ ?_; clear hK K
  refine wpList_ld1 (t := 111) (cs := hdC (fhC si st tl s6 sh sl s6 dh dl 0 0 pr) (tcC 0 0 0 0 0 0 0 0 none 0 0 none 0 0) (dgX 0 0 0 none 0 0) (msgC 0 0 0 0 none 0 0) false Ar nr kr) 4 (.tmp 20) rfl (by rfl) rfl (hX) rfl Tryz.underlying4 rfl ?_
  simp only [Act.put, qsT, qsZ, qsS]
  go_upto_region 6 with (fail)
  refine wp_region_lit ?_
  iterate 2 (refine wpList_plain rfl (fun K hK => ?_); go_simp; with_reducible refine hK _ _ ?_; clear hK K)
  refine wpList_ld1 (t := 111) (cs := hdC (fhC si st tl s6 sh sl s6 dh dl 0 0 pr) (tcC 0 0 0 0 0 0 0 0 none 0 0 none 0 0) (dgX 0 0 0 none 0 0) (msgC 0 0 0 0 none 0 0) false Ar nr kr) 5 (.tmp 24) rfl (by rfl) rfl (hX) rfl Tryz.underlying5 rfl ?_
  iterate 3 (refine wpList_plain rfl (fun K hK => ?_); go_simp; with_reducible refine hK _ _ ?_; clear hK K)
  go_upto_region 9 with (fail)
  refine wp_region_lit ?_
  iterate 3 (refine wpList_plain rfl (fun K hK => ?_); go_simp; with_reducible refine hK _ _ ?_; clear hK K)
  refine wpList_ld1 (t := 111) (cs := hdC (fhC si st tl s6 sh sl s6 dh dl 0 0 pr) (tcC 0 0 0 0 0 0 0 0 none 0 0 none 0 0) (dgX 0 0 0 none 0 0) (msgC 0 0 0 0 none 0 0) false Ar nr kr) 5 (.tmp 32) rfl (by rfl) rfl (hX) rfl Tryz.underlying5 rfl ?_
  simp only [Act.put, qsT, qsZ, qsS]
  have nR : ¬ (fun b => b = gx) w.heap.size := fun h => by have h' : w.heap.size = gx := h; omega
  have hnr : nr ≤ 65535 := by rw [← hl.1]; exact hll
  rcases c with ⟨x0, x1, x2, x3, x4, x5, x6, x7, o1, o2, E2, any, hp, why, hw, h0⟩ | ⟨x0, x1, x2, x3, x4, x5, x6, x7, o1, o2, E2, any, hp, hw⟩ | ⟨x0, x1, x2, o1, E2, any, hp, why, hw, h0⟩ | ⟨x0, x1, x2, o1, E2, any, hp, hw⟩ | ⟨x0, x1, x2, x3, o1, ok, any, hp, why, hw, h0⟩ | ⟨x0, x1, x2, x3, o1, ok, any, hp, hw⟩ | hp
  ·have HT0 := takeTCP gx Ar nr kr si st tl s6 sh sl dh dl pr false Ar nr kr load W8 x0 x1 x2 x3 x4 x5 x6 x7 o1 o2 E2 any k1 k2 k3 k4 hX hl hnr
   rw [hw] at HT0
   have HT := Lib.hid HT0
   clear HT0 any hw
   have t6 : ((pr : Int) == 6) = true := by rw [beq_iff_eq]; omega
   clear hp
   go_upto_region 10 with (fail)
   go_upto_region 11 with (fail)
   refine wp_region_lit ?_
   iterate 2 (refine wpList_plain rfl (fun K hK => ?_); go_simp; with_reducible refine hK _ _ ?_; clear hK K)
   refine wpList_ld1 (t := 111) (cs := hdC (fhC si st tl s6 sh sl s6 dh dl 0 0 pr) (tcC 0 0 0 0 0 0 0 0 none 0 0 none 0 0) (dgX 0 0 0 none 0 0) (msgC 0 0 0 0 none 0 0) false Ar nr kr) 37 (.tmp 38) rfl (by rfl) rfl (hX) rfl Tryz.underlying37 rfl ?_
   refine wpList_plain rfl (fun K hK => ?_)
   go_simp
   refine (HT.out).mono ?_
   rintro e w1 ⟨rfl, hC, hT⟩
   with_reducible refine hK _ _ ?_
   clear hK K
   go_upto_region 18 with (fail)
   refine wp_region_lit ?_
   iterate 2 (refine wpList_plain rfl (fun K hK => ?_); go_simp; with_reducible refine hK _ _ ?_; clear hK K)
   refine wpList_stA 55 (.tmp 4) (.tmp 70) rfl rfl (inPk (fhC false false 0 false 0 0 false 0 0 0 0 0) (tcC 0 0 0 0 0 0 0 0 none 0 0 none 0 0) (dgX 0 0 0 none 0 0) (msgC 0 0 0 0 none 0 0)) (inPk (fhC false false 0 false 0 0 false 0 0 0 0 0) (tcC 0 0 0 0 0 0 0 0 none 0 0 none 0 0) (dgX 0 0 0 none 0 0) (msgC 0 0 0 0 none 0 0)) rfl (inPk_one (fhC_one _ _ _ _ _ _ _ _ _ _ _ _ ) (tcC_one _ _ _ _ _ _ _ _ _ _ _ _ _ _ ) (dgX_one _ _ _ _ _ _) (msgC_one _ _ _ _ _ _ _)) rfl rfl (b3.chg hC nR) (szIN_ (by rfl)) ?_
   intro W9 h9 g9
   simp only [Act.put, qsT, qsZ, qsS]
   go_wp2
   refine bodyPost_agg2 Tryz.results29 rfl rfl h9.range i1 i2 (szIN_ (by rfl)) rfl ?_
   exact RetPI.zero_ (below_grown (be.trans (hC.below (B := w.heap.size) (fun b hb => by have hb2 : b = gx := hb; omega) be.size)) g9 (by omega))
  ·have HT0 := takeTCP gx Ar nr kr si st tl s6 sh sl dh dl pr false Ar nr kr load W8 x0 x1 x2 x3 x4 x5 x6 x7 o1 o2 E2 any k1 k2 k3 k4 hX hl hnr
   rw [hw] at HT0
   have HT := Lib.hid HT0
   clear HT0 any hw
   have t6 : ((pr : Int) == 6) = true := by rw [beq_iff_eq]; omega
   clear hp
   go_upto_region 10 with (fail)
   go_upto_region 11 with (fail)
   refine wp_region_lit ?_
   iterate 2 (refine wpList_plain rfl (fun K hK => ?_); go_simp; with_reducible refine hK _ _ ?_; clear hK K)
   refine wpList_ld1 (t := 111) (cs := hdC (fhC si st tl s6 sh sl s6 dh dl 0 0 pr) (tcC 0 0 0 0 0 0 0 0 none 0 0 none 0 0) (dgX 0 0 0 none 0 0) (msgC 0 0 0 0 none 0 0) false Ar nr kr) 37 (.tmp 38) rfl (by rfl) rfl (hX) rfl Tryz.underlying37 rfl ?_
   refine wpList_plain rfl (fun K hK => ?_)
   go_simp
   refine (HT.out).mono ?_
   rintro e w1 ⟨rfl, hC, hT⟩
   with_reducible refine hK _ _ ?_
   clear hK K
   obtain ⟨A1, n1, c1, A2, n2, c2, A3, n3, c3, A4, n4, c4, hX2, r1, r2, r3, r4, f1, f2, f3, f4⟩ := hT rfl
   have z8 : w.heap.size < W8.heap.size := by have := hX.lt; omega
   have be2 := be.trans (hC.below (B := w.heap.size) (fun b hb => by have hb2 : b = gx := hb; omega) be.size)
   replace b3 := b3.chg hC nR
   clear hC hT hX hl nl
   go_upto_region 19 with (fail)
   refine wp_region_lit ?_
   refine wpList_plain rfl (fun K hK => ?_); go_simp; with_reducible refine hK _ _ ?_; clear hK K
   refine wpList_ldA (t := 111) (cs := ({ si := si, st := st, tl := tl, s6 := s6, sh := sh, sl := sl, d6 := s6, dh := dh, dl := dl, sp := x0, dp := x1, pr := pr, x0 := x0, x1 := x1, x2 := x2, x3 := x3, x4 := x4, x5 := x5, x6 := x6, x7 := x7, o1 := o1, o2 := o2 } : PI).cs A1 n1 c1 A2 n2 c2 A3 n3 c3 A4 n4 c4 ++ [.bool false, .slice Ar nr kr]) 55 (.tmp 72) rfl rfl (({ si := si, st := st, tl := tl, s6 := s6, sh := sh, sl := sl, d6 := s6, dh := dh, dl := dl, sp := x0, dp := x1, pr := pr, x0 := x0, x1 := x1, x2 := x2, x3 := x3, x4 := x4, x5 := x5, x6 := x6, x7 := x7, o1 := o1, o2 := o2 } : PI).cs A1 n1 c1 A2 n2 c2 A3 n3 c3 A4 n4 c4) rfl hX2 rfl i1 i2 (szIN_ (by rfl)) ?_
   simp only [Act.put, qsT, qsZ, qsS]
   refine wpList_stA 55 (.tmp 4) (.tmp 73) rfl rfl (({ si := si, st := st, tl := tl, s6 := s6, sh := sh, sl := sl, d6 := s6, dh := dh, dl := dl, sp := x0, dp := x1, pr := pr, x0 := x0, x1 := x1, x2 := x2, x3 := x3, x4 := x4, x5 := x5, x6 := x6, x7 := x7, o1 := o1, o2 := o2 } : PI).cs A1 n1 c1 A2 n2 c2 A3 n3 c3 A4 n4 c4) (inPk (fhC false false 0 false 0 0 false 0 0 0 0 0) (tcC 0 0 0 0 0 0 0 0 none 0 0 none 0 0) (dgX 0 0 0 none 0 0) (msgC 0 0 0 0 none 0 0)) rfl (inPk_one (fhC_one _ _ _ _ _ _ _ _ _ _ _ _ ) (tcC_one _ _ _ _ _ _ _ _ _ _ _ _ _ _ ) (dgX_one _ _ _ _ _ _) (msgC_one _ _ _ _ _ _ _)) rfl rfl b3 (szIN_ (by rfl)) ?_
   intro W9 h9 g9
   simp only [Act.put, qsT, qsZ, qsS]
   go_wp2
   refine bodyPost_agg2 Tryz.results29 rfl rfl h9.range i1 i2 (szIN_ (by rfl)) rfl ?_
   have hCg : Chg (fun b => b = w.heap.size) _ W9 := Chg.one g9 rfl
   exact RetPI.mk (p := { si := si, st := st, tl := tl, s6 := s6, sh := sh, sl := sl, d6 := s6, dh := dh, dl := dl, sp := x0, dp := x1, pr := pr, x0 := x0, x1 := x1, x2 := x2, x3 := x3, x4 := x4, x5 := x5, x6 := x6, x7 := x7, o1 := o1, o2 := o2 }) (r1.chg hCg (fun a ha hb => by have h' : a.block = w.heap.size := hb; have := f1 a ha; omega)) (r2.chg hCg (fun a ha hb => by have h' : a.block = w.heap.size := hb; have := f2 a ha; omega)) (r3.chg hCg (fun a ha hb => by have h' : a.block = w.heap.size := hb; have := f3 a ha; omega)) (r4.chg hCg (fun a ha hb => by have h' : a.block = w.heap.size := hb; have := f4 a ha; omega)) (fun a ha => by have := f1 a ha; omega) (fun a ha => by have := f2 a ha; omega) (fun a ha => by have := f3 a ha; omega) (fun a ha => by have := f4 a ha; omega) (below_grown be2 g9 (by omega))
  ·have HT0 := takeUDP gx Ar nr kr si st tl s6 sh sl dh dl pr false Ar nr kr load W8 x0 x1 x2 o1 E2 any k1 k2 k3 k4 hX hl hnr
   rw [hw] at HT0
   have HT := Lib.hid HT0
   clear HT0 any hw
   have t6 : ((pr : Int) == 6) = false := by rw [beq_eq_false_iff_ne]; omega
   have t17 : ((pr : Int) == 17) = true := by rw [beq_iff_eq]; omega
   clear hp
   go_upto_region 10 with (fail)
   go_upto_region 12 with (fail)
   go_upto_region 13 with (fail)
   refine wp_region_lit ?_
   iterate 2 (refine wpList_plain rfl (fun K hK => ?_); go_simp; with_reducible refine hK _ _ ?_; clear hK K)
   refine wpList_ld1 (t := 111) (cs := hdC (fhC si st tl s6 sh sl s6 dh dl 0 0 pr) (tcC 0 0 0 0 0 0 0 0 none 0 0 none 0 0) (dgX 0 0 0 none 0 0) (msgC 0 0 0 0 none 0 0) false Ar nr kr) 37 (.tmp 45) rfl (by rfl) rfl (hX) rfl Tryz.underlying37 rfl ?_
   refine wpList_plain rfl (fun K hK => ?_)
   go_simp
   refine (HT.out).mono ?_
   rintro e w1 ⟨rfl, hC, hT⟩
   with_reducible refine hK _ _ ?_
   clear hK K
   go_upto_region 18 with (fail)
   refine wp_region_lit ?_
   iterate 2 (refine wpList_plain rfl (fun K hK => ?_); go_simp; with_reducible refine hK _ _ ?_; clear hK K)
   refine wpList_stA 55 (.tmp 4) (.tmp 70) rfl rfl (inPk (fhC false false 0 false 0 0 false 0 0 0 0 0) (tcC 0 0 0 0 0 0 0 0 none 0 0 none 0 0) (dgX 0 0 0 none 0 0) (msgC 0 0 0 0 none 0 0)) (inPk (fhC false false 0 false 0 0 false 0 0 0 0 0) (tcC 0 0 0 0 0 0 0 0 none 0 0 none 0 0) (dgX 0 0 0 none 0 0) (msgC 0 0 0 0 none 0 0)) rfl (inPk_one (fhC_one _ _ _ _ _ _ _ _ _ _ _ _ ) (tcC_one _ _ _ _ _ _ _ _ _ _ _ _ _ _ ) (dgX_one _ _ _ _ _ _) (msgC_one _ _ _ _ _ _ _)) rfl rfl (b3.chg hC nR) (szIN_ (by rfl)) ?_
   intro W9 h9 g9
   simp only [Act.put, qsT, qsZ, qsS]
   go_wp2
   refine bodyPost_agg2 Tryz.results29 rfl rfl h9.range i1 i2 (szIN_ (by rfl)) rfl ?_
   exact RetPI.zero_ (below_grown (be.trans (hC.below (B := w.heap.size) (fun b hb => by have hb2 : b = gx := hb; omega) be.size)) g9 (by omega))
  ·have HT0 := takeUDP gx Ar nr kr si st tl s6 sh sl dh dl pr false Ar nr kr load W8 x0 x1 x2 o1 E2 any k1 k2 k3 k4 hX hl hnr
   rw [hw] at HT0
   have HT := Lib.hid HT0
   clear HT0 any hw
   have t6 : ((pr : Int) == 6) = false := by rw [beq_eq_false_iff_ne]; omega
   have t17 : ((pr : Int) == 17) = true := by rw [beq_iff_eq]; omega
   clear hp
   go_upto_region 10 with (fail)
   go_upto_region 12 with (fail)
   go_upto_region 13 with (fail)
   refine wp_region_lit ?_
   iterate 2 (refine wpList_plain rfl (fun K hK => ?_); go_simp; with_reducible refine hK _ _ ?_; clear hK K)
   refine wpList_ld1 (t := 111) (cs := hdC (fhC si st tl s6 sh sl s6 dh dl 0 0 pr) (tcC 0 0 0 0 0 0 0 0 none 0 0 none 0 0) (dgX 0 0 0 none 0 0) (msgC 0 0 0 0 none 0 0) false Ar nr kr) 37 (.tmp 45) rfl (by rfl) rfl (hX) rfl Tryz.underlying37 rfl ?_
   refine wpList_plain rfl (fun K hK => ?_)
   go_simp
   refine (HT.out).mono ?_
   rintro e w1 ⟨rfl, hC, hT⟩
   with_reducible refine hK _ _ ?_
   clear hK K
   obtain ⟨A1, n1, c1, A2, n2, c2, A3, n3, c3, A4, n4, c4, hX2, r1, r2, r3, r4, f1, f2, f3, f4⟩ := hT rfl
   have z8 : w.heap.size < W8.heap.size := by have := hX.lt; omega
   have be2 := be.trans (hC.below (B := w.heap.size) (fun b hb => by have hb2 : b = gx := hb; omega) be.size)
   replace b3 := b3.chg hC nR
   clear hC hT hX hl nl
   go_upto_region 19 with (fail)
   refine wp_region_lit ?_
   refine wpList_plain rfl (fun K hK => ?_); go_simp; with_reducible refine hK _ _ ?_; clear hK K
   refine wpList_ldA (t := 111) (cs := ({ si := si, st := st, tl := tl, s6 := s6, sh := sh, sl := sl, d6 := s6, dh := dh, dl := dl, sp := x0, dp := x1, pr := pr, u0 := x0, u1 := x1, u2 := x2, o3 := o1 } : PI).cs A1 n1 c1 A2 n2 c2 A3 n3 c3 A4 n4 c4 ++ [.bool false, .slice Ar nr kr]) 55 (.tmp 72) rfl rfl (({ si := si, st := st, tl := tl, s6 := s6, sh := sh, sl := sl, d6 := s6, dh := dh, dl := dl, sp := x0, dp := x1, pr := pr, u0 := x0, u1 := x1, u2 := x2, o3 := o1 } : PI).cs A1 n1 c1 A2 n2 c2 A3 n3 c3 A4 n4 c4) rfl hX2 rfl i1 i2 (szIN_ (by rfl)) ?_
   simp only [Act.put, qsT, qsZ, qsS]
   refine wpList_stA 55 (.tmp 4) (.tmp 73) rfl rfl (({ si := si, st := st, tl := tl, s6 := s6, sh := sh, sl := sl, d6 := s6, dh := dh, dl := dl, sp := x0, dp := x1, pr := pr, u0 := x0, u1 := x1, u2 := x2, o3 := o1 } : PI).cs A1 n1 c1 A2 n2 c2 A3 n3 c3 A4 n4 c4) (inPk (fhC false false 0 false 0 0 false 0 0 0 0 0) (tcC 0 0 0 0 0 0 0 0 none 0 0 none 0 0) (dgX 0 0 0 none 0 0) (msgC 0 0 0 0 none 0 0)) rfl (inPk_one (fhC_one _ _ _ _ _ _ _ _ _ _ _ _ ) (tcC_one _ _ _ _ _ _ _ _ _ _ _ _ _ _ ) (dgX_one _ _ _ _ _ _) (msgC_one _ _ _ _ _ _ _)) rfl rfl b3 (szIN_ (by rfl)) ?_
   intro W9 h9 g9
   simp only [Act.put, qsT, qsZ, qsS]
   go_wp2
   refine bodyPost_agg2 Tryz.results29 rfl rfl h9.range i1 i2 (szIN_ (by rfl)) rfl ?_
   have hCg : Chg (fun b => b = w.heap.size) _ W9 := Chg.one g9 rfl
   exact RetPI.mk (p := { si := si, st := st, tl := tl, s6 := s6, sh := sh, sl := sl, d6 := s6, dh := dh, dl := dl, sp := x0, dp := x1, pr := pr, u0 := x0, u1 := x1, u2 := x2, o3 := o1 }) (r1.chg hCg (fun a ha hb => by have h' : a.block = w.heap.size := hb; have := f1 a ha; omega)) (r2.chg hCg (fun a ha hb => by have h' : a.block = w.heap.size := hb; have := f2 a ha; omega)) (r3.chg hCg (fun a ha hb => by have h' : a.block = w.heap.size := hb; have := f3 a ha; omega)) (r4.chg hCg (fun a ha hb => by have h' : a.block = w.heap.size := hb; have := f4 a ha; omega)) (fun a ha => by have := f1 a ha; omega) (fun a ha => by have := f2 a ha; omega) (fun a ha => by have := f3 a ha; omega) (fun a ha => by have := f4 a ha; omega) (below_grown be2 g9 (by omega))
  ·rcases hp with ⟨hp, hsi⟩ | ⟨hp, hsi⟩
   ·subst hsi
    have HT0 := takeICMP gx Ar nr kr false st tl s6 sh sl dh dl pr false Ar nr kr load W8 x0 x1 x2 x3 o1 ok any k1 k2 k3 k4 hX hl hnr
    rw [hw] at HT0
    have HT := Lib.hid HT0
    clear HT0 any hw
    have t6 : ((pr : Int) == 6) = false := by rw [beq_eq_false_iff_ne]; omega
    have t17 : ((pr : Int) == 17) = false := by rw [beq_eq_false_iff_ne]; omega
    have t1 : ((pr : Int) == 1) = true := by rw [beq_iff_eq]; omega
    have t58 : ((pr : Int) == 58) = false := by rw [beq_eq_false_iff_ne]; omega
    clear hp
    go_upto_region 10 with (fail)
    go_upto_region 12 with (fail)
    go_upto_region 14 with (fail)
    refine wp_region_lit ?_
    iterate 3 (refine wpList_plain rfl (fun K hK => ?_); go_simp; with_reducible refine hK _ _ ?_; clear hK K)
    iterate 2 (refine wpList_step (fun K hK => ?_); go_simp; with_reducible refine hK _ _ ?_; clear hK K)
    refine wpList_ld1 (t := 111) (cs := hdC (fhC false st tl s6 sh sl s6 dh dl 0 0 pr) (tcC 0 0 0 0 0 0 0 0 none 0 0 none 0 0) (dgX 0 0 0 none 0 0) (msgC 0 0 0 0 none 0 0) false Ar nr kr) 4 (.tmp 53) rfl (by go_simp) rfl (hX) rfl Tryz.underlying4 rfl ?_
    refine wpList_step (fun K hK => ?_); go_simp; with_reducible refine hK _ _ ?_; clear hK K
    refine wpList_plain rfl (fun K hK => ?_); go_simp; with_reducible refine hK _ _ ?_; clear hK K
    go_upto_region 16 with (fail)
    refine wp_region_lit ?_
    iterate 2 (refine wpList_plain rfl (fun K hK => ?_); go_simp; with_reducible refine hK _ _ ?_; clear hK K)
    refine wpList_ld1 (t := 111) (cs := hdC (fhC false st tl s6 sh sl s6 dh dl 0 0 pr) (tcC 0 0 0 0 0 0 0 0 none 0 0 none 0 0) (dgX 0 0 0 none 0 0) (msgC 0 0 0 0 none 0 0) false Ar nr kr) 37 (.tmp 65) rfl (by rfl) rfl (hX) rfl Tryz.underlying37 rfl ?_
    refine wpList_plain rfl (fun K hK => ?_)
    go_simp
    refine (HT.out).mono ?_
    rintro e w1 ⟨rfl, hC, hT⟩
    with_reducible refine hK _ _ ?_
    clear hK K
    go_upto_region 18 with (fail)
    refine wp_region_lit ?_
    iterate 2 (refine wpList_plain rfl (fun K hK => ?_); go_simp; with_reducible refine hK _ _ ?_; clear hK K)
    refine wpList_stA 55 (.tmp 4) (.tmp 70) rfl rfl (inPk (fhC false false 0 false 0 0 false 0 0 0 0 0) (tcC 0 0 0 0 0 0 0 0 none 0 0 none 0 0) (dgX 0 0 0 none 0 0) (msgC 0 0 0 0 none 0 0)) (inPk (fhC false false 0 false 0 0 false 0 0 0 0 0) (tcC 0 0 0 0 0 0 0 0 none 0 0 none 0 0) (dgX 0 0 0 none 0 0) (msgC 0 0 0 0 none 0 0)) rfl (inPk_one (fhC_one _ _ _ _ _ _ _ _ _ _ _ _ ) (tcC_one _ _ _ _ _ _ _ _ _ _ _ _ _ _ ) (dgX_one _ _ _ _ _ _) (msgC_one _ _ _ _ _ _ _)) rfl rfl (b3.chg hC nR) (szIN_ (by rfl)) ?_
    intro W9 h9 g9
    simp only [Act.put, qsT, qsZ, qsS]
    go_wp2
    refine bodyPost_agg2 Tryz.results29 rfl rfl h9.range i1 i2 (szIN_ (by rfl)) rfl ?_
    exact RetPI.zero_ (below_grown (be.trans (hC.below (B := w.heap.size) (fun b hb => by have hb2 : b = gx := hb; omega) be.size)) g9 (by omega))
   ·subst hsi
    have HT0 := takeICMP gx Ar nr kr true st tl s6 sh sl dh dl pr false Ar nr kr load W8 x0 x1 x2 x3 o1 ok any k1 k2 k3 k4 hX hl hnr
    rw [hw] at HT0
    have HT := Lib.hid HT0
    clear HT0 any hw
    have t6 : ((pr : Int) == 6) = false := by rw [beq_eq_false_iff_ne]; omega
    have t17 : ((pr : Int) == 17) = false := by rw [beq_eq_false_iff_ne]; omega
    have t1 : ((pr : Int) == 1) = false := by rw [beq_eq_false_iff_ne]; omega
    have t58 : ((pr : Int) == 58) = true := by rw [beq_iff_eq]; omega
    clear hp
    go_upto_region 10 with (fail)
    go_upto_region 12 with (fail)
    go_upto_region 14 with (fail)
    refine wp_region_lit ?_
    iterate 3 (refine wpList_plain rfl (fun K hK => ?_); go_simp; with_reducible refine hK _ _ ?_; clear hK K)
    iterate 4 ((with_reducible refine wpList_skip ?_ ?_); (· first | (go_simp; done) | (go_simp; intro h; cases h)); simp only [Act.put, qsT, qsZ, qsS])
    refine wpList_plain rfl (fun K hK => ?_); go_simp; with_reducible refine hK _ _ ?_; clear hK K
    go_upto_region 15 with (fail)
    refine wp_region_lit ?_
    iterate 3 (refine wpList_plain rfl (fun K hK => ?_); go_simp; with_reducible refine hK _ _ ?_; clear hK K)
    iterate 2 (refine wpList_step (fun K hK => ?_); go_simp; with_reducible refine hK _ _ ?_; clear hK K)
    refine wpList_ld1 (t := 111) (cs := hdC (fhC true st tl s6 sh sl s6 dh dl 0 0 pr) (tcC 0 0 0 0 0 0 0 0 none 0 0 none 0 0) (dgX 0 0 0 none 0 0) (msgC 0 0 0 0 none 0 0) false Ar nr kr) 4 (.tmp 61) rfl (by go_simp) rfl (hX) rfl Tryz.underlying4 rfl ?_
    refine wpList_plain rfl (fun K hK => ?_); go_simp; with_reducible refine hK _ _ ?_; clear hK K
    go_upto_region 16 with (fail)
    refine wp_region_lit ?_
    iterate 2 (refine wpList_plain rfl (fun K hK => ?_); go_simp; with_reducible refine hK _ _ ?_; clear hK K)
    refine wpList_ld1 (t := 111) (cs := hdC (fhC true st tl s6 sh sl s6 dh dl 0 0 pr) (tcC 0 0 0 0 0 0 0 0 none 0 0 none 0 0) (dgX 0 0 0 none 0 0) (msgC 0 0 0 0 none 0 0) false Ar nr kr) 37 (.tmp 65) rfl (by rfl) rfl (hX) rfl Tryz.underlying37 rfl ?_
    refine wpList_plain rfl (fun K hK => ?_)
    go_simp
    refine (HT.out).mono ?_
    rintro e w1 ⟨rfl, hC, hT⟩
    with_reducible refine hK _ _ ?_
    clear hK K
    go_upto_region 18 with (fail)
    refine wp_region_lit ?_
    iterate 2 (refine wpList_plain rfl (fun K hK => ?_); go_simp; with_reducible refine hK _ _ ?_; clear hK K)
    refine wpList_stA 55 (.tmp 4) (.tmp 70) rfl rfl (inPk (fhC false false 0 false 0 0 false 0 0 0 0 0) (tcC 0 0 0 0 0 0 0 0 none 0 0 none 0 0) (dgX 0 0 0 none 0 0) (msgC 0 0 0 0 none 0 0)) (inPk (fhC false false 0 false 0 0 false 0 0 0 0 0) (tcC 0 0 0 0 0 0 0 0 none 0 0 none 0 0) (dgX 0 0 0 none 0 0) (msgC 0 0 0 0 none 0 0)) rfl (inPk_one (fhC_one _ _ _ _ _ _ _ _ _ _ _ _ ) (tcC_one _ _ _ _ _ _ _ _ _ _ _ _ _ _ ) (dgX_one _ _ _ _ _ _) (msgC_one _ _ _ _ _ _ _)) rfl rfl (b3.chg hC nR) (szIN_ (by rfl)) ?_
    intro W9 h9 g9
    simp only [Act.put, qsT, qsZ, qsS]
    go_wp2
    refine bodyPost_agg2 Tryz.results29 rfl rfl h9.range i1 i2 (szIN_ (by rfl)) rfl ?_
    exact RetPI.zero_ (below_grown (be.trans (hC.below (B := w.heap.size) (fun b hb => by have hb2 : b = gx := hb; omega) be.size)) g9 (by omega))
  ·rcases hp with ⟨hp, hsi⟩ | ⟨hp, hsi⟩
   ·subst hsi
    have HT0 := takeICMP gx Ar nr kr false st tl s6 sh sl dh dl pr false Ar nr kr load W8 x0 x1 x2 x3 o1 ok any k1 k2 k3 k4 hX hl hnr
    rw [hw] at HT0
    have HT := Lib.hid HT0
    clear HT0 any hw
    have t6 : ((pr : Int) == 6) = false := by rw [beq_eq_false_iff_ne]; omega
    have t17 : ((pr : Int) == 17) = false := by rw [beq_eq_false_iff_ne]; omega
    have t1 : ((pr : Int) == 1) = true := by rw [beq_iff_eq]; omega
    have t58 : ((pr : Int) == 58) = false := by rw [beq_eq_false_iff_ne]; omega
    clear hp
    go_upto_region 10 with (fail)
    go_upto_region 12 with (fail)
    go_upto_region 14 with (fail)
    refine wp_region_lit ?_
    iterate 3 (refine wpList_plain rfl (fun K hK => ?_); go_simp; with_reducible refine hK _ _ ?_; clear hK K)
    iterate 2 (refine wpList_step (fun K hK => ?_); go_simp; with_reducible refine hK _ _ ?_; clear hK K)
    refine wpList_ld1 (t := 111) (cs := hdC (fhC false st tl s6 sh sl s6 dh dl 0 0 pr) (tcC 0 0 0 0 0 0 0 0 none 0 0 none 0 0) (dgX 0 0 0 none 0 0) (msgC 0 0 0 0 none 0 0) false Ar nr kr) 4 (.tmp 53) rfl (by go_simp) rfl (hX) rfl Tryz.underlying4 rfl ?_
    refine wpList_step (fun K hK => ?_); go_simp; with_reducible refine hK _ _ ?_; clear hK K
    refine wpList_plain rfl (fun K hK => ?_); go_simp; with_reducible refine hK _ _ ?_; clear hK K
    go_upto_region 16 with (fail)
    refine wp_region_lit ?_
    iterate 2 (refine wpList_plain rfl (fun K hK => ?_); go_simp; with_reducible refine hK _ _ ?_; clear hK K)
    refine wpList_ld1 (t := 111) (cs := hdC (fhC false st tl s6 sh sl s6 dh dl 0 0 pr) (tcC 0 0 0 0 0 0 0 0 none 0 0 none 0 0) (dgX 0 0 0 none 0 0) (msgC 0 0 0 0 none 0 0) false Ar nr kr) 37 (.tmp 65) rfl (by rfl) rfl (hX) rfl Tryz.underlying37 rfl ?_
    refine wpList_plain rfl (fun K hK => ?_)
    go_simp
    refine (HT.out).mono ?_
    rintro e w1 ⟨rfl, hC, hT⟩
    with_reducible refine hK _ _ ?_
    clear hK K
    obtain ⟨A1, n1, c1, A2, n2, c2, A3, n3, c3, A4, n4, c4, hX2, r1, r2, r3, r4, f1, f2, f3, f4⟩ := hT rfl
    have z8 : w.heap.size < W8.heap.size := by have := hX.lt; omega
    have be2 := be.trans (hC.below (B := w.heap.size) (fun b hb => by have hb2 : b = gx := hb; omega) be.size)
    replace b3 := b3.chg hC nR
    clear hC hT hX hl nl
    go_upto_region 19 with (fail)
    refine wp_region_lit ?_
    refine wpList_plain rfl (fun K hK => ?_); go_simp; with_reducible refine hK _ _ ?_; clear hK K
    refine wpList_ldA (t := 111) (cs := ({ si := false, st := st, tl := tl, s6 := s6, sh := sh, sl := sl, d6 := s6, dh := dh, dl := dl, sp := 0, dp := 0, pr := pr, m0 := x0, m1 := x1, m2 := x2, m3 := x3, o4 := o1 } : PI).cs A1 n1 c1 A2 n2 c2 A3 n3 c3 A4 n4 c4 ++ [.bool false, .slice Ar nr kr]) 55 (.tmp 72) rfl rfl (({ si := false, st := st, tl := tl, s6 := s6, sh := sh, sl := sl, d6 := s6, dh := dh, dl := dl, sp := 0, dp := 0, pr := pr, m0 := x0, m1 := x1, m2 := x2, m3 := x3, o4 := o1 } : PI).cs A1 n1 c1 A2 n2 c2 A3 n3 c3 A4 n4 c4) rfl hX2 rfl i1 i2 (szIN_ (by rfl)) ?_
    simp only [Act.put, qsT, qsZ, qsS]
    refine wpList_stA 55 (.tmp 4) (.tmp 73) rfl rfl (({ si := false, st := st, tl := tl, s6 := s6, sh := sh, sl := sl, d6 := s6, dh := dh, dl := dl, sp := 0, dp := 0, pr := pr, m0 := x0, m1 := x1, m2 := x2, m3 := x3, o4 := o1 } : PI).cs A1 n1 c1 A2 n2 c2 A3 n3 c3 A4 n4 c4) (inPk (fhC false false 0 false 0 0 false 0 0 0 0 0) (tcC 0 0 0 0 0 0 0 0 none 0 0 none 0 0) (dgX 0 0 0 none 0 0) (msgC 0 0 0 0 none 0 0)) rfl (inPk_one (fhC_one _ _ _ _ _ _ _ _ _ _ _ _ ) (tcC_one _ _ _ _ _ _ _ _ _ _ _ _ _ _ ) (dgX_one _ _ _ _ _ _) (msgC_one _ _ _ _ _ _ _)) rfl rfl b3 (szIN_ (by rfl)) ?_
    intro W9 h9 g9
    simp only [Act.put, qsT, qsZ, qsS]
    go_wp2
    refine bodyPost_agg2 Tryz.results29 rfl rfl h9.range i1 i2 (szIN_ (by rfl)) rfl ?_
    have hCg : Chg (fun b => b = w.heap.size) _ W9 := Chg.one g9 rfl
    exact RetPI.mk (p := { si := false, st := st, tl := tl, s6 := s6, sh := sh, sl := sl, d6 := s6, dh := dh, dl := dl, sp := 0, dp := 0, pr := pr, m0 := x0, m1 := x1, m2 := x2, m3 := x3, o4 := o1 }) (r1.chg hCg (fun a ha hb => by have h' : a.block = w.heap.size := hb; have := f1 a ha; omega)) (r2.chg hCg (fun a ha hb => by have h' : a.block = w.heap.size := hb; have := f2 a ha; omega)) (r3.chg hCg (fun a ha hb => by have h' : a.block = w.heap.size := hb; have := f3 a ha; omega)) (r4.chg hCg (fun a ha hb => by have h' : a.block = w.heap.size := hb; have := f4 a ha; omega)) (fun a ha => by have := f1 a ha; omega) (fun a ha => by have := f2 a ha; omega) (fun a ha => by have := f3 a ha; omega) (fun a ha => by have := f4 a ha; omega) (below_grown be2 g9 (by omega))
   ·subst hsi
    have HT0 := takeICMP gx Ar nr kr true st tl s6 sh sl dh dl pr false Ar nr kr load W8 x0 x1 x2 x3 o1 ok any k1 k2 k3 k4 hX hl hnr
    rw [hw] at HT0
    have HT := Lib.hid HT0
    clear HT0 any hw
    have t6 : ((pr : Int) == 6) = false := by rw [beq_eq_false_iff_ne]; omega
    have t17 : ((pr : Int) == 17) = false := by rw [beq_eq_false_iff_ne]; omega
    have t1 : ((pr : Int) == 1) = false := by rw [beq_eq_false_iff_ne]; omega
    have t58 : ((pr : Int) == 58) = true := by rw [beq_iff_eq]; omega
    clear hp
    go_upto_region 10 with (fail)
    go_upto_region 12 with (fail)
    go_upto_region 14 with (fail)
    refine wp_region_lit ?_
    iterate 3 (refine wpList_plain rfl (fun K hK => ?_); go_simp; with_reducible refine hK _ _ ?_; clear hK K)
    iterate 4 ((with_reducible refine wpList_skip ?_ ?_); (· first | (go_simp; done) | (go_simp; intro h; cases h)); simp only [Act.put, qsT, qsZ, qsS])
    refine wpList_plain rfl (fun K hK => ?_); go_simp; with_reducible refine hK _ _ ?_; clear hK K
    go_upto_region 15 with (fail)
    refine wp_region_lit ?_
    iterate 3 (refine wpList_plain rfl (fun K hK => ?_); go_simp; with_reducible refine hK _ _ ?_; clear hK K)
    iterate 2 (refine wpList_step (fun K hK => ?_); go_simp; with_reducible refine hK _ _ ?_; clear hK K)
    refine wpList_ld1 (t := 111) (cs := hdC (fhC true st tl s6 sh sl s6 dh dl 0 0 pr) (tcC 0 0 0 0 0 0 0 0 none 0 0 none 0 0) (dgX 0 0 0 none 0 0) (msgC 0 0 0 0 none 0 0) false Ar nr kr) 4 (.tmp 61) rfl (by go_simp) rfl (hX) rfl Tryz.underlying4 rfl ?_
    refine wpList_plain rfl (fun K hK => ?_); go_simp; with_reducible refine hK _ _ ?_; clear hK K
    go_upto_region 16 with (fail)
    refine wp_region_lit ?_
    iterate 2 (refine wpList_plain rfl (fun K hK => ?_); go_simp; with_reducible refine hK _ _ ?_; clear hK K)
    refine wpList_ld1 (t := 111) (cs := hdC (fhC true st tl s6 sh sl s6 dh dl 0 0 pr) (tcC 0 0 0 0 0 0 0 0 none 0 0 none 0 0) (dgX 0 0 0 none 0 0) (msgC 0 0 0 0 none 0 0) false Ar nr kr) 37 (.tmp 65) rfl (by rfl) rfl (hX) rfl Tryz.underlying37 rfl ?_
    refine wpList_plain rfl (fun K hK => ?_)
    go_simp
    refine (HT.out).mono ?_
    rintro e w1 ⟨rfl, hC, hT⟩
    with_reducible refine hK _ _ ?_
    clear hK K
    obtain ⟨A1, n1, c1, A2, n2, c2, A3, n3, c3, A4, n4, c4, hX2, r1, r2, r3, r4, f1, f2, f3, f4⟩ := hT rfl
    have z8 : w.heap.size < W8.heap.size := by have := hX.lt; omega
    have be2 := be.trans (hC.below (B := w.heap.size) (fun b hb => by have hb2 : b = gx := hb; omega) be.size)
    replace b3 := b3.chg hC nR
    clear hC hT hX hl nl
    go_upto_region 19 with (fail)
    refine wp_region_lit ?_
    refine wpList_plain rfl (fun K hK => ?_); go_simp; with_reducible refine hK _ _ ?_; clear hK K
    refine wpList_ldA (t := 111) (cs := ({ si := true, st := st, tl := tl, s6 := s6, sh := sh, sl := sl, d6 := s6, dh := dh, dl := dl, sp := 0, dp := 0, pr := pr, m0 := x0, m1 := x1, m2 := x2, m3 := x3, o4 := o1 } : PI).cs A1 n1 c1 A2 n2 c2 A3 n3 c3 A4 n4 c4 ++ [.bool false, .slice Ar nr kr]) 55 (.tmp 72) rfl rfl (({ si := true, st := st, tl := tl, s6 := s6, sh := sh, sl := sl, d6 := s6, dh := dh, dl := dl, sp := 0, dp := 0, pr := pr, m0 := x0, m1 := x1, m2 := x2, m3 := x3, o4 := o1 } : PI).cs A1 n1 c1 A2 n2 c2 A3 n3 c3 A4 n4 c4) rfl hX2 rfl i1 i2 (szIN_ (by rfl)) ?_
    simp only [Act.put, qsT, qsZ, qsS]
    refine wpList_stA 55 (.tmp 4) (.tmp 73) rfl rfl (({ si := true, st := st, tl := tl, s6 := s6, sh := sh, sl := sl, d6 := s6, dh := dh, dl := dl, sp := 0, dp := 0, pr := pr, m0 := x0, m1 := x1, m2 := x2, m3 := x3, o4 := o1 } : PI).cs A1 n1 c1 A2 n2 c2 A3 n3 c3 A4 n4 c4) (inPk (fhC false false 0 false 0 0 false 0 0 0 0 0) (tcC 0 0 0 0 0 0 0 0 none 0 0 none 0 0) (dgX 0 0 0 none 0 0) (msgC 0 0 0 0 none 0 0)) rfl (inPk_one (fhC_one _ _ _ _ _ _ _ _ _ _ _ _ ) (tcC_one _ _ _ _ _ _ _ _ _ _ _ _ _ _ ) (dgX_one _ _ _ _ _ _) (msgC_one _ _ _ _ _ _ _)) rfl rfl b3 (szIN_ (by rfl)) ?_
    intro W9 h9 g9
    simp only [Act.put, qsT, qsZ, qsS]
    go_wp2
    refine bodyPost_agg2 Tryz.results29 rfl rfl h9.range i1 i2 (szIN_ (by rfl)) rfl ?_
    have hCg : Chg (fun b => b = w.heap.size) _ W9 := Chg.one g9 rfl
    exact RetPI.mk (p := { si := true, st := st, tl := tl, s6 := s6, sh := sh, sl := sl, d6 := s6, dh := dh, dl := dl, sp := 0, dp := 0, pr := pr, m0 := x0, m1 := x1, m2 := x2, m3 := x3, o4 := o1 }) (r1.chg hCg (fun a ha hb => by have h' : a.block = w.heap.size := hb; have := f1 a ha; omega)) (r2.chg hCg (fun a ha hb => by have h' : a.block = w.heap.size := hb; have := f2 a ha; omega)) (r3.chg hCg (fun a ha hb => by have h' : a.block = w.heap.size := hb; have := f3 a ha; omega)) (r4.chg hCg (fun a ha hb => by have h' : a.block = w.heap.size := hb; have := f4 a ha; omega)) (fun a ha => by have := f1 a ha; omega) (fun a ha => by have := f2 a ha; omega) (fun a ha => by have := f3 a ha; omega) (fun a ha => by have := f4 a ha; omega) (below_grown be2 g9 (by omega))
  ·obtain ⟨p6, p17, p1, p58⟩ := hp
   cases si
   ·have q1 : pr ≠ 1 := fun h => p1 ⟨h, rfl⟩
    have t6 : ((pr : Int) == 6) = false := by rw [beq_eq_false_iff_ne]; omega
    have t17 : ((pr : Int) == 17) = false := by rw [beq_eq_false_iff_ne]; omega
    have t1 : ((pr : Int) == 1) = false := by rw [beq_eq_false_iff_ne]; omega
    clear p6 p17 p1 p58
    go_upto_region 10 with (fail)
    go_upto_region 12 with (fail)
    go_upto_region 14 with (fail)
    refine wp_region_lit ?_
    iterate 3 (refine wpList_plain rfl (fun K hK => ?_); go_simp; with_reducible refine hK _ _ ?_; clear hK K)
    iterate 4 ((with_reducible refine wpList_skip ?_ ?_); (· first | (go_simp; done) | (go_simp; intro h; cases h)); simp only [Act.put, qsT, qsZ, qsS])
    refine wpList_plain rfl (fun K hK => ?_); go_simp; with_reducible refine hK _ _ ?_; clear hK K
    go_upto_region 15 with (fail)
    cases h58 : ((pr : Int) == 58)
    ·refine wp_region_lit ?_
     iterate 3 (refine wpList_plain rfl (fun K hK => ?_); go_simp; with_reducible refine hK _ _ ?_; clear hK K)
     iterate 3 ((with_reducible refine wpList_skip ?_ ?_); (· first | (go_simp; done) | (go_simp; intro h; cases h)); simp only [Act.put, qsT, qsZ, qsS])
     refine wpList_plain rfl (fun K hK => ?_); go_simp; with_reducible refine hK _ _ ?_; clear hK K
     have hC : Chg (fun b => b = gx) W8 W8 := Chg.refl _
     go_upto_region 18 with (fail)
     refine wp_region_lit ?_
     iterate 2 (refine wpList_plain rfl (fun K hK => ?_); go_simp; with_reducible refine hK _ _ ?_; clear hK K)
     refine wpList_stA 55 (.tmp 4) (.tmp 70) rfl rfl (inPk (fhC false false 0 false 0 0 false 0 0 0 0 0) (tcC 0 0 0 0 0 0 0 0 none 0 0 none 0 0) (dgX 0 0 0 none 0 0) (msgC 0 0 0 0 none 0 0)) (inPk (fhC false false 0 false 0 0 false 0 0 0 0 0) (tcC 0 0 0 0 0 0 0 0 none 0 0 none 0 0) (dgX 0 0 0 none 0 0) (msgC 0 0 0 0 none 0 0)) rfl (inPk_one (fhC_one _ _ _ _ _ _ _ _ _ _ _ _ ) (tcC_one _ _ _ _ _ _ _ _ _ _ _ _ _ _ ) (dgX_one _ _ _ _ _ _) (msgC_one _ _ _ _ _ _ _)) rfl rfl (b3.chg hC nR) (szIN_ (by rfl)) ?_
     intro W9 h9 g9
     simp only [Act.put, qsT, qsZ, qsS]
     go_wp2
     refine bodyPost_agg2 Tryz.results29 rfl rfl h9.range i1 i2 (szIN_ (by rfl)) rfl ?_
     exact RetPI.zero_ (below_grown (be.trans (hC.below (B := w.heap.size) (fun b hb => by have hb2 : b = gx := hb; omega) be.size)) g9 (by omega))
    ·refine wp_region_lit ?_
     iterate 3 (refine wpList_plain rfl (fun K hK => ?_); go_simp; with_reducible refine hK _ _ ?_; clear hK K)
     iterate 2 (refine wpList_step (fun K hK => ?_); go_simp; with_reducible refine hK _ _ ?_; clear hK K)
     refine wpList_ld1 (t := 111) (cs := hdC (fhC false st tl s6 sh sl s6 dh dl 0 0 pr) (tcC 0 0 0 0 0 0 0 0 none 0 0 none 0 0) (dgX 0 0 0 none 0 0) (msgC 0 0 0 0 none 0 0) false Ar nr kr) 4 (.tmp 61) rfl (by go_simp) rfl (hX) rfl Tryz.underlying4 rfl ?_
     refine wpList_plain rfl (fun K hK => ?_); go_simp; with_reducible refine hK _ _ ?_; clear hK K
     have hC : Chg (fun b => b = gx) W8 W8 := Chg.refl _
     go_upto_region 18 with (fail)
     refine wp_region_lit ?_
     iterate 2 (refine wpList_plain rfl (fun K hK => ?_); go_simp; with_reducible refine hK _ _ ?_; clear hK K)
     refine wpList_stA 55 (.tmp 4) (.tmp 70) rfl rfl (inPk (fhC false false 0 false 0 0 false 0 0 0 0 0) (tcC 0 0 0 0 0 0 0 0 none 0 0 none 0 0) (dgX 0 0 0 none 0 0) (msgC 0 0 0 0 none 0 0)) (inPk (fhC false false 0 false 0 0 false 0 0 0 0 0) (tcC 0 0 0 0 0 0 0 0 none 0 0 none 0 0) (dgX 0 0 0 none 0 0) (msgC 0 0 0 0 none 0 0)) rfl (inPk_one (fhC_one _ _ _ _ _ _ _ _ _ _ _ _ ) (tcC_one _ _ _ _ _ _ _ _ _ _ _ _ _ _ ) (dgX_one _ _ _ _ _ _) (msgC_one _ _ _ _ _ _ _)) rfl rfl (b3.chg hC nR) (szIN_ (by rfl)) ?_
     intro W9 h9 g9
     simp only [Act.put, qsT, qsZ, qsS]
     go_wp2
     refine bodyPost_agg2 Tryz.results29 rfl rfl h9.range i1 i2 (szIN_ (by rfl)) rfl ?_
     exact RetPI.zero_ (below_grown (be.trans (hC.below (B := w.heap.size) (fun b hb => by have hb2 : b = gx := hb; omega) be.size)) g9 (by omega))
   ·have q58 : pr ≠ 58 := fun h => p58 ⟨h, rfl⟩
    have t6 : ((pr : Int) == 6) = false := by rw [beq_eq_false_iff_ne]; omega
    have t17 : ((pr : Int) == 17) = false := by rw [beq_eq_false_iff_ne]; omega
    have t58 : ((pr : Int) == 58) = false := by rw [beq_eq_false_iff_ne]; omega
    clear p6 p17 p1 p58
    go_upto_region 10 with (fail)
    go_upto_region 12 with (fail)
    go_upto_region 14 with (fail)
    cases h1 : ((pr : Int) == 1)
    ·refine wp_region_lit ?_
     iterate 3 (refine wpList_plain rfl (fun K hK => ?_); go_simp; with_reducible refine hK _ _ ?_; clear hK K)
     iterate 4 ((with_reducible refine wpList_skip ?_ ?_); (· first | (go_simp; done) | (go_simp; intro h; cases h)); simp only [Act.put, qsT, qsZ, qsS])
     refine wpList_plain rfl (fun K hK => ?_); go_simp; with_reducible refine hK _ _ ?_; clear hK K
     go_upto_region 15 with (fail)
     refine wp_region_lit ?_
     iterate 3 (refine wpList_plain rfl (fun K hK => ?_); go_simp; with_reducible refine hK _ _ ?_; clear hK K)
     iterate 3 ((with_reducible refine wpList_skip ?_ ?_); (· first | (go_simp; done) | (go_simp; intro h; cases h)); simp only [Act.put, qsT, qsZ, qsS])
     refine wpList_plain rfl (fun K hK => ?_); go_simp; with_reducible refine hK _ _ ?_; clear hK K
     have hC : Chg (fun b => b = gx) W8 W8 := Chg.refl _
     go_upto_region 18 with (fail)
     refine wp_region_lit ?_
     iterate 2 (refine wpList_plain rfl (fun K hK => ?_); go_simp; with_reducible refine hK _ _ ?_; clear hK K)
     refine wpList_stA 55 (.tmp 4) (.tmp 70) rfl rfl (inPk (fhC false false 0 false 0 0 false 0 0 0 0 0) (tcC 0 0 0 0 0 0 0 0 none 0 0 none 0 0) (dgX 0 0 0 none 0 0) (msgC 0 0 0 0 none 0 0)) (inPk (fhC false false 0 false 0 0 false 0 0 0 0 0) (tcC 0 0 0 0 0 0 0 0 none 0 0 none 0 0) (dgX 0 0 0 none 0 0) (msgC 0 0 0 0 none 0 0)) rfl (inPk_one (fhC_one _ _ _ _ _ _ _ _ _ _ _ _ ) (tcC_one _ _ _ _ _ _ _ _ _ _ _ _ _ _ ) (dgX_one _ _ _ _ _ _) (msgC_one _ _ _ _ _ _ _)) rfl rfl (b3.chg hC nR) (szIN_ (by rfl)) ?_
     intro W9 h9 g9
     simp only [Act.put, qsT, qsZ, qsS]
     go_wp2
     refine bodyPost_agg2 Tryz.results29 rfl rfl h9.range i1 i2 (szIN_ (by rfl)) rfl ?_
     exact RetPI.zero_ (below_grown (be.trans (hC.below (B := w.heap.size) (fun b hb => by have hb2 : b = gx := hb; omega) be.size)) g9 (by omega))
    ·refine wp_region_lit ?_
     iterate 3 (refine wpList_plain rfl (fun K hK => ?_); go_simp; with_reducible refine hK _ _ ?_; clear hK K)
     iterate 2 (refine wpList_step (fun K hK => ?_); go_simp; with_reducible refine hK _ _ ?_; clear hK K)
     refine wpList_ld1 (t := 111) (cs := hdC (fhC true st tl s6 sh sl s6 dh dl 0 0 pr) (tcC 0 0 0 0 0 0 0 0 none 0 0 none 0 0) (dgX 0 0 0 none 0 0) (msgC 0 0 0 0 none 0 0) false Ar nr kr) 4 (.tmp 53) rfl (by go_simp) rfl (hX) rfl Tryz.underlying4 rfl ?_
     refine wpList_step (fun K hK => ?_); go_simp; with_reducible refine hK _ _ ?_; clear hK K
     refine wpList_plain rfl (fun K hK => ?_); go_simp; with_reducible refine hK _ _ ?_; clear hK K
     go_upto_region 15 with (fail)
     refine wp_region_lit ?_
     iterate 3 (refine wpList_plain rfl (fun K hK => ?_); go_simp; with_reducible refine hK _ _ ?_; clear hK K)
     iterate 3 ((with_reducible refine wpList_skip ?_ ?_); (· first | (go_simp; done) | (go_simp; intro h; cases h)); simp only [Act.put, qsT, qsZ, qsS])
     refine wpList_plain rfl (fun K hK => ?_); go_simp; with_reducible refine hK _ _ ?_; clear hK K
     have hC : Chg (fun b => b = gx) W8 W8 := Chg.refl _
     go_upto_region 18 with (fail)
     refine wp_region_lit ?_
     iterate 2 (refine wpList_plain rfl (fun K hK => ?_); go_simp; with_reducible refine hK _ _ ?_; clear hK K)
     refine wpList_stA 55 (.tmp 4) (.tmp 70) rfl rfl (inPk (fhC false false 0 false 0 0 false 0 0 0 0 0) (tcC 0 0 0 0 0 0 0 0 none 0 0 none 0 0) (dgX 0 0 0 none 0 0) (msgC 0 0 0 0 none 0 0)) (inPk (fhC false false 0 false 0 0 false 0 0 0 0 0) (tcC 0 0 0 0 0 0 0 0 none 0 0 none 0 0) (dgX 0 0 0 none 0 0) (msgC 0 0 0 0 none 0 0)) rfl (inPk_one (fhC_one _ _ _ _ _ _ _ _ _ _ _ _ ) (tcC_one _ _ _ _ _ _ _ _ _ _ _ _ _ _ ) (dgX_one _ _ _ _ _ _) (msgC_one _ _ _ _ _ _ _)) rfl rfl (b3.chg hC nR) (szIN_ (by rfl)) ?_
     intro W9 h9 g9
     simp only [Act.put, qsT, qsZ, qsS]
     go_wp2
     refine bodyPost_agg2 Tryz.results29 rfl rfl h9.range i1 i2 (szIN_ (by rfl)) rfl ?_
     exact RetPI.zero_ (below_grown (be.trans (hC.below (B := w.heap.size) (fun b hb => by have hb2 : b = gx := hb; omega) be.size)) g9 (by omega))
end

section
open Go.RowKit
attribute [local go_sem ↓] sliced_cut
attribute [local go_sem] cutA_zero
set_option maxRecDepth 100000 in
theorem eq_flC (w : World) (s6 : Bool) (sh sl : Nat) (d6 : Bool) (dh dl sp dp pr : Nat) : (binOp .eql 27 (.agg (flC s6 sh sl d6 dh dl sp dp pr).toArray) (.agg (flC s6 sh sl d6 dh dl sp dp pr).toArray)).run Tryz.prog w = .ok (.bool true) w := by
 unfold flC
 go_simp
attribute [local go_sem ↓] eq_flC
end

section
open Go.RowKit
attribute [local go_sem ↓] sliced_cut
attribute [local go_sem] cutA_zero
set_option maxHeartbeats 4000000
set_option maxRecDepth 100000
theorem pkRead (A : Option Addr) (n c : Nat) (p : PI) (why : Int) (w : World) (HL : ∀ w', Below w.heap.size w w' → Calls Tryz.prog 29 #[.slice A n c, .int .i64 (1)] w' (RetPI w' p why)) : Calls Tryz.prog 13 #[.slice A n c] w (RetPI w p why) := by
 replace HL := Lib.hid HL
 obtain ⟨di_, i1, i2⟩ := rowIn
 have b3 : Bk (w.alloc (.cells #[.bool false, .bool false, .int .u8 0, .bool false, .int .u64 0, .int .u64 0, .bool false, .int .u64 0, .int .u64 0, .int .u16 0, .int .u16 0, .int .u8 0, .int .u16 0, .int .u16 0, .int .u32 0, .int .u32 0, .int .u8 0, .int .u16 0, .int .u16 0, .int .u16 0, .slice none 0 0, .slice none 0 0, .int .u16 0, .int .u16 0, .int .u16 0, .slice none 0 0, .int .u8 0, .int .u8 0, .int .u16 0, .int .u32 0, .slice none 0 0] 55)) w.heap.size 55 (inPk (fhC false false 0 false 0 0 false 0 0 0 0 0) (tcC 0 0 0 0 0 0 0 0 none 0 0 none 0 0) (dgX 0 0 0 none 0 0) (msgC 0 0 0 0 none 0 0)) := Bk.new w 55 #[.bool false, .bool false, .int .u8 0, .bool false, .int .u64 0, .int .u64 0, .bool false, .int .u64 0, .int .u64 0, .int .u16 0, .int .u16 0, .int .u8 0, .int .u16 0, .int .u16 0, .int .u32 0, .int .u32 0, .int .u8 0, .int .u16 0, .int .u16 0, .int .u16 0, .slice none 0 0, .slice none 0 0, .int .u16 0, .int .u16 0, .int .u16 0, .slice none 0 0, .int .u8 0, .int .u8 0, .int .u16 0, .int .u32 0, .slice none 0 0]
 have be : Below w.heap.size w (w.alloc (.cells #[.bool false, .bool false, .int .u8 0, .bool false, .int .u64 0, .int .u64 0, .bool false, .int .u64 0, .int .u64 0, .int .u16 0, .int .u16 0, .int .u8 0, .int .u16 0, .int .u16 0, .int .u32 0, .int .u32 0, .int .u8 0, .int .u16 0, .int .u16 0, .int .u16 0, .slice none 0 0, .slice none 0 0, .int .u16 0, .int .u16 0, .int .u16 0, .slice none 0 0, .int .u8 0, .int .u8 0, .int .u16 0, .int .u32 0, .slice none 0 0] 55)) := Below.allocS (Below.refl _ _) _
 have zV : w.heap.size + 1 ≤ (w.alloc (.cells #[.bool false, .bool false, .int .u8 0, .bool false, .int .u64 0, .int .u64 0, .bool false, .int .u64 0, .int .u64 0, .int .u16 0, .int .u16 0, .int .u8 0, .int .u16 0, .int .u16 0, .int .u32 0, .int .u32 0, .int .u8 0, .int .u16 0, .int .u16 0, .int .u16 0, .slice none 0 0, .slice none 0 0, .int .u16 0, .int .u16 0, .int .u16 0, .slice none 0 0, .int .u8 0, .int .u8 0, .int .u16 0, .int .u32 0, .slice none 0 0] 55)).heap.size := by simp
 go_enter Tryz.func13, Tryz.ntmps13
 go_upto_region 1 with (fail)
 generalize w.alloc (.cells #[.bool false, .bool false, .int .u8 0, .bool false, .int .u64 0, .int .u64 0, .bool false, .int .u64 0, .int .u64 0, .int .u16 0, .int .u16 0, .int .u8 0, .int .u16 0, .int .u16 0, .int .u32 0, .int .u32 0, .int .u8 0, .int .u16 0, .int .u16 0, .int .u16 0, .slice none 0 0, .slice none 0 0, .int .u16 0, .int .u16 0, .int .u16 0, .slice none 0 0, .int .u8 0, .int .u8 0, .int .u16 0, .int .u32 0, .slice none 0 0] 55) = V at *
 refine wp_region_lit ?_
 refine wpList_plain rfl (fun K hK => ?_); go_simp; with_reducible refine hK _ _ ?_; clear hK K
 refine wpList_plain rfl (fun K hK => ?_)
 go_simp
 refine (HL.out _ be).mono ?_
 rintro e w1 ⟨A1, n1, c1, A2, n2, c2, A3, n3, c3, A4, n4, c4, bs2, d2, rfl, rfl, r1, r2, r3, r4, f1, f2, f3, f4⟩
 with_reducible refine hK _ _ ?_
 clear hK K
 replace b3 := b3.later (below_plus V bs2 d2)
 replace be := belowP be bs2 d2
 generalize plus V bs2 d2 = W9 at *
 iterate 2 (refine wpList_plain rfl (fun K hK => ?_); go_simp; with_reducible refine hK _ _ ?_; clear hK K)
 refine wpList_stA 55 (.tmp 2) (.tmp 6) rfl rfl (p.cs A1 n1 c1 A2 n2 c2 A3 n3 c3 A4 n4 c4) (inPk (fhC false false 0 false 0 0 false 0 0 0 0 0) (tcC 0 0 0 0 0 0 0 0 none 0 0 none 0 0) (dgX 0 0 0 none 0 0) (msgC 0 0 0 0 none 0 0)) rfl (p.one _ _ _ _ _ _ _ _ _ _ _ _) rfl rfl b3 (szIN_ (by rfl)) ?_
 intro W10 h9 g9
 refine wpList_plain rfl (fun K hK => ?_); go_simp; with_reducible refine hK _ _ ?_; clear hK K
 go_wp2
 refine bodyPost_agg2 Tryz.results13 rfl rfl h9.range i1 i2 (szIN_ (by rfl)) rfl ?_
 have hCg : Chg (fun b => b = w.heap.size) W9 W10 := Chg.one g9 rfl
 exact RetPI.mk (p := p) (r1.chg hCg (fun a ha hb => by have h' : a.block = w.heap.size := hb; have := f1 a ha; omega)) (r2.chg hCg (fun a ha hb => by have h' : a.block = w.heap.size := hb; have := f2 a ha; omega)) (r3.chg hCg (fun a ha hb => by have h' : a.block = w.heap.size := hb; have := f3 a ha; omega)) (r4.chg hCg (fun a ha hb => by have h' : a.block = w.heap.size := hb; have := f4 a ha; omega)) (fun a ha => by have := f1 a ha; omega) (fun a ha => by have := f2 a ha; omega) (fun a ha => by have := f3 a ha; omega) (fun a ha => by have := f4 a ha; omega) (below_grown be g9 (by omega))
theorem pkHost (A : Option Addr) (n c : Nat) (p : PI) (why : Int) (w : World) (HL : ∀ w', Below w.heap.size w w' → Calls Tryz.prog 29 #[.slice A n c, .int .i64 (-1)] w' (RetPI w' p why)) : Calls Tryz.prog 18 #[.slice A n c] w (RetPI w p why) := by
 replace HL := Lib.hid HL
 obtain ⟨di_, i1, i2⟩ := rowIn
 have b3 : Bk (w.alloc (.cells #[.bool false, .bool false, .int .u8 0, .bool false, .int .u64 0, .int .u64 0, .bool false, .int .u64 0, .int .u64 0, .int .u16 0, .int .u16 0, .int .u8 0, .int .u16 0, .int .u16 0, .int .u32 0, .int .u32 0, .int .u8 0, .int .u16 0, .int .u16 0, .int .u16 0, .slice none 0 0, .slice none 0 0, .int .u16 0, .int .u16 0, .int .u16 0, .slice none 0 0, .int .u8 0, .int .u8 0, .int .u16 0, .int .u32 0, .slice none 0 0] 55)) w.heap.size 55 (inPk (fhC false false 0 false 0 0 false 0 0 0 0 0) (tcC 0 0 0 0 0 0 0 0 none 0 0 none 0 0) (dgX 0 0 0 none 0 0) (msgC 0 0 0 0 none 0 0)) := Bk.new w 55 #[.bool false, .bool false, .int .u8 0, .bool false, .int .u64 0, .int .u64 0, .bool false, .int .u64 0, .int .u64 0, .int .u16 0, .int .u16 0, .int .u8 0, .int .u16 0, .int .u16 0, .int .u32 0, .int .u32 0, .int .u8 0, .int .u16 0, .int .u16 0, .int .u16 0, .slice none 0 0, .slice none 0 0, .int .u16 0, .int .u16 0, .int .u16 0, .slice none 0 0, .int .u8 0, .int .u8 0, .int .u16 0, .int .u32 0, .slice none 0 0]
 have be : Below w.heap.size w (w.alloc (.cells #[.bool false, .bool false, .int .u8 0, .bool false, .int .u64 0, .int .u64 0, .bool false, .int .u64 0, .int .u64 0, .int .u16 0, .int .u16 0, .int .u8 0, .int .u16 0, .int .u16 0, .int .u32 0, .int .u32 0, .int .u8 0, .int .u16 0, .int .u16 0, .int .u16 0, .slice none 0 0, .slice none 0 0, .int .u16 0, .int .u16 0, .int .u16 0, .slice none 0 0, .int .u8 0, .int .u8 0, .int .u16 0, .int .u32 0, .slice none 0 0] 55)) := Below.allocS (Below.refl _ _) _
 have zV : w.heap.size + 1 ≤ (w.alloc (.cells #[.bool false, .bool false, .int .u8 0, .bool false, .int .u64 0, .int .u64 0, .bool false, .int .u64 0, .int .u64 0, .int .u16 0, .int .u16 0, .int .u8 0, .int .u16 0, .int .u16 0, .int .u32 0, .int .u32 0, .int .u8 0, .int .u16 0, .int .u16 0, .int .u16 0, .slice none 0 0, .slice none 0 0, .int .u16 0, .int .u16 0, .int .u16 0, .slice none 0 0, .int .u8 0, .int .u8 0, .int .u16 0, .int .u32 0, .slice none 0 0] 55)).heap.size := by simp
 go_enter Tryz.func18, Tryz.ntmps18
 go_upto_region 1 with (fail)
 generalize w.alloc (.cells #[.bool false, .bool false, .int .u8 0, .bool false, .int .u64 0, .int .u64 0, .bool false, .int .u64 0, .int .u64 0, .int .u16 0, .int .u16 0, .int .u8 0, .int .u16 0, .int .u16 0, .int .u32 0, .int .u32 0, .int .u8 0, .int .u16 0, .int .u16 0, .int .u16 0, .slice none 0 0, .slice none 0 0, .int .u16 0, .int .u16 0, .int .u16 0, .slice none 0 0, .int .u8 0, .int .u8 0, .int .u16 0, .int .u32 0, .slice none 0 0] 55) = V at *
 refine wp_region_lit ?_
 refine wpList_plain rfl (fun K hK => ?_); go_simp; with_reducible refine hK _ _ ?_; clear hK K
 refine wpList_plain rfl (fun K hK => ?_)
 go_simp
 refine (HL.out _ be).mono ?_
 rintro e w1 ⟨A1, n1, c1, A2, n2, c2, A3, n3, c3, A4, n4, c4, bs2, d2, rfl, rfl, r1, r2, r3, r4, f1, f2, f3, f4⟩
 with_reducible refine hK _ _ ?_
 clear hK K
 replace b3 := b3.later (below_plus V bs2 d2)
 replace be := belowP be bs2 d2
 generalize plus V bs2 d2 = W9 at *
 iterate 2 (refine wpList_plain rfl (fun K hK => ?_); go_simp; with_reducible refine hK _ _ ?_; clear hK K)
 refine wpList_stA 55 (.tmp 2) (.tmp 6) rfl rfl (p.cs A1 n1 c1 A2 n2 c2 A3 n3 c3 A4 n4 c4) (inPk (fhC false false 0 false 0 0 false 0 0 0 0 0) (tcC 0 0 0 0 0 0 0 0 none 0 0 none 0 0) (dgX 0 0 0 none 0 0) (msgC 0 0 0 0 none 0 0)) rfl (p.one _ _ _ _ _ _ _ _ _ _ _ _) rfl rfl b3 (szIN_ (by rfl)) ?_
 intro W10 h9 g9
 refine wpList_plain rfl (fun K hK => ?_); go_simp; with_reducible refine hK _ _ ?_; clear hK K
 go_wp2
 refine bodyPost_agg2 Tryz.results18 rfl rfl h9.range i1 i2 (szIN_ (by rfl)) rfl ?_
 have hCg : Chg (fun b => b = w.heap.size) W9 W10 := Chg.one g9 rfl
 exact RetPI.mk (p := p) (r1.chg hCg (fun a ha hb => by have h' : a.block = w.heap.size := hb; have := f1 a ha; omega)) (r2.chg hCg (fun a ha hb => by have h' : a.block = w.heap.size := hb; have := f2 a ha; omega)) (r3.chg hCg (fun a ha hb => by have h' : a.block = w.heap.size := hb; have := f3 a ha; omega)) (r4.chg hCg (fun a ha hb => by have h' : a.block = w.heap.size := hb; have := f4 a ha; omega)) (fun a ha => by have := f1 a ha; omega) (fun a ha => by have := f2 a ha; omega) (fun a ha => by have := f3 a ha; omega) (fun a ha => by have := f4 a ha; omega) (below_grown be g9 (by omega))
end

section
open Go.RowKit Go.ChangeShapes Go.WideShapes
open Go.ChangeMaps (setBlock heap_setBlock_same heap_setBlock_other map_eraseIdx)
structure Fw where
 s1 : Bool
 h1 : Nat
 l1 : Nat
 s2 : Bool
 h2 : Nat
 l2 : Nat
 sp : Nat
 dp : Nat
 p : Nat
def Fw.c (f : Fw) : List Value := flC f.s1 f.h1 f.l1 f.s2 f.h2 f.l2 f.sp f.dp f.p
def Fw.v (f : Fw) : Value := .agg f.c.toArray
noncomputable instance : DecidableEq Fw := fun _ _ => Classical.propDecidable _
set_option maxRecDepth 100000 in
theorem eqI_fw (d : Nat) (hd : d = 9998 ∨ d = 9999) (w : World) (f g : Fw) : (Op.equalIn (d + 1) 27 f.v g.v).run Tryz.prog w = .ok (decide (f = g)) w := by
 have hS : Tryz.prog.underlying 27 = some (.struct (Tryz.prog.fieldsOf 27)) := by kernel_rfl
 have hp : Tryz.prog.stoodInHeld 27 = false := by kernel_rfl
 obtain ⟨a1, a2, a3, a4, a5, a6, a7, a8, a9⟩ := f
 obtain ⟨b1, b2, b3, b4, b5, b6, b7, b8, b9⟩ := g
 simp only [Fw.v, Fw.c, flC]
 rcases hd with rfl | rfl
 all_goals
  rw [run_equalIn_agg w _ 27 _ _ hS hp]
  simp only [Program.fieldsOf, Tryz.underlying27]
  go_simp
  repeat' split
  all_goals (simp_all <;> omega)
theorem neq_fw (w : World) (f g : Fw) : (binOp .neq 27 f.v g.v).run Tryz.prog w = .ok (.bool (!decide (f = g))) w := by
 have h := eqI_fw 9999 (.inr rfl) w f g
 simp only [Fw.v] at h ⊢
 rw [run_neq_struct, h]
 rfl
def Mp (w : World) (m : Nat) (L : List (Fw × Value)) : Prop := ∃ es clk, w.heap[m]? = some (.map es clk) ∧ es.toList.map (fun e => (e.key, e.val)) = L.map (fun x => (x.1.v, x.2))
theorem Mp.lt {w : World} {m : Nat} {L : List (Fw × Value)} (h : Mp w m L) : m < w.heap.size := by
 obtain ⟨es, clk, h, _⟩ := h
 by_cases hlt : m < w.heap.size
 ·exact hlt
 ·rw [Array.getElem?_eq_none (by omega)] at h; cases h
theorem Mp.new (w : World) : Mp (w.alloc (.map #[] 0)) w.heap.size [] := ⟨#[], 0, heap_alloc_new w _, rfl⟩
theorem Mp.block {w w' : World} {m : Nat} {L : List (Fw × Value)} (h : Mp w m L) (hb : w'.heap[m]? = w.heap[m]?) : Mp w' m L := by
 obtain ⟨es, clk, h, hl⟩ := h
 exact ⟨es, clk, hb.trans h, hl⟩
theorem Mp.later {w w' : World} {m : Nat} {L : List (Fw × Value)} (h : Mp w m L) (hb : Below w.heap.size w w') : Mp w' m L := h.block (hb.block m h.lt)
theorem Mp.chg {D : Nat → Prop} {w w' : World} {m : Nat} {L : List (Fw × Value)} (h : Mp w m L) (hc : Chg D w w') (hd : ¬ D m) : Mp w' m L := h.block (hc.block m h.lt hd)
theorem Mp.alloc {w : World} {m : Nat} {L : List (Fw × Value)} (h : Mp w m L) (o : Obj) : Mp (w.alloc o) m L := h.block (Below.heap_alloc w o m h.lt)
theorem Mp.far {w : World} {m : Nat} {L : List (Fw × Value)} (h : Mp w m L) {p : Addr} (hp : m ≠ p.block) (u : Value) : Mp (w.setCell p u) m L := h.block (Below.heap_setCell w p u m hp)
/-! ### the list of uses -/
end

section
open Go.RowKit
attribute [local go_sem ↓] sliced_cut
attribute [local go_sem] cutA_zero
def bat (l : List UInt8) (i : Nat) : Nat := (l.getD i 0).toNat
theorem bat_lt (l : List UInt8) (i : Nat) : bat l i < 256 := (l.getD i 0).toNat_lt
theorem bat_cell {w : World} {B b off : Nat} {l : List UInt8} (hc : ∀ i u, (bcs l)[i]? = some u → w.cell? ⟨b, off + i, none⟩ = some u) (i : Nat) (hi : i < l.length) : w.cell? ⟨b, off + i, none⟩ = some (.int .u8 (bat l i : Nat)) := by
 rw [hc i _ (bcs_get l i hi)]
 simp [bat, hi]
def stp : Nat → List UInt8 → Nat → Option Nat
 | 0, _, _ => none
 | f + 1, l, i =>
  if l.length ≤ i then none else if bat l i = 0 then none else if bat l i = 1 then stp f l (i + 1) else if l.length - i < 2 then none
  else if bat l (i + 1) < 2 then none else if l.length - i < bat l (i + 1) then none
  else if bat l i = 8 then (if bat l (i + 1) = 10 then some (i + 2) else none) else stp f l (i + bat l (i + 1))
def stampsAt (l : List UInt8) : Option Nat := stp (l.length + 1) l 0
def resS : Option Nat → Value
 | some a => .tuple #[.int .i64 (a : Int), .bool true]
 | none => .tuple #[.int .i64 0, .bool false]
def resT : Option Nat → Value
 | some a => .int .i64 (a : Int)
 | none => .int .i64 (-1)
theorem stp_found : ∀ (f : Nat) (l : List UInt8) (i a : Nat), stp f l i = some a → a + 8 ≤ l.length
 | 0, _, _, _, h => by cases h
 | f + 1, l, i, a, h => by
  unfold stp at h
  repeat' split at h
  all_goals first | (cases h; done) | exact stp_found f l _ a h | (injection h with h; omega)
set_option maxHeartbeats 4000000 in
theorem stamps_any (A : Option Addr) (n c : Nat) (l : List UInt8) (w : World) (h : Rb w A n c l) (hn : n ≤ 2000000) :
  Calls Tryz.prog 30 #[.slice A n c] w fun e w' => e = .returned (resS (stampsAt l)) ∧ w = w' := by
 obtain ⟨R, eR⟩ : ∃ R, R = stampsAt l := ⟨_, rfl⟩
 rw [← eR]
 have HR := Lib.hid eR
 clear eR
 have HL := Lib.hid h.1
 have hrd := h.2.2
 go_enter Tryz.func30, Tryz.ntmps30
 go_wp2
 go_loop [2, 3, 4, 5, 6, 7] (fun x0 x1 x2 x3 x4 x5 => ∃ i f : Nat, x2 = .int .i64 i ∧ i ≤ n ∧ n - i < f ∧ stp f l i = R) (fun _ _ i _ _ _ => n - (intOf i).toNat)
 case atStart => exact ⟨0, l.length + 1, rfl, Nat.zero_le _, by rw [HL.out]; omega, HR.out.symm⟩
 case round =>
  obtain ⟨i, f, rfl, hi, hf, hst⟩ := hrel
  obtain ⟨f, rfl⟩ : ∃ g, f = g + 1 := ⟨f - 1, by omega⟩
  unfold stp at hst
  rw [HL.out] at hst
  by_cases hin : n ≤ i
  ·rw [if_pos hin] at hst
   have HS := Lib.hid hst
   clear hst
   have hin' : ¬ i < n := by omega
   go_wp2
   go_ret2
   rw [← HS.out]
   exact ⟨rfl, rfl⟩
  rw [if_neg hin] at hst
  obtain ⟨b, off, rfl, hb, hcell⟩ := hrd.at_ (by rw [bcs_length, HL.out]; omega)
  have hlt : i < n := by omega
  have hc0 := bat_cell (B := 0) hcell i (by rw [HL.out]; omega)
  have hx := bat_lt l i
  have hy := bat_lt l (i + 1)
  have hc1 : i + 1 < n → w.cell? ⟨b, off + (i + 1), none⟩ = some (.int .u8 (bat l (i + 1) : Nat)) := fun h => bat_cell (B := 0) hcell (i + 1) (by rw [HL.out]; omega)
  clear hcell hrd hin
  generalize bat l i = x at *
  generalize bat l (i + 1) = y at *
  by_cases h0 : x = 0
  ·rw [if_pos h0] at hst
   have HS := Lib.hid hst
   subst h0
   clear hst hc1
   go_wp2
   go_ret2
   rw [← HS.out]
   exact ⟨rfl, rfl⟩
  rw [if_neg h0] at hst
  have b0 : ((x : Int) == 0) = false := by simpa using h0
  have n0 : ((x : Int) != 0) = true := by simpa using h0
  by_cases h1 : x = 1
  ·rw [if_pos h1] at hst
   have HS := Lib.hid hst
   subst h1
   clear hst hc1 b0 n0 h0
   go_wp2
   refine ⟨⟨i + 1, f, by go_num, by omega, by omega, HS.out⟩, by simp [intOf]; omega⟩
  rw [if_neg h1] at hst
  have b1 : ((x : Int) == 1) = false := by simp; omega
  by_cases h2 : n - i < 2
  ·rw [if_pos h2] at hst
   have HS := Lib.hid hst
   have hk : i + 1 = n := by omega
   have hk' : ((i : Int) + 1 == (n : Int)) = true := by simp; omega
   clear hst hc1 hk
   go_wp2
   go_ret2
   rw [← HS.out]
   exact ⟨rfl, rfl⟩
  rw [if_neg h2] at hst
  have hk' : ((i : Int) + 1 == (n : Int)) = false := by simp; omega
  have hi1 : i + 1 < n := by omega
  have hcj := hc1 hi1
  rw [← Nat.add_assoc] at hcj
  have hcj2 := hc1 hi1
  clear hc1
  by_cases h3 : y < 2
  ·rw [if_pos h3] at hst
   have HS := Lib.hid hst
   have d3 : decide (y < 2) = true := by simpa using h3
   clear hst
   go_wp2
   go_ret2
   rw [← HS.out]
   exact ⟨rfl, rfl⟩
  rw [if_neg h3] at hst
  have d3 : decide (y < 2) = false := by simpa using h3
  by_cases h4 : n - i < y
  ·rw [if_pos h4] at hst
   have HS := Lib.hid hst
   clear hst
   go_wp2
   go_ret2
   rw [← HS.out]
   exact ⟨rfl, rfl⟩
  rw [if_neg h4] at hst
  have h4' : ¬ n < i + y := by omega
  by_cases h5 : x = 8
  ·rw [if_pos h5] at hst
   subst h5
   by_cases h6 : y = 10
   ·rw [if_pos h6] at hst
    have HS := Lib.hid hst
    subst h6
    clear hst
    go_wp2
    go_ret2
    rw [← HS.out]
    exact ⟨rfl, rfl⟩
   ·rw [if_neg h6] at hst
    have HS := Lib.hid hst
    have b6 : ((y : Int) != 10) = true := by simp; omega
    clear hst
    go_wp2
    go_ret2
    rw [← HS.out]
    exact ⟨rfl, rfl⟩
  ·rw [if_neg h5] at hst
   have HS := Lib.hid hst
   have b5 : ((x : Int) == 8) = false := by simp; omega
   clear hst
   go_wp2
   refine ⟨⟨i + y, f, by go_num, by omega, by omega, HS.out⟩, by simp [intOf]; omega⟩
set_option maxHeartbeats 4000000 in
theorem refStamps_any (A : Option Addr) (n c : Nat) (l : List UInt8) (w : World) (h : Rb w A n c l) (hn : n ≤ 2000000) :
  Calls Tryz.prog 19 #[.slice A n c] w fun e w' => e = .returned (resT (stampsAt l)) ∧ w = w' := by
 obtain ⟨R, eR⟩ : ∃ R, R = stampsAt l := ⟨_, rfl⟩
 rw [← eR]
 have HR := Lib.hid eR
 clear eR
 have HL := Lib.hid h.1
 have hrd := h.2.2
 go_enter Tryz.func19, Tryz.ntmps19
 go_wp2
 go_loop [2, 3, 4] (fun x0 x1 x2 => ∃ i f : Nat, x1 = .int .i64 i ∧ i ≤ n ∧ n - i < f ∧ stp f l i = R) (fun _ i _ => n - (intOf i).toNat)
 case atStart => exact ⟨0, l.length + 1, rfl, Nat.zero_le _, by rw [HL.out]; omega, HR.out.symm⟩
 case round =>
  obtain ⟨i, f, rfl, hi, hf, hst⟩ := hrel
  obtain ⟨f, rfl⟩ : ∃ g, f = g + 1 := ⟨f - 1, by omega⟩
  unfold stp at hst
  rw [HL.out] at hst
  by_cases hin : n ≤ i
  ·rw [if_pos hin] at hst
   have HS := Lib.hid hst
   clear hst
   have hin' : ¬ i < n := by omega
   go_wp2
   go_ret
   rw [← HS.out]
   exact ⟨rfl, rfl⟩
  rw [if_neg hin] at hst
  obtain ⟨b, off, rfl, hb, hcell⟩ := hrd.at_ (by rw [bcs_length, HL.out]; omega)
  have hlt : i < n := by omega
  have hc0 := bat_cell (B := 0) hcell i (by rw [HL.out]; omega)
  have hx := bat_lt l i
  have hy := bat_lt l (i + 1)
  have hc1 : i + 1 < n → w.cell? ⟨b, off + (i + 1), none⟩ = some (.int .u8 (bat l (i + 1) : Nat)) := fun h => bat_cell (B := 0) hcell (i + 1) (by rw [HL.out]; omega)
  clear hcell hrd hin
  generalize bat l i = x at *
  generalize bat l (i + 1) = y at *
  by_cases h0 : x = 0
  ·rw [if_pos h0] at hst
   have HS := Lib.hid hst
   subst h0
   clear hst hc1
   go_wp2
   go_ret
   rw [← HS.out]
   exact ⟨rfl, rfl⟩
  rw [if_neg h0] at hst
  have b0 : ((x : Int) == 0) = false := by simpa using h0
  have n0 : ((x : Int) != 0) = true := by simpa using h0
  by_cases h1 : x = 1
  ·rw [if_pos h1] at hst
   have HS := Lib.hid hst
   subst h1
   clear hst hc1 b0 n0 h0
   go_wp2
   refine ⟨⟨i + 1, f, by go_num, by omega, by omega, HS.out⟩, by simp [intOf]; omega⟩
  rw [if_neg h1] at hst
  have b1 : ((x : Int) == 1) = false := by simp; omega
  by_cases h2 : n - i < 2
  ·rw [if_pos h2] at hst
   have HS := Lib.hid hst
   have hk : i + 1 = n := by omega
   have hk' : ((i : Int) + 1 == (n : Int)) = true := by simp; omega
   clear hst hc1 hk
   go_wp2
   go_ret
   rw [← HS.out]
   exact ⟨rfl, rfl⟩
  rw [if_neg h2] at hst
  have hk' : ((i : Int) + 1 == (n : Int)) = false := by simp; omega
  have hi1 : i + 1 < n := by omega
  have hcj := hc1 hi1
  rw [← Nat.add_assoc] at hcj
  have hcj2 := hc1 hi1
  clear hc1
  by_cases h3 : y < 2
  ·rw [if_pos h3] at hst
   have HS := Lib.hid hst
   have d3 : decide (y < 2) = true := by simpa using h3
   clear hst
   go_wp2
   go_ret
   rw [← HS.out]
   exact ⟨rfl, rfl⟩
  rw [if_neg h3] at hst
  have d3 : decide (y < 2) = false := by simpa using h3
  by_cases h4 : n - i < y
  ·rw [if_pos h4] at hst
   have HS := Lib.hid hst
   clear hst
   go_wp2
   go_ret
   rw [← HS.out]
   exact ⟨rfl, rfl⟩
  rw [if_neg h4] at hst
  have h4' : ¬ n < i + y := by omega
  by_cases h5 : x = 8
  ·rw [if_pos h5] at hst
   subst h5
   by_cases h6 : y = 10
   ·rw [if_pos h6] at hst
    have HS := Lib.hid hst
    subst h6
    clear hst
    go_wp2
    go_ret
    rw [← HS.out]
    exact ⟨rfl, rfl⟩
   ·rw [if_neg h6] at hst
    have HS := Lib.hid hst
    have b6 : ((y : Int) != 10) = true := by simp; omega
    clear hst
    go_wp2
    go_ret
    rw [← HS.out]
    exact ⟨rfl, rfl⟩
  ·rw [if_neg h5] at hst
   have HS := Lib.hid hst
   have b5 : ((x : Int) == 8) = false := by simp; omega
   clear hst
   go_wp2
   refine ⟨⟨i + y, f, by go_num, by omega, by omega, HS.out⟩, by simp [intOf]; omega⟩
end

section
open Go.RowKit
attribute [local go_sem ↓] sliced_cut
attribute [local go_sem] cutA_zero
theorem tcpFirst_any (a b c d f wi sm ur : Int) (A : Option Addr) (n k : Nat) (A' : Option Addr) (n' k' : Nat) (w : World) : Calls Tryz.prog 15 #[.agg #[.int .u16 a, .int .u16 b, .int .u32 c, .int .u32 d, .int .u8 f, .int .u16 wi, .int .u16 sm, .int .u16 ur, .slice A n k, .slice A' n' k']] w fun e w' => e = .returned (.bool (bits .and .u8 f 23 == 2)) ∧ ∃ bs m, w' = plus w bs m := by
 go_enter Tryz.func15, Tryz.ntmps15
 go_wp2
 go_ret
 exact ⟨rfl, plus_of ((Below.refl _ _).alloc (Nat.le_refl _) _)⟩
theorem tcpStamp_none (a b c d f wi sm ur : Int) (A : Option Addr) (n k : Nat) (A' : Option Addr) (n' k' : Nat) (l : List UInt8) (w : World) (h : Rb w A n k l) (hn : n ≤ 2000000) (hs : stampsAt l = none) :
  Calls Tryz.prog 14 #[.agg #[.int .u16 a, .int .u16 b, .int .u32 c, .int .u32 d, .int .u8 f, .int .u16 wi, .int .u16 sm, .int .u16 ur, .slice A n k, .slice A' n' k']] w fun e w' => e = .returned (.tuple #[.int .u32 0, .int .u32 0, .bool false]) ∧ ∃ bs m, w' = plus w bs m := by
 have H := fun W (hW : Rb W A n k l) => stamps_any A n k l W hW hn
 rw [hs] at H
 replace H := Lib.hid H
 clear hs
 go_enter Tryz.func14, Tryz.ntmps14
 go_wp2_with (go_at_call 30; refine (H.out _ (h.alloc _)).mono ?_; rintro e w1 ⟨rfl, rfl⟩; simp only [resS])
 go_ret3
 exact ⟨rfl, plus_of ((Below.refl _ _).alloc (Nat.le_refl _) _)⟩
theorem tcpStamp_some (a b c d f wi sm ur : Int) (A : Option Addr) (n k : Nat) (A' : Option Addr) (n' k' : Nat) (l : List UInt8) (p : Nat) (w : World) (h : Rb w A n k l) (hn : n ≤ 2000000) (hs : stampsAt l = some p) :
  Calls Tryz.prog 14 #[.agg #[.int .u16 a, .int .u16 b, .int .u32 c, .int .u32 d, .int .u8 f, .int .u16 wi, .int .u16 sm, .int .u16 ur, .slice A n k, .slice A' n' k']] w fun e w' => e = .returned (.tuple #[.int .u32 (num ((l.drop p).take 4) : Nat), .int .u32 (num ((l.drop (p + 4)).take 4) : Nat), .bool true]) ∧ ∃ bs m, w' = plus w bs m := by
 have H := fun W (hW : Rb W A n k l) => stamps_any A n k l W hW hn
 have hp := stp_found _ _ _ _ hs
 rw [hs] at H
 replace H := Lib.hid H
 have HL := Lib.hid h.1
 rw [HL.out] at hp
 have hk := h.cap
 clear hs
 go_enter Tryz.func14, Tryz.ntmps14
 go_wp2_with fail
 refine (H.out _ (h.alloc _)).mono ?_
 rintro e w1 ⟨rfl, rfl⟩
 simp only [resS]
 go_wp2_with fail
 refine (read_any _ _ _ ((l.drop p).take 8) _ (((h.alloc _).cut (by omega)).take (by omega)) (by omega)).mono ?_
 rintro e w1 ⟨r, bs1, d1, rfl, rfl, hr1, hR1⟩
 have HM := Lib.hid (show ((l.drop p).take 8).length = 8 by rw [List.length_take, List.length_drop, HL.out]; omega)
 go_wp2_with fail
 refine (longP _ _ _ r _ false hR1 hr1 (by rw [HM.out]; omega) (by rw [HM.out]; omega)).mono ?_
 rintro e w1 ⟨bs2, d2, rfl, rfl, hR2, -⟩
 go_wp2_with fail
 refine (longP _ _ _ r _ false hR2 hr1 (by rw [List.length_drop, HM.out]; omega) (by rw [List.length_drop, HM.out]; omega)).mono ?_
 rintro e w1 ⟨bs3, d3, rfl, rfl, -, -⟩
 go_wp2
 go_ret3
 refine ⟨?_, plus_of (toPlus ((Below.refl _ _).alloc (Nat.le_refl _) _) (by simp) _ _)⟩
 simp [List.drop_take, List.take_take, List.drop_drop]
end

section
open Go.RowKit
attribute [local go_sem ↓] sliced_cut
attribute [local go_sem] cutA_zero
def PI.ok (p : PI) (N : Nat) : Prop := (p.x0 < 65536 ∧ p.x1 < 65536 ∧ p.x2 < 4294967296 ∧ p.x3 < 4294967296 ∧ p.x4 < 256 ∧ p.x5 < 65536 ∧ p.x6 < 65536 ∧ p.x7 < 65536) ∧ p.o1.length ≤ 40 ∧ p.o1.length % 4 = 0 ∧ p.o2.length ≤ N ∧ 20 + p.o1.length + p.o2.length ≤ 65535
theorem PI.zero_ok (N : Nat) : PI.zero.ok N := by simp [PI.ok, PI.zero]
theorem Carries.ok {si st : Bool} {tl : Nat} {s6 : Bool} {sh sl dh dl pr : Nat} {load : List UInt8} {p : PI} {why : Int} (h : Carries si st tl s6 sh sl dh dl pr load p why) {N : Nat} (hl : load.length ≤ N) (hl2 : load.length ≤ 65535) : p.ok N := by
 cases h
 case tOk any _ _ => exact ⟨any.b, any.o.1, any.o.2.1, Nat.le_trans any.o.2.2.1 hl, by have := any.o.2.2.2; simp only []; omega⟩
 all_goals simp [PI.ok, PI.zero]
theorem Lk.ok {si st : Bool} {tl : Nat} {s6 : Bool} {sh sl dh dl pr : Nat} {fr : Bool} {load : List UInt8} {ex E : Int} {p : PI} {why : Int} (h : Lk si st tl s6 sh sl dh dl pr fr load ex E p why) {N : Nat} (hl : load.length ≤ N) (hl2 : load.length ≤ 65535) : p.ok N := by
 cases h
 case go c => exact c.ok hl hl2
 all_goals exact PI.zero_ok _
theorem opensP (A : Option Addr) (n c : Nat) (l : List UInt8) (w : World) (h : Rb w A n c l) (hm : n ≤ 1100000) : ∃ (si st : Bool) (tl : Nat) (s6 : Bool) (sh sl dh dl pr : Nat) (fr : Bool) (load : List UInt8) (E : Int), (pr < 256 ∧ tl < 256 ∧ load.length ≤ 65535 ∧ sh < 18446744073709551616 ∧ sl < 18446744073709551616 ∧ dh < 18446744073709551616 ∧ dl < 18446744073709551616) ∧
  load.length ≤ n ∧ (∀ w', Below w.heap.size w w' → Calls Tryz.prog 50 #[.slice A n c] w' (OpR w' (fhC si st tl s6 sh sl s6 dh dl 0 0 pr) fr load E)) := by
 have up : ∀ w1, Below w.heap.size w w1 → ∀ w2, Below w1.heap.size w1 w2 → Below w.heap.size w w2 := fun w1 h1 w2 h2 => h1.trans (h2.mono h1.size)
 obtain ⟨N, B, E, s⟩ := sx_any l
 have HS : ∀ w1, Below w.heap.size w w1 → ∀ w', Below w1.heap.size w1 w' → Calls Tryz.prog 39 #[.slice A n c] w' fun e w2 => e = .returned (.tuple #[.bool B, .int .i64 E]) ∧ w' = w2 := fun w1 h1 w2 h2 => tunSix A n c l w2 (h.later (up w1 h1 w2 h2)) N B E s
 have bz : (0 : Nat) < 256 ∧ (0 : Nat) < 256 ∧ ([] : List UInt8).length ≤ 65535 ∧ (0 : Nat) < 18446744073709551616 ∧ (0 : Nat) < 18446744073709551616 ∧ (0 : Nat) < 18446744073709551616 ∧ (0 : Nat) < 18446744073709551616 := by simp
 cases s
 case none_ => exact ⟨false, false, 0, false, 0, 0, 0, 0, 0, false, [], 20, bz, Nat.zero_le _, fun w1 hb => open_err A n c w1 _ _ _ _ _ rfl (HS w1 hb)⟩
 case other => exact ⟨false, false, 0, false, 0, 0, 0, 0, 0, false, [], 21, bz, Nat.zero_le _, fun w1 hb => open_err A n c w1 _ _ _ _ _ rfl (HS w1 hb)⟩
 case four =>
  obtain ⟨ts, ln, id, st, mo, fo, tl, pr, sm, sa, da, o, load, E1, F, H1, -⟩ := reads4F A n c _ w h (by omega)
  obtain ⟨b1, b2, b3, b4, b5, b6, b7, b8, b9, b10, b11⟩ := F.b
  exact ⟨false, st, tl, false, 0, sa, 0, da, pr, (mo || decide (0 < (fo : Int))), load, E1, ⟨b5, b4, F.d, by omega, by omega, by omega, by omega⟩, by omega, fun w1 hb => open_4 A n c w1 ts ln id st mo fo tl pr sm sa da o load E1 (HS w1 hb) (fun w2 hb2 => H1 w2 (up w1 hb w2 hb2))⟩
 case six =>
  obtain ⟨cl, lb, ln, nx, ht, s6, sh, sl, dh, dl, load, E1, F, ⟨b1, b2, b3, b4, b5, b6, b7⟩, H1, -⟩ := reads6F A n c _ w h (by omega)
  exact ⟨true, true, ht, s6, sh, sl, dh, dl, nx, false, load, E1, ⟨b1, b2, F.d, b3, b4, b5, b6⟩, b7, fun w1 hb => open_6 A n c w1 cl lb ln nx ht s6 sh sl dh dl load E1 (HS w1 hb) (fun w2 hb2 => H1 w2 (up w1 hb w2 hb2))⟩
theorem host_any (A : Option Addr) (n c : Nat) (l : List UInt8) (w : World) (h : Rb w A n c l) (hm : n ≤ 1100000) : ∃ (p : PI) (why : Int), p.ok n ∧ ∀ W, Below w.heap.size w W → Calls Tryz.prog 18 #[.slice A n c] W (RetPI W p why) := by
 have up : ∀ w1, Below w.heap.size w w1 → ∀ w2, Below w1.heap.size w1 w2 → Below w.heap.size w w2 := fun w1 h1 w2 h2 => h1.trans (h2.mono h1.size)
 obtain ⟨si, st, tl, s6, sh, sl, dh, dl, pr, fr, load, E, ⟨b1, b2, b3, b4, b5, b6, b7⟩, hln, HO⟩ := opensP A n c l w h hm
 obtain ⟨p, why, L⟩ := lk_any si st tl s6 sh sl dh dl pr fr load (-1) E (by omega)
 exact ⟨p, why, L.ok hln b3, fun w1 hb => pkHost A n c p why w1 (fun w2 hb2 => look_all A n c si st tl s6 sh sl dh dl pr fr load (-1) E w2 p why L b1 b2 b3 b4 b5 b6 b7 (fun w3 hb3 => HO w3 (up w2 (up w1 hb w2 hb2) w3 hb3)))⟩
def stV (o : List UInt8) : Nat := match stampsAt o with | some a => num ((o.drop a).take 4) | none => 0
def stW (o : List UInt8) : Nat := match stampsAt o with | some a => num ((o.drop (a + 4)).take 4) | none => 0
theorem stV_lt (o : List UInt8) : stV o < 4294967296 := by
 unfold stV
 split
 ·exact num_lt' o _ 4 4294967296 (by decide)
 ·decide
theorem stamp_any (x0 x1 x2 x3 x4 x5 x6 x7 : Nat) (A1 : Option Addr) (n1 c1 : Nat) (A2 : Option Addr) (n2 c2 : Nat) (o : List UInt8) (w : World) (h : Rb w A1 n1 c1 o) (hn : n1 ≤ 2000000) : Calls Tryz.prog 14 #[.agg (tcC x0 x1 x2 x3 x4 x5 x6 x7 A1 n1 c1 A2 n2 c2).toArray] w (RetV w (.tuple #[.int .u32 (stV o : Int), .int .u32 (stW o : Int), .bool (stampsAt o).isSome])) := by
 cases hS : stampsAt o with
 | none =>
  rw [show stV o = 0 from by unfold stV; rw [hS], show stW o = 0 from by unfold stW; rw [hS]]
  exact (tcpStamp_none x0 x1 x2 x3 x4 x5 x6 x7 A1 n1 c1 A2 n2 c2 o w h hn hS).mono fun _ _ ⟨he, bs, m, hw⟩ => ⟨bs, m, he, hw⟩
 | some a =>
  rw [show stV o = num ((o.drop a).take 4) from by unfold stV; rw [hS], show stW o = num ((o.drop (a + 4)).take 4) from by unfold stW; rw [hS]]
  exact (tcpStamp_some x0 x1 x2 x3 x4 x5 x6 x7 A1 n1 c1 A2 n2 c2 o a w h hn hS).mono fun _ _ ⟨he, bs, m, hw⟩ => ⟨bs, m, he, hw⟩
theorem run_bFl (s6 : Bool) (sh sl : Nat) (d6 : Bool) (dh dl sp dp pr : Nat) (w : World) : (Instr.build 27 #[(0, .agg #[.bool d6, .int .u64 (dh : Int), .int .u64 (dl : Int)]), (1, .agg #[.bool s6, .int .u64 (sh : Int), .int .u64 (sl : Int)]), (2, .int .u16 (dp : Int)), (3, .int .u16 (sp : Int)), (4, .int .u8 (pr : Int))]).run Tryz.prog w = .ok (.agg (flC d6 dh dl s6 sh sl dp sp pr).toArray) w := by kernel_rfl
theorem szAdr (b : Bool) (x y : Nat) : (Tryz.prog.info? 24).map (·.size) = some ([.bool b, .int .u64 (x : Int), .int .u64 (y : Int)] : List Value).length := by kernel_rfl
theorem rowAdr : ∃ d, Tryz.prog.underlying 24 = some d ∧ d.isRow = true := ⟨_, Tryz.underlying24, rfl⟩
theorem szTc (x0 x1 x2 x3 x4 x5 x6 x7 : Nat) (A1 : Option Addr) (n1 c1 : Nat) (A2 : Option Addr) (n2 c2 : Nat) : (Tryz.prog.info? 49).map (·.size) = some (tcC x0 x1 x2 x3 x4 x5 x6 x7 A1 n1 c1 A2 n2 c2).length := by kernel_rfl
def fz : List Value := flC false 0 0 false 0 0 0 0 0
set_option maxHeartbeats 4000000 in
set_option maxRecDepth 100000 in
theorem back_any (s6 : Bool) (sh sl : Nat) (d6 : Bool) (dh dl sp dp pr : Nat) (w : World) : Calls Tryz.prog 22 #[.agg (flC s6 sh sl d6 dh dl sp dp pr).toArray] w (RetV w (.agg (flC d6 dh dl s6 sh sl dp sp pr).toArray)) := by
 obtain ⟨dva, va1, va2⟩ := rowAdr
 obtain ⟨dvf, vf1, vf2⟩ := rowFl
 have bf : Bk ((w.alloc (.cells (flC s6 sh sl d6 dh dl sp dp pr).toArray 27)).alloc (.cells fz.toArray 27)) w.heap.size 27 (flC s6 sh sl d6 dh dl sp dp pr) := (Bk.new w 27 (flC s6 sh sl d6 dh dl sp dp pr).toArray).alloc _
 have hz : Bk ((w.alloc (.cells (flC s6 sh sl d6 dh dl sp dp pr).toArray 27)).alloc (.cells fz.toArray 27)) (w.heap.size + 1) 27 fz := Bk.newK _ _ _ (by simp) rfl
 have be : Below w.heap.size w ((w.alloc (.cells (flC s6 sh sl d6 dh dl sp dp pr).toArray 27)).alloc (.cells fz.toArray 27)) := Below.allocS (Below.allocS (Below.refl _ _) _) _
 go_enter Tryz.func22, Tryz.ntmps22
 go_upto_region 1 with (fail)
 generalize hV : (w.alloc (.cells (flC s6 sh sl d6 dh dl sp dp pr).toArray 27)).alloc (.cells fz.toArray 27) = V at *
 try rw [show (w.alloc (.cells (flC s6 sh sl d6 dh dl sp dp pr).toArray 27)).alloc (.cells #[.bool false, .int .u64 0, .int .u64 0, .bool false, .int .u64 0, .int .u64 0, .int .u16 0, .int .u16 0, .int .u8 0] 27) = V from hV]
 clear hV
 refine wp_region_lit ?_
 refine wpList_plain rfl (fun K hK => ?_); go_simp; with_reducible refine hK _ _ ?_; clear hK K
 refine wpList_ldA (t := 27) (cs := flC s6 sh sl d6 dh dl sp dp pr) 24 (.tmp 3) rfl rfl ([.bool d6, .int .u64 (dh : Int), .int .u64 (dl : Int)]) rfl (bf) rfl va1 va2 (szAdr _ _ _) ?_
 refine wpList_plain rfl (fun K hK => ?_); go_simp; with_reducible refine hK _ _ ?_; clear hK K
 refine wpList_ldA (t := 27) (cs := flC s6 sh sl d6 dh dl sp dp pr) 24 (.tmp 5) rfl rfl ([.bool s6, .int .u64 (sh : Int), .int .u64 (sl : Int)]) rfl (bf) rfl va1 va2 (szAdr _ _ _) ?_
 refine wpList_plain rfl (fun K hK => ?_); go_simp; with_reducible refine hK _ _ ?_; clear hK K
 refine wpList_ld1 (t := 27) (cs := flC s6 sh sl d6 dh dl sp dp pr) 25 (.tmp 7) rfl (by rfl) rfl (bf) rfl Tryz.underlying25 rfl ?_
 refine wpList_plain rfl (fun K hK => ?_); go_simp; with_reducible refine hK _ _ ?_; clear hK K
 refine wpList_ld1 (t := 27) (cs := flC s6 sh sl d6 dh dl sp dp pr) 25 (.tmp 9) rfl (by rfl) rfl (bf) rfl Tryz.underlying25 rfl ?_
 refine wpList_plain rfl (fun K hK => ?_); go_simp; with_reducible refine hK _ _ ?_; clear hK K
 refine wpList_ld1 (t := 27) (cs := flC s6 sh sl d6 dh dl sp dp pr) 5 (.tmp 11) rfl (by rfl) rfl (bf) rfl Tryz.underlying5 rfl ?_
 simp only [Act.put, qsT, qsZ, qsS]
 refine wpList_build 27 [(0, .tmp 4), (1, .tmp 6), (2, .tmp 8), (3, .tmp 10), (4, .tmp 12)] rfl rfl (.agg (flC d6 dh dl s6 sh sl dp sp pr).toArray) (run_bFl _ _ _ _ _ _ _ _ _ _) ?_
 simp only [Act.put, qsT, qsZ, qsS]
 refine wpList_stA (t := 27) 27 (.tmp 2) (.tmp 13) rfl rfl (flC d6 dh dl s6 sh sl dp sp pr) fz rfl (flC_one _ _ _ _ _ _ _ _ _) rfl rfl hz (szFl _ _ _ _ _ _ _ _ _) ?_
 intro W9 h9 g9
 simp only [Act.put, qsT, qsZ, qsS]
 have be9 := below_grown be g9 (by omega)
 go_wp2
 refine bodyPost_agg Tryz.results22 rfl h9.range vf1 vf2 (szFl _ _ _ _ _ _ _ _ _) rfl ?_
 exact RetV.is_ rfl be9
end

section
open Go.RowKit
attribute [local go_sem ↓] sliced_cut
attribute [local go_sem] cutA_zero
def RetTk (w : World) (g : Nat) (s6 : Bool) (sh sl : Nat) (d6 : Bool) (dh dl sp dp : Nat) (re : Nat) (se : Bool) (ti sq : Nat) (Ai : Option Addr) (ni ci : Nat) (e : Ending) (w' : World) : Prop := ∃ b re' se', e = .returned (.bool b) ∧ Bk w' g 63 (clC (flC s6 sh sl d6 dh dl sp dp 6) re' se' ti sq Ai ni ci) ∧ Chg (fun k => k = g) w w' ∧ (se = true → se' = true ∧ ahB re re' = true) ∧ re' < 4294967296
set_option maxHeartbeats 4000000 in
set_option maxRecDepth 100000 in
theorem take_any (s6 : Bool) (sh sl : Nat) (d6 : Bool) (dh dl sp dp : Nat) (re : Nat) (se : Bool) (ti sq : Nat) (Ai : Option Addr) (ni ci : Nat) (g : Nat) (A : Option Addr) (n c : Nat) (l : List UInt8) (w : World) (hB : Bk w g 63 (clC (flC s6 sh sl d6 dh dl sp dp 6) re se ti sq Ai ni ci)) (h : Rb w A n c l) (hm : n ≤ 1100000) (hre : re < 4294967296) : Calls Tryz.prog 10 #[.pointer (some ⟨g, 0, none⟩), .slice A n c] w (RetTk w g s6 sh sl d6 dh dl sp dp re se ti sq Ai ni ci) := by
 obtain ⟨dvf, vf1, vf2⟩ := rowFl
 obtain ⟨dvc, vc1, vc2⟩ := rowCl
 obtain ⟨dvi, vi1, vi2⟩ := rowIn
 obtain ⟨dvt, vt1, vt2⟩ := rowSeg
 obtain ⟨p, why, hpo, hh⟩ := host_any A n c l w h hm
 have HH := Lib.hid hh
 obtain ⟨nb, hnb⟩ : ∃ nb, ∀ w, (binOp .neq 27 (.agg (flC p.d6 p.dh p.dl p.s6 p.sh p.sl p.dp p.sp p.pr).toArray) (.agg (flC s6 sh sl d6 dh dl sp dp 6).toArray)).run Tryz.prog w = .ok (.bool nb) w := ⟨_, fun w => neq_fw w ⟨p.d6, p.dh, p.dl, p.s6, p.sh, p.sl, p.dp, p.sp, p.pr⟩ ⟨s6, sh, sl, d6, dh, dl, sp, dp, 6⟩⟩
 have HNB := Lib.hid hnb
 have hgl := hB.lt
 have HB0 := Lib.hid hB
 clear hh hnb
 go_enter Tryz.func10, Tryz.ntmps10
 go_upto_region 3 with (fail)
 refine wp_region_lit ?_
 refine wpList_plain rfl (fun K hK => ?_); go_simp; with_reducible refine hK _ _ ?_; clear hK K
 refine wpList_plain rfl (fun K hK => ?_)
 go_simp
 refine (HH.out _ (Below.refl _ _)).mono ?_
 rintro e w1 ⟨A1, n1, c1, A2, n2, c2, A3, n3, c3, A4, n4, c4, bs1, d1, rfl, rfl, r1, r2, r3, r4, f1, f2, f3, f4⟩
 with_reducible refine hK _ _ ?_
 clear hK K
 iterate 4 (refine wpList_plain rfl (fun K hK => ?_); go_simp; with_reducible refine hK _ _ ?_; clear hK K)
 refine wpList_stA (t := 55) 55 (.tmp 5) (.tmp 15) rfl rfl (p.cs A1 n1 c1 A2 n2 c2 A3 n3 c3 A4 n4 c4) (inPk (fhC false false 0 false 0 0 false 0 0 0 0 0) (tcC 0 0 0 0 0 0 0 0 none 0 0 none 0 0) (dgX 0 0 0 none 0 0) (msgC 0 0 0 0 none 0 0)) rfl (p.one _ _ _ _ _ _ _ _ _ _ _ _) rfl rfl (Bk.newK _ _ _ (by simp [size_plus]) rfl) (szIN_ (by rfl)) ?_
 intro W5 h5 g5
 refine wpList_plain rfl (fun K hK => ?_); go_simp; with_reducible refine hK _ _ ?_; clear hK K
 have hb5 : Below w.heap.size w W5 := below_grown (Below.allocS (below_plus w bs1 d1) _) g5 (by simp [size_plus])
 have hgi : w.heap.size ≤ w.heap.size + bs1.length := Nat.le_add_right _ _
 have hB5 := hB.later hb5
 have r15 : Rb W5 A1 n1 c1 p.o1 := r1.later (below_grown (Below.allocS (Below.refl _ _) _) g5 (by simp [size_plus]))
 generalize w.heap.size + bs1.length = gi at *
 clear hB h g5 r1 r2 r3 r4 f1 f2 f3 f4
 by_cases hw : why = 0
 ·subst hw
  go_upto_region 4 with (fail)
  refine wp_relS 12 80 rfl (by kernel_rfl) (by kernel_rfl) ?_
  apply Steps.o1 (MP.eq _) 1 rfl rfl
  ·intro FA x hO hD K hK
   have e6 := hO 6 (by kernel_rfl)
   simp only [eval_tmp, qgT, qgS, qgZ, qoS] at e6
   have ev6 := Lib.hid ((eval_tmp FA 6).trans e6)
   clear hO hD
   go_simp
   exact hK.out _ _ (Ex.refl _) rfl
  apply Steps.o1 (MP.eq _) 2 rfl rfl
  ·intro FA x hO hD K hK
   obtain ⟨e17, ev17⟩ := qE (hD 0 17 (by kernel_rfl))
   clear hO hD
   go_simp
   exact hK.out _ _ (Ex.refl _) rfl
  apply Steps.o1 (MP.eq _) 3 rfl rfl
  ·intro FA x hO hD K hK
   obtain ⟨e18, ev18⟩ := qE (hD 1 18 (by kernel_rfl))
   clear hO hD
   go_simp
   exact hK.out _ _ (Ex.refl _) rfl
  apply Steps.o1 (MP.eq _) 4 rfl rfl
  ·intro FA x hO hD K hK
   have e5 := hO 5 (by kernel_rfl)
   simp only [eval_tmp, qgT, qgS, qgZ, qoS] at e5
   have ev5 := Lib.hid ((eval_tmp FA 5).trans e5)
   obtain ⟨e19, ev19⟩ := qE (hD 2 19 (by kernel_rfl))
   first | have ge19 := slot_of e19 | have ge19 := slot_un e19
   clear hO hD
   first | (go_simp; exact hK.out _ _ (Ex.refl _) rfl) | (rcases ge19 with ge19 | ge19 <;> (go_simp; exact hK.out _ _ (Ex.refl _) rfl))
  apply Steps.o1 (MP.eq _) 5 rfl rfl
  ·intro FA x hO hD K hK
   obtain ⟨e20, ev20⟩ := qE (hD 3 20 (by kernel_rfl))
   obtain ⟨e19, ev19⟩ := qE (hD 2 19 (by kernel_rfl))
   first | have ge19 := slot_of e19 | have ge19 := slot_un e19
   clear hO hD
   first | (refine wanted_ifG ?_ ?_; (· go_simp); refine wp_ldA 27 (.tmp 20) rfl (flC p.s6 p.sh p.sl p.d6 p.dh p.dl p.sp p.dp p.pr) ev20.out (h5.later (below_plus _ _ _)) rfl vf1 vf2 (szFl _ _ _ _ _ _ _ _ _) ?_; exact hK.out _ _ (Ex.refl _) rfl) | (go_simp; exact hK.out _ _ (Ex.refl _) rfl) | (rcases ge19 with ge19 | ge19 <;> (go_simp; exact hK.out _ _ (Ex.refl _) rfl))
  apply Steps.o1 (MP.eq _) 6 rfl rfl
  ·intro FA x hO hD K hK
   obtain ⟨e21, ev21⟩ := qE (hD 4 21 (by kernel_rfl))
   obtain ⟨e19, ev19⟩ := qE (hD 2 19 (by kernel_rfl))
   first | have ge19 := slot_of e19 | have ge19 := slot_un e19
   clear hO hD
   refine wanted_ifG (by go_simp) ?_
   go_simp
   refine (back_any _ _ _ _ _ _ _ _ _ _).mono ?_
   rintro e w1 ⟨bs2, d2, rfl, rfl⟩
   exact hK.out _ _ (Ex.plus_ _ _ _) rfl
  apply Steps.o1 (MP.eq _) 7 rfl rfl
  ·intro FA x hO hD K hK
   have e0 := hO 0 (by kernel_rfl)
   simp only [eval_tmp, qgT, qgS, qgZ, qoS] at e0
   have ev0 := Lib.hid ((eval_tmp FA 0).trans e0)
   obtain ⟨e19, ev19⟩ := qE (hD 2 19 (by kernel_rfl))
   first | have ge19 := slot_of e19 | have ge19 := slot_un e19
   clear hO hD
   first | (go_simp; exact hK.out _ _ (Ex.refl _) rfl) | (rcases ge19 with ge19 | ge19 <;> (go_simp; exact hK.out _ _ (Ex.refl _) rfl))
  apply Steps.o1 (MP.eq _) 8 rfl rfl
  ·intro FA x hO hD K hK
   obtain ⟨e23, ev23⟩ := qE (hD 6 23 (by kernel_rfl))
   obtain ⟨e19, ev19⟩ := qE (hD 2 19 (by kernel_rfl))
   first | have ge19 := slot_of e19 | have ge19 := slot_un e19
   clear hO hD
   first | (go_simp; exact hK.out _ _ (Ex.refl _) rfl) | (rcases ge19 with ge19 | ge19 <;> (go_simp; exact hK.out _ _ (Ex.refl _) rfl))
  apply Steps.o1 (MP.eq _) 9 rfl rfl
  ·intro FA x hO hD K hK
   obtain ⟨e24, ev24⟩ := qE (hD 7 24 (by kernel_rfl))
   obtain ⟨e19, ev19⟩ := qE (hD 2 19 (by kernel_rfl))
   first | have ge19 := slot_of e19 | have ge19 := slot_un e19
   clear hO hD
   first | (go_simp; exact hK.out _ _ (Ex.refl _) rfl) | (rcases ge19 with ge19 | ge19 <;> (go_simp; exact hK.out _ _ (Ex.refl _) rfl))
  apply Steps.o1 (MP.eq _) 10 rfl rfl
  ·intro FA x hO hD K hK
   obtain ⟨e25, ev25⟩ := qE (hD 8 25 (by kernel_rfl))
   obtain ⟨e19, ev19⟩ := qE (hD 2 19 (by kernel_rfl))
   first | have ge19 := slot_of e19 | have ge19 := slot_un e19
   clear hO hD
   first | (refine wanted_ifG ?_ ?_; (· go_simp); refine wp_ldA 27 (.tmp 25) rfl (flC s6 sh sl d6 dh dl sp dp 6) ev25.out (hB5.later (below_plus _ _ _)) rfl vf1 vf2 (szFl _ _ _ _ _ _ _ _ _) ?_; exact hK.out _ _ (Ex.refl _) rfl) | (go_simp; exact hK.out _ _ (Ex.refl _) rfl) | (rcases ge19 with ge19 | ge19 <;> (go_simp; exact hK.out _ _ (Ex.refl _) rfl))
  apply Steps.o1 (MP.eq _) 11 rfl rfl
  ·intro FA x hO hD K hK
   obtain ⟨e22, ev22⟩ := qE (hD 5 22 (by kernel_rfl))
   obtain ⟨e26, ev26⟩ := qE (hD 9 26 (by kernel_rfl))
   obtain ⟨e19, ev19⟩ := qE (hD 2 19 (by kernel_rfl))
   first | have ge19 := slot_of e19 | have ge19 := slot_un e19
   clear hO hD
   refine wanted_ifG (by go_simp) ?_
   have es := HNB.out
   go_simp
   exact hK.out _ _ (Ex.refl _) rfl
  apply Steps.o1 (MP.eq _) 12 rfl rfl
  ·intro FA x hO hD K hK
   obtain ⟨e19, ev19⟩ := qE (hD 2 19 (by kernel_rfl))
   obtain ⟨e27, ev27⟩ := qE (hD 10 27 (by kernel_rfl))
   clear hO hD
   go_simp
   exact hK.out _ _ (Ex.refl _) rfl
  refine Steps.fin_ (fun vs x hp => ?_)
  have p0 : vs 0 = _ := hp 0 (by omega)
  have p1 : vs 1 = _ := hp 1 (by omega)
  have p2 : vs 2 = _ := hp 2 (by omega)
  have p3 : vs 3 = _ := hp 3 (by omega)
  have p4 : vs 4 = _ := hp 4 (by omega)
  have p5 : vs 5 = _ := hp 5 (by omega)
  have p6 : vs 6 = _ := hp 6 (by omega)
  have p7 : vs 7 = _ := hp 7 (by omega)
  have p8 : vs 8 = _ := hp 8 (by omega)
  have p9 : vs 9 = _ := hp 9 (by omega)
  have p10 : vs 10 = _ := hp 10 (by omega)
  have p11 : vs 11 = _ := hp 11 (by omega)
  clear hp
  simp only [List.take_succ_cons, List.take_zero, List.drop_succ_cons, List.drop_zero, putAll, Nat.zero_add, Nat.reduceAdd, Act.put, qsT, qsZ, qsS, p0, p1, p2, p3, p4, p5, p6, p7, p8, p9, p10, p11]
  clear p0 p1 p2 p3 p4 p5 p6 p7 p8 p9 p10 p11
  clear vs
  have hb6 := below_plus W5 x.bs x.d
  have h6 := h5.later hb6
  have hB6 := hB5.later hb6
  have r16 := r15.later hb6
  have be6 := hb5.trans (hb6.mono hb5.size)
  clear hb6 h5 hB5 r15
  generalize plus W5 x.bs x.d = W6 at *
  cases nb with
  | true =>
   go_wp2
   go_ret
   exact ⟨false, re, se, rfl, hB6, Chg.of_below be6, fun h => ⟨h, ahB_self re⟩, hre⟩
  | false =>
   have hn1 : n1 ≤ 2000000 := by have := r16.1; have := hpo.2.1; omega
   have q8 : W6.cell? ⟨g, 8, none⟩ = some (.int .u8 6) := hB6.cell 8
   go_upto_region 8 with (fail)
   clear q8
   refine wp_region_lit ?_
   refine wpList_plain rfl (fun K hK => ?_); go_simp; with_reducible refine hK _ _ ?_; clear hK K
   refine wpList_ldA (t := 55) (cs := p.cs A1 n1 c1 A2 n2 c2 A3 n3 c3 A4 n4 c4) 49 (.tmp 37) rfl rfl (tcC p.x0 p.x1 p.x2 p.x3 p.x4 p.x5 p.x6 p.x7 A1 n1 c1 A2 n2 c2) rfl (h6) rfl vt1 vt2 (szTc _ _ _ _ _ _ _ _ _ _ _ _ _ _) ?_
   refine wpList_plain rfl (fun K hK => ?_)
   go_simp
   refine (stamp_any _ _ _ _ _ _ _ _ _ _ _ _ _ _ _ _ r16 (by omega)).mono ?_
   rintro e w1 ⟨bs3, d3, rfl, rfl⟩
   with_reducible refine hK _ _ ?_
   clear hK K
   replace hB6 := hB6.later (below_plus W6 bs3 d3)
   have hbW7 := below_plus W6 bs3 d3
   generalize plus W6 bs3 d3 = W7 at *
   iterate 7 (refine wpList_plain rfl (fun K hK => ?_); go_simp; with_reducible refine hK _ _ ?_; clear hK K)
   have be7 := be6.trans (hbW7.mono be6.size)
   have hsv := stV_lt p.o1
   obtain ⟨ok, hok⟩ : ∃ ok, (stampsAt p.o1).isSome = ok := ⟨_, rfl⟩
   obtain ⟨v, hv⟩ : ∃ v, stV p.o1 = v := ⟨_, rfl⟩
   rw [hok, hv]
   rw [hv] at hsv
   clear hok hv hbW7 r16 h6
   cases ok with
   | false =>
    go_upto_region 9 with (fail)
    refine wp_region_lit ?_
    iterate 2 (refine wpList_plain rfl (fun K hK => ?_); go_simp; with_reducible refine hK _ _ ?_; clear hK K)
    iterate 13 ((with_reducible refine wpList_skip ?_ ?_); (· first | (go_simp; done) | (go_simp; intro h; cases h)); simp only [Act.put, qsT, qsZ, qsS])
    refine wpList_plain rfl (fun K hK => ?_); go_simp; with_reducible refine hK _ _ ?_; clear hK K
    go_wp2
    go_ret
    exact ⟨true, re, se, rfl, hB6, Chg.of_below be7, fun h => ⟨h, ahB_self re⟩, hre⟩
   | true =>
    cases se with
    | false =>
     go_upto_region 9 with (fail)
     refine wp_region_lit ?_
     iterate 2 (refine wpList_plain rfl (fun K hK => ?_); go_simp; with_reducible refine hK _ _ ?_; clear hK K)
     iterate 3 (refine wpList_step (fun K hK => ?_); go_simp; with_reducible refine hK _ _ ?_; clear hK K)
     refine wpList_ld1 (t := 63) (cs := clC (flC s6 sh sl d6 dh dl sp dp 6) re false ti sq Ai ni ci) 4 (.tmp 47) rfl (by go_simp) rfl (hB6) rfl Tryz.underlying4 rfl ?_
     iterate 2 (refine wpList_step (fun K hK => ?_); go_simp; with_reducible refine hK _ _ ?_; clear hK K)
     iterate 6 ((with_reducible refine wpList_skip ?_ ?_); (· first | (go_simp; done) | (go_simp; intro h; cases h)); simp only [Act.put, qsT, qsZ, qsS])
     refine wpList_step (fun K hK => ?_); go_simp; with_reducible refine hK _ _ ?_; clear hK K
     refine wpList_plain rfl (fun K hK => ?_); go_simp; with_reducible refine hK _ _ ?_; clear hK K
     go_upto_region 10 with (fail)
     refine wp_region_lit ?_
     iterate 5 (refine wpList_plain rfl (fun K hK => ?_); go_simp; with_reducible refine hK _ _ ?_; clear hK K)
     refine wpList_st1 (v := .int .u32 (v : Int)) (t := 63) (cs := clC (flC s6 sh sl d6 dh dl sp dp 6) re false ti sq Ai ni ci) (off := 9) 34 (.tmp 63) (.tmp 61) rfl rfl rfl rfl hB6 (Nat.le_of_ble_eq_true rfl) rfl (by kernel_rfl) ?_
     intro W8 h8 g8
     iterate 2 (refine wpList_plain rfl (fun K hK => ?_); go_simp; with_reducible refine hK _ _ ?_; clear hK K)
     refine wpList_st1 (v := .bool true) (t := 63) (cs := clC (flC s6 sh sl d6 dh dl sp dp 6) v false ti sq Ai ni ci) (off := 10) 4 (.tmp 65) (.const (.bool true)) rfl rfl rfl rfl h8 (Nat.le_of_ble_eq_true rfl) rfl (by kernel_rfl) ?_
     intro W9 h9 g9
     simp only [Act.put, qsT, qsZ, qsS]
     go_wp2
     go_ret
     exact ⟨true, v, true, rfl, h9, ((Chg.of_below be7).trans (Chg.one (D := fun k => k = g) g8 rfl)).trans (Chg.one (D := fun k => k = g) g9 rfl), fun h => (by cases h), hsv⟩
    | true =>
     obtain ⟨ah, hah⟩ : ∃ ah, ahB re v = ah := ⟨_, rfl⟩
     have HAA := Lib.hid (fun W => ahead_any re v W)
     rw [hah] at HAA
     go_upto_region 9 with (fail)
     refine wp_region_lit ?_
     iterate 2 (refine wpList_plain rfl (fun K hK => ?_); go_simp; with_reducible refine hK _ _ ?_; clear hK K)
     iterate 3 (refine wpList_step (fun K hK => ?_); go_simp; with_reducible refine hK _ _ ?_; clear hK K)
     refine wpList_ld1 (t := 63) (cs := clC (flC s6 sh sl d6 dh dl sp dp 6) re true ti sq Ai ni ci) 4 (.tmp 47) rfl (by go_simp) rfl (hB6) rfl Tryz.underlying4 rfl ?_
     iterate 5 (refine wpList_step (fun K hK => ?_); go_simp; with_reducible refine hK _ _ ?_; clear hK K)
     refine wpList_ld1 (t := 63) (cs := clC (flC s6 sh sl d6 dh dl sp dp 6) re true ti sq Ai ni ci) 34 (.tmp 53) rfl (by go_simp) rfl (hB6) rfl Tryz.underlying34 rfl ?_
     refine wpList_step (fun K hK => ?_); go_simp; with_reducible refine hK _ _ ?_; clear hK K
     refine wpList_step (fun K hK => ?_)
     go_simp
     refine (HAA.out _).mono ?_
     rintro e w1 ⟨rfl, rfl⟩
     with_reducible refine hK _ _ ?_
     clear hK K
     refine wpList_step (fun K hK => ?_); go_simp; with_reducible refine hK _ _ ?_; clear hK K
     refine wpList_plain rfl (fun K hK => ?_); go_simp; with_reducible refine hK _ _ ?_; clear hK K
     cases ah with
     | false =>
      go_wp2
      go_ret
      exact ⟨true, re, true, rfl, hB6, Chg.of_below be7, fun h => ⟨h, ahB_self re⟩, hre⟩
     | true =>
      go_upto_region 10 with (fail)
      refine wp_region_lit ?_
      iterate 5 (refine wpList_plain rfl (fun K hK => ?_); go_simp; with_reducible refine hK _ _ ?_; clear hK K)
      refine wpList_st1 (v := .int .u32 (v : Int)) (t := 63) (cs := clC (flC s6 sh sl d6 dh dl sp dp 6) re true ti sq Ai ni ci) (off := 9) 34 (.tmp 63) (.tmp 61) rfl rfl rfl rfl hB6 (Nat.le_of_ble_eq_true rfl) rfl (by kernel_rfl) ?_
      intro W8 h8 g8
      iterate 2 (refine wpList_plain rfl (fun K hK => ?_); go_simp; with_reducible refine hK _ _ ?_; clear hK K)
      refine wpList_st1 (v := .bool true) (t := 63) (cs := clC (flC s6 sh sl d6 dh dl sp dp 6) v true ti sq Ai ni ci) (off := 10) 4 (.tmp 65) (.const (.bool true)) rfl rfl rfl rfl h8 (Nat.le_of_ble_eq_true rfl) rfl (by kernel_rfl) ?_
      intro W9 h9 g9
      simp only [Act.put, qsT, qsZ, qsS]
      go_wp2
      go_ret
      exact ⟨true, v, true, rfl, h9, ((Chg.of_below be7).trans (Chg.one (D := fun k => k = g) g8 rfl)).trans (Chg.one (D := fun k => k = g) g9 rfl), fun _ => ⟨rfl, hah⟩, hsv⟩
 ·have hwi : (why != 0) = true := bne_iff_ne.2 hw
  clear hw
  go_upto_region 4 with (fail)
  refine wp_relS 12 80 rfl (by kernel_rfl) (by kernel_rfl) ?_
  apply Steps.o1 (MP.eq _) 1 rfl rfl
  ·intro FA x hO hD K hK
   have e6 := hO 6 (by kernel_rfl)
   simp only [eval_tmp, qgT, qgS, qgZ, qoS] at e6
   have ev6 := Lib.hid ((eval_tmp FA 6).trans e6)
   clear hO hD
   go_simp
   exact hK.out _ _ (Ex.refl _) rfl
  apply Steps.o1 (MP.eq _) 2 rfl rfl
  ·intro FA x hO hD K hK
   obtain ⟨e17, ev17⟩ := qE (hD 0 17 (by kernel_rfl))
   clear hO hD
   go_simp
   exact hK.out _ _ (Ex.refl _) rfl
  apply Steps.o1 (MP.eq _) 3 rfl rfl
  ·intro FA x hO hD K hK
   obtain ⟨e18, ev18⟩ := qE (hD 1 18 (by kernel_rfl))
   clear hO hD
   go_simp
   exact hK.out _ _ (Ex.refl _) rfl
  apply Steps.o1 (MP.eq undef) 4 rfl rfl
  ·intro FA x hO hD K hK
   have e5 := hO 5 (by kernel_rfl)
   simp only [eval_tmp, qgT, qgS, qgZ, qoS] at e5
   have ev5 := Lib.hid ((eval_tmp FA 5).trans e5)
   obtain ⟨e19, ev19⟩ := qE (hD 2 19 (by kernel_rfl))
   first | have ge19 := slot_of e19 | have ge19 := slot_un e19
   clear hO hD
   go_simp
   exact hK.out _ _ (Ex.refl _) rfl
  apply Steps.o1 (MP.eq undef) 5 rfl rfl
  ·intro FA x hO hD K hK
   obtain ⟨e20, ev20⟩ := qE (hD 3 20 (by kernel_rfl))
   obtain ⟨e19, ev19⟩ := qE (hD 2 19 (by kernel_rfl))
   first | have ge19 := slot_of e19 | have ge19 := slot_un e19
   clear hO hD
   go_simp
   exact hK.out _ _ (Ex.refl _) rfl
  apply Steps.o1 (MP.eq undef) 6 rfl rfl
  ·intro FA x hO hD K hK
   obtain ⟨e21, ev21⟩ := qE (hD 4 21 (by kernel_rfl))
   obtain ⟨e19, ev19⟩ := qE (hD 2 19 (by kernel_rfl))
   first | have ge19 := slot_of e19 | have ge19 := slot_un e19
   clear hO hD
   go_simp
   exact hK.out _ _ (Ex.refl _) rfl
  apply Steps.o1 (MP.eq undef) 7 rfl rfl
  ·intro FA x hO hD K hK
   have e0 := hO 0 (by kernel_rfl)
   simp only [eval_tmp, qgT, qgS, qgZ, qoS] at e0
   have ev0 := Lib.hid ((eval_tmp FA 0).trans e0)
   obtain ⟨e19, ev19⟩ := qE (hD 2 19 (by kernel_rfl))
   first | have ge19 := slot_of e19 | have ge19 := slot_un e19
   clear hO hD
   go_simp
   exact hK.out _ _ (Ex.refl _) rfl
  apply Steps.o1 (MP.eq undef) 8 rfl rfl
  ·intro FA x hO hD K hK
   obtain ⟨e23, ev23⟩ := qE (hD 6 23 (by kernel_rfl))
   obtain ⟨e19, ev19⟩ := qE (hD 2 19 (by kernel_rfl))
   first | have ge19 := slot_of e19 | have ge19 := slot_un e19
   clear hO hD
   go_simp
   exact hK.out _ _ (Ex.refl _) rfl
  apply Steps.o1 (MP.eq undef) 9 rfl rfl
  ·intro FA x hO hD K hK
   obtain ⟨e24, ev24⟩ := qE (hD 7 24 (by kernel_rfl))
   obtain ⟨e19, ev19⟩ := qE (hD 2 19 (by kernel_rfl))
   first | have ge19 := slot_of e19 | have ge19 := slot_un e19
   clear hO hD
   go_simp
   exact hK.out _ _ (Ex.refl _) rfl
  apply Steps.o1 (MP.eq undef) 10 rfl rfl
  ·intro FA x hO hD K hK
   obtain ⟨e25, ev25⟩ := qE (hD 8 25 (by kernel_rfl))
   obtain ⟨e19, ev19⟩ := qE (hD 2 19 (by kernel_rfl))
   first | have ge19 := slot_of e19 | have ge19 := slot_un e19
   clear hO hD
   go_simp
   exact hK.out _ _ (Ex.refl _) rfl
  apply Steps.o1 (MP.eq undef) 11 rfl rfl
  ·intro FA x hO hD K hK
   obtain ⟨e22, ev22⟩ := qE (hD 5 22 (by kernel_rfl))
   obtain ⟨e26, ev26⟩ := qE (hD 9 26 (by kernel_rfl))
   obtain ⟨e19, ev19⟩ := qE (hD 2 19 (by kernel_rfl))
   first | have ge19 := slot_of e19 | have ge19 := slot_un e19
   clear hO hD
   go_simp
   exact hK.out _ _ (Ex.refl _) rfl
  apply Steps.o1 (MP.eq _) 12 rfl rfl
  ·intro FA x hO hD K hK
   obtain ⟨e19, ev19⟩ := qE (hD 2 19 (by kernel_rfl))
   obtain ⟨e27, ev27⟩ := qE (hD 10 27 (by kernel_rfl))
   clear hO hD
   go_simp
   exact hK.out _ _ (Ex.refl _) rfl
  refine Steps.fin_ (fun vs x hp => ?_)
  have p0 : vs 0 = _ := hp 0 (by omega)
  have p1 : vs 1 = _ := hp 1 (by omega)
  have p2 : vs 2 = _ := hp 2 (by omega)
  have p3 : vs 3 = _ := hp 3 (by omega)
  have p4 : vs 4 = _ := hp 4 (by omega)
  have p5 : vs 5 = _ := hp 5 (by omega)
  have p6 : vs 6 = _ := hp 6 (by omega)
  have p7 : vs 7 = _ := hp 7 (by omega)
  have p8 : vs 8 = _ := hp 8 (by omega)
  have p9 : vs 9 = _ := hp 9 (by omega)
  have p10 : vs 10 = _ := hp 10 (by omega)
  have p11 : vs 11 = _ := hp 11 (by omega)
  clear hp
  simp only [List.take_succ_cons, List.take_zero, List.drop_succ_cons, List.drop_zero, putAll, Nat.zero_add, Nat.reduceAdd, Act.put, qsT, qsZ, qsS, p0, p1, p2, p3, p4, p5, p6, p7, p8, p9, p10, p11]
  clear p0 p1 p2 p3 p4 p5 p6 p7 p8 p9 p10 p11
  clear vs
  have hb6 := below_plus W5 x.bs x.d
  have hB6 := hB5.later hb6
  have be6 := hb5.trans (hb6.mono hb5.size)
  generalize plus W5 x.bs x.d = W6 at *
  go_wp2
  go_ret
  exact ⟨false, re, se, rfl, hB6, Chg.of_below be6, fun h => ⟨h, ahB_self re⟩, hre⟩
end

section
open Go.RowKit
attribute [local go_sem ↓] sliced_cut
attribute [local go_sem] cutA_zero
def tcpB (a b c d hb0 f wi sm ur : Nat) (l l2 : List UInt8) : List UInt8 := ([(dig (a) 2), (dig (b) 2), (dig (c) 4), (dig (d) 4), [UInt8.ofNat (hb0), UInt8.ofNat (f)], (dig (wi) 2), (dig (sm) 2), (dig (ur) 2), l, l2]).flatten
set_option maxHeartbeats 4000000
set_option maxRecDepth 100000
theorem refTcpBytes_any (a b c d f wi sm ur : Nat) (A : Option Addr) (n k : Nat) (A2 : Option Addr) (n2 k2 : Nat) (l l2 : List UInt8) (w : World) (ha : a < 65536) (hb : b < 65536) (hc : c < 4294967296) (hd : d < 4294967296) (hf : f < 256) (hwi : wi < 65536) (hsm : sm < 65536) (hur : ur < 65536) (h : Rb w A n k l) (h2 : Rb w A2 n2 k2 l2) (hn : n ≤ 40) (hn2 : n2 ≤ 100000) : Calls Tryz.prog 37 #[.agg #[.int .u16 (a : Int), .int .u16 (b : Int), .int .u32 (c : Int), .int .u32 (d : Int), .int .u8 (f : Int), .int .u16 (wi : Int), .int .u16 (sm : Int), .int .u16 (ur : Int), .slice A n k, .slice A2 n2 k2]] w (RetB w (tcpB a b c d (80 + n / 4 * 16) f wi sm ur l l2)) := by
 obtain ⟨q4, hq4⟩ : ∃ q, q = n / 4 := ⟨_, rfl⟩
 obtain ⟨q16, hq16⟩ : ∃ q, q = q4 * 16 := ⟨_, rfl⟩
 obtain ⟨hb0, hhb⟩ : ∃ q, q = 80 + q16 := ⟨_, rfl⟩
 have hlb : hb0 < 256 := by omega
 rw [← hq4, ← hq16, ← hhb]
 have HT : ([(dig (a) 2), (dig (b) 2), (dig (c) 4), (dig (d) 4), [UInt8.ofNat (hb0), UInt8.ofNat (f)], (dig (wi) 2), (dig (sm) 2), (dig (ur) 2), l, l2]).flatten.length ≤ 549755813888 := by simp [dig_length, h.1, h2.1]; omega
 replace HT := Lib.hid HT
 have f1 : ((n : Int)).tdiv 4 = (q4 : Int) := by rw [Int.tdiv_eq_ediv_of_nonneg (by omega)]; omega
 have f2 : IntKind.i64.wrap (q4 : Int) = (q4 : Int) := IntWalk.i64_in _ (by omega)
 have f3 : IntKind.i64.wrap ((q4 : Int) * 16) = (q16 : Int) := by rw [IntWalk.i64_in _ (by omega)]; omega
 have f4 : IntKind.i64.wrap (80 + (q16 : Int)) = (hb0 : Int) := by rw [IntWalk.i64_in _ (by omega)]; omega
 have g0 : IntKind.u64.wrap (a : Int) = (a : Int) := IntWalk.u64_in _ (by omega)
 have g1 : IntKind.u64.wrap (b : Int) = (b : Int) := IntWalk.u64_in _ (by omega)
 have g2 : IntKind.u64.wrap (c : Int) = (c : Int) := IntWalk.u64_in _ (by omega)
 have g3 : IntKind.u64.wrap (d : Int) = (d : Int) := IntWalk.u64_in _ (by omega)
 have g4 : IntKind.u8.wrap (hb0 : Int) = (hb0 : Int) := IntWalk.u8_in _ (by omega)
 have g5 : IntKind.u64.wrap (wi : Int) = (wi : Int) := IntWalk.u64_in _ (by omega)
 have g6 : IntKind.u64.wrap (sm : Int) = (sm : Int) := IntWalk.u64_in _ (by omega)
 have g7 : IntKind.u64.wrap (ur : Int) = (ur : Int) := IntWalk.u64_in _ (by omega)
 clear hq4 hq16 hhb
 go_enter Tryz.func37, Tryz.ntmps37
 go_wp2
 refine wp_rel 45 47 rfl (by kernel_rfl) (by kernel_rfl) (fun i => match i with | 0 => MP.eq (.pointer (some ⟨w.heap.size, 0, none⟩)) | 1 => MP.eq (.int .u16 (a : Int)) | 2 => MP.eq (.int .u64 (a : Int)) | 3 => MP.rb (dig (a) 2) | 4 => MP.eq (.pointer (some ⟨w.heap.size, 1, none⟩)) | 5 => MP.eq (.int .u16 (b : Int)) | 6 => MP.eq (.int .u64 (b : Int)) | 7 => MP.rb (dig (b) 2) | 8 => MP.eq (.pointer (some ⟨w.heap.size, 2, none⟩)) | 9 => MP.eq (.int .u32 (c : Int)) | 10 => MP.eq (.int .u64 (c : Int)) | 11 => MP.rb (dig (c) 4) | 12 => MP.eq (.pointer (some ⟨w.heap.size, 3, none⟩)) | 13 => MP.eq (.int .u32 (d : Int)) | 14 => MP.eq (.int .u64 (d : Int)) | 15 => MP.rb (dig (d) 4) | 16 => MP.eq (.pointer (some ⟨w.heap.size, 8, none⟩)) | 17 => MP.eq (.slice A n k) | 18 => MP.eq (.int .i64 (n : Int)) | 19 => MP.eq (.int .i64 (q4 : Int)) | 20 => MP.eq (.int .i64 (q16 : Int)) | 21 => MP.eq (.int .i64 (hb0 : Int)) | 22 => MP.eq (.int .u8 (hb0 : Int)) | 23 => MP.eq (.pointer (some ⟨w.heap.size, 4, none⟩)) | 24 => MP.eq (.int .u8 (f : Int)) | 25 => MP.rb [UInt8.ofNat (hb0), UInt8.ofNat (f)] | 26 => MP.eq (.pointer (some ⟨w.heap.size, 5, none⟩)) | 27 => MP.eq (.int .u16 (wi : Int)) | 28 => MP.eq (.int .u64 (wi : Int)) | 29 => MP.rb (dig (wi) 2) | 30 => MP.eq (.pointer (some ⟨w.heap.size, 6, none⟩)) | 31 => MP.eq (.int .u16 (sm : Int)) | 32 => MP.eq (.int .u64 (sm : Int)) | 33 => MP.rb (dig (sm) 2) | 34 => MP.eq (.pointer (some ⟨w.heap.size, 7, none⟩)) | 35 => MP.eq (.int .u16 (ur : Int)) | 36 => MP.eq (.int .u64 (ur : Int)) | 37 => MP.rb (dig (ur) 2) | 38 => MP.eq (.pointer (some ⟨w.heap.size, 8, none⟩)) | 39 => MP.eq (.slice A n k) | 40 => MP.eq (.pointer (some ⟨w.heap.size, 9, none⟩)) | 41 => MP.eq (.slice A2 n2 k2) | 42 => MP.rdl [(dig (a) 2), (dig (b) 2), (dig (c) 4), (dig (d) 4), [UInt8.ofNat (hb0), UInt8.ofNat (f)], (dig (wi) 2), (dig (sm) 2), (dig (ur) 2), l, l2] | 43 => MP.ob w.heap.size ([(dig (a) 2), (dig (b) 2), (dig (c) 4), (dig (d) 4), [UInt8.ofNat (hb0), UInt8.ofNat (f)], (dig (wi) 2), (dig (sm) 2), (dig (ur) 2), l, l2]).flatten | 44 => MP.ob w.heap.size ([(dig (a) 2), (dig (b) 2), (dig (c) 4), (dig (d) 4), [UInt8.ofNat (hb0), UInt8.ofNat (f)], (dig (wi) 2), (dig (sm) 2), (dig (ur) 2), l, l2]).flatten | _ => MP.any) ?_ ?_
 ·intro i hi o ho FA x hO hD K hK
  match i, hi, ho, hO, hD, hK with
  | 0, _, ho, hO, hD, hK => 
   obtain rfl := qoi ho
   have ev1 : FA.eval (.tmp 1) = .pointer (some ⟨w.heap.size, 0, none⟩) := hO 1 (by kernel_rfl)
   have e1 : FA.tmps[1]?.getD undef = .pointer (some ⟨w.heap.size, 0, none⟩) := by simpa [Act.eval] using ev1
   replace ev1 := Lib.hid ev1
   clear hO hD ho
   go_simp
   exact hK.out _ _ (Ex.refl _) rfl
  | 1, _, ho, hO, hD, hK => 
   obtain rfl := qoi ho
   have ev3 : FA.eval (.tmp 3) = .pointer (some ⟨w.heap.size, 0, none⟩) := hD 0 3 (by kernel_rfl)
   have e3 : FA.tmps[3]?.getD undef = .pointer (some ⟨w.heap.size, 0, none⟩) := by simpa [Act.eval] using ev3
   replace ev3 := Lib.hid ev3
   clear hO hD ho
   go_simp
   exact hK.out _ _ (Ex.refl _) rfl
  | 2, _, ho, hO, hD, hK => 
   obtain rfl := qoi ho
   have ev4 : FA.eval (.tmp 4) = .int .u16 (a : Int) := hD 1 4 (by kernel_rfl)
   have e4 : FA.tmps[4]?.getD undef = .int .u16 (a : Int) := by simpa [Act.eval] using ev4
   replace ev4 := Lib.hid ev4
   clear hO hD ho
   go_simp
   exact hK.out _ _ (Ex.refl _) rfl
  | 3, _, ho, hO, hD, hK => 
   obtain rfl := qoi ho
   have ev5 : FA.eval (.tmp 5) = .int .u64 (a : Int) := hD 2 5 (by kernel_rfl)
   have e5 : FA.tmps[5]?.getD undef = .int .u64 (a : Int) := by simpa [Act.eval] using ev5
   replace ev5 := Lib.hid ev5
   clear hO hD ho
   go_simp
   refine (refBytes_any (a) 2 _ (by omega) (by omega)).mono ?_
   rintro e w1 ⟨A2, n2, c2, bs2, d2, rfl, rfl, ho2⟩
   exact hK.out _ _ (Ex.plus_ _ _ _) ⟨_, _, _, rfl, ho2.rb⟩
  | 4, _, ho, hO, hD, hK => 
   obtain rfl := qoi ho
   have ev1 : FA.eval (.tmp 1) = .pointer (some ⟨w.heap.size, 0, none⟩) := hO 1 (by kernel_rfl)
   have e1 : FA.tmps[1]?.getD undef = .pointer (some ⟨w.heap.size, 0, none⟩) := by simpa [Act.eval] using ev1
   replace ev1 := Lib.hid ev1
   clear hO hD ho
   go_simp
   exact hK.out _ _ (Ex.refl _) rfl
  | 5, _, ho, hO, hD, hK => 
   obtain rfl := qoi ho
   have ev7 : FA.eval (.tmp 7) = .pointer (some ⟨w.heap.size, 1, none⟩) := hD 4 7 (by kernel_rfl)
   have e7 : FA.tmps[7]?.getD undef = .pointer (some ⟨w.heap.size, 1, none⟩) := by simpa [Act.eval] using ev7
   replace ev7 := Lib.hid ev7
   clear hO hD ho
   go_simp
   exact hK.out _ _ (Ex.refl _) rfl
  | 6, _, ho, hO, hD, hK => 
   obtain rfl := qoi ho
   have ev8 : FA.eval (.tmp 8) = .int .u16 (b : Int) := hD 5 8 (by kernel_rfl)
   have e8 : FA.tmps[8]?.getD undef = .int .u16 (b : Int) := by simpa [Act.eval] using ev8
   replace ev8 := Lib.hid ev8
   clear hO hD ho
   go_simp
   exact hK.out _ _ (Ex.refl _) rfl
  | 7, _, ho, hO, hD, hK => 
   obtain rfl := qoi ho
   have ev9 : FA.eval (.tmp 9) = .int .u64 (b : Int) := hD 6 9 (by kernel_rfl)
   have e9 : FA.tmps[9]?.getD undef = .int .u64 (b : Int) := by simpa [Act.eval] using ev9
   replace ev9 := Lib.hid ev9
   clear hO hD ho
   go_simp
   refine (refBytes_any (b) 2 _ (by omega) (by omega)).mono ?_
   rintro e w1 ⟨A2, n2, c2, bs2, d2, rfl, rfl, ho2⟩
   exact hK.out _ _ (Ex.plus_ _ _ _) ⟨_, _, _, rfl, ho2.rb⟩
  | 8, _, ho, hO, hD, hK => 
   obtain rfl := qoi ho
   have ev1 : FA.eval (.tmp 1) = .pointer (some ⟨w.heap.size, 0, none⟩) := hO 1 (by kernel_rfl)
   have e1 : FA.tmps[1]?.getD undef = .pointer (some ⟨w.heap.size, 0, none⟩) := by simpa [Act.eval] using ev1
   replace ev1 := Lib.hid ev1
   clear hO hD ho
   go_simp
   exact hK.out _ _ (Ex.refl _) rfl
  | 9, _, ho, hO, hD, hK => 
   obtain rfl := qoi ho
   have ev11 : FA.eval (.tmp 11) = .pointer (some ⟨w.heap.size, 2, none⟩) := hD 8 11 (by kernel_rfl)
   have e11 : FA.tmps[11]?.getD undef = .pointer (some ⟨w.heap.size, 2, none⟩) := by simpa [Act.eval] using ev11
   replace ev11 := Lib.hid ev11
   clear hO hD ho
   go_simp
   exact hK.out _ _ (Ex.refl _) rfl
  | 10, _, ho, hO, hD, hK => 
   obtain rfl := qoi ho
   have ev12 : FA.eval (.tmp 12) = .int .u32 (c : Int) := hD 9 12 (by kernel_rfl)
   have e12 : FA.tmps[12]?.getD undef = .int .u32 (c : Int) := by simpa [Act.eval] using ev12
   replace ev12 := Lib.hid ev12
   clear hO hD ho
   go_simp
   exact hK.out _ _ (Ex.refl _) rfl
  | 11, _, ho, hO, hD, hK => 
   obtain rfl := qoi ho
   have ev13 : FA.eval (.tmp 13) = .int .u64 (c : Int) := hD 10 13 (by kernel_rfl)
   have e13 : FA.tmps[13]?.getD undef = .int .u64 (c : Int) := by simpa [Act.eval] using ev13
   replace ev13 := Lib.hid ev13
   clear hO hD ho
   go_simp
   refine (refBytes_any (c) 4 _ (by omega) (by omega)).mono ?_
   rintro e w1 ⟨A2, n2, c2, bs2, d2, rfl, rfl, ho2⟩
   exact hK.out _ _ (Ex.plus_ _ _ _) ⟨_, _, _, rfl, ho2.rb⟩
  | 12, _, ho, hO, hD, hK => 
   obtain rfl := qoi ho
   have ev1 : FA.eval (.tmp 1) = .pointer (some ⟨w.heap.size, 0, none⟩) := hO 1 (by kernel_rfl)
   have e1 : FA.tmps[1]?.getD undef = .pointer (some ⟨w.heap.size, 0, none⟩) := by simpa [Act.eval] using ev1
   replace ev1 := Lib.hid ev1
   clear hO hD ho
   go_simp
   exact hK.out _ _ (Ex.refl _) rfl
  | 13, _, ho, hO, hD, hK => 
   obtain rfl := qoi ho
   have ev15 : FA.eval (.tmp 15) = .pointer (some ⟨w.heap.size, 3, none⟩) := hD 12 15 (by kernel_rfl)
   have e15 : FA.tmps[15]?.getD undef = .pointer (some ⟨w.heap.size, 3, none⟩) := by simpa [Act.eval] using ev15
   replace ev15 := Lib.hid ev15
   clear hO hD ho
   go_simp
   exact hK.out _ _ (Ex.refl _) rfl
  | 14, _, ho, hO, hD, hK => 
   obtain rfl := qoi ho
   have ev16 : FA.eval (.tmp 16) = .int .u32 (d : Int) := hD 13 16 (by kernel_rfl)
   have e16 : FA.tmps[16]?.getD undef = .int .u32 (d : Int) := by simpa [Act.eval] using ev16
   replace ev16 := Lib.hid ev16
   clear hO hD ho
   go_simp
   exact hK.out _ _ (Ex.refl _) rfl
  | 15, _, ho, hO, hD, hK => 
   obtain rfl := qoi ho
   have ev17 : FA.eval (.tmp 17) = .int .u64 (d : Int) := hD 14 17 (by kernel_rfl)
   have e17 : FA.tmps[17]?.getD undef = .int .u64 (d : Int) := by simpa [Act.eval] using ev17
   replace ev17 := Lib.hid ev17
   clear hO hD ho
   go_simp
   refine (refBytes_any (d) 4 _ (by omega) (by omega)).mono ?_
   rintro e w1 ⟨A2, n2, c2, bs2, d2, rfl, rfl, ho2⟩
   exact hK.out _ _ (Ex.plus_ _ _ _) ⟨_, _, _, rfl, ho2.rb⟩
  | 16, _, ho, hO, hD, hK => 
   obtain rfl := qoi ho
   have ev1 : FA.eval (.tmp 1) = .pointer (some ⟨w.heap.size, 0, none⟩) := hO 1 (by kernel_rfl)
   have e1 : FA.tmps[1]?.getD undef = .pointer (some ⟨w.heap.size, 0, none⟩) := by simpa [Act.eval] using ev1
   replace ev1 := Lib.hid ev1
   clear hO hD ho
   go_simp
   exact hK.out _ _ (Ex.refl _) rfl
  | 17, _, ho, hO, hD, hK => 
   obtain rfl := qoi ho
   have ev19 : FA.eval (.tmp 19) = .pointer (some ⟨w.heap.size, 8, none⟩) := hD 16 19 (by kernel_rfl)
   have e19 : FA.tmps[19]?.getD undef = .pointer (some ⟨w.heap.size, 8, none⟩) := by simpa [Act.eval] using ev19
   replace ev19 := Lib.hid ev19
   clear hO hD ho
   go_simp
   exact hK.out _ _ (Ex.refl _) rfl
  | 18, _, ho, hO, hD, hK => 
   obtain rfl := qoi ho
   have ev20 : FA.eval (.tmp 20) = .slice A n k := hD 17 20 (by kernel_rfl)
   have e20 : FA.tmps[20]?.getD undef = .slice A n k := by simpa [Act.eval] using ev20
   replace ev20 := Lib.hid ev20
   clear hO hD ho
   go_simp
   exact hK.out _ _ (Ex.refl _) rfl
  | 19, _, ho, hO, hD, hK => 
   obtain rfl := qoi ho
   have ev21 : FA.eval (.tmp 21) = .int .i64 (n : Int) := hD 18 21 (by kernel_rfl)
   have e21 : FA.tmps[21]?.getD undef = .int .i64 (n : Int) := by simpa [Act.eval] using ev21
   replace ev21 := Lib.hid ev21
   clear hO hD ho
   go_simp
   exact hK.out _ _ (Ex.refl _) rfl
  | 20, _, ho, hO, hD, hK => 
   obtain rfl := qoi ho
   have ev22 : FA.eval (.tmp 22) = .int .i64 (q4 : Int) := hD 19 22 (by kernel_rfl)
   have e22 : FA.tmps[22]?.getD undef = .int .i64 (q4 : Int) := by simpa [Act.eval] using ev22
   replace ev22 := Lib.hid ev22
   clear hO hD ho
   go_simp
   exact hK.out _ _ (Ex.refl _) rfl
  | 21, _, ho, hO, hD, hK => 
   obtain rfl := qoi ho
   have ev23 : FA.eval (.tmp 23) = .int .i64 (q16 : Int) := hD 20 23 (by kernel_rfl)
   have e23 : FA.tmps[23]?.getD undef = .int .i64 (q16 : Int) := by simpa [Act.eval] using ev23
   replace ev23 := Lib.hid ev23
   clear hO hD ho
   go_simp
   exact hK.out _ _ (Ex.refl _) rfl
  | 22, _, ho, hO, hD, hK => 
   obtain rfl := qoi ho
   have ev24 : FA.eval (.tmp 24) = .int .i64 (hb0 : Int) := hD 21 24 (by kernel_rfl)
   have e24 : FA.tmps[24]?.getD undef = .int .i64 (hb0 : Int) := by simpa [Act.eval] using ev24
   replace ev24 := Lib.hid ev24
   clear hO hD ho
   go_simp
   exact hK.out _ _ (Ex.refl _) rfl
  | 23, _, ho, hO, hD, hK => 
   obtain rfl := qoi ho
   have ev1 : FA.eval (.tmp 1) = .pointer (some ⟨w.heap.size, 0, none⟩) := hO 1 (by kernel_rfl)
   have e1 : FA.tmps[1]?.getD undef = .pointer (some ⟨w.heap.size, 0, none⟩) := by simpa [Act.eval] using ev1
   replace ev1 := Lib.hid ev1
   clear hO hD ho
   go_simp
   exact hK.out _ _ (Ex.refl _) rfl
  | 24, _, ho, hO, hD, hK => 
   obtain rfl := qoi ho
   have ev26 : FA.eval (.tmp 26) = .pointer (some ⟨w.heap.size, 4, none⟩) := hD 23 26 (by kernel_rfl)
   have e26 : FA.tmps[26]?.getD undef = .pointer (some ⟨w.heap.size, 4, none⟩) := by simpa [Act.eval] using ev26
   replace ev26 := Lib.hid ev26
   clear hO hD ho
   go_simp
   exact hK.out _ _ (Ex.refl _) rfl
  | 25, _, ho, hO, hD, hK => 
   obtain rfl := qoi ho
   have ev25 : FA.eval (.tmp 25) = .int .u8 (hb0 : Int) := hD 22 25 (by kernel_rfl)
   have e25 : FA.tmps[25]?.getD undef = .int .u8 (hb0 : Int) := by simpa [Act.eval] using ev25
   replace ev25 := Lib.hid ev25
   have ev27 : FA.eval (.tmp 27) = .int .u8 (f : Int) := hD 24 27 (by kernel_rfl)
   have e27 : FA.tmps[27]?.getD undef = .int .u8 (f : Int) := by simpa [Act.eval] using ev27
   replace ev27 := Lib.hid ev27
   clear hO hD ho
   go_simp
   refine hK.out _ _ (Ex.alloc _ _) ⟨_, _, _, rfl, ?_⟩
   refine Rb.litW _ [UInt8.ofNat (hb0), UInt8.ofNat (f)] ?_ rfl (by decide) ?_
   ·simp [size_plus]
   ·simp [bcs]; try omega
  | 26, _, ho, hO, hD, hK => 
   obtain rfl := qoi ho
   have ev1 : FA.eval (.tmp 1) = .pointer (some ⟨w.heap.size, 0, none⟩) := hO 1 (by kernel_rfl)
   have e1 : FA.tmps[1]?.getD undef = .pointer (some ⟨w.heap.size, 0, none⟩) := by simpa [Act.eval] using ev1
   replace ev1 := Lib.hid ev1
   clear hO hD ho
   go_simp
   exact hK.out _ _ (Ex.refl _) rfl
  | 27, _, ho, hO, hD, hK => 
   obtain rfl := qoi ho
   have ev29 : FA.eval (.tmp 29) = .pointer (some ⟨w.heap.size, 5, none⟩) := hD 26 29 (by kernel_rfl)
   have e29 : FA.tmps[29]?.getD undef = .pointer (some ⟨w.heap.size, 5, none⟩) := by simpa [Act.eval] using ev29
   replace ev29 := Lib.hid ev29
   clear hO hD ho
   go_simp
   exact hK.out _ _ (Ex.refl _) rfl
  | 28, _, ho, hO, hD, hK => 
   obtain rfl := qoi ho
   have ev30 : FA.eval (.tmp 30) = .int .u16 (wi : Int) := hD 27 30 (by kernel_rfl)
   have e30 : FA.tmps[30]?.getD undef = .int .u16 (wi : Int) := by simpa [Act.eval] using ev30
   replace ev30 := Lib.hid ev30
   clear hO hD ho
   go_simp
   exact hK.out _ _ (Ex.refl _) rfl
  | 29, _, ho, hO, hD, hK => 
   obtain rfl := qoi ho
   have ev31 : FA.eval (.tmp 31) = .int .u64 (wi : Int) := hD 28 31 (by kernel_rfl)
   have e31 : FA.tmps[31]?.getD undef = .int .u64 (wi : Int) := by simpa [Act.eval] using ev31
   replace ev31 := Lib.hid ev31
   clear hO hD ho
   go_simp
   refine (refBytes_any (wi) 2 _ (by omega) (by omega)).mono ?_
   rintro e w1 ⟨A2, n2, c2, bs2, d2, rfl, rfl, ho2⟩
   exact hK.out _ _ (Ex.plus_ _ _ _) ⟨_, _, _, rfl, ho2.rb⟩
  | 30, _, ho, hO, hD, hK => 
   obtain rfl := qoi ho
   have ev1 : FA.eval (.tmp 1) = .pointer (some ⟨w.heap.size, 0, none⟩) := hO 1 (by kernel_rfl)
   have e1 : FA.tmps[1]?.getD undef = .pointer (some ⟨w.heap.size, 0, none⟩) := by simpa [Act.eval] using ev1
   replace ev1 := Lib.hid ev1
   clear hO hD ho
   go_simp
   exact hK.out _ _ (Ex.refl _) rfl
  | 31, _, ho, hO, hD, hK => 
   obtain rfl := qoi ho
   have ev33 : FA.eval (.tmp 33) = .pointer (some ⟨w.heap.size, 6, none⟩) := hD 30 33 (by kernel_rfl)
   have e33 : FA.tmps[33]?.getD undef = .pointer (some ⟨w.heap.size, 6, none⟩) := by simpa [Act.eval] using ev33
   replace ev33 := Lib.hid ev33
   clear hO hD ho
   go_simp
   exact hK.out _ _ (Ex.refl _) rfl
  | 32, _, ho, hO, hD, hK => 
   obtain rfl := qoi ho
   have ev34 : FA.eval (.tmp 34) = .int .u16 (sm : Int) := hD 31 34 (by kernel_rfl)
   have e34 : FA.tmps[34]?.getD undef = .int .u16 (sm : Int) := by simpa [Act.eval] using ev34
   replace ev34 := Lib.hid ev34
   clear hO hD ho
   go_simp
   exact hK.out _ _ (Ex.refl _) rfl
  | 33, _, ho, hO, hD, hK => 
   obtain rfl := qoi ho
   have ev35 : FA.eval (.tmp 35) = .int .u64 (sm : Int) := hD 32 35 (by kernel_rfl)
   have e35 : FA.tmps[35]?.getD undef = .int .u64 (sm : Int) := by simpa [Act.eval] using ev35
   replace ev35 := Lib.hid ev35
   clear hO hD ho
   go_simp
   refine (refBytes_any (sm) 2 _ (by omega) (by omega)).mono ?_
   rintro e w1 ⟨A2, n2, c2, bs2, d2, rfl, rfl, ho2⟩
   exact hK.out _ _ (Ex.plus_ _ _ _) ⟨_, _, _, rfl, ho2.rb⟩
  | 34, _, ho, hO, hD, hK => 
   obtain rfl := qoi ho
   have ev1 : FA.eval (.tmp 1) = .pointer (some ⟨w.heap.size, 0, none⟩) := hO 1 (by kernel_rfl)
   have e1 : FA.tmps[1]?.getD undef = .pointer (some ⟨w.heap.size, 0, none⟩) := by simpa [Act.eval] using ev1
   replace ev1 := Lib.hid ev1
   clear hO hD ho
   go_simp
   exact hK.out _ _ (Ex.refl _) rfl
  | 35, _, ho, hO, hD, hK => 
   obtain rfl := qoi ho
   have ev37 : FA.eval (.tmp 37) = .pointer (some ⟨w.heap.size, 7, none⟩) := hD 34 37 (by kernel_rfl)
   have e37 : FA.tmps[37]?.getD undef = .pointer (some ⟨w.heap.size, 7, none⟩) := by simpa [Act.eval] using ev37
   replace ev37 := Lib.hid ev37
   clear hO hD ho
   go_simp
   exact hK.out _ _ (Ex.refl _) rfl
  | 36, _, ho, hO, hD, hK => 
   obtain rfl := qoi ho
   have ev38 : FA.eval (.tmp 38) = .int .u16 (ur : Int) := hD 35 38 (by kernel_rfl)
   have e38 : FA.tmps[38]?.getD undef = .int .u16 (ur : Int) := by simpa [Act.eval] using ev38
   replace ev38 := Lib.hid ev38
   clear hO hD ho
   go_simp
   exact hK.out _ _ (Ex.refl _) rfl
  | 37, _, ho, hO, hD, hK => 
   obtain rfl := qoi ho
   have ev39 : FA.eval (.tmp 39) = .int .u64 (ur : Int) := hD 36 39 (by kernel_rfl)
   have e39 : FA.tmps[39]?.getD undef = .int .u64 (ur : Int) := by simpa [Act.eval] using ev39
   replace ev39 := Lib.hid ev39
   clear hO hD ho
   go_simp
   refine (refBytes_any (ur) 2 _ (by omega) (by omega)).mono ?_
   rintro e w1 ⟨A2, n2, c2, bs2, d2, rfl, rfl, ho2⟩
   exact hK.out _ _ (Ex.plus_ _ _ _) ⟨_, _, _, rfl, ho2.rb⟩
  | 38, _, ho, hO, hD, hK => 
   obtain rfl := qoi ho
   have ev1 : FA.eval (.tmp 1) = .pointer (some ⟨w.heap.size, 0, none⟩) := hO 1 (by kernel_rfl)
   have e1 : FA.tmps[1]?.getD undef = .pointer (some ⟨w.heap.size, 0, none⟩) := by simpa [Act.eval] using ev1
   replace ev1 := Lib.hid ev1
   clear hO hD ho
   go_simp
   exact hK.out _ _ (Ex.refl _) rfl
  | 39, _, ho, hO, hD, hK => 
   obtain rfl := qoi ho
   have ev41 : FA.eval (.tmp 41) = .pointer (some ⟨w.heap.size, 8, none⟩) := hD 38 41 (by kernel_rfl)
   have e41 : FA.tmps[41]?.getD undef = .pointer (some ⟨w.heap.size, 8, none⟩) := by simpa [Act.eval] using ev41
   replace ev41 := Lib.hid ev41
   clear hO hD ho
   go_simp
   exact hK.out _ _ (Ex.refl _) rfl
  | 40, _, ho, hO, hD, hK => 
   obtain rfl := qoi ho
   have ev1 : FA.eval (.tmp 1) = .pointer (some ⟨w.heap.size, 0, none⟩) := hO 1 (by kernel_rfl)
   have e1 : FA.tmps[1]?.getD undef = .pointer (some ⟨w.heap.size, 0, none⟩) := by simpa [Act.eval] using ev1
   replace ev1 := Lib.hid ev1
   clear hO hD ho
   go_simp
   exact hK.out _ _ (Ex.refl _) rfl
  | 41, _, ho, hO, hD, hK => 
   obtain rfl := qoi ho
   have ev43 : FA.eval (.tmp 43) = .pointer (some ⟨w.heap.size, 9, none⟩) := hD 40 43 (by kernel_rfl)
   have e43 : FA.tmps[43]?.getD undef = .pointer (some ⟨w.heap.size, 9, none⟩) := by simpa [Act.eval] using ev43
   replace ev43 := Lib.hid ev43
   clear hO hD ho
   go_simp
   exact hK.out _ _ (Ex.refl _) rfl
  | 42, _, ho, hO, hD, hK => 
   obtain rfl := qoi ho
   have f6 := hD 3 6 (by kernel_rfl)
   generalize eu6 : FA.eval (.tmp 6) = u6 at f6
   have e6 : FA.tmps[6]?.getD undef = u6 := by rw [← eu6]; simp [Act.eval]
   have ev6 := Lib.hid eu6
   clear eu6
   have f10 := hD 7 10 (by kernel_rfl)
   generalize eu10 : FA.eval (.tmp 10) = u10 at f10
   have e10 : FA.tmps[10]?.getD undef = u10 := by rw [← eu10]; simp [Act.eval]
   have ev10 := Lib.hid eu10
   clear eu10
   have f14 := hD 11 14 (by kernel_rfl)
   generalize eu14 : FA.eval (.tmp 14) = u14 at f14
   have e14 : FA.tmps[14]?.getD undef = u14 := by rw [← eu14]; simp [Act.eval]
   have ev14 := Lib.hid eu14
   clear eu14
   have f18 := hD 15 18 (by kernel_rfl)
   generalize eu18 : FA.eval (.tmp 18) = u18 at f18
   have e18 : FA.tmps[18]?.getD undef = u18 := by rw [← eu18]; simp [Act.eval]
   have ev18 := Lib.hid eu18
   clear eu18
   have f28 := hD 25 28 (by kernel_rfl)
   generalize eu28 : FA.eval (.tmp 28) = u28 at f28
   have e28 : FA.tmps[28]?.getD undef = u28 := by rw [← eu28]; simp [Act.eval]
   have ev28 := Lib.hid eu28
   clear eu28
   have f32 := hD 29 32 (by kernel_rfl)
   generalize eu32 : FA.eval (.tmp 32) = u32 at f32
   have e32 : FA.tmps[32]?.getD undef = u32 := by rw [← eu32]; simp [Act.eval]
   have ev32 := Lib.hid eu32
   clear eu32
   have f36 := hD 33 36 (by kernel_rfl)
   generalize eu36 : FA.eval (.tmp 36) = u36 at f36
   have e36 : FA.tmps[36]?.getD undef = u36 := by rw [← eu36]; simp [Act.eval]
   have ev36 := Lib.hid eu36
   clear eu36
   have f40 := hD 37 40 (by kernel_rfl)
   generalize eu40 : FA.eval (.tmp 40) = u40 at f40
   have e40 : FA.tmps[40]?.getD undef = u40 := by rw [← eu40]; simp [Act.eval]
   have ev40 := Lib.hid eu40
   clear eu40
   have ev42 : FA.eval (.tmp 42) = .slice A n k := hD 39 42 (by kernel_rfl)
   have e42 : FA.tmps[42]?.getD undef = .slice A n k := by simpa [Act.eval] using ev42
   replace ev42 := Lib.hid ev42
   have ev44 : FA.eval (.tmp 44) = .slice A2 n2 k2 := hD 41 44 (by kernel_rfl)
   have e44 : FA.tmps[44]?.getD undef = .slice A2 n2 k2 := by simpa [Act.eval] using ev44
   replace ev44 := Lib.hid ev44
   clear hO hD ho
   obtain ⟨A6, n6, c6, rfl, h6⟩ := f6
   obtain ⟨A10, n10, c10, rfl, h10⟩ := f10
   obtain ⟨A14, n14, c14, rfl, h14⟩ := f14
   obtain ⟨A18, n18, c18, rfl, h18⟩ := f18
   obtain ⟨A28, n28, c28, rfl, h28⟩ := f28
   obtain ⟨A32, n32, c32, rfl, h32⟩ := f32
   obtain ⟨A36, n36, c36, rfl, h36⟩ := f36
   obtain ⟨A40, n40, c40, rfl, h40⟩ := f40
   go_simp
   refine hK.out _ _ (Ex.alloc _ _) ⟨_, _, _, rfl, ?_⟩
   refine RdL.litW _ _ ?_ ?_
   ·simp [size_plus]
   ·exact .cons ⟨_, _, _, rfl, h6⟩ (.cons ⟨_, _, _, rfl, h10⟩ (.cons ⟨_, _, _, rfl, h14⟩ (.cons ⟨_, _, _, rfl, h18⟩ (.cons ⟨_, _, _, rfl, h28⟩ (.cons ⟨_, _, _, rfl, h32⟩ (.cons ⟨_, _, _, rfl, h36⟩ (.cons ⟨_, _, _, rfl, h40⟩ (.cons ⟨_, _, _, rfl, (h.alloc _).plus_ _ _⟩ (.cons ⟨_, _, _, rfl, (h2.alloc _).plus_ _ _⟩ (.nil))))))))))
  | 43, _, ho, hO, hD, hK => 
   obtain rfl := qoi ho
   have f45 := hD 42 45 (by kernel_rfl)
   generalize eu45 : FA.eval (.tmp 45) = u45 at f45
   have e45 : FA.tmps[45]?.getD undef = u45 := by rw [← eu45]; simp [Act.eval]
   have ev45 := Lib.hid eu45
   clear eu45
   clear hO hD ho
   obtain ⟨A1, m1, c1, rfl, hl1⟩ := f45
   have hm1 : m1 ≤ 100 := by obtain ⟨_, _, h2, _⟩ := hl1; simp only [List.length_cons, List.length_nil] at h2; omega
   go_simp
   refine (refJoin_any A1 m1 c1 _ _ hl1 (by omega) HT.out).mono ?_
   rintro e w1 ⟨A2, n2, c2, bs2, d2, rfl, rfl, ho2⟩
   exact hK.out _ _ (Ex.plus_ _ _ _) ⟨_, _, _, rfl, ho2.mono (by simp [size_plus]; omega)⟩
  | 44, _, ho, hO, hD, hK => 
   obtain rfl := qoi ho
   have f46 := hD 43 46 (by kernel_rfl)
   generalize eu46 : FA.eval (.tmp 46) = u46 at f46
   have e46 : FA.tmps[46]?.getD undef = u46 := by rw [← eu46]; simp [Act.eval]
   have ev46 := Lib.hid eu46
   clear eu46
   clear hO hD ho
   go_simp
   exact hK.out _ _ (Ex.refl _) f46
  | (k + 45), hi, _, _, _, _ => exact absurd hi (by omega)
 intro vs x hp
 have p0 : vs 0 = .pointer (some ⟨w.heap.size, 0, none⟩) := hp 0 (by omega)
 have p1 : vs 1 = .int .u16 (a : Int) := hp 1 (by omega)
 have p2 : vs 2 = .int .u64 (a : Int) := hp 2 (by omega)
 have p3 := hp 3 (by omega)
 have p4 : vs 4 = .pointer (some ⟨w.heap.size, 1, none⟩) := hp 4 (by omega)
 have p5 : vs 5 = .int .u16 (b : Int) := hp 5 (by omega)
 have p6 : vs 6 = .int .u64 (b : Int) := hp 6 (by omega)
 have p7 := hp 7 (by omega)
 have p8 : vs 8 = .pointer (some ⟨w.heap.size, 2, none⟩) := hp 8 (by omega)
 have p9 : vs 9 = .int .u32 (c : Int) := hp 9 (by omega)
 have p10 : vs 10 = .int .u64 (c : Int) := hp 10 (by omega)
 have p11 := hp 11 (by omega)
 have p12 : vs 12 = .pointer (some ⟨w.heap.size, 3, none⟩) := hp 12 (by omega)
 have p13 : vs 13 = .int .u32 (d : Int) := hp 13 (by omega)
 have p14 : vs 14 = .int .u64 (d : Int) := hp 14 (by omega)
 have p15 := hp 15 (by omega)
 have p16 : vs 16 = .pointer (some ⟨w.heap.size, 8, none⟩) := hp 16 (by omega)
 have p17 : vs 17 = .slice A n k := hp 17 (by omega)
 have p18 : vs 18 = .int .i64 (n : Int) := hp 18 (by omega)
 have p19 : vs 19 = .int .i64 (q4 : Int) := hp 19 (by omega)
 have p20 : vs 20 = .int .i64 (q16 : Int) := hp 20 (by omega)
 have p21 : vs 21 = .int .i64 (hb0 : Int) := hp 21 (by omega)
 have p22 : vs 22 = .int .u8 (hb0 : Int) := hp 22 (by omega)
 have p23 : vs 23 = .pointer (some ⟨w.heap.size, 4, none⟩) := hp 23 (by omega)
 have p24 : vs 24 = .int .u8 (f : Int) := hp 24 (by omega)
 have p25 := hp 25 (by omega)
 have p26 : vs 26 = .pointer (some ⟨w.heap.size, 5, none⟩) := hp 26 (by omega)
 have p27 : vs 27 = .int .u16 (wi : Int) := hp 27 (by omega)
 have p28 : vs 28 = .int .u64 (wi : Int) := hp 28 (by omega)
 have p29 := hp 29 (by omega)
 have p30 : vs 30 = .pointer (some ⟨w.heap.size, 6, none⟩) := hp 30 (by omega)
 have p31 : vs 31 = .int .u16 (sm : Int) := hp 31 (by omega)
 have p32 : vs 32 = .int .u64 (sm : Int) := hp 32 (by omega)
 have p33 := hp 33 (by omega)
 have p34 : vs 34 = .pointer (some ⟨w.heap.size, 7, none⟩) := hp 34 (by omega)
 have p35 : vs 35 = .int .u16 (ur : Int) := hp 35 (by omega)
 have p36 : vs 36 = .int .u64 (ur : Int) := hp 36 (by omega)
 have p37 := hp 37 (by omega)
 have p38 : vs 38 = .pointer (some ⟨w.heap.size, 8, none⟩) := hp 38 (by omega)
 have p39 : vs 39 = .slice A n k := hp 39 (by omega)
 have p40 : vs 40 = .pointer (some ⟨w.heap.size, 9, none⟩) := hp 40 (by omega)
 have p41 : vs 41 = .slice A2 n2 k2 := hp 41 (by omega)
 have p42 := hp 42 (by omega)
 have p43 := hp 43 (by omega)
 have p44 := hp 44 (by omega)
 clear hp
 simp only [List.take_succ_cons, List.take_zero, List.drop_succ_cons, List.drop_zero, putAll, Nat.zero_add, Nat.reduceAdd, Act.put, qsT, qsZ, qsS, p0, p1, p2, p4, p5, p6, p8, p9, p10, p12, p13, p14, p16, p17, p18, p19, p20, p21, p22, p23, p24, p26, p27, p28, p30, p31, p32, p34, p35, p36, p38, p39, p40, p41]
 clear p0 p1 p2 p4 p5 p6 p8 p9 p10 p12 p13 p14 p16 p17 p18 p19 p20 p21 p22 p23 p24 p26 p27 p28 p30 p31 p32 p34 p35 p36 p38 p39 p40 p41
 generalize vs 3 = y3 at *
 generalize vs 7 = y7 at *
 generalize vs 11 = y11 at *
 generalize vs 15 = y15 at *
 generalize vs 25 = y25 at *
 generalize vs 29 = y29 at *
 generalize vs 33 = y33 at *
 generalize vs 37 = y37 at *
 generalize vs 42 = y42 at *
 generalize vs 43 = y43 at *
 generalize vs 44 = y44 at *
 clear vs
 obtain ⟨A9, n9, c9, rfl, h9⟩ := p44
 go_wp2
 go_ret
 exact RetB.mk h9 (belowP (Below.allocS (Below.refl _ _) _) _ _)
set_option maxRecDepth 100000 in
theorem tcpSize_any (a b c d f wi sm ur : Nat) (A : Option Addr) (n k : Nat) (A2 : Option Addr) (n2 k2 : Nat) (w : World) (hn : n ≤ 2000000) (hn2 : 20 + n + n2 ≤ 6553500) : Calls Tryz.prog 46 #[.agg #[.int .u16 (a : Int), .int .u16 (b : Int), .int .u32 (c : Int), .int .u32 (d : Int), .int .u8 (f : Int), .int .u16 (wi : Int), .int .u16 (sm : Int), .int .u16 (ur : Int), .slice A n k, .slice A2 n2 k2]] w (RetV w (.int .i64 ((20 + n + n2 : Nat) : Int))) := by
 go_enter Tryz.func46, Tryz.ntmps46
 go_wp2
 go_ret
 exact RetV.is_ (by simp) (Below.allocS (Below.refl _ _) _)
set_option maxHeartbeats 2000000 in
set_option maxRecDepth 100000 in
theorem tcpRight_yes (a b c d f wi sm ur : Nat) (A : Option Addr) (n k : Nat) (A2 : Option Addr) (n2 k2 : Nat) (w : World) (hn : n ≤ 40) (h4 : n % 4 = 0) (hn2 : 20 + n + n2 ≤ 65535) : Calls Tryz.prog 25 #[.agg #[.int .u16 (a : Int), .int .u16 (b : Int), .int .u32 (c : Int), .int .u32 (d : Int), .int .u8 (f : Int), .int .u16 (wi : Int), .int .u16 (sm : Int), .int .u16 (ur : Int), .slice A n k, .slice A2 n2 k2]] w (RetV w (.bool true)) := by
 have t1 : ((n : Int) % 4 == 0) = true := by rw [beq_iff_eq]; omega
 replace h4 := Lib.hid h4
 have HS := Lib.hid (fun w => tcpSize_any a b c d f wi sm ur A n k A2 n2 k2 w (by omega) (by omega))
 have hz : 20 + n + n2 ≤ 65535 := by omega
 generalize 20 + n + n2 = z at *
 go_enter Tryz.func25, Tryz.ntmps25
 go_wp2_with (go_at_call 46; refine (HS.out _).mono ?_; rintro e w1 ⟨bs1, d1, rfl, rfl⟩)
 go_ret
 exact RetV.is_ (by simp; omega) (belowP (Below.allocS (Below.refl _ _) _) _ _)
set_option maxHeartbeats 2000000 in
set_option maxRecDepth 100000 in
theorem refTcpRight_yes (a b c d f wi sm ur : Nat) (A : Option Addr) (n k : Nat) (A2 : Option Addr) (n2 k2 : Nat) (w : World) (hn : n ≤ 40) (h4 : n % 4 = 0) (hn2 : 20 + n + n2 ≤ 65535) : Calls Tryz.prog 35 #[.agg #[.int .u16 (a : Int), .int .u16 (b : Int), .int .u32 (c : Int), .int .u32 (d : Int), .int .u8 (f : Int), .int .u16 (wi : Int), .int .u16 (sm : Int), .int .u16 (ur : Int), .slice A n k, .slice A2 n2 k2]] w (RetV w (.bool true)) := by
 have t1 : ((n : Int) % 4 == 0) = true := by rw [beq_iff_eq]; omega
 replace h4 := Lib.hid h4
 go_enter Tryz.func35, Tryz.ntmps35
 go_wp2
 go_ret
 exact RetV.is_ (by simp; omega) (Below.allocS (Below.refl _ _) _)
theorem tcpBytes_yes (a b c d f wi sm ur : Nat) (A : Option Addr) (n k : Nat) (A2 : Option Addr) (n2 k2 : Nat) (l l2 : List UInt8) (w : World) (ha : a < 65536) (hb : b < 65536) (hc : c < 4294967296) (hd : d < 4294967296) (hf : f < 256) (hwi : wi < 65536) (hsm : sm < 65536) (hur : ur < 65536) (h : Rb w A n k l) (h2 : Rb w A2 n2 k2 l2) (hn : n ≤ 40) (h4 : n % 4 = 0) (hn2 : 20 + n + n2 ≤ 65535) : Calls Tryz.prog 28 #[.agg #[.int .u16 (a : Int), .int .u16 (b : Int), .int .u32 (c : Int), .int .u32 (d : Int), .int .u8 (f : Int), .int .u16 (wi : Int), .int .u16 (sm : Int), .int .u16 (ur : Int), .slice A n k, .slice A2 n2 k2]] w (RetB w (tcpB a b c d (80 + n / 4 * 16) f wi sm ur l l2)) := by
 have HR := Lib.hid (fun w => tcpRight_yes a b c d f wi sm ur A n k A2 n2 k2 w hn h4 hn2)
 replace h4 := Lib.hid h4
 go_enter Tryz.func28, Tryz.ntmps28
 go_wp2_with fail
 refine (HR.out _).mono ?_
 rintro e w1 ⟨bs0, m0, rfl, rfl⟩
 go_wp2_with fail
 refine (put_full _ _ _ [] a 2 _ Rb.nil_ (by omega) (by omega) (by omega) (by omega)).mono ?_
 rintro e w1 ⟨A10, n10, bs10, m10, rfl, rfl, ho10⟩
 have l10 : n10 ≤ 100 := by rw [← ho10.1]; simp [dig_length]
 go_wp2_with fail
 refine (put_full _ _ _ _ b 2 _ ho10.rb (by omega) (by omega) (by omega) (by omega)).mono ?_
 rintro e w1 ⟨A11, n11, bs11, m11, rfl, rfl, ho11⟩
 have l11 : n11 ≤ 100 := by rw [← ho11.1]; simp [dig_length]
 go_wp2_with fail
 refine (put_full _ _ _ _ c 4 _ ho11.rb (by omega) (by omega) (by omega) (by omega)).mono ?_
 rintro e w1 ⟨A12, n12, bs12, m12, rfl, rfl, ho12⟩
 have l12 : n12 ≤ 100 := by rw [← ho12.1]; simp [dig_length]
 go_wp2_with fail
 refine (put_full _ _ _ _ d 4 _ ho12.rb (by omega) (by omega) (by omega) (by omega)).mono ?_
 rintro e w1 ⟨A13, n13, bs13, m13, rfl, rfl, ho13⟩
 have l13 : n13 ≤ 100 := by rw [← ho13.1]; simp [dig_length]
 go_wp2_with fail
 refine (put_int_full _ _ _ _ _ 1 _ ho13.rb (by omega) (by omega) (by omega) (by omega) (by omega)).mono ?_
 rintro e w1 ⟨A14, n14, bs14, m14, rfl, rfl, ho14⟩
 have l14 : n14 ≤ 100 := by rw [← ho14.1]; simp [dig_length]
 go_wp2_with fail
 refine (put_full _ _ _ _ f 1 _ ho14.rb (by omega) (by omega) (by omega) (by omega)).mono ?_
 rintro e w1 ⟨A15, n15, bs15, m15, rfl, rfl, ho15⟩
 have l15 : n15 ≤ 100 := by rw [← ho15.1]; simp [dig_length]
 go_wp2_with fail
 refine (put_full _ _ _ _ wi 2 _ ho15.rb (by omega) (by omega) (by omega) (by omega)).mono ?_
 rintro e w1 ⟨A16, n16, bs16, m16, rfl, rfl, ho16⟩
 have l16 : n16 ≤ 100 := by rw [← ho16.1]; simp [dig_length]
 go_wp2_with fail
 refine (put_full _ _ _ _ sm 2 _ ho16.rb (by omega) (by omega) (by omega) (by omega)).mono ?_
 rintro e w1 ⟨A17, n17, bs17, m17, rfl, rfl, ho17⟩
 have l17 : n17 ≤ 100 := by rw [← ho17.1]; simp [dig_length]
 go_wp2_with fail
 refine (put_full _ _ _ _ ur 2 _ ho17.rb (by omega) (by omega) (by omega) (by omega)).mono ?_
 rintro e w1 ⟨A18, n18, bs18, m18, rfl, rfl, ho18⟩
 have l18 : n18 ≤ 100 := by rw [← ho18.1]; simp [dig_length]
 go_wp2_with (first
  | (refine at_op (.call { callee := .builtin .append, args := #[.tmp 55, .tmp 57], argTypes := #[37, 37] }) rfl ?_; refine wpList_appP _ bt rfl (.tmp 55) (.tmp 57) rfl (by exact below_plus _ bs18 m18) rfl ho18 rfl (by exact h.alloc _ |>.plus_ _ _ |>.plus_ _ _ |>.plus_ _ _ |>.plus_ _ _ |>.plus_ _ _ |>.plus_ _ _ |>.plus_ _ _ |>.plus_ _ _ |>.plus_ _ _ |>.plus_ _ _) (by omega) ?_; intro A20 n20 k20 bs20 m20 ho20 hg20; have l20 : n20 ≤ 200 := (by rw [← ho20.1]; simp [dig_length, h.1]; omega))
  | (refine at_op (.call { callee := .builtin .append, args := #[.tmp 59, .tmp 61], argTypes := #[37, 37] }) rfl ?_; refine wpList_appP _ bt rfl (.tmp 59) (.tmp 61) rfl (by exact below_plus _ bs20 m20) rfl ho20 rfl (by exact h2.alloc _ |>.plus_ _ _ |>.plus_ _ _ |>.plus_ _ _ |>.plus_ _ _ |>.plus_ _ _ |>.plus_ _ _ |>.plus_ _ _ |>.plus_ _ _ |>.plus_ _ _ |>.plus_ _ _) (by omega) ?_; intro A21 n21 k21 bs21 m21 ho21 hg21))
 go_ret
 refine RetB.mk ?_ (belowP (belowP (belowP (belowP (belowP (belowP (belowP (belowP (belowP (belowP (Below.allocS (Below.refl _ _) _) _ _) _ _) _ _) _ _) _ _) _ _) _ _) _ _) _ _) _ _)
 have e1 : ((20 + (n : Int)) / 4 * 16).toNat = 80 + n / 4 * 16 := by omega
 have e2 : [] ++ dig a 2 ++ dig b 2 ++ dig c 4 ++ dig d 4 ++ dig ((20 + (n : Int)) / 4 * 16).toNat 1 ++ dig f 1 ++ dig wi 2 ++ dig sm 2 ++ dig ur 2 ++ l ++ l2 = tcpB a b c d (80 + n / 4 * 16) f wi sm ur l l2 := by
  rw [e1, dig1 _ (by omega), dig1 _ hf]
  simp [tcpB]
 rw [e2] at ho21
 exact ho21.mono (by simp [size_plus]; omega)
end

section
open Go.RowKit
attribute [local go_sem ↓] sliced_cut
attribute [local go_sem] cutA_zero
def sgC (a b c d f wi sm ur : Nat) (A : Option Addr) (n k : Nat) (A2 : Option Addr) (n2 k2 : Nat) : List Value := [.int .u16 (a : Int), .int .u16 (b : Int), .int .u32 (c : Int), .int .u32 (d : Int), .int .u8 (f : Int), .int .u16 (wi : Int), .int .u16 (sm : Int), .int .u16 (ur : Int), .slice A n k, .slice A2 n2 k2]
theorem sgC_one (a b c d f wi sm ur : Nat) (A : Option Addr) (n k : Nat) (A2 : Option Addr) (n2 k2 : Nat) : ∀ u ∈ sgC a b c d f wi sm ur A n k A2 n2 k2, u.oneCell' = true := by
 intro u hu
 simp only [sgC, List.mem_cons, List.not_mem_nil, or_false] at hu
 rcases hu with rfl | rfl | rfl | rfl | rfl | rfl | rfl | rfl | rfl | rfl <;> rfl
theorem szSG (a b c d f wi sm ur : Nat) (A : Option Addr) (n k : Nat) (A2 : Option Addr) (n2 k2 : Nat) : (Tryz.prog.info? 49).map (·.size) = some (sgC a b c d f wi sm ur A n k A2 n2 k2).length := by kernel_rfl
theorem rowSG : ∃ d, Tryz.prog.underlying 49 = some d ∧ d.isRow = true := ⟨_, Tryz.underlying49, rfl⟩
def RetSO (w : World) (a b c d f wi sm ur : Nat) (l l2 : List UInt8) (e : Ending) (w' : World) : Prop := ∃ A n k A2 n2 k2, e = .returned (.agg (sgC a b c d f wi sm ur A n k A2 n2 k2).toArray) ∧ Below w.heap.size w w' ∧ Ob w' w.heap.size A n k l ∧ Ob w' w.heap.size A2 n2 k2 l2
def RetSD (w : World) (a b c d f wi sm ur : Nat) (l l2 : List UInt8) (e : Ending) (w' : World) : Prop := ∃ A n k A2 n2 k2, e = .returned (.agg (sgC a b c d f wi sm ur A n k A2 n2 k2).toArray) ∧ Below w.heap.size w w' ∧ Ob w' w.heap.size A n k l ∧ Ob w' w.heap.size A2 n2 k2 l2 ∧ ∀ g, (Value.slice A n k).ownBlock = some g → ¬ (Value.slice A2 n2 k2).ownBlock = some g
set_option maxHeartbeats 4000000
set_option maxRecDepth 100000
theorem segCopiedD (a b c d f wi sm ur : Nat) (A : Option Addr) (n k : Nat) (A2 : Option Addr) (n2 k2 : Nat) (l l2 : List UInt8) (w : World) (hl0 : Rb w A n k l) (h2 : Rb w A2 n2 k2 l2) (hn : n ≤ 20000) (hn2 : n2 ≤ 70000) : Calls Tryz.prog 47 #[.agg (sgC a b c d f wi sm ur A n k A2 n2 k2).toArray] w (RetSD w a b c d f wi sm ur l l2) := by
 have HL2 := Lib.hid h2
 have HLN := Lib.hid hl0.1
 have HLN2 := Lib.hid h2.1
 obtain ⟨du1, u1, u2⟩ := rowSG
 obtain ⟨hS, hR, be, zV⟩ := box2 w 49 49 (sgC a b c d f wi sm ur A n k A2 n2 k2) ([.int .u16 0, .int .u16 0, .int .u32 0, .int .u32 0, .int .u8 0, .int .u16 0, .int .u16 0, .int .u16 0, .slice none 0 0, .slice none 0 0])
 replace hl0 := ((hl0.alloc (.cells (sgC a b c d f wi sm ur A n k A2 n2 k2).toArray 49)).alloc (.cells ([.int .u16 0, .int .u16 0, .int .u32 0, .int .u32 0, .int .u8 0, .int .u16 0, .int .u16 0, .int .u16 0, .slice none 0 0, .slice none 0 0]).toArray 49))
 replace h2 := ((h2.alloc (.cells (sgC a b c d f wi sm ur A n k A2 n2 k2).toArray 49)).alloc (.cells ([.int .u16 0, .int .u16 0, .int .u32 0, .int .u32 0, .int .u8 0, .int .u16 0, .int .u16 0, .int .u16 0, .slice none 0 0, .slice none 0 0]).toArray 49))
 go_enter Tryz.func47, Tryz.ntmps47
 go_upto_region 1 with (fail)
 generalize (w.alloc (.cells (sgC a b c d f wi sm ur A n k A2 n2 k2).toArray 49)).alloc (.cells ([.int .u16 0, .int .u16 0, .int .u32 0, .int .u32 0, .int .u8 0, .int .u16 0, .int .u16 0, .int .u16 0, .slice none 0 0, .slice none 0 0]).toArray 49) = V at *
 replace hR : Bk V (w.heap.size + 1) 49 (sgC 0 0 0 0 0 0 0 0 none 0 0 none 0 0) := hR
 refine wp_region_lit ?_
 refine wpList_plain rfl (fun K hK => ?_); go_simp; with_reducible refine hK _ _ ?_; clear hK K
 refine wpList_ld1 (t := 49) (cs := sgC a b c d f wi sm ur A n k A2 n2 k2) 37 (.tmp 3) rfl (by rfl) rfl (hS) rfl Tryz.underlying37 rfl ?_
 refine wpList_plain rfl (fun K hK => ?_)
 go_simp
 refine (clone_any A n k l V hl0 (by omega)).mono ?_
 rintro e w1 ⟨A4, n4, c4, bs1, d1, rfl, rfl, hoL⟩
 with_reducible refine hK _ _ ?_
 clear hK K
 refine wpList_plain rfl (fun K hK => ?_); go_simp; with_reducible refine hK _ _ ?_; clear hK K
 obtain rfl : n = n4 := by have := hoL.1; have := HLN.out; omega
 replace hoL := hoL.mono zV
 clear h2
 have b4 := below_plus V bs1 d1
 have zW : w.heap.size + 2 ≤ (plus V bs1 d1).heap.size := Nat.le_trans zV b4.size
 replace zV := zW
 clear zW
 replace be := belowP be bs1 d1
 replace hS := hS.later b4
 replace hR := hR.later b4
 clear b4
 generalize plus V bs1 d1 = V0 at *
 refine wpList_st1 37 (.tmp 6) (.tmp 5) rfl rfl (by rfl) (by rfl) hS (Nat.le_of_ble_eq_true rfl) rfl (by kernel_rfl) ?_
 intro V1 hS' g1
 replace hS : Bk V1 w.heap.size 49 (sgC a b c d f wi sm ur A4 n c4 A2 n2 k2) := hS'
 clear hS'
 simp only [Act.put, qsT, qsZ, qsS]
 replace be := below_grown be g1 (Nat.le_refl _)
 replace hR := hR.grown g1 (by simp)
 replace zV := Nat.le_trans zV g1.size
 replace hoL := hoL.grown g1 (fun k hk e => by have := (hoL.blk k hk).1; injection e with e; omega)
 clear g1
 have h2 := HL2.out.later be
 go_upto_region 2 with (fail)
 refine wp_region_lit ?_
 refine wpList_plain rfl (fun K hK => ?_); go_simp; with_reducible refine hK _ _ ?_; clear hK K
 refine wpList_ld1 (t := 49) (cs := sgC a b c d f wi sm ur A4 n c4 A2 n2 k2) 37 (.tmp 7) rfl (by rfl) rfl (hS) rfl Tryz.underlying37 rfl ?_
 refine wpList_plain rfl (fun K hK => ?_)
 go_simp
 refine (clone_any A2 n2 k2 l2 V1 h2 (by omega)).mono ?_
 rintro e w1 ⟨A5, n5, c5, bs2, d2, rfl, rfl, hoD⟩
 with_reducible refine hK _ _ ?_
 clear hK K
 refine wpList_plain rfl (fun K hK => ?_); go_simp; with_reducible refine hK _ _ ?_; clear hK K
 obtain rfl : n2 = n5 := by have := hoD.1; have := HLN2.out; omega
 have hdis : ∀ g, (Value.slice A4 n c4).ownBlock = some g → ¬ (Value.slice A5 n2 c5).ownBlock = some g := fun g h1 h2 => by have := (hoL.blk g h1).2; have := (hoD.blk g h2).1; omega
 replace hoD := hoD.mono zV
 clear h2
 have b4 := below_plus V1 bs2 d2
 have zW : w.heap.size + 2 ≤ (plus V1 bs2 d2).heap.size := Nat.le_trans zV b4.size
 replace zV := zW
 clear zW
 replace be := belowP be bs2 d2
 replace hS := hS.later b4
 replace hR := hR.later b4
 replace hoL := hoL.later b4
 clear b4
 generalize plus V1 bs2 d2 = V0 at *
 refine wpList_st1 37 (.tmp 10) (.tmp 9) rfl rfl (by rfl) (by rfl) hS (Nat.le_of_ble_eq_true rfl) rfl (by kernel_rfl) ?_
 intro V2 hS' g2
 replace hS : Bk V2 w.heap.size 49 (sgC a b c d f wi sm ur A4 n c4 A5 n2 c5) := hS'
 clear hS'
 simp only [Act.put, qsT, qsZ, qsS]
 replace be := below_grown be g2 (Nat.le_refl _)
 replace hR := hR.grown g2 (by simp)
 replace zV := Nat.le_trans zV g2.size
 replace hoL := hoL.grown g2 (fun k hk e => by have := (hoL.blk k hk).1; injection e with e; omega)
 replace hoD := hoD.grown g2 (fun k hk e => by have := (hoD.blk k hk).1; injection e with e; omega)
 clear g2
 go_upto_region 3 with (fail)
 refine wp_region_lit ?_
 refine wpList_ldA (t := 49) 49 (.tmp 1) rfl rfl (sgC a b c d f wi sm ur A4 n c4 A5 n2 c5) rfl (hS) (whole_ _) u1 u2 (szSG _ _ _ _ _ _ _ _ _ _ _ _ _ _ ) ?_
 simp only [Act.put, qsT, qsZ, qsS]
 refine wpList_stA 49 (.tmp 2) (.tmp 11) rfl rfl (sgC a b c d f wi sm ur A4 n c4 A5 n2 c5) (sgC 0 0 0 0 0 0 0 0 none 0 0 none 0 0) rfl (sgC_one _ _ _ _ _ _ _ _ _ _ _ _ _ _ ) rfl rfl hR (szSG _ _ _ _ _ _ _ _ _ _ _ _ _ _ ) ?_
 intro W9 h9 g9
 simp only [Act.put, qsT, qsZ, qsS]
 go_wp2
 refine bodyPost_agg Tryz.results47 rfl h9.range u1 u2 (szSG _ _ _ _ _ _ _ _ _ _ _ _ _ _ ) rfl ?_
 have be9 := below_grown be g9 (by omega)
 exact ⟨_, _, _, _, _, _, rfl, be9, (hoL.grown g9 (fun k hk e => by have := (hoL.blk k hk).1; injection e with e; omega)).mono (by omega), (hoD.grown g9 (fun k hk e => by have := (hoD.blk k hk).1; injection e with e; omega)).mono (by omega), hdis⟩
theorem segCopied (a b c d f wi sm ur : Nat) (A : Option Addr) (n k : Nat) (A2 : Option Addr) (n2 k2 : Nat) (l l2 : List UInt8) (w : World) (hl0 : Rb w A n k l) (h2 : Rb w A2 n2 k2 l2) (hn : n ≤ 20000) (hn2 : n2 ≤ 70000) : Calls Tryz.prog 47 #[.agg (sgC a b c d f wi sm ur A n k A2 n2 k2).toArray] w (RetSO w a b c d f wi sm ur l l2) :=
 (segCopiedD a b c d f wi sm ur A n k A2 n2 k2 l l2 w hl0 h2 hn hn2).mono (fun _ _ ⟨A, n, k, A2, n2, k2, h1, h2, h3, h4, _⟩ => ⟨A, n, k, A2, n2, k2, h1, h2, h3, h4⟩)
def sumOfT (s6 : Bool) (sh sl : Nat) (d6 : Bool) (dh dl : Nat) (a b c d f wi ur : Nat) (l l2 : List UInt8) : Nat := 65535 - fd (tcT s6 sh sl d6 dh dl (tcpB a b c d (80 + l.length / 4 * 16) f wi 0 ur l l2))
theorem tcpB_lenS (a b c d hb0 f wi sm ur : Nat) (l l2 : List UInt8) : (tcpB a b c d hb0 f wi sm ur l l2).length = 20 + l.length + l2.length := by
 unfold tcpB
 simp [dig_length]
 omega
theorem segSummed (a b c d f wi sm ur : Nat) (A : Option Addr) (n k : Nat) (A2 : Option Addr) (n2 k2 : Nat) (s6 : Bool) (sh sl : Nat) (d6 : Bool) (dh dl : Nat) (l l2 : List UInt8) (w : World) (ha : a < 65536) (hb : b < 65536) (hc : c < 4294967296) (hd : d < 4294967296) (hf : f < 256) (hwi : wi < 65536) (hur : ur < 65536) (k1 : sh < 18446744073709551616) (k2' : sl < 18446744073709551616) (k3 : dh < 18446744073709551616) (k4' : dl < 18446744073709551616)
  (hl0 : Rb w A n k l) (h2 : Rb w A2 n2 k2 l2) (hn : n ≤ 40) (h4 : n % 4 = 0) (hn2 : n2 ≤ 20000) : Calls Tryz.prog 27 #[.agg (sgC a b c d f wi sm ur A n k A2 n2 k2).toArray, .agg (adC s6 sh sl).toArray, .agg (adC d6 dh dl).toArray] w (RetSO w a b c d f wi (sumOfT s6 sh sl d6 dh dl a b c d f wi ur l l2) ur l l2) := by
 obtain ⟨T, hT⟩ : ∃ T, tcpB a b c d (80 + n / 4 * 16) f wi 0 ur l l2 = T := ⟨_, rfl⟩
 have hTl : T.length = 20 + n + n2 := by rw [← hT, tcpB_lenS, hl0.1, h2.1]
 have HSM : Hid (sumOfT s6 sh sl d6 dh dl a b c d f wi ur l l2 = 65535 - fd (tcT s6 sh sl d6 dh dl T)) := Lib.hid (by unfold sumOfT; rw [hl0.1, hT])
 obtain ⟨m, hm⟩ : ∃ m, 20 + n + n2 = m := ⟨_, rfl⟩
 rw [hm] at hTl
 have hm9 : m ≤ 21000 := by omega
 have HBY := Lib.hid (fun W A n k A2 n2 k2 (h : Rb W A n k l) (h2 : Rb W A2 n2 k2 l2) (hn : n ≤ 40) (h4 : n % 4 = 0) (hn2 : n2 ≤ 20000) => tcpBytes_yes a b c d f wi 0 ur A n k A2 n2 k2 l l2 W ha hb hc hd hf hwi (by decide) hur h h2 hn h4 (by omega))
 have HRI := Lib.hid (fun W A k A2 k2 => tcpRight_yes a b c d f wi sm ur A n k A2 n2 k2 W hn h4 (by omega))
 have HP := Lib.hid (fun w => (pseudo_any s6 sh sl d6 dh dl 6 m w k1 k2' k3 k4' (by omega) (by omega) : Calls Tryz.prog 49 #[.agg (adC s6 sh sl).toArray, .agg (adC d6 dh dl).toArray, .int .u8 6, .int .i64 (m : Int)] w (RetF w (psdB s6 sh sl d6 dh dl 6 m))))
 have hTT : ([psdB s6 sh sl d6 dh dl 6 m, T] : List (List UInt8)).flatten.length ≤ 2000000 := by have := psdB_length s6 sh sl d6 dh dl 6 m; simp; omega
 have HE : Hid (tot false ([psdB s6 sh sl d6 dh dl 6 m, T] : List (List UInt8)).flatten = tcT s6 sh sl d6 dh dl T) := Lib.hid (by rw [← hTl]; simp [tcT])
 have HO := Lib.hid (fun w A1 c1 (h : RdL w A1 2 [psdB s6 sh sl d6 dh dl 6 m, T]) => sumOf A1 2 c1 _ w h (by omega) hTT)
 rw [HE.out] at HO
 have HLN := Lib.hid hl0.1
 have HLN2 := Lib.hid h2.1
 have H4 := Lib.hid h4
 have HT := Lib.hid hT
 have HTL := Lib.hid hTl
 rw [HSM.out]
 clear hTT HE HSM hTl hm h4 hT
 generalize psdB s6 sh sl d6 dh dl 6 m = Pq at *
 generalize tcT s6 sh sl d6 dh dl T = t at *
 obtain ⟨du1, u1, u2⟩ := rowSG
 obtain ⟨dy1, y1, y2⟩ := rowAd
 have hS : Bk ((((w.alloc (.cells (sgC a b c d f wi sm ur A n k A2 n2 k2).toArray 49)).alloc (.cells (adC s6 sh sl).toArray 24)).alloc (.cells (adC d6 dh dl).toArray 24)).alloc (.cells ([.int .u16 0, .int .u16 0, .int .u32 0, .int .u32 0, .int .u8 0, .int .u16 0, .int .u16 0, .int .u16 0, .slice none 0 0, .slice none 0 0]).toArray 49)) w.heap.size 49 (sgC a b c d f wi sm ur A n k A2 n2 k2) := (((Bk.new w 49 (sgC a b c d f wi sm ur A n k A2 n2 k2).toArray).alloc _).alloc _).alloc _
 have hA : Bk ((((w.alloc (.cells (sgC a b c d f wi sm ur A n k A2 n2 k2).toArray 49)).alloc (.cells (adC s6 sh sl).toArray 24)).alloc (.cells (adC d6 dh dl).toArray 24)).alloc (.cells ([.int .u16 0, .int .u16 0, .int .u32 0, .int .u32 0, .int .u8 0, .int .u16 0, .int .u16 0, .int .u16 0, .slice none 0 0, .slice none 0 0]).toArray 49)) (w.heap.size + 1) 24 (adC s6 sh sl) := ((Bk.newK _ _ _ (by simp) rfl).alloc _).alloc _
 have hB : Bk ((((w.alloc (.cells (sgC a b c d f wi sm ur A n k A2 n2 k2).toArray 49)).alloc (.cells (adC s6 sh sl).toArray 24)).alloc (.cells (adC d6 dh dl).toArray 24)).alloc (.cells ([.int .u16 0, .int .u16 0, .int .u32 0, .int .u32 0, .int .u8 0, .int .u16 0, .int .u16 0, .int .u16 0, .slice none 0 0, .slice none 0 0]).toArray 49)) (w.heap.size + 1 + 1) 24 (adC d6 dh dl) := (Bk.newK _ _ _ (by simp) rfl).alloc _
 have hR : Bk ((((w.alloc (.cells (sgC a b c d f wi sm ur A n k A2 n2 k2).toArray 49)).alloc (.cells (adC s6 sh sl).toArray 24)).alloc (.cells (adC d6 dh dl).toArray 24)).alloc (.cells ([.int .u16 0, .int .u16 0, .int .u32 0, .int .u32 0, .int .u8 0, .int .u16 0, .int .u16 0, .int .u16 0, .slice none 0 0, .slice none 0 0]).toArray 49)) (w.heap.size + 1 + 1 + 1) 49 ([.int .u16 0, .int .u16 0, .int .u32 0, .int .u32 0, .int .u8 0, .int .u16 0, .int .u16 0, .int .u16 0, .slice none 0 0, .slice none 0 0]) := Bk.newK _ _ _ (by simp) rfl
 have be : Below w.heap.size w ((((w.alloc (.cells (sgC a b c d f wi sm ur A n k A2 n2 k2).toArray 49)).alloc (.cells (adC s6 sh sl).toArray 24)).alloc (.cells (adC d6 dh dl).toArray 24)).alloc (.cells ([.int .u16 0, .int .u16 0, .int .u32 0, .int .u32 0, .int .u8 0, .int .u16 0, .int .u16 0, .int .u16 0, .slice none 0 0, .slice none 0 0]).toArray 49)) := Below.allocS (Below.allocS (Below.allocS (Below.allocS (Below.refl _ _) _) _) _) _
 replace hl0 := ((((hl0.alloc (.cells (sgC a b c d f wi sm ur A n k A2 n2 k2).toArray 49)).alloc (.cells (adC s6 sh sl).toArray 24)).alloc (.cells (adC d6 dh dl).toArray 24)).alloc (.cells ([.int .u16 0, .int .u16 0, .int .u32 0, .int .u32 0, .int .u8 0, .int .u16 0, .int .u16 0, .int .u16 0, .slice none 0 0, .slice none 0 0]).toArray 49))
 replace h2 := ((((h2.alloc (.cells (sgC a b c d f wi sm ur A n k A2 n2 k2).toArray 49)).alloc (.cells (adC s6 sh sl).toArray 24)).alloc (.cells (adC d6 dh dl).toArray 24)).alloc (.cells ([.int .u16 0, .int .u16 0, .int .u32 0, .int .u32 0, .int .u8 0, .int .u16 0, .int .u16 0, .int .u16 0, .slice none 0 0, .slice none 0 0]).toArray 49))
 have zV : w.heap.size + 4 ≤ ((((w.alloc (.cells (sgC a b c d f wi sm ur A n k A2 n2 k2).toArray 49)).alloc (.cells (adC s6 sh sl).toArray 24)).alloc (.cells (adC d6 dh dl).toArray 24)).alloc (.cells ([.int .u16 0, .int .u16 0, .int .u32 0, .int .u32 0, .int .u8 0, .int .u16 0, .int .u16 0, .int .u16 0, .slice none 0 0, .slice none 0 0]).toArray 49)).heap.size := by simp
 go_enter Tryz.func27, Tryz.ntmps27
 go_upto_region 1 with (fail)
 generalize (((w.alloc (.cells (sgC a b c d f wi sm ur A n k A2 n2 k2).toArray 49)).alloc (.cells (adC s6 sh sl).toArray 24)).alloc (.cells (adC d6 dh dl).toArray 24)).alloc (.cells ([.int .u16 0, .int .u16 0, .int .u32 0, .int .u32 0, .int .u8 0, .int .u16 0, .int .u16 0, .int .u16 0, .slice none 0 0, .slice none 0 0]).toArray 49) = V at *
 replace hR : Bk V (w.heap.size + 1 + 1 + 1) 49 (sgC 0 0 0 0 0 0 0 0 none 0 0 none 0 0) := hR
 refine wp_region_lit ?_
 refine wpList_ldA (t := 49) 49 (.tmp 3) rfl rfl (sgC a b c d f wi sm ur A n k A2 n2 k2) rfl (hS) (whole_ _) u1 u2 (szSG _ _ _ _ _ _ _ _ _ _ _ _ _ _ ) ?_
 refine wpList_plain rfl (fun K hK => ?_)
 go_simp
 refine (segCopied a b c d f wi sm ur A n k A2 n2 k2 l l2 V hl0 h2 (by omega) (by omega)).mono ?_
 rintro e w1 ⟨A4, n4, k4, A5, n5, k5, rfl, b1, hoL, hoD⟩
 with_reducible refine hK _ _ ?_
 clear hK K
 obtain rfl : n = n4 := by have := hoL.1; have := HLN.out; omega
 obtain rfl : n2 = n5 := by have := hoD.1; have := HLN2.out; omega
 replace hoL := hoL.mono zV
 replace hoD := hoD.mono zV
 clear hl0 h2
 have b4 : Below V.heap.size V w1 := b1
 replace zV := Nat.le_trans zV b4.size
 replace be := be.trans (b4.mono be.size)
 replace hS := hS.later b4
 replace hR := hR.later b4
 replace hA := hA.later b4
 replace hB := hB.later b4
 clear b4
 generalize w1 = V1 at *
 clear b1
 refine wpList_stA 49 (.tmp 3) (.tmp 9) rfl rfl (sgC a b c d f wi sm ur A4 n k4 A5 n2 k5) (sgC a b c d f wi sm ur A n k A2 n2 k2) rfl (sgC_one _ _ _ _ _ _ _ _ _ _ _ _ _ _ ) rfl rfl hS (szSG _ _ _ _ _ _ _ _ _ _ _ _ _ _ ) ?_
 intro V2 hS' g2
 replace hS := hS'
 clear hS'
 simp only [Act.put, qsT, qsZ, qsS]
 replace be := below_grown be g2 (Nat.le_refl _)
 replace hR := hR.grown g2 (fun e => by injection e with e; omega)
 replace hA := hA.grown g2 (fun e => by injection e with e; omega)
 replace hB := hB.grown g2 (fun e => by injection e with e; omega)
 replace zV := Nat.le_trans zV g2.size
 replace hoL := hoL.grown g2 (fun k hk e => by have := (hoL.blk k hk).1; injection e with e; omega)
 replace hoD := hoD.grown g2 (fun k hk e => by have := (hoD.blk k hk).1; injection e with e; omega)
 clear g2
 go_upto_region 2 with (fail)
 refine wp_region_lit ?_
 refine wpList_ldA (t := 49) 49 (.tmp 3) rfl rfl (sgC a b c d f wi sm ur A4 n k4 A5 n2 k5) rfl (hS) (whole_ _) u1 u2 (szSG _ _ _ _ _ _ _ _ _ _ _ _ _ _ ) ?_
 refine wpList_plain rfl (fun K hK => ?_)
 go_simp
 refine (HRI.out V2 A4 k4 A5 k5).mono ?_
 rintro e w1 ⟨bs2, d2, rfl, rfl⟩
 with_reducible refine hK _ _ ?_
 clear hK K
 refine wpList_plain rfl (fun K hK => ?_); go_simp; with_reducible refine hK _ _ ?_; clear hK K
 have b4 : Below V2.heap.size V2 (plus V2 bs2 d2) := below_plus V2 bs2 d2
 replace zV := Nat.le_trans zV b4.size
 replace be := be.trans (b4.mono be.size)
 replace hS := hS.later b4
 replace hR := hR.later b4
 replace hA := hA.later b4
 replace hB := hB.later b4
 replace hoL := hoL.later b4
 replace hoD := hoD.later b4
 clear b4
 generalize plus V2 bs2 d2 = V3 at *
 go_upto_region 4 with (fail)
 refine wp_region_lit ?_
 refine wpList_plain rfl (fun K hK => ?_); go_simp; with_reducible refine hK _ _ ?_; clear hK K
 refine wpList_st1 25 (.tmp 14) (.const (.int .u16 0)) rfl rfl (by rfl) (by rfl) hS (Nat.le_of_ble_eq_true rfl) rfl (by kernel_rfl) ?_
 intro V4 hS' g4
 replace hS : Bk V4 w.heap.size 49 (sgC a b c d f wi 0 ur A4 n k4 A5 n2 k5) := hS'
 clear hS'
 replace be := below_grown be g4 (Nat.le_refl _)
 replace hR := hR.grown g4 (fun e => by injection e with e; omega)
 replace hA := hA.grown g4 (fun e => by injection e with e; omega)
 replace hB := hB.grown g4 (fun e => by injection e with e; omega)
 replace zV := Nat.le_trans zV g4.size
 replace hoL := hoL.grown g4 (fun k hk e => by have := (hoL.blk k hk).1; injection e with e; omega)
 replace hoD := hoD.grown g4 (fun k hk e => by have := (hoD.blk k hk).1; injection e with e; omega)
 clear g4
 go_upto_region 5 with (fail)
 refine wp_region_lit ?_
 refine wpList_ldA (t := 49) 49 (.tmp 3) rfl rfl (sgC a b c d f wi 0 ur A4 n k4 A5 n2 k5) rfl (hS) (whole_ _) u1 u2 (szSG _ _ _ _ _ _ _ _ _ _ _ _ _ _ ) ?_
 refine wpList_plain rfl (fun K hK => ?_)
 go_simp
 refine (HBY.out V4 A4 n k4 A5 n2 k5 hoL.rb hoD.rb (by omega) H4.out (by omega)).mono ?_
 rintro e w1 ⟨A6, n6, k6, bs6, dd6, rfl, rfl, ho6⟩
 with_reducible refine hK _ _ ?_
 clear hK K
 have b4 : Below V4.heap.size V4 (plus V4 bs6 dd6) := below_plus V4 bs6 dd6
 replace zV := Nat.le_trans zV b4.size
 replace be := be.trans (b4.mono be.size)
 replace hS := hS.later b4
 replace hR := hR.later b4
 replace hA := hA.later b4
 replace hB := hB.later b4
 replace hoL := hoL.later b4
 replace hoD := hoD.later b4
 clear b4
 generalize plus V4 bs6 dd6 = V5 at *
 rw [HT.out] at ho6
 obtain rfl : m = n6 := by have := ho6.1; have := HTL.out; omega
 go_upto_region 6 with (fail)
 refine wp_region_lit ?_
 refine wpList_ldA (t := 24) 24 (.tmp 4) rfl rfl (adC s6 sh sl) rfl (hA) (whole_ _) y1 y2 (szAd _ _ _) ?_
 simp only [Act.put, qsT, qsZ, qsS]
 refine wpList_ldA (t := 24) 24 (.tmp 5) rfl rfl (adC d6 dh dl) rfl (hB) (whole_ _) y1 y2 (szAd _ _ _) ?_
 iterate 2 (refine wpList_plain rfl (fun K hK => ?_); go_simp; with_reducible refine hK _ _ ?_; clear hK K)
 refine wpList_plain rfl (fun K hK => ?_)
 go_simp
 refine (HP.out _).mono ?_
 rintro e w1 ⟨A7, n7, bs7, d7, rfl, rfl, ho7⟩
 with_reducible refine hK _ _ ?_
 clear hK K
 iterate 2 (refine wpList_plain rfl (fun K hK => ?_); go_simp; with_reducible refine hK _ _ ?_; clear hK K)
 refine wpList_plain rfl (fun K hK => ?_)
 go_simp
 refine (HO.out _ _ _ (RdL.litW [.slice A7 n7 n7, .slice A6 m k6] _ (by simp [size_plus]) (.cons ⟨_, _, _, rfl, ho7.rb⟩ (.cons ⟨_, _, _, rfl, ho6.rb.plus_ _ _⟩ .nil)))).mono ?_
 rintro e w2 ⟨rfl, rfl⟩
 with_reducible refine hK _ _ ?_
 clear hK K
 refine wpList_plain rfl (fun K hK => ?_); go_simp; with_reducible refine hK _ _ ?_; clear hK K
 have b4 := Below.allocS (below_plus V5 bs7 d7) (.cells ([.slice A7 n7 n7, .slice A6 m k6] : List Value).toArray 37)
 replace zV := Nat.le_trans zV b4.size
 replace be := be.trans (b4.mono be.size)
 replace hS := hS.later b4
 replace hR := hR.later b4
 replace hoL := hoL.later b4
 replace hoD := hoD.later b4
 clear b4
 have HS9 := fd_le t
 refine wpList_st1 25 (.tmp 25) (.tmp 24) rfl rfl (by rfl) (by rfl) hS (Nat.le_of_ble_eq_true rfl) rfl (by kernel_rfl) ?_
 intro V6 hS' g6
 replace hS : Bk V6 w.heap.size 49 (sgC a b c d f wi (65535 - fd t) ur A4 n k4 A5 n2 k5) := hS'
 clear hS'
 replace be := below_grown be g6 (Nat.le_refl _)
 replace hR := hR.grown g6 (fun e => by injection e with e; omega)
 replace zV := Nat.le_trans zV g6.size
 replace hoL := hoL.grown g6 (fun k hk e => by have := (hoL.blk k hk).1; injection e with e; omega)
 replace hoD := hoD.grown g6 (fun k hk e => by have := (hoD.blk k hk).1; injection e with e; omega)
 clear g6
 go_upto_region 7 with (fail)
 refine wp_region_lit ?_
 refine wpList_ldA (t := 49) 49 (.tmp 3) rfl rfl (sgC a b c d f wi (65535 - fd t) ur A4 n k4 A5 n2 k5) rfl (hS) (whole_ _) u1 u2 (szSG _ _ _ _ _ _ _ _ _ _ _ _ _ _ ) ?_
 simp only [Act.put, qsT, qsZ, qsS]
 refine wpList_stA 49 (.tmp 6) (.tmp 26) rfl rfl (sgC a b c d f wi (65535 - fd t) ur A4 n k4 A5 n2 k5) (sgC 0 0 0 0 0 0 0 0 none 0 0 none 0 0) rfl (sgC_one _ _ _ _ _ _ _ _ _ _ _ _ _ _ ) rfl rfl hR (szSG _ _ _ _ _ _ _ _ _ _ _ _ _ _ ) ?_
 intro W9 h9 g9
 simp only [Act.put, qsT, qsZ, qsS]
 go_wp2
 refine bodyPost_agg Tryz.results27 rfl h9.range u1 u2 (szSG _ _ _ _ _ _ _ _ _ _ _ _ _ _ ) rfl ?_
 have be9 := below_grown be g9 (by omega)
 exact ⟨_, _, _, _, _, _, rfl, be9, (hoL.grown g9 (fun k hk e => by have := (hoL.blk k hk).1; injection e with e; omega)).mono (by omega), (hoD.grown g9 (fun k hk e => by have := (hoD.blk k hk).1; injection e with e; omega)).mono (by omega)⟩
end

end Go.Proofs.YtlpbahleaeieoaaGreat
