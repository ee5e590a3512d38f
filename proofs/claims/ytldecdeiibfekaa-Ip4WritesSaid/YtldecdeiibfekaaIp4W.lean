/- The law Ip4Writes (chapter 4). -/
import Derived.Test.YtldecdeiibfekaaIp4K
import Derived.Test.YtldecdeiibfekaaIp4N
import Derived.Test.YtldecdeiibfekaaIp4Q
import Derived.Test.YtldecdeiibfekaaRelS
namespace Go.Proofs.Ytldecdeiibfekaa
open Go.RowKit
set_option linter.unusedVariables false
set_option linter.unusedSimpArgs false
attribute [local go_sem ↓] sliced_cut
attribute [local go_sem] cutA_zero

theorem r4_true {n : Nat} {ln fo : Int} {s6 : Bool} {sh sl : Nat} {d6 : Bool} {dh dl : Nat} (h : r4 n ln fo s6 sh sl d6 dh dl = true) : n ≤ 40 ∧ n % 4 = 0 ∧ 20 + (n : Int) ≤ ln ∧ ln ≤ 65535 ∧ 0 ≤ fo ∧ fo ≤ 8191 ∧ s6 = false ∧ sh = 0 ∧ sl < 4294967296 ∧ d6 = false ∧ dh = 0 ∧ dl < 4294967296 := by
  unfold r4 ad4 at h
  simp only [Bool.and_eq_true, decide_eq_true_eq, Bool.not_eq_true'] at h
  obtain ⟨a, b, c, d, e, f, ⟨g, i, j⟩, p, q, r⟩ := h
  exact ⟨a, b, c, d, e, f, g, i, j, p, q, r⟩
set_option maxRecDepth 100000 in
theorem fragment4 (ts : Nat) (ln : Int) (id : Nat) (st mo : Bool) (fo : Int) (tl pr sm : Nat) (s6 : Bool) (sh sl : Nat) (d6 : Bool) (dh dl : Nat) (A : Option Addr) (n k : Nat) (w : World) : Calls Try.prog 51 #[.agg (h4C ts ln id st mo fo tl pr sm s6 sh sl d6 dh dl A n k).toArray] w (RetV w (.bool (mo || decide (0 < fo)))) := by
  unfold h4C
  go_enter Try.func51, Try.ntmps51
  cases mo <;> go_wp2 <;> go_ret <;> exact RetV.is_ (by first | rfl | simp) (by first | exact Below.allocS (Below.refl _ _) _ | exact Below.refl _ _)
set_option maxHeartbeats 4000000 in
set_option maxRecDepth 100000 in
theorem ip4Writes_of (ts : Nat) (ln : Int) (id : Nat) (st mo : Bool) (fo : Int) (tl pr sm : Nat) (s6 : Bool) (sh sl : Nat) (d6 : Bool) (dh dl : Nat) (A : Option Addr) (n k : Nat) (o : List UInt8) (A2 : Option Addr) (m c2 : Nat) (load : List UInt8) (w : World) (hr : Rb w A n k o) (h2 : Rb w A2 m c2 load) (hnb : n ≤ 9223372036854775807) (hm : m ≤ 9223372036854775807) (b1 : ts < 256) (b2 : id < 65536) (b3 : tl < 256) (b4 : pr < 256) (b7 : sm < 65536) (hi : -9223372036854775808 ≤ ln ∧ ln ≤ 9223372036854775807) (hf : -9223372036854775808 ≤ fo ∧ fo ≤ 9223372036854775807) (k1 : sh < 18446744073709551616) (k2 : sl < 18446744073709551616) (k3 : dh < 18446744073709551616) (k4 : dl < 18446744073709551616) :
    Calls Try.prog 8 #[.agg (h4C ts ln id st mo fo tl pr sm s6 sh sl d6 dh dl A n k).toArray, .slice A2 m c2] w fun e w' => e = .returned (.bool true) ∧ Below w.heap.size w w' := by
  obtain ⟨du, u1, u2⟩ := rowH4
  obtain ⟨dr, r1, r2⟩ := rowR4
  have hS : Bk (w.alloc (.cells (h4C ts ln id st mo fo tl pr sm s6 sh sl d6 dh dl A n k).toArray 83)) w.heap.size 83 (h4C ts ln id st mo fo tl pr sm s6 sh sl d6 dh dl A n k) := Bk.new w 83 (h4C ts ln id st mo fo tl pr sm s6 sh sl d6 dh dl A n k).toArray
  have be : Below w.heap.size w (w.alloc (.cells (h4C ts ln id st mo fo tl pr sm s6 sh sl d6 dh dl A n k).toArray 83)) := Below.allocS (Below.refl _ _) _
  replace hr := hr.alloc (.cells (h4C ts ln id st mo fo tl pr sm s6 sh sl d6 dh dl A n k).toArray 83)
  replace h2 := h2.alloc (.cells (h4C ts ln id st mo fo tl pr sm s6 sh sl d6 dh dl A n k).toArray 83)
  have HAW := Lib.hid awake4
  have q18 : (w.alloc (.cells (h4C ts ln id st mo fo tl pr sm s6 sh sl d6 dh dl A n k).toArray 83)).cell? ⟨w.heap.size, 15, none⟩ = some (.slice A n k) := hS.cell 15
  have zS := hS.lt
  by_cases hbig : 3000 < m ∨ 100 < n
  · have da1 : decide (3000 < (m : Int)) = true ∨ (decide (3000 < (m : Int)) = false ∧ decide (100 < (n : Int)) = true) := by
      rcases hbig with hb | hb
      · exact .inl (by simp only [decide_eq_true_eq]; omega)
      · by_cases h3 : 3000 < m
        · exact .inl (by simp only [decide_eq_true_eq]; omega)
        · exact .inr ⟨by simp only [decide_eq_false_iff_not]; omega, by simp only [decide_eq_true_eq]; omega⟩
    clear hbig
    rcases da1 with da1 | ⟨da1, da2⟩
    · go_enter Try.func8, Try.ntmps8
      go_upto_region 1 with (fail)
      generalize w.alloc (.cells (h4C ts ln id st mo fo tl pr sm s6 sh sl d6 dh dl A n k).toArray 83) = W at *
      go_wp2_with (go_at_call 43; refine (HAW.out _).mono ?_; rintro e w1 ⟨bs1, d1, rfl, rfl⟩)
      go_ret
      exact ⟨rfl, belowP be _ _⟩
    · go_enter Try.func8, Try.ntmps8
      go_upto_region 1 with (fail)
      generalize w.alloc (.cells (h4C ts ln id st mo fo tl pr sm s6 sh sl d6 dh dl A n k).toArray 83) = W at *
      go_wp2_with (go_at_call 43; refine (HAW.out _).mono ?_; rintro e w1 ⟨bs1, d1, rfl, rfl⟩)
      go_ret
      exact ⟨rfl, belowP be _ _⟩
  have hm3 : m ≤ 3000 := by omega
  have hn1 : n ≤ 100 := by omega
  have hn : n ≤ 1000000 := by omega
  have da1 : decide (3000 < (m : Int)) = false := by simp only [decide_eq_false_iff_not]; omega
  have da2 : decide (100 < (n : Int)) = false := by simp only [decide_eq_false_iff_not]; omega
  clear hbig hnb hm
  have HTO := Lib.hid (fun w => to4 ts ln id st mo fo tl pr sm s6 sh sl d6 dh dl A n k w)
  have HR1 := Lib.hid (fun w => right4 ts ln id st mo fo tl pr sm s6 sh sl d6 dh dl A n k w hn hi hf k1 k2 k3 k4)
  have HR2 := Lib.hid (fun w => refRight4 ts ln id st mo fo tl pr sm s6 sh sl d6 dh dl A n k w hn hi hf k1 k2 k3 k4)
  have HFR := Lib.hid (fun w => fragment4 ts ln id st mo fo tl pr sm s6 sh sl d6 dh dl A n k w)
  obtain ⟨z, hz⟩ : ∃ z : Nat, z = 20 + n := ⟨_, rfl⟩
  have ez : IntKind.i64.wrap (20 + (n : Int)) = (z : Int) := by rw [IntWalk.i64_in _ (by omega)]; omega
  have HSZ0 := fun w => size4 ts ln id st mo fo tl pr sm s6 sh sl d6 dh dl A n k w hn
  rw [← hz] at HSZ0
  have HSZ := Lib.hid HSZ0
  clear HSZ0
  replace hz := Lib.hid hz
  go_enter Try.func8, Try.ntmps8
  go_upto_region 3 with (fail)
  generalize w.alloc (.cells (h4C ts ln id st mo fo tl pr sm s6 sh sl d6 dh dl A n k).toArray 83) = W at *
  go_upto_region 4 with (first
    | (refine at_op (.load 83 (.tmp 2)) rfl ?_; refine wpList_ldA (t := 83) 83 (.tmp 2) rfl rfl (h4C ts ln id st mo fo tl pr sm s6 sh sl d6 dh dl A n k) rfl (by with_reducible repeat (first | exact hS | refine Bk.later ?_ (below_plus _ _ _) | refine Bk.alloc ?_ _)) (whole_ _) r1 r2 (szR4 _ _ _ _ _ _ _ _ _ _ _ _ _ _ _ _ _ _) ?_)
    | (go_at_call 48; (with_reducible refine (HTO.out _).mono ?_); rintro e w1 ⟨bs2, d2, rfl, rfl⟩)
    | (refine at_op (.store 77 (.tmp 5) (.tmp 24)) rfl ?_; refine wpList_stA (t := 77) 77 (.tmp 5) (.tmp 24) rfl rfl (h4C ts ln id st mo fo tl pr sm s6 sh sl d6 dh dl A n k) (h4C 0 0 0 false false 0 0 0 0 false 0 0 false 0 0 none 0 0) rfl (h4C_one _ _ _ _ _ _ _ _ _ _ _ _ _ _ _ _ _ _) rfl rfl ?_ (szH4 _ _ _ _ _ _ _ _ _ _ _ _ _ _ _ _ _ _) ?_; (· refine Bk.newK _ _ _ ?_ rfl; simp [size_plus]); intro W3 hX hgr))
  have zb := be.size
  replace hS := ((hS.later (below_plus _ bs2 d2)).alloc _).grown hgr (by simp; omega)
  replace hr := hr.later (below_grown (Below.allocS (below_plus _ bs2 d2) _) hgr (by omega))
  replace h2 := h2.later (below_grown (Below.allocS (below_plus _ bs2 d2) _) hgr (by omega))
  replace be := below_grown (Below.allocS (belowP be bs2 d2) _) hgr (by omega)
  have hg5 : w.heap.size < W.heap.size + bs2.length := by omega
  generalize W.heap.size + bs2.length = g5 at *
  clear hgr zb zS q18 W
  cases hr1 : r4 n ln fo s6 sh sl d6 dh dl
  · rw [hr1] at HR1 HR2
    have HB0 := Lib.hid (fun w => ip4Bytes_no ts ln id st mo fo tl pr sm s6 sh sl d6 dh dl A n k w hn hi hf k1 k2 k3 k4 hr1)
    go_wp2
    refine wp_relS 26 127 rfl (by kernel_rfl) (by kernel_rfl) ?_
    apply Steps.one (MP.eq _) 1 rfl
    · intro o ho FA x hO hD K hK
      obtain rfl := Option.some.inj ho.symm
      clear ho
      have e5 := hO 5 (by kernel_rfl)
      simp only [eval_tmp, List.getElem?_toArray, List.getElem?_cons_succ, List.getElem?_cons_zero, Option.getD_some] at e5
      have ev5 := Lib.hid ((eval_tmp FA 5).trans e5)
      clear hO hD
      refine wanted_if rfl ?_
      refine wp_ldA 77 (.tmp 5) rfl (h4C ts ln id st mo fo tl pr sm s6 sh sl d6 dh dl A n k) ev5.out (hX.later (below_plus _ _ _)) (whole_ _) u1 u2 (szH4 _ _ _ _ _ _ _ _ _ _ _ _ _ _ _ _ _ _) ?_
      exact hK.out _ _ (Ex.refl _) rfl
    apply Steps.one (MP.eq _) 2 rfl
    · intro o ho FA x hO hD K hK
      obtain rfl := Option.some.inj ho.symm
      clear ho
      have ev25 : FA.eval (.tmp 25) = _ := hD 0 25 (by kernel_rfl)
      have e25 := (eval_tmp FA 25).symm.trans ev25
      replace ev25 := Lib.hid ev25
      clear hO hD
      go_simp
      refine (HR1.out _).mono ?_
      rintro e w1 ⟨bs2, d2, rfl, rfl⟩
      exact hK.out _ _ (Ex.plus_ _ _ _) rfl
    apply Steps.one (MP.eq _) 3 rfl
    · intro o ho FA x hO hD K hK
      obtain rfl := Option.some.inj ho.symm
      clear ho
      have e2 := hO 2 (by kernel_rfl)
      simp only [eval_tmp, List.getElem?_toArray, List.getElem?_cons_succ, List.getElem?_cons_zero, Option.getD_some] at e2
      have ev2 := Lib.hid ((eval_tmp FA 2).trans e2)
      clear hO hD
      refine wanted_if rfl ?_
      refine wp_ldA 83 (.tmp 2) rfl (h4C ts ln id st mo fo tl pr sm s6 sh sl d6 dh dl A n k) ev2.out (hS.later (below_plus _ _ _)) (whole_ _) r1 r2 (szR4 _ _ _ _ _ _ _ _ _ _ _ _ _ _ _ _ _ _) ?_
      exact hK.out _ _ (Ex.refl _) rfl
    apply Steps.one (MP.eq _) 4 rfl
    · intro o ho FA x hO hD K hK
      obtain rfl := Option.some.inj ho.symm
      clear ho
      have ev27 : FA.eval (.tmp 27) = _ := hD 2 27 (by kernel_rfl)
      have e27 := (eval_tmp FA 27).symm.trans ev27
      replace ev27 := Lib.hid ev27
      clear hO hD
      go_simp
      refine (HR2.out _).mono ?_
      rintro e w1 ⟨bs2, d2, rfl, rfl⟩
      exact hK.out _ _ (Ex.plus_ _ _ _) rfl
    apply Steps.one (MP.eq _) 5 rfl
    · intro o ho FA x hO hD K hK
      obtain rfl := Option.some.inj ho.symm
      clear ho
      have ev26 : FA.eval (.tmp 26) = _ := hD 1 26 (by kernel_rfl)
      have e26 := (eval_tmp FA 26).symm.trans ev26
      replace ev26 := Lib.hid ev26
      have ev28 : FA.eval (.tmp 28) = _ := hD 3 28 (by kernel_rfl)
      have e28 := (eval_tmp FA 28).symm.trans ev28
      replace ev28 := Lib.hid ev28
      clear hO hD
      go_simp
      exact hK.out _ _ (Ex.refl _) rfl
    apply Steps.one (MP.eq _) 6 rfl
    · intro o ho FA x hO hD K hK
      obtain rfl := Option.some.inj ho.symm
      clear ho
      have ev29 : FA.eval (.tmp 29) = _ := hD 4 29 (by kernel_rfl)
      have e29 := (eval_tmp FA 29).symm.trans ev29
      replace ev29 := Lib.hid ev29
      clear hO hD
      go_simp
      exact hK.out _ _ (Ex.refl _) rfl
    apply Steps.one (MP.eq _) 7 rfl
    · intro o ho FA x hO hD K hK
      obtain rfl := Option.some.inj ho.symm
      clear ho
      have e5 := hO 5 (by kernel_rfl)
      simp only [eval_tmp, List.getElem?_toArray, List.getElem?_cons_succ, List.getElem?_cons_zero, Option.getD_some] at e5
      have ev5 := Lib.hid ((eval_tmp FA 5).trans e5)
      have ev30 : FA.eval (.tmp 30) = _ := hD 5 30 (by kernel_rfl)
      have e30 := (eval_tmp FA 30).symm.trans ev30
      replace ev30 := Lib.hid ev30
      first | have ge30 := slot_of e30 | have ge30 := slot_un e30
      clear hO hD
      first | (refine wanted_ifG ?_ ?_; (· go_simp); refine wp_ldA 77 (.tmp 5) rfl (h4C ts ln id st mo fo tl pr sm s6 sh sl d6 dh dl A n k) ev5.out (hX.later (below_plus _ _ _)) (whole_ _) u1 u2 (szH4 _ _ _ _ _ _ _ _ _ _ _ _ _ _ _ _ _ _) ?_; exact hK.out _ _ (Ex.refl _) rfl) | (go_simp; exact hK.out _ _ (Ex.refl _) rfl)
    apply Steps.one (MP.eq _) 8 rfl
    · intro o ho FA x hO hD K hK
      obtain rfl := Option.some.inj ho.symm
      clear ho
      have ev31 : FA.eval (.tmp 31) = _ := hD 6 31 (by kernel_rfl)
      have e31 := (eval_tmp FA 31).symm.trans ev31
      replace ev31 := Lib.hid ev31
      have ev30 : FA.eval (.tmp 30) = _ := hD 5 30 (by kernel_rfl)
      have e30 := (eval_tmp FA 30).symm.trans ev30
      replace ev30 := Lib.hid ev30
      first | have ge30 := slot_of e30 | have ge30 := slot_un e30
      clear hO hD
      first | (go_simp; exact hK.out _ _ (Ex.refl _) rfl) | (go_simp; refine (HSZ.out _).mono ?_; rintro e w1 ⟨bs2, d2, rfl, rfl⟩; exact hK.out _ _ (Ex.plus_ _ _ _) rfl)
    apply Steps.one (MP.eq _) 9 rfl
    · intro o ho FA x hO hD K hK
      obtain rfl := Option.some.inj ho.symm
      clear ho
      have e2 := hO 2 (by kernel_rfl)
      simp only [eval_tmp, List.getElem?_toArray, List.getElem?_cons_succ, List.getElem?_cons_zero, Option.getD_some] at e2
      have ev2 := Lib.hid ((eval_tmp FA 2).trans e2)
      have ev30 : FA.eval (.tmp 30) = _ := hD 5 30 (by kernel_rfl)
      have e30 := (eval_tmp FA 30).symm.trans ev30
      replace ev30 := Lib.hid ev30
      first | have ge30 := slot_of e30 | have ge30 := slot_un e30
      clear hO hD
      go_simp
      exact hK.out _ _ (Ex.refl _) rfl
    apply Steps.one (MP.eq _) 10 rfl
    · intro o ho FA x hO hD K hK
      obtain rfl := Option.some.inj ho.symm
      clear ho
      have ev33 : FA.eval (.tmp 33) = _ := hD 8 33 (by kernel_rfl)
      have e33 := (eval_tmp FA 33).symm.trans ev33
      replace ev33 := Lib.hid ev33
      have ev30 : FA.eval (.tmp 30) = _ := hD 5 30 (by kernel_rfl)
      have e30 := (eval_tmp FA 30).symm.trans ev30
      replace ev30 := Lib.hid ev30
      first | have ge30 := slot_of e30 | have ge30 := slot_un e30
      clear hO hD
      first | (refine wanted_ifG ?_ ?_; (· go_simp); refine wp_ld1 24 (.tmp 33) rfl ev33.out (hS.later (below_plus _ _ _)) rfl Try.underlying24 rfl ?_; exact hK.out _ _ (Ex.refl _) rfl) | (go_simp; exact hK.out _ _ (Ex.refl _) rfl)
    apply Steps.one (MP.eq _) 11 rfl
    · intro o ho FA x hO hD K hK
      obtain rfl := Option.some.inj ho.symm
      clear ho
      have ev34 : FA.eval (.tmp 34) = _ := hD 9 34 (by kernel_rfl)
      have e34 := (eval_tmp FA 34).symm.trans ev34
      replace ev34 := Lib.hid ev34
      have ev30 : FA.eval (.tmp 30) = _ := hD 5 30 (by kernel_rfl)
      have e30 := (eval_tmp FA 30).symm.trans ev30
      replace ev30 := Lib.hid ev30
      first | have ge30 := slot_of e30 | have ge30 := slot_un e30
      clear hO hD
      go_simp
      exact hK.out _ _ (Ex.refl _) rfl
    apply Steps.one (MP.eq _) 12 rfl
    · intro o ho FA x hO hD K hK
      obtain rfl := Option.some.inj ho.symm
      clear ho
      have ev35 : FA.eval (.tmp 35) = _ := hD 10 35 (by kernel_rfl)
      have e35 := (eval_tmp FA 35).symm.trans ev35
      replace ev35 := Lib.hid ev35
      have ev30 : FA.eval (.tmp 30) = _ := hD 5 30 (by kernel_rfl)
      have e30 := (eval_tmp FA 30).symm.trans ev30
      replace ev30 := Lib.hid ev30
      first | have ge30 := slot_of e30 | have ge30 := slot_un e30
      clear hO hD
      go_simp
      exact hK.out _ _ (Ex.refl _) rfl
    apply Steps.one (MP.eq _) 13 rfl
    · intro o ho FA x hO hD K hK
      obtain rfl := Option.some.inj ho.symm
      clear ho
      have ev32 : FA.eval (.tmp 32) = _ := hD 7 32 (by kernel_rfl)
      have e32 := (eval_tmp FA 32).symm.trans ev32
      replace ev32 := Lib.hid ev32
      have ev36 : FA.eval (.tmp 36) = _ := hD 11 36 (by kernel_rfl)
      have e36 := (eval_tmp FA 36).symm.trans ev36
      replace ev36 := Lib.hid ev36
      have ev30 : FA.eval (.tmp 30) = _ := hD 5 30 (by kernel_rfl)
      have e30 := (eval_tmp FA 30).symm.trans ev30
      replace ev30 := Lib.hid ev30
      first | have ge30 := slot_of e30 | have ge30 := slot_un e30
      clear hO hD
      go_simp
      exact hK.out _ _ (Ex.refl _) rfl
    apply Steps.one (MP.eq _) 14 rfl
    · intro o ho FA x hO hD K hK
      obtain rfl := Option.some.inj ho.symm
      clear ho
      have ev30 : FA.eval (.tmp 30) = _ := hD 5 30 (by kernel_rfl)
      have e30 := (eval_tmp FA 30).symm.trans ev30
      replace ev30 := Lib.hid ev30
      have ev37 : FA.eval (.tmp 37) = _ := hD 12 37 (by kernel_rfl)
      have e37 := (eval_tmp FA 37).symm.trans ev37
      replace ev37 := Lib.hid ev37
      clear hO hD
      go_simp
      exact hK.out _ _ (Ex.refl _) rfl
    apply Steps.one (MP.eq _) 15 rfl
    · intro o ho FA x hO hD K hK
      obtain rfl := Option.some.inj ho.symm
      clear ho
      have ev38 : FA.eval (.tmp 38) = _ := hD 13 38 (by kernel_rfl)
      have e38 := (eval_tmp FA 38).symm.trans ev38
      replace ev38 := Lib.hid ev38
      clear hO hD
      go_simp
      exact hK.out _ _ (Ex.refl _) rfl
    apply Steps.one (MP.eq _) 16 rfl
    · intro o ho FA x hO hD K hK
      obtain rfl := Option.some.inj ho.symm
      clear ho
      have e5 := hO 5 (by kernel_rfl)
      simp only [eval_tmp, List.getElem?_toArray, List.getElem?_cons_succ, List.getElem?_cons_zero, Option.getD_some] at e5
      have ev5 := Lib.hid ((eval_tmp FA 5).trans e5)
      have ev39 : FA.eval (.tmp 39) = _ := hD 14 39 (by kernel_rfl)
      have e39 := (eval_tmp FA 39).symm.trans ev39
      replace ev39 := Lib.hid ev39
      first | have ge39 := slot_of e39 | have ge39 := slot_un e39
      clear hO hD
      first | (refine wanted_ifG ?_ ?_; (· go_simp); refine wp_ldA 77 (.tmp 5) rfl (h4C ts ln id st mo fo tl pr sm s6 sh sl d6 dh dl A n k) ev5.out (hX.later (below_plus _ _ _)) (whole_ _) u1 u2 (szH4 _ _ _ _ _ _ _ _ _ _ _ _ _ _ _ _ _ _) ?_; exact hK.out _ _ (Ex.refl _) rfl) | (go_simp; exact hK.out _ _ (Ex.refl _) rfl)
    apply Steps.one (MP.eq _) 17 rfl
    · intro o ho FA x hO hD K hK
      obtain rfl := Option.some.inj ho.symm
      clear ho
      have ev40 : FA.eval (.tmp 40) = _ := hD 15 40 (by kernel_rfl)
      have e40 := (eval_tmp FA 40).symm.trans ev40
      replace ev40 := Lib.hid ev40
      have ev39 : FA.eval (.tmp 39) = _ := hD 14 39 (by kernel_rfl)
      have e39 := (eval_tmp FA 39).symm.trans ev39
      replace ev39 := Lib.hid ev39
      first | have ge39 := slot_of e39 | have ge39 := slot_un e39
      clear hO hD
      first | (go_simp; exact hK.out _ _ (Ex.refl _) rfl) | (go_simp; refine (HFR.out _).mono ?_; rintro e w1 ⟨bs2, d2, rfl, rfl⟩; exact hK.out _ _ (Ex.plus_ _ _ _) rfl)
    apply Steps.one (MP.eq _) 18 rfl
    · intro o ho FA x hO hD K hK
      obtain rfl := Option.some.inj ho.symm
      clear ho
      have e2 := hO 2 (by kernel_rfl)
      simp only [eval_tmp, List.getElem?_toArray, List.getElem?_cons_succ, List.getElem?_cons_zero, Option.getD_some] at e2
      have ev2 := Lib.hid ((eval_tmp FA 2).trans e2)
      have ev39 : FA.eval (.tmp 39) = _ := hD 14 39 (by kernel_rfl)
      have e39 := (eval_tmp FA 39).symm.trans ev39
      replace ev39 := Lib.hid ev39
      first | have ge39 := slot_of e39 | have ge39 := slot_un e39
      clear hO hD
      go_simp
      exact hK.out _ _ (Ex.refl _) rfl
    apply Steps.one (MP.eq _) 19 rfl
    · intro o ho FA x hO hD K hK
      obtain rfl := Option.some.inj ho.symm
      clear ho
      have ev42 : FA.eval (.tmp 42) = _ := hD 17 42 (by kernel_rfl)
      have e42 := (eval_tmp FA 42).symm.trans ev42
      replace ev42 := Lib.hid ev42
      have ev39 : FA.eval (.tmp 39) = _ := hD 14 39 (by kernel_rfl)
      have e39 := (eval_tmp FA 39).symm.trans ev39
      replace ev39 := Lib.hid ev39
      first | have ge39 := slot_of e39 | have ge39 := slot_un e39
      clear hO hD
      first | (refine wanted_ifG ?_ ?_; (· go_simp); refine wp_ld1 4 (.tmp 42) rfl ev42.out (hS.later (below_plus _ _ _)) rfl Try.underlying4 rfl ?_; exact hK.out _ _ (Ex.refl _) rfl) | (go_simp; exact hK.out _ _ (Ex.refl _) rfl)
    apply Steps.one (MP.eq _) 20 rfl
    · intro o ho FA x hO hD K hK
      obtain rfl := Option.some.inj ho.symm
      clear ho
      have ev43 : FA.eval (.tmp 43) = _ := hD 18 43 (by kernel_rfl)
      have e43 := (eval_tmp FA 43).symm.trans ev43
      replace ev43 := Lib.hid ev43
      have ev39 : FA.eval (.tmp 39) = _ := hD 14 39 (by kernel_rfl)
      have e39 := (eval_tmp FA 39).symm.trans ev39
      replace ev39 := Lib.hid ev39
      first | have ge39 := slot_of e39 | have ge39 := slot_un e39
      clear hO hD
      go_simp
      exact hK.out _ _ (Ex.refl _) rfl
    apply Steps.one (MP.eq (bif mo then undef else .pointer (some ⟨w.heap.size, 5, none⟩))) 21 rfl
    · intro o ho FA x hO hD K hK
      obtain rfl := Option.some.inj ho.symm
      clear ho
      have e2 := hO 2 (by kernel_rfl)
      simp only [eval_tmp, List.getElem?_toArray, List.getElem?_cons_succ, List.getElem?_cons_zero, Option.getD_some] at e2
      have ev2 := Lib.hid ((eval_tmp FA 2).trans e2)
      have ev44 : FA.eval (.tmp 44) = _ := hD 19 44 (by kernel_rfl)
      have e44 := (eval_tmp FA 44).symm.trans ev44
      replace ev44 := Lib.hid ev44
      first | have ge44 := slot_of e44 | have ge44 := slot_un e44
      clear hO hD
      cases mo <;> (first | (go_simp; exact hK.out _ _ (Ex.refl _) rfl) | (fail))
    apply Steps.one (MP.eq (bif mo then undef else .int .i64 fo)) 22 rfl
    · intro o ho FA x hO hD K hK
      obtain rfl := Option.some.inj ho.symm
      clear ho
      have ev45 : FA.eval (.tmp 45) = _ := hD 20 45 (by kernel_rfl)
      have e45 := (eval_tmp FA 45).symm.trans ev45
      replace ev45 := Lib.hid ev45
      have ev44 : FA.eval (.tmp 44) = _ := hD 19 44 (by kernel_rfl)
      have e44 := (eval_tmp FA 44).symm.trans ev44
      replace ev44 := Lib.hid ev44
      first | have ge44 := slot_of e44 | have ge44 := slot_un e44
      clear hO hD
      cases mo <;> (first | (go_simp; exact hK.out _ _ (Ex.refl _) rfl) | (refine wanted_ifG (by go_simp) ?_; refine wp_ld1 3 (.tmp 45) rfl ev45.out (hS.later (below_plus _ _ _)) rfl Try.underlying3 rfl ?_; exact hK.out _ _ (Ex.refl _) rfl))
    apply Steps.one (MP.eq (bif mo then undef else .bool (decide (0 < fo)))) 23 rfl
    · intro o ho FA x hO hD K hK
      obtain rfl := Option.some.inj ho.symm
      clear ho
      have ev46 : FA.eval (.tmp 46) = _ := hD 21 46 (by kernel_rfl)
      have e46 := (eval_tmp FA 46).symm.trans ev46
      replace ev46 := Lib.hid ev46
      have ev44 : FA.eval (.tmp 44) = _ := hD 19 44 (by kernel_rfl)
      have e44 := (eval_tmp FA 44).symm.trans ev44
      replace ev44 := Lib.hid ev44
      first | have ge44 := slot_of e44 | have ge44 := slot_un e44
      clear hO hD
      cases mo <;> (first | (go_simp; exact hK.out _ _ (Ex.refl _) rfl) | (fail))
    apply Steps.one (MP.eq (.bool (mo || decide (0 < fo)))) 24 rfl
    · intro o ho FA x hO hD K hK
      obtain rfl := Option.some.inj ho.symm
      clear ho
      have ev44 : FA.eval (.tmp 44) = _ := hD 19 44 (by kernel_rfl)
      have e44 := (eval_tmp FA 44).symm.trans ev44
      replace ev44 := Lib.hid ev44
      have ev47 : FA.eval (.tmp 47) = _ := hD 22 47 (by kernel_rfl)
      have e47 := (eval_tmp FA 47).symm.trans ev47
      replace ev47 := Lib.hid ev47
      have ev39 : FA.eval (.tmp 39) = _ := hD 14 39 (by kernel_rfl)
      have e39 := (eval_tmp FA 39).symm.trans ev39
      replace ev39 := Lib.hid ev39
      first | have ge39 := slot_of e39 | have ge39 := slot_un e39
      clear hO hD
      cases mo <;> (first | (go_simp; exact hK.out _ _ (Ex.refl _) rfl) | (fail))
    apply Steps.one (MP.eq _) 25 rfl
    · intro o ho FA x hO hD K hK
      obtain rfl := Option.some.inj ho.symm
      clear ho
      have ev41 : FA.eval (.tmp 41) = _ := hD 16 41 (by kernel_rfl)
      have e41 := (eval_tmp FA 41).symm.trans ev41
      replace ev41 := Lib.hid ev41
      have ev48 : FA.eval (.tmp 48) = _ := hD 23 48 (by kernel_rfl)
      have e48 := (eval_tmp FA 48).symm.trans ev48
      replace ev48 := Lib.hid ev48
      have ev39 : FA.eval (.tmp 39) = _ := hD 14 39 (by kernel_rfl)
      have e39 := (eval_tmp FA 39).symm.trans ev39
      replace ev39 := Lib.hid ev39
      first | have ge39 := slot_of e39 | have ge39 := slot_un e39
      clear hO hD
      go_simp
      exact hK.out _ _ (Ex.refl _) rfl
    apply Steps.one (MP.eq _) 26 rfl
    · intro o ho FA x hO hD K hK
      obtain rfl := Option.some.inj ho.symm
      clear ho
      have ev39 : FA.eval (.tmp 39) = _ := hD 14 39 (by kernel_rfl)
      have e39 := (eval_tmp FA 39).symm.trans ev39
      replace ev39 := Lib.hid ev39
      have ev49 : FA.eval (.tmp 49) = _ := hD 24 49 (by kernel_rfl)
      have e49 := (eval_tmp FA 49).symm.trans ev49
      replace ev49 := Lib.hid ev49
      clear hO hD
      go_simp
      exact hK.out _ _ (Ex.refl _) rfl
    refine Steps.fin_ (fun vs x hp => ?_)
    have p0 : vs 0 = _ := hp 0 (by omega)
    have p1 : vs 1 = _ := hp 1 (by omega)
    have p2 : vs 2 = _ := hp 2 (by omega)
    have p3 : vs 3 = _ := hp 3 (by omega)
    have p4 : vs 4 = _ := hp 4 (by omega)
    have p5 : vs 5 = _ := hp 5 (by omega)
    have p6 : vs 6 = _ := hp 6 (by omega)
    have p7 : vs 7 = _ := hp 7 (by omega)
    have p8 : vs 8 = _ := hp 8 (by omega)
    have p9 : vs 9 = _ := hp 9 (by omega)
    have p10 : vs 10 = _ := hp 10 (by omega)
    have p11 : vs 11 = _ := hp 11 (by omega)
    have p12 : vs 12 = _ := hp 12 (by omega)
    have p13 : vs 13 = _ := hp 13 (by omega)
    have p14 : vs 14 = _ := hp 14 (by omega)
    have p15 : vs 15 = _ := hp 15 (by omega)
    have p16 : vs 16 = _ := hp 16 (by omega)
    have p17 : vs 17 = _ := hp 17 (by omega)
    have p18 : vs 18 = _ := hp 18 (by omega)
    have p19 : vs 19 = _ := hp 19 (by omega)
    have p20 : vs 20 = _ := hp 20 (by omega)
    have p21 : vs 21 = _ := hp 21 (by omega)
    have p22 : vs 22 = _ := hp 22 (by omega)
    have p23 : vs 23 = _ := hp 23 (by omega)
    have p24 : vs 24 = _ := hp 24 (by omega)
    have p25 : vs 25 = _ := hp 25 (by omega)
    clear hp
    simp only [List.take_succ_cons, List.take_zero, List.drop_succ_cons, List.drop_zero, putAll, Nat.zero_add, Nat.reduceAdd, Act.put, List.setIfInBounds_toArray, List.set_cons_zero, List.set_cons_succ, p0, p1, p2, p3, p4, p5, p6, p7, p8, p9, p10, p11, p12, p13, p14, p15, p16, p17, p18, p19, p20, p21, p22, p23, p24, p25]
    clear p0 p1 p2 p3 p4 p5 p6 p7 p8 p9 p10 p11 p12 p13 p14 p15 p16 p17 p18 p19 p20 p21 p22 p23 p24 p25
    clear vs
    replace hS := hS.later (below_plus _ x.bs x.d)
    replace hX := hX.later (below_plus _ x.bs x.d)
    replace hr := hr.plus_ x.bs x.d
    replace h2 := h2.plus_ x.bs x.d
    replace be := belowP be x.bs x.d
    generalize plus W3 x.bs x.d = W4 at *
    go_wp2
    refine wp_relS 22 127 rfl (by kernel_rfl) (by kernel_rfl) ?_
    apply Steps.one (MP.eq _) 1 rfl
    · intro o ho FA x hO hD K hK
      obtain rfl := Option.some.inj ho.symm
      clear ho
      have e2 := hO 2 (by kernel_rfl)
      simp only [eval_tmp, List.getElem?_toArray, List.getElem?_cons_succ, List.getElem?_cons_zero, Option.getD_some] at e2
      have ev2 := Lib.hid ((eval_tmp FA 2).trans e2)
      clear hO hD
      refine wanted_if rfl ?_
      refine wp_ldA 83 (.tmp 2) rfl (h4C ts ln id st mo fo tl pr sm s6 sh sl d6 dh dl A n k) ev2.out (hS.later (below_plus _ _ _)) (whole_ _) r1 r2 (szR4 _ _ _ _ _ _ _ _ _ _ _ _ _ _ _ _ _ _) ?_
      exact hK.out _ _ (Ex.refl _) rfl
    apply Steps.one (MP.eq _) 2 rfl
    · intro o ho FA x hO hD K hK
      obtain rfl := Option.some.inj ho.symm
      clear ho
      have ev51 : FA.eval (.tmp 51) = _ := hD 0 51 (by kernel_rfl)
      have e51 := (eval_tmp FA 51).symm.trans ev51
      replace ev51 := Lib.hid ev51
      clear hO hD
      go_simp
      refine (HR2.out _).mono ?_
      rintro e w1 ⟨bs2, d2, rfl, rfl⟩
      exact hK.out _ _ (Ex.plus_ _ _ _) rfl
    apply Steps.one (MP.eq _) 3 rfl
    · intro o ho FA x hO hD K hK
      obtain rfl := Option.some.inj ho.symm
      clear ho
      have ev52 : FA.eval (.tmp 52) = _ := hD 1 52 (by kernel_rfl)
      have e52 := (eval_tmp FA 52).symm.trans ev52
      replace ev52 := Lib.hid ev52
      clear hO hD
      go_simp
      exact hK.out _ _ (Ex.refl _) rfl
    apply Steps.one (MP.eq _) 4 rfl
    · intro o ho FA x hO hD K hK
      obtain rfl := Option.some.inj ho.symm
      clear ho
      have e5 := hO 5 (by kernel_rfl)
      simp only [eval_tmp, List.getElem?_toArray, List.getElem?_cons_succ, List.getElem?_cons_zero, Option.getD_some] at e5
      have ev5 := Lib.hid ((eval_tmp FA 5).trans e5)
      have ev53 : FA.eval (.tmp 53) = _ := hD 2 53 (by kernel_rfl)
      have e53 := (eval_tmp FA 53).symm.trans ev53
      replace ev53 := Lib.hid ev53
      first | have ge53 := slot_of e53 | have ge53 := slot_un e53
      clear hO hD
      first | (refine wanted_ifG ?_ ?_; (· go_simp); refine wp_ldA 77 (.tmp 5) rfl (h4C ts ln id st mo fo tl pr sm s6 sh sl d6 dh dl A n k) ev5.out (hX.later (below_plus _ _ _)) (whole_ _) u1 u2 (szH4 _ _ _ _ _ _ _ _ _ _ _ _ _ _ _ _ _ _) ?_; exact hK.out _ _ (Ex.refl _) rfl) | (go_simp; exact hK.out _ _ (Ex.refl _) rfl)
    apply Steps.one (MP.eq _) 5 rfl
    · intro o ho FA x hO hD K hK
      obtain rfl := Option.some.inj ho.symm
      clear ho
      have ev54 : FA.eval (.tmp 54) = _ := hD 3 54 (by kernel_rfl)
      have e54 := (eval_tmp FA 54).symm.trans ev54
      replace ev54 := Lib.hid ev54
      have ev53 : FA.eval (.tmp 53) = _ := hD 2 53 (by kernel_rfl)
      have e53 := (eval_tmp FA 53).symm.trans ev53
      replace ev53 := Lib.hid ev53
      first | have ge53 := slot_of e53 | have ge53 := slot_un e53
      clear hO hD
      first | (go_simp; exact hK.out _ _ (Ex.refl _) rfl) | (go_simp; refine (HB0.out _).mono ?_; rintro e w1 ⟨bs2, d2, rfl, rfl⟩; exact hK.out _ _ (Ex.plus_ _ _ _) rfl)
    apply Steps.one (MP.eq _) 6 rfl
    · intro o ho FA x hO hD K hK
      obtain rfl := Option.some.inj ho.symm
      clear ho
      have ev55 : FA.eval (.tmp 55) = _ := hD 4 55 (by kernel_rfl)
      have e55 := (eval_tmp FA 55).symm.trans ev55
      replace ev55 := Lib.hid ev55
      have ev53 : FA.eval (.tmp 53) = _ := hD 2 53 (by kernel_rfl)
      have e53 := (eval_tmp FA 53).symm.trans ev53
      replace ev53 := Lib.hid ev53
      first | have ge53 := slot_of e53 | have ge53 := slot_un e53
      clear hO hD
      go_simp
      exact hK.out _ _ (Ex.refl _) rfl
    apply Steps.one (MP.eq _) 7 rfl
    · intro o ho FA x hO hD K hK
      obtain rfl := Option.some.inj ho.symm
      clear ho
      have e2 := hO 2 (by kernel_rfl)
      simp only [eval_tmp, List.getElem?_toArray, List.getElem?_cons_succ, List.getElem?_cons_zero, Option.getD_some] at e2
      have ev2 := Lib.hid ((eval_tmp FA 2).trans e2)
      have ev53 : FA.eval (.tmp 53) = _ := hD 2 53 (by kernel_rfl)
      have e53 := (eval_tmp FA 53).symm.trans ev53
      replace ev53 := Lib.hid ev53
      first | have ge53 := slot_of e53 | have ge53 := slot_un e53
      clear hO hD
      first | (refine wanted_ifG ?_ ?_; (· go_simp); refine wp_ldA 83 (.tmp 2) rfl (h4C ts ln id st mo fo tl pr sm s6 sh sl d6 dh dl A n k) ev2.out (hS.later (below_plus _ _ _)) (whole_ _) r1 r2 (szR4 _ _ _ _ _ _ _ _ _ _ _ _ _ _ _ _ _ _) ?_; exact hK.out _ _ (Ex.refl _) rfl) | (go_simp; exact hK.out _ _ (Ex.refl _) rfl)
    apply Steps.one (MP.eq _) 8 rfl
    · intro o ho FA x hO hD K hK
      obtain rfl := Option.some.inj ho.symm
      clear ho
      have ev57 : FA.eval (.tmp 57) = _ := hD 6 57 (by kernel_rfl)
      have e57 := (eval_tmp FA 57).symm.trans ev57
      replace ev57 := Lib.hid ev57
      have ev53 : FA.eval (.tmp 53) = _ := hD 2 53 (by kernel_rfl)
      have e53 := (eval_tmp FA 53).symm.trans ev53
      replace ev53 := Lib.hid ev53
      first | have ge53 := slot_of e53 | have ge53 := slot_un e53
      clear hO hD
      go_simp
      exact hK.out _ _ (Ex.refl _) rfl
    apply Steps.one (MP.eq _) 9 rfl
    · intro o ho FA x hO hD K hK
      obtain rfl := Option.some.inj ho.symm
      clear ho
      have ev58 : FA.eval (.tmp 58) = _ := hD 7 58 (by kernel_rfl)
      have e58 := (eval_tmp FA 58).symm.trans ev58
      replace ev58 := Lib.hid ev58
      have ev53 : FA.eval (.tmp 53) = _ := hD 2 53 (by kernel_rfl)
      have e53 := (eval_tmp FA 53).symm.trans ev53
      replace ev53 := Lib.hid ev53
      first | have ge53 := slot_of e53 | have ge53 := slot_un e53
      clear hO hD
      go_simp
      exact hK.out _ _ (Ex.refl _) rfl
    apply Steps.one (MP.eq _) 10 rfl
    · intro o ho FA x hO hD K hK
      obtain rfl := Option.some.inj ho.symm
      clear ho
      have ev56 : FA.eval (.tmp 56) = _ := hD 5 56 (by kernel_rfl)
      have e56 := (eval_tmp FA 56).symm.trans ev56
      replace ev56 := Lib.hid ev56
      have ev59 : FA.eval (.tmp 59) = _ := hD 8 59 (by kernel_rfl)
      have e59 := (eval_tmp FA 59).symm.trans ev59
      replace ev59 := Lib.hid ev59
      have ev53 : FA.eval (.tmp 53) = _ := hD 2 53 (by kernel_rfl)
      have e53 := (eval_tmp FA 53).symm.trans ev53
      replace ev53 := Lib.hid ev53
      first | have ge53 := slot_of e53 | have ge53 := slot_un e53
      clear hO hD
      go_simp
      exact hK.out _ _ (Ex.refl _) rfl
    apply Steps.one (MP.eq _) 11 rfl
    · intro o ho FA x hO hD K hK
      obtain rfl := Option.some.inj ho.symm
      clear ho
      have ev53 : FA.eval (.tmp 53) = _ := hD 2 53 (by kernel_rfl)
      have e53 := (eval_tmp FA 53).symm.trans ev53
      replace ev53 := Lib.hid ev53
      have ev60 : FA.eval (.tmp 60) = _ := hD 9 60 (by kernel_rfl)
      have e60 := (eval_tmp FA 60).symm.trans ev60
      replace ev60 := Lib.hid ev60
      clear hO hD
      go_simp
      exact hK.out _ _ (Ex.refl _) rfl
    apply Steps.one (MP.eq _) 12 rfl
    · intro o ho FA x hO hD K hK
      obtain rfl := Option.some.inj ho.symm
      clear ho
      have ev61 : FA.eval (.tmp 61) = _ := hD 10 61 (by kernel_rfl)
      have e61 := (eval_tmp FA 61).symm.trans ev61
      replace ev61 := Lib.hid ev61
      clear hO hD
      go_simp
      exact hK.out _ _ (Ex.refl _) rfl
    apply Steps.one (MP.eq _) 13 rfl
    · intro o ho FA x hO hD K hK
      obtain rfl := Option.some.inj ho.symm
      clear ho
      have e2 := hO 2 (by kernel_rfl)
      simp only [eval_tmp, List.getElem?_toArray, List.getElem?_cons_succ, List.getElem?_cons_zero, Option.getD_some] at e2
      have ev2 := Lib.hid ((eval_tmp FA 2).trans e2)
      have ev62 : FA.eval (.tmp 62) = _ := hD 11 62 (by kernel_rfl)
      have e62 := (eval_tmp FA 62).symm.trans ev62
      replace ev62 := Lib.hid ev62
      first | have ge62 := slot_of e62 | have ge62 := slot_un e62
      clear hO hD
      first | (refine wanted_ifG ?_ ?_; (· go_simp); refine wp_ldA 83 (.tmp 2) rfl (h4C ts ln id st mo fo tl pr sm s6 sh sl d6 dh dl A n k) ev2.out (hS.later (below_plus _ _ _)) (whole_ _) r1 r2 (szR4 _ _ _ _ _ _ _ _ _ _ _ _ _ _ _ _ _ _) ?_; exact hK.out _ _ (Ex.refl _) rfl) | (go_simp; exact hK.out _ _ (Ex.refl _) rfl)
    apply Steps.one (MP.eq _) 14 rfl
    · intro o ho FA x hO hD K hK
      obtain rfl := Option.some.inj ho.symm
      clear ho
      have ev63 : FA.eval (.tmp 63) = _ := hD 12 63 (by kernel_rfl)
      have e63 := (eval_tmp FA 63).symm.trans ev63
      replace ev63 := Lib.hid ev63
      have ev62 : FA.eval (.tmp 62) = _ := hD 11 62 (by kernel_rfl)
      have e62 := (eval_tmp FA 62).symm.trans ev62
      replace ev62 := Lib.hid ev62
      first | have ge62 := slot_of e62 | have ge62 := slot_un e62
      clear hO hD
      first | (go_simp; exact hK.out _ _ (Ex.refl _) rfl) | (go_simp; refine (HR2.out _).mono ?_; rintro e w1 ⟨bs2, d2, rfl, rfl⟩; exact hK.out _ _ (Ex.plus_ _ _ _) rfl)
    apply Steps.one (MP.eq _) 15 rfl
    · intro o ho FA x hO hD K hK
      obtain rfl := Option.some.inj ho.symm
      clear ho
      have ev64 : FA.eval (.tmp 64) = _ := hD 13 64 (by kernel_rfl)
      have e64 := (eval_tmp FA 64).symm.trans ev64
      replace ev64 := Lib.hid ev64
      have ev62 : FA.eval (.tmp 62) = _ := hD 11 62 (by kernel_rfl)
      have e62 := (eval_tmp FA 62).symm.trans ev62
      replace ev62 := Lib.hid ev62
      first | have ge62 := slot_of e62 | have ge62 := slot_un e62
      clear hO hD
      go_simp
      exact hK.out _ _ (Ex.refl _) rfl
    apply Steps.one (MP.eq _) 16 rfl
    · intro o ho FA x hO hD K hK
      obtain rfl := Option.some.inj ho.symm
      clear ho
      have ev65 : FA.eval (.tmp 65) = _ := hD 14 65 (by kernel_rfl)
      have e65 := (eval_tmp FA 65).symm.trans ev65
      replace ev65 := Lib.hid ev65
      have ev62 : FA.eval (.tmp 62) = _ := hD 11 62 (by kernel_rfl)
      have e62 := (eval_tmp FA 62).symm.trans ev62
      replace ev62 := Lib.hid ev62
      first | have ge62 := slot_of e62 | have ge62 := slot_un e62
      clear hO hD
      go_simp
      exact hK.out _ _ (Ex.refl _) rfl
    apply Steps.one (MP.eq _) 17 rfl
    · intro o ho FA x hO hD K hK
      obtain rfl := Option.some.inj ho.symm
      clear ho
      have e5 := hO 5 (by kernel_rfl)
      simp only [eval_tmp, List.getElem?_toArray, List.getElem?_cons_succ, List.getElem?_cons_zero, Option.getD_some] at e5
      have ev5 := Lib.hid ((eval_tmp FA 5).trans e5)
      have ev66 : FA.eval (.tmp 66) = _ := hD 15 66 (by kernel_rfl)
      have e66 := (eval_tmp FA 66).symm.trans ev66
      replace ev66 := Lib.hid ev66
      first | have ge66 := slot_of e66 | have ge66 := slot_un e66
      clear hO hD
      first | (refine wanted_ifG ?_ ?_; (· go_simp); refine wp_ldA 77 (.tmp 5) rfl (h4C ts ln id st mo fo tl pr sm s6 sh sl d6 dh dl A n k) ev5.out (hX.later (below_plus _ _ _)) (whole_ _) u1 u2 (szH4 _ _ _ _ _ _ _ _ _ _ _ _ _ _ _ _ _ _) ?_; exact hK.out _ _ (Ex.refl _) rfl) | (go_simp; exact hK.out _ _ (Ex.refl _) rfl)
    apply Steps.one (MP.eq _) 18 rfl
    · intro o ho FA x hO hD K hK
      obtain rfl := Option.some.inj ho.symm
      clear ho
      have ev67 : FA.eval (.tmp 67) = _ := hD 16 67 (by kernel_rfl)
      have e67 := (eval_tmp FA 67).symm.trans ev67
      replace ev67 := Lib.hid ev67
      have ev66 : FA.eval (.tmp 66) = _ := hD 15 66 (by kernel_rfl)
      have e66 := (eval_tmp FA 66).symm.trans ev66
      replace ev66 := Lib.hid ev66
      first | have ge66 := slot_of e66 | have ge66 := slot_un e66
      clear hO hD
      first | (go_simp; exact hK.out _ _ (Ex.refl _) rfl) | (go_simp; refine (HB0.out _).mono ?_; rintro e w1 ⟨bs2, d2, rfl, rfl⟩; exact hK.out _ _ (Ex.plus_ _ _ _) rfl)
    apply Steps.one (MP.eq _) 19 rfl
    · intro o ho FA x hO hD K hK
      obtain rfl := Option.some.inj ho.symm
      clear ho
      have ev68 : FA.eval (.tmp 68) = _ := hD 17 68 (by kernel_rfl)
      have e68 := (eval_tmp FA 68).symm.trans ev68
      replace ev68 := Lib.hid ev68
      have ev66 : FA.eval (.tmp 66) = _ := hD 15 66 (by kernel_rfl)
      have e66 := (eval_tmp FA 66).symm.trans ev66
      replace ev66 := Lib.hid ev66
      first | have ge66 := slot_of e66 | have ge66 := slot_un e66
      clear hO hD
      go_simp
      exact hK.out _ _ (Ex.refl _) rfl
    apply Steps.one (MP.eq _) 20 rfl
    · intro o ho FA x hO hD K hK
      obtain rfl := Option.some.inj ho.symm
      clear ho
      have ev69 : FA.eval (.tmp 69) = _ := hD 18 69 (by kernel_rfl)
      have e69 := (eval_tmp FA 69).symm.trans ev69
      replace ev69 := Lib.hid ev69
      have ev66 : FA.eval (.tmp 66) = _ := hD 15 66 (by kernel_rfl)
      have e66 := (eval_tmp FA 66).symm.trans ev66
      replace ev66 := Lib.hid ev66
      first | have ge66 := slot_of e66 | have ge66 := slot_un e66
      clear hO hD
      go_simp
      exact hK.out _ _ (Ex.refl _) rfl
    apply Steps.one (MP.eq _) 21 rfl
    · intro o ho FA x hO hD K hK
      obtain rfl := Option.some.inj ho.symm
      clear ho
      have ev66 : FA.eval (.tmp 66) = _ := hD 15 66 (by kernel_rfl)
      have e66 := (eval_tmp FA 66).symm.trans ev66
      replace ev66 := Lib.hid ev66
      have ev70 : FA.eval (.tmp 70) = _ := hD 19 70 (by kernel_rfl)
      have e70 := (eval_tmp FA 70).symm.trans ev70
      replace ev70 := Lib.hid ev70
      have ev62 : FA.eval (.tmp 62) = _ := hD 11 62 (by kernel_rfl)
      have e62 := (eval_tmp FA 62).symm.trans ev62
      replace ev62 := Lib.hid ev62
      first | have ge62 := slot_of e62 | have ge62 := slot_un e62
      clear hO hD
      go_simp
      exact hK.out _ _ (Ex.refl _) rfl
    apply Steps.one (MP.eq _) 22 rfl
    · intro o ho FA x hO hD K hK
      obtain rfl := Option.some.inj ho.symm
      clear ho
      have ev62 : FA.eval (.tmp 62) = _ := hD 11 62 (by kernel_rfl)
      have e62 := (eval_tmp FA 62).symm.trans ev62
      replace ev62 := Lib.hid ev62
      have ev71 : FA.eval (.tmp 71) = _ := hD 20 71 (by kernel_rfl)
      have e71 := (eval_tmp FA 71).symm.trans ev71
      replace ev71 := Lib.hid ev71
      clear hO hD
      go_simp
      exact hK.out _ _ (Ex.refl _) rfl
    refine Steps.fin_ (fun vs x hp => ?_)
    have p0 : vs 0 = _ := hp 0 (by omega)
    have p1 : vs 1 = _ := hp 1 (by omega)
    have p2 : vs 2 = _ := hp 2 (by omega)
    have p3 : vs 3 = _ := hp 3 (by omega)
    have p4 : vs 4 = _ := hp 4 (by omega)
    have p5 : vs 5 = _ := hp 5 (by omega)
    have p6 : vs 6 = _ := hp 6 (by omega)
    have p7 : vs 7 = _ := hp 7 (by omega)
    have p8 : vs 8 = _ := hp 8 (by omega)
    have p9 : vs 9 = _ := hp 9 (by omega)
    have p10 : vs 10 = _ := hp 10 (by omega)
    have p11 : vs 11 = _ := hp 11 (by omega)
    have p12 : vs 12 = _ := hp 12 (by omega)
    have p13 : vs 13 = _ := hp 13 (by omega)
    have p14 : vs 14 = _ := hp 14 (by omega)
    have p15 : vs 15 = _ := hp 15 (by omega)
    have p16 : vs 16 = _ := hp 16 (by omega)
    have p17 : vs 17 = _ := hp 17 (by omega)
    have p18 : vs 18 = _ := hp 18 (by omega)
    have p19 : vs 19 = _ := hp 19 (by omega)
    have p20 : vs 20 = _ := hp 20 (by omega)
    have p21 : vs 21 = _ := hp 21 (by omega)
    clear hp
    simp only [List.take_succ_cons, List.take_zero, List.drop_succ_cons, List.drop_zero, putAll, Nat.zero_add, Nat.reduceAdd, Act.put, List.setIfInBounds_toArray, List.set_cons_zero, List.set_cons_succ, p0, p1, p2, p3, p4, p5, p6, p7, p8, p9, p10, p11, p12, p13, p14, p15, p16, p17, p18, p19, p20, p21]
    clear p0 p1 p2 p3 p4 p5 p6 p7 p8 p9 p10 p11 p12 p13 p14 p15 p16 p17 p18 p19 p20 p21
    clear vs
    replace hS := hS.later (below_plus _ x.bs x.d)
    replace hX := hX.later (below_plus _ x.bs x.d)
    replace hr := hr.plus_ x.bs x.d
    replace h2 := h2.plus_ x.bs x.d
    replace be := belowP be x.bs x.d
    generalize plus W4 x.bs x.d = W5 at *
    clear HB0 HR1 HR2 HFR HSZ HTO
    cases hr2 : r4 n ((20 + n + m : Nat) : Int) fo s6 sh sl d6 dh dl
    · have HP := Lib.hid (fun w => packet4_arg ts ln id st mo fo tl pr sm s6 sh sl d6 dh dl A n k A2 m c2 w hn hf k1 k2 k3 k4 (by omega) hr2)
      have HQ := Lib.hid (fun w => refPacket4_arg ts ln id st mo fo tl pr sm s6 sh sl d6 dh dl A n k A2 m c2 w hn hf k1 k2 k3 k4 (by omega) hr2)
      go_upto_region 10 with (first
        | (refine at_op (.load 77 (.tmp 5)) rfl ?_; refine wpList_ldA (t := 77) 77 (.tmp 5) rfl rfl (h4C ts ln id st mo fo tl pr sm s6 sh sl d6 dh dl A n k) rfl (by with_reducible repeat (first | exact hX | refine Bk.later ?_ (below_plus _ _ _) | refine Bk.alloc ?_ _)) (whole_ _) u1 u2 (szH4 _ _ _ _ _ _ _ _ _ _ _ _ _ _ _ _ _ _) ?_)
        | (refine at_op (.load 83 (.tmp 2)) rfl ?_; refine wpList_ldA (t := 83) 83 (.tmp 2) rfl rfl (h4C ts ln id st mo fo tl pr sm s6 sh sl d6 dh dl A n k) rfl (by with_reducible repeat (first | exact hS | refine Bk.later ?_ (below_plus _ _ _) | refine Bk.alloc ?_ _)) (whole_ _) r1 r2 (szR4 _ _ _ _ _ _ _ _ _ _ _ _ _ _ _ _ _ _) ?_)
        | (go_at_call 42; (with_reducible refine (HP.out _).mono ?_); rintro e w1 ⟨A6, n6, c6, bs6, d6x, rfl, rfl, hb6⟩)
        | (go_at_call 54; (with_reducible refine (HQ.out _).mono ?_); rintro e w1 ⟨A7, n7, c7, bs7, d7, rfl, rfl, hb7⟩))
      have e61 := run_str bt Try.underlying9 (hb6.plus_ bs7 d7)
      have e63 := run_str bt Try.underlying9 hb7
      go_wp2_with (go_at_call 43; refine (HAW.out _).mono ?_; rintro e w1 ⟨bs8, d8, rfl, rfl⟩)
      go_ret
      exact ⟨rfl, belowP (belowP (belowP be _ _) _ _) _ _⟩
    · obtain ⟨q1, q2, q3, q4, q5, q6, rfl, rfl, q7, rfl, rfl, q8⟩ := r4_true hr2
      obtain ⟨fo, rfl⟩ := Int.eq_ofNat_of_zero_le q5
      have hol : o.length = n := hr.1
      have hll : load.length = m := h2.1
      have HP0 := fun w (hr : Rb w A n k o) (h2 : Rb w A2 m c2 load) => packet4_ok ts ln id st mo fo tl pr sm sl dl A n k o A2 m c2 load w hr h2 b1 b2 b3 b4 q7 q8 q1 q2 (by omega) (by omega)
      have HQ0 := fun w (hr : Rb w A n k o) (h2 : Rb w A2 m c2 load) => refPacket4_ok ts ln id st mo fo tl pr sm sl dl A n k o A2 m c2 load w hr h2 b1 b2 b3 b4 q7 q8 q1 q2 (by omega) (by omega)
      have HZ0 := fun A n' c w h => parse4_w ts (20 + n + m) id st mo fo tl pr sl dl A n' c o load w h b1 b2 b3 b4 q7 q8 (by omega) (by omega) (by omega) (by omega) (by omega)
      generalize ip4B ts (20 + n + m) id (pl4 st mo fo) tl pr (ip4K ts (20 + n + m) id (pl4 st mo fo) tl pr sl dl o) sl dl o ++ load = Px at *
      generalize ip4K ts (20 + n + m) id (pl4 st mo fo) tl pr sl dl o = ks at *
      clear hr2 q3 q4
      generalize 20 + n + m = ls at *
      have HP := Lib.hid HP0
      have HQ := Lib.hid HQ0
      have HZ := Lib.hid HZ0
      clear HP0 HQ0 HZ0
      have HOFX := Lib.hid (fun w => of4 ts 0 id st mo (fo : Int) tl pr 0 false 0 sl false 0 dl A n k w)
      go_upto_region 10 with (first
        | (refine at_op (.load 77 (.tmp 5)) rfl ?_; refine wpList_ldA (t := 77) 77 (.tmp 5) rfl rfl (h4C ts ln id st mo (fo : Int) tl pr sm false 0 sl false 0 dl A n k) rfl (by with_reducible repeat (first | exact hX | refine Bk.later ?_ (below_plus _ _ _) | refine Bk.alloc ?_ _)) (whole_ _) u1 u2 (szH4 _ _ _ _ _ _ _ _ _ _ _ _ _ _ _ _ _ _) ?_)
        | (refine at_op (.load 83 (.tmp 2)) rfl ?_; refine wpList_ldA (t := 83) 83 (.tmp 2) rfl rfl (h4C ts ln id st mo (fo : Int) tl pr sm false 0 sl false 0 dl A n k) rfl (by with_reducible repeat (first | exact hS | refine Bk.later ?_ (below_plus _ _ _) | refine Bk.alloc ?_ _)) (whole_ _) r1 r2 (szR4 _ _ _ _ _ _ _ _ _ _ _ _ _ _ _ _ _ _) ?_)
        | (go_at_call 42; (with_reducible refine (HP.out _ hr h2).mono ?_); rintro e w1 ⟨A6, n6, c6, bs6, d6x, rfl, rfl, hb6⟩)
        | (go_at_call 54; (with_reducible refine (HQ.out _ (hr.plus_ _ _) (h2.plus_ _ _)).mono ?_); rintro e w1 ⟨A7, n7, c7, bs7, d7, rfl, rfl, hb7⟩))
      replace hb6 := hb6.plus_ bs7 d7
      have e61 := run_str bt Try.underlying9 hb6
      have e63 := run_str bt Try.underlying9 hb7
      replace hX := (hX.later (below_plus _ bs6 d6x)).later (below_plus _ bs7 d7)
      replace hr := (hr.plus_ bs6 d6x).plus_ bs7 d7
      replace h2 := (h2.plus_ bs6 d6x).plus_ bs7 d7
      replace be := belowP (belowP be bs6 d6x) bs7 d7
      generalize plus (plus W5 bs6 d6x) bs7 d7 = W6 at *
      clear hb7 hS
      have zX := hX.lt
      go_upto_region 15 with (first
        | (go_at_call 44; (with_reducible refine (HZ.out _ _ _ _ hb6).mono ?_); rintro e w1 ⟨A4, n4, k4, A5, n5, k5, bs8, d8, rfl, rfl, ho4, hl4⟩)
        | (refine at_op (.store 77 (.tmp 10) (.tmp 101)) rfl ?_; refine wpList_stA (t := 77) 77 (.tmp 10) (.tmp 101) rfl rfl (h4C ts (ls : Int) id st mo (fo : Int) tl pr ks false 0 sl false 0 dl A4 n4 k4) (h4C 0 0 0 false false 0 0 0 0 false 0 0 false 0 0 none 0 0) rfl (h4C_one _ _ _ _ _ _ _ _ _ _ _ _ _ _ _ _ _ _) rfl rfl ?_ (szH4 _ _ _ _ _ _ _ _ _ _ _ _ _ _ _ _ _ _) ?_; (· refine Bk.newK _ _ _ ?_ rfl; simp [size_plus]); intro W7 hY gr7))
      clear e61 e63 hb6
      have b7 := below_grown (Below.allocS (below_plus W6 bs8 d8) _) gr7 (by omega)
      replace be := be.trans (b7.mono be.size)
      replace hX := hX.later b7
      replace hr := hr.later b7
      replace h2 := h2.later b7
      replace ho4 := ho4.later (below_grown (Below.allocS (Below.refl _ _) _) gr7 (by simp [size_plus]))
      replace hl4 := hl4.later (below_grown (Below.allocS (Below.refl _ _) _) gr7 (by simp [size_plus]))
      have hne : g5 < W6.heap.size + bs8.length := by omega
      clear gr7 b7 zX
      generalize W6.heap.size + bs8.length = g10 at *
      have zg := be.size
      have z10 := hY.lt
      go_upto_region 16 with (first
        | (refine at_op (.store 22 (.tmp 104) (.const (.int .u16 0))) rfl ?_; refine wpList_st1R 22 (.tmp 104) (.const (.int .u16 0)) rfl rfl rfl rfl hY rfl (by intro x h; cases h) rfl (by kernel_rfl) ?_; intro W8 hY8 gr8 fr8; have hX8 := hX.grown gr8 (by simp; omega))
        | (refine at_op (.store 3 (.tmp 105) (.const (.int .i64 0))) rfl ?_; refine wpList_st1R 3 (.tmp 105) (.const (.int .i64 0)) rfl rfl rfl rfl hY8 rfl (by intro x h; cases h) rfl (by kernel_rfl) ?_; intro W9 hY9 gr9 fr9; have hX9 := hX8.grown gr9 (by simp; omega))
        | (refine at_op (.store 3 (.tmp 106) (.const (.int .i64 0))) rfl ?_; refine wpList_st1R 3 (.tmp 106) (.const (.int .i64 0)) rfl rfl rfl rfl hX9 rfl (by intro x h; cases h) rfl (by kernel_rfl) ?_; intro W10 hX10 gr10 fr10; have hY10 := hY9.grown gr10 (by simp; omega))
        | (refine at_op (.store 22 (.tmp 107) (.const (.int .u16 0))) rfl ?_; refine wpList_st1R 22 (.tmp 107) (.const (.int .u16 0)) rfl rfl rfl rfl hX10 rfl (by intro x h; cases h) rfl (by kernel_rfl) ?_; intro W11 hX11 gr11 fr11; have hY11 := hY10.grown gr11 (by simp; omega)))
      replace hY : Bk W11 g10 77 (h4C ts 0 id st mo (fo : Int) tl pr 0 false 0 sl false 0 dl A4 n4 k4) := hY11
      replace hX : Bk W11 g5 77 (h4C ts 0 id st mo (fo : Int) tl pr 0 false 0 sl false 0 dl A n k) := hX11
      replace hr := fr11 _ _ _ _ (fr10 _ _ _ _ (fr9 _ _ _ _ (fr8 _ _ _ _ hr)))
      replace h2 := fr11 _ _ _ _ (fr10 _ _ _ _ (fr9 _ _ _ _ (fr8 _ _ _ _ h2)))
      replace ho4 := fr11 _ _ _ _ (fr10 _ _ _ _ (fr9 _ _ _ _ (fr8 _ _ _ _ ho4)))
      replace hl4 := fr11 _ _ _ _ (fr10 _ _ _ _ (fr9 _ _ _ _ (fr8 _ _ _ _ hl4)))
      replace be := below_grown (below_grown (below_grown (below_grown be gr8 (by omega)) gr9 (by omega)) gr10 (by omega)) gr11 (by omega)
      clear hX8 hX9 hX10 hX11 hY8 hY9 hY10 hY11 gr8 gr9 gr10 gr11 fr8 fr9 fr10 fr11
      have HOFY := Lib.hid (fun w => of4 ts 0 id st mo (fo : Int) tl pr 0 false 0 sl false 0 dl A4 n4 k4 w)
      have HSM := Lib.hid (fun w (h : Rb w A4 n4 k4 o) (h' : Rb w A n k o) => same4 ts 0 id st mo (fo : Int) tl pr 0 false 0 sl false 0 dl A4 n4 k4 A n k o w h h')
      go_wp2
      refine wp_relS 20 127 rfl (by kernel_rfl) (by kernel_rfl) ?_
      apply Steps.one (MP.eq _) 1 rfl
      · intro o ho FA x hO hD K hK
        obtain rfl := Option.some.inj ho.symm
        clear ho
        have e12 := hO 12 (by kernel_rfl)
        simp only [eval_tmp, List.getElem?_toArray, List.getElem?_cons_succ, List.getElem?_cons_zero, Option.getD_some] at e12
        have ev12 := Lib.hid ((eval_tmp FA 12).trans e12)
        clear hO hD
        go_simp
        exact hK.out _ _ (Ex.refl _) rfl
      apply Steps.one (MP.eq _) 2 rfl
      · intro o ho FA x hO hD K hK
        obtain rfl := Option.some.inj ho.symm
        clear ho
        have ev108 : FA.eval (.tmp 108) = _ := hD 0 108 (by kernel_rfl)
        have e108 := (eval_tmp FA 108).symm.trans ev108
        replace ev108 := Lib.hid ev108
        clear hO hD
        go_simp
        exact hK.out _ _ (Ex.refl _) rfl
      apply Steps.one (MP.eq _) 3 rfl
      · intro o ho FA x hO hD K hK
        obtain rfl := Option.some.inj ho.symm
        clear ho
        have ev109 : FA.eval (.tmp 109) = _ := hD 1 109 (by kernel_rfl)
        have e109 := (eval_tmp FA 109).symm.trans ev109
        replace ev109 := Lib.hid ev109
        clear hO hD
        go_simp
        exact hK.out _ _ (Ex.refl _) rfl
      apply Steps.one (MP.eq _) 4 rfl
      · intro o ho FA x hO hD K hK
        obtain rfl := Option.some.inj ho.symm
        clear ho
        have e10 := hO 10 (by kernel_rfl)
        simp only [eval_tmp, List.getElem?_toArray, List.getElem?_cons_succ, List.getElem?_cons_zero, Option.getD_some] at e10
        have ev10 := Lib.hid ((eval_tmp FA 10).trans e10)
        have ev110 : FA.eval (.tmp 110) = _ := hD 2 110 (by kernel_rfl)
        have e110 := (eval_tmp FA 110).symm.trans ev110
        replace ev110 := Lib.hid ev110
        first | have ge110 := slot_of e110 | have ge110 := slot_un e110
        clear hO hD
        first | (refine wanted_ifG ?_ ?_; (· go_simp); refine wp_ldA 77 (.tmp 10) rfl (h4C ts 0 id st mo (fo : Int) tl pr 0 false 0 sl false 0 dl A4 n4 k4) ev10.out (hY.later (below_plus _ _ _)) (whole_ _) u1 u2 (szH4 _ _ _ _ _ _ _ _ _ _ _ _ _ _ _ _ _ _) ?_; exact hK.out _ _ (Ex.refl _) rfl) | (go_simp; exact hK.out _ _ (Ex.refl _) rfl)
      apply Steps.one (MP.eq _) 5 rfl
      · intro o ho FA x hO hD K hK
        obtain rfl := Option.some.inj ho.symm
        clear ho
        have ev111 : FA.eval (.tmp 111) = _ := hD 3 111 (by kernel_rfl)
        have e111 := (eval_tmp FA 111).symm.trans ev111
        replace ev111 := Lib.hid ev111
        have ev110 : FA.eval (.tmp 110) = _ := hD 2 110 (by kernel_rfl)
        have e110 := (eval_tmp FA 110).symm.trans ev110
        replace ev110 := Lib.hid ev110
        first | have ge110 := slot_of e110 | have ge110 := slot_un e110
        clear hO hD
        first | (go_simp; exact hK.out _ _ (Ex.refl _) rfl) | (go_simp; refine (HOFY.out _).mono ?_; rintro e w1 ⟨bs2, d2, rfl, rfl⟩; exact hK.out _ _ (Ex.plus_ _ _ _) rfl)
      apply Steps.one (MP.eq _) 6 rfl
      · intro o ho FA x hO hD K hK
        obtain rfl := Option.some.inj ho.symm
        clear ho
        have e5 := hO 5 (by kernel_rfl)
        simp only [eval_tmp, List.getElem?_toArray, List.getElem?_cons_succ, List.getElem?_cons_zero, Option.getD_some] at e5
        have ev5 := Lib.hid ((eval_tmp FA 5).trans e5)
        have ev110 : FA.eval (.tmp 110) = _ := hD 2 110 (by kernel_rfl)
        have e110 := (eval_tmp FA 110).symm.trans ev110
        replace ev110 := Lib.hid ev110
        first | have ge110 := slot_of e110 | have ge110 := slot_un e110
        clear hO hD
        first | (refine wanted_ifG ?_ ?_; (· go_simp); refine wp_ldA 77 (.tmp 5) rfl (h4C ts 0 id st mo (fo : Int) tl pr 0 false 0 sl false 0 dl A n k) ev5.out (hX.later (below_plus _ _ _)) (whole_ _) u1 u2 (szH4 _ _ _ _ _ _ _ _ _ _ _ _ _ _ _ _ _ _) ?_; exact hK.out _ _ (Ex.refl _) rfl) | (go_simp; exact hK.out _ _ (Ex.refl _) rfl)
      apply Steps.one (MP.eq _) 7 rfl
      · intro o ho FA x hO hD K hK
        obtain rfl := Option.some.inj ho.symm
        clear ho
        have ev113 : FA.eval (.tmp 113) = _ := hD 5 113 (by kernel_rfl)
        have e113 := (eval_tmp FA 113).symm.trans ev113
        replace ev113 := Lib.hid ev113
        have ev110 : FA.eval (.tmp 110) = _ := hD 2 110 (by kernel_rfl)
        have e110 := (eval_tmp FA 110).symm.trans ev110
        replace ev110 := Lib.hid ev110
        first | have ge110 := slot_of e110 | have ge110 := slot_un e110
        clear hO hD
        first | (go_simp; exact hK.out _ _ (Ex.refl _) rfl) | (go_simp; refine (HOFX.out _).mono ?_; rintro e w1 ⟨bs2, d2, rfl, rfl⟩; exact hK.out _ _ (Ex.plus_ _ _ _) rfl)
      apply Steps.one (MP.eq _) 8 rfl
      · intro o ho FA x hO hD K hK
        obtain rfl := Option.some.inj ho.symm
        clear ho
        have ev112 : FA.eval (.tmp 112) = _ := hD 4 112 (by kernel_rfl)
        have e112 := (eval_tmp FA 112).symm.trans ev112
        replace ev112 := Lib.hid ev112
        have ev114 : FA.eval (.tmp 114) = _ := hD 6 114 (by kernel_rfl)
        have e114 := (eval_tmp FA 114).symm.trans ev114
        replace ev114 := Lib.hid ev114
        have ev110 : FA.eval (.tmp 110) = _ := hD 2 110 (by kernel_rfl)
        have e110 := (eval_tmp FA 110).symm.trans ev110
        replace ev110 := Lib.hid ev110
        first | have ge110 := slot_of e110 | have ge110 := slot_un e110
        clear hO hD
        first | (go_simp; exact hK.out _ _ (Ex.refl _) rfl) | (go_simp; refine (HSM.out _ (ho4.plus_ _ _) (hr.plus_ _ _)).mono ?_; rintro e w1 ⟨bs2, d2, rfl, rfl⟩; exact hK.out _ _ (Ex.plus_ _ _ _) rfl)
      apply Steps.one (MP.eq _) 9 rfl
      · intro o ho FA x hO hD K hK
        obtain rfl := Option.some.inj ho.symm
        clear ho
        have ev110 : FA.eval (.tmp 110) = _ := hD 2 110 (by kernel_rfl)
        have e110 := (eval_tmp FA 110).symm.trans ev110
        replace ev110 := Lib.hid ev110
        have ev115 : FA.eval (.tmp 115) = _ := hD 7 115 (by kernel_rfl)
        have e115 := (eval_tmp FA 115).symm.trans ev115
        replace ev115 := Lib.hid ev115
        clear hO hD
        go_simp
        exact hK.out _ _ (Ex.refl _) rfl
      apply Steps.one (MP.eq _) 10 rfl
      · intro o ho FA x hO hD K hK
        obtain rfl := Option.some.inj ho.symm
        clear ho
        have ev116 : FA.eval (.tmp 116) = _ := hD 8 116 (by kernel_rfl)
        have e116 := (eval_tmp FA 116).symm.trans ev116
        replace ev116 := Lib.hid ev116
        clear hO hD
        go_simp
        exact hK.out _ _ (Ex.refl _) rfl
      apply Steps.one (MP.eq _) 11 rfl
      · intro o ho FA x hO hD K hK
        obtain rfl := Option.some.inj ho.symm
        clear ho
        have e11 := hO 11 (by kernel_rfl)
        simp only [eval_tmp, List.getElem?_toArray, List.getElem?_cons_succ, List.getElem?_cons_zero, Option.getD_some] at e11
        have ev11 := Lib.hid ((eval_tmp FA 11).trans e11)
        have ev117 : FA.eval (.tmp 117) = _ := hD 9 117 (by kernel_rfl)
        have e117 := (eval_tmp FA 117).symm.trans ev117
        replace ev117 := Lib.hid ev117
        first | have ge117 := slot_of e117 | have ge117 := slot_un e117
        clear hO hD
        go_simp
        exact hK.out _ _ (Ex.refl _) rfl
      apply Steps.one (MP.eq _) 12 rfl
      · intro o ho FA x hO hD K hK
        obtain rfl := Option.some.inj ho.symm
        clear ho
        have ev118 : FA.eval (.tmp 118) = _ := hD 10 118 (by kernel_rfl)
        have e118 := (eval_tmp FA 118).symm.trans ev118
        replace ev118 := Lib.hid ev118
        have ev117 : FA.eval (.tmp 117) = _ := hD 9 117 (by kernel_rfl)
        have e117 := (eval_tmp FA 117).symm.trans ev117
        replace ev117 := Lib.hid ev117
        first | have ge117 := slot_of e117 | have ge117 := slot_un e117
        clear hO hD
        have es := run_str bt Try.underlying9 (hl4.plus_ x.bs x.d)
        go_simp
        exact hK.out _ _ (Ex.refl _) rfl
      apply Steps.one (MP.eq _) 13 rfl
      · intro o ho FA x hO hD K hK
        obtain rfl := Option.some.inj ho.symm
        clear ho
        have e1 := hO 1 (by kernel_rfl)
        simp only [eval_tmp, List.getElem?_toArray, List.getElem?_cons_succ, List.getElem?_cons_zero, Option.getD_some] at e1
        have ev1 := Lib.hid ((eval_tmp FA 1).trans e1)
        have ev117 : FA.eval (.tmp 117) = _ := hD 9 117 (by kernel_rfl)
        have e117 := (eval_tmp FA 117).symm.trans ev117
        replace ev117 := Lib.hid ev117
        first | have ge117 := slot_of e117 | have ge117 := slot_un e117
        clear hO hD
        go_simp
        exact hK.out _ _ (Ex.refl _) rfl
      apply Steps.one (MP.eq _) 14 rfl
      · intro o ho FA x hO hD K hK
        obtain rfl := Option.some.inj ho.symm
        clear ho
        have ev120 : FA.eval (.tmp 120) = _ := hD 12 120 (by kernel_rfl)
        have e120 := (eval_tmp FA 120).symm.trans ev120
        replace ev120 := Lib.hid ev120
        have ev117 : FA.eval (.tmp 117) = _ := hD 9 117 (by kernel_rfl)
        have e117 := (eval_tmp FA 117).symm.trans ev117
        replace ev117 := Lib.hid ev117
        first | have ge117 := slot_of e117 | have ge117 := slot_un e117
        clear hO hD
        have es := run_str bt Try.underlying9 (h2.plus_ x.bs x.d)
        go_simp
        exact hK.out _ _ (Ex.refl _) rfl
      apply Steps.one (MP.eq _) 15 rfl
      · intro o ho FA x hO hD K hK
        obtain rfl := Option.some.inj ho.symm
        clear ho
        have ev119 : FA.eval (.tmp 119) = _ := hD 11 119 (by kernel_rfl)
        have e119 := (eval_tmp FA 119).symm.trans ev119
        replace ev119 := Lib.hid ev119
        have ev121 : FA.eval (.tmp 121) = _ := hD 13 121 (by kernel_rfl)
        have e121 := (eval_tmp FA 121).symm.trans ev121
        replace ev121 := Lib.hid ev121
        have ev117 : FA.eval (.tmp 117) = _ := hD 9 117 (by kernel_rfl)
        have e117 := (eval_tmp FA 117).symm.trans ev117
        replace ev117 := Lib.hid ev117
        first | have ge117 := slot_of e117 | have ge117 := slot_un e117
        clear hO hD
        go_simp
        exact hK.out _ _ (Ex.refl _) rfl
      apply Steps.one (MP.eq _) 16 rfl
      · intro o ho FA x hO hD K hK
        obtain rfl := Option.some.inj ho.symm
        clear ho
        have ev117 : FA.eval (.tmp 117) = _ := hD 9 117 (by kernel_rfl)
        have e117 := (eval_tmp FA 117).symm.trans ev117
        replace ev117 := Lib.hid ev117
        have ev122 : FA.eval (.tmp 122) = _ := hD 14 122 (by kernel_rfl)
        have e122 := (eval_tmp FA 122).symm.trans ev122
        replace ev122 := Lib.hid ev122
        clear hO hD
        go_simp
        exact hK.out _ _ (Ex.refl _) rfl
      apply Steps.one (MP.eq _) 17 rfl
      · intro o ho FA x hO hD K hK
        obtain rfl := Option.some.inj ho.symm
        clear ho
        have ev123 : FA.eval (.tmp 123) = _ := hD 15 123 (by kernel_rfl)
        have e123 := (eval_tmp FA 123).symm.trans ev123
        replace ev123 := Lib.hid ev123
        clear hO hD
        go_simp
        exact hK.out _ _ (Ex.refl _) rfl
      apply Steps.one (MP.eq _) 18 rfl
      · intro o ho FA x hO hD K hK
        obtain rfl := Option.some.inj ho.symm
        clear ho
        have ev124 : FA.eval (.tmp 124) = _ := hD 16 124 (by kernel_rfl)
        have e124 := (eval_tmp FA 124).symm.trans ev124
        replace ev124 := Lib.hid ev124
        first | have ge124 := slot_of e124 | have ge124 := slot_un e124
        clear hO hD
        first | (go_simp; exact hK.out _ _ (Ex.refl _) rfl) | (go_simp; refine (HAW.out _).mono ?_; rintro e w1 ⟨bs2, d2, rfl, rfl⟩; exact hK.out _ _ (Ex.plus_ _ _ _) rfl)
      apply Steps.one (MP.eq _) 19 rfl
      · intro o ho FA x hO hD K hK
        obtain rfl := Option.some.inj ho.symm
        clear ho
        have ev124 : FA.eval (.tmp 124) = _ := hD 16 124 (by kernel_rfl)
        have e124 := (eval_tmp FA 124).symm.trans ev124
        replace ev124 := Lib.hid ev124
        have ev125 : FA.eval (.tmp 125) = _ := hD 17 125 (by kernel_rfl)
        have e125 := (eval_tmp FA 125).symm.trans ev125
        replace ev125 := Lib.hid ev125
        clear hO hD
        go_simp
        exact hK.out _ _ (Ex.refl _) rfl
      apply Steps.one (MP.eq _) 20 rfl
      · intro o ho FA x hO hD K hK
        obtain rfl := Option.some.inj ho.symm
        clear ho
        have ev126 : FA.eval (.tmp 126) = _ := hD 18 126 (by kernel_rfl)
        have e126 := (eval_tmp FA 126).symm.trans ev126
        replace ev126 := Lib.hid ev126
        clear hO hD
        go_simp
        exact hK.out _ _ (Ex.refl _) rfl
      refine Steps.fin_ (fun vs x hp => ?_)
      have p0 : vs 0 = _ := hp 0 (by omega)
      have p1 : vs 1 = _ := hp 1 (by omega)
      have p2 : vs 2 = _ := hp 2 (by omega)
      have p3 : vs 3 = _ := hp 3 (by omega)
      have p4 : vs 4 = _ := hp 4 (by omega)
      have p5 : vs 5 = _ := hp 5 (by omega)
      have p6 : vs 6 = _ := hp 6 (by omega)
      have p7 : vs 7 = _ := hp 7 (by omega)
      have p8 : vs 8 = _ := hp 8 (by omega)
      have p9 : vs 9 = _ := hp 9 (by omega)
      have p10 : vs 10 = _ := hp 10 (by omega)
      have p11 : vs 11 = _ := hp 11 (by omega)
      have p12 : vs 12 = _ := hp 12 (by omega)
      have p13 : vs 13 = _ := hp 13 (by omega)
      have p14 : vs 14 = _ := hp 14 (by omega)
      have p15 : vs 15 = _ := hp 15 (by omega)
      have p16 : vs 16 = _ := hp 16 (by omega)
      have p17 : vs 17 = _ := hp 17 (by omega)
      have p18 : vs 18 = _ := hp 18 (by omega)
      have p19 : vs 19 = _ := hp 19 (by omega)
      clear hp
      simp only [List.take_succ_cons, List.take_zero, List.drop_succ_cons, List.drop_zero, putAll, Nat.zero_add, Nat.reduceAdd, Act.put, List.setIfInBounds_toArray, List.set_cons_zero, List.set_cons_succ, p0, p1, p2, p3, p4, p5, p6, p7, p8, p9, p10, p11, p12, p13, p14, p15, p16, p17, p18, p19]
      clear p0 p1 p2 p3 p4 p5 p6 p7 p8 p9 p10 p11 p12 p13 p14 p15 p16 p17 p18 p19
      clear vs
      go_wp2
      go_ret
      exact ⟨rfl, belowP be _ _⟩
  · rw [hr1] at HR1 HR2
    obtain ⟨Bx, HB1, HB2⟩ : ∃ Bx, (∀ w, Rb w A n k o → Calls Try.prog 52 #[.agg (h4C ts ln id st mo fo tl pr sm s6 sh sl d6 dh dl A n k).toArray] w (RetB w Bx)) ∧ (∀ w, Rb w A n k o → Calls Try.prog 53 #[.agg (h4C ts ln id st mo fo tl pr sm s6 sh sl d6 dh dl A n k).toArray] w (RetB w Bx)) := by
      obtain ⟨q1, q2, q3, q4, q5, q6, rfl, rfl, q7, rfl, rfl, q8⟩ := r4_true hr1
      obtain ⟨fo, rfl⟩ := Int.eq_ofNat_of_zero_le q5
      obtain ⟨ln, rfl⟩ := Int.eq_ofNat_of_zero_le (show 0 ≤ ln by omega)
      exact ⟨_, fun w hr => ip4Bytes_yes ts ln id st mo fo tl pr sm sl dl A n k o w hr b1 b2 b3 b4 q7 q8 q1 q2 (by omega) (by omega) (by omega), fun w hr => refIp4Bytes_yes ts ln id st mo fo tl pr sm sl dl A n k o w hr b1 b2 b3 b4 q7 q8 q1 q2 (by omega) (by omega) (by omega)⟩
    replace HB1 := Lib.hid HB1
    replace HB2 := Lib.hid HB2
    go_wp2
    refine wp_relS 26 127 rfl (by kernel_rfl) (by kernel_rfl) ?_
    apply Steps.one (MP.eq _) 1 rfl
    · intro o ho FA x hO hD K hK
      obtain rfl := Option.some.inj ho.symm
      clear ho
      have e5 := hO 5 (by kernel_rfl)
      simp only [eval_tmp, List.getElem?_toArray, List.getElem?_cons_succ, List.getElem?_cons_zero, Option.getD_some] at e5
      have ev5 := Lib.hid ((eval_tmp FA 5).trans e5)
      clear hO hD
      refine wanted_if rfl ?_
      refine wp_ldA 77 (.tmp 5) rfl (h4C ts ln id st mo fo tl pr sm s6 sh sl d6 dh dl A n k) ev5.out (hX.later (below_plus _ _ _)) (whole_ _) u1 u2 (szH4 _ _ _ _ _ _ _ _ _ _ _ _ _ _ _ _ _ _) ?_
      exact hK.out _ _ (Ex.refl _) rfl
    apply Steps.one (MP.eq _) 2 rfl
    · intro o ho FA x hO hD K hK
      obtain rfl := Option.some.inj ho.symm
      clear ho
      have ev25 : FA.eval (.tmp 25) = _ := hD 0 25 (by kernel_rfl)
      have e25 := (eval_tmp FA 25).symm.trans ev25
      replace ev25 := Lib.hid ev25
      clear hO hD
      go_simp
      refine (HR1.out _).mono ?_
      rintro e w1 ⟨bs2, d2, rfl, rfl⟩
      exact hK.out _ _ (Ex.plus_ _ _ _) rfl
    apply Steps.one (MP.eq _) 3 rfl
    · intro o ho FA x hO hD K hK
      obtain rfl := Option.some.inj ho.symm
      clear ho
      have e2 := hO 2 (by kernel_rfl)
      simp only [eval_tmp, List.getElem?_toArray, List.getElem?_cons_succ, List.getElem?_cons_zero, Option.getD_some] at e2
      have ev2 := Lib.hid ((eval_tmp FA 2).trans e2)
      clear hO hD
      refine wanted_if rfl ?_
      refine wp_ldA 83 (.tmp 2) rfl (h4C ts ln id st mo fo tl pr sm s6 sh sl d6 dh dl A n k) ev2.out (hS.later (below_plus _ _ _)) (whole_ _) r1 r2 (szR4 _ _ _ _ _ _ _ _ _ _ _ _ _ _ _ _ _ _) ?_
      exact hK.out _ _ (Ex.refl _) rfl
    apply Steps.one (MP.eq _) 4 rfl
    · intro o ho FA x hO hD K hK
      obtain rfl := Option.some.inj ho.symm
      clear ho
      have ev27 : FA.eval (.tmp 27) = _ := hD 2 27 (by kernel_rfl)
      have e27 := (eval_tmp FA 27).symm.trans ev27
      replace ev27 := Lib.hid ev27
      clear hO hD
      go_simp
      refine (HR2.out _).mono ?_
      rintro e w1 ⟨bs2, d2, rfl, rfl⟩
      exact hK.out _ _ (Ex.plus_ _ _ _) rfl
    apply Steps.one (MP.eq _) 5 rfl
    · intro o ho FA x hO hD K hK
      obtain rfl := Option.some.inj ho.symm
      clear ho
      have ev26 : FA.eval (.tmp 26) = _ := hD 1 26 (by kernel_rfl)
      have e26 := (eval_tmp FA 26).symm.trans ev26
      replace ev26 := Lib.hid ev26
      have ev28 : FA.eval (.tmp 28) = _ := hD 3 28 (by kernel_rfl)
      have e28 := (eval_tmp FA 28).symm.trans ev28
      replace ev28 := Lib.hid ev28
      clear hO hD
      go_simp
      exact hK.out _ _ (Ex.refl _) rfl
    apply Steps.one (MP.eq _) 6 rfl
    · intro o ho FA x hO hD K hK
      obtain rfl := Option.some.inj ho.symm
      clear ho
      have ev29 : FA.eval (.tmp 29) = _ := hD 4 29 (by kernel_rfl)
      have e29 := (eval_tmp FA 29).symm.trans ev29
      replace ev29 := Lib.hid ev29
      clear hO hD
      go_simp
      exact hK.out _ _ (Ex.refl _) rfl
    apply Steps.one (MP.eq _) 7 rfl
    · intro o ho FA x hO hD K hK
      obtain rfl := Option.some.inj ho.symm
      clear ho
      have e5 := hO 5 (by kernel_rfl)
      simp only [eval_tmp, List.getElem?_toArray, List.getElem?_cons_succ, List.getElem?_cons_zero, Option.getD_some] at e5
      have ev5 := Lib.hid ((eval_tmp FA 5).trans e5)
      have ev30 : FA.eval (.tmp 30) = _ := hD 5 30 (by kernel_rfl)
      have e30 := (eval_tmp FA 30).symm.trans ev30
      replace ev30 := Lib.hid ev30
      first | have ge30 := slot_of e30 | have ge30 := slot_un e30
      clear hO hD
      first | (refine wanted_ifG ?_ ?_; (· go_simp); refine wp_ldA 77 (.tmp 5) rfl (h4C ts ln id st mo fo tl pr sm s6 sh sl d6 dh dl A n k) ev5.out (hX.later (below_plus _ _ _)) (whole_ _) u1 u2 (szH4 _ _ _ _ _ _ _ _ _ _ _ _ _ _ _ _ _ _) ?_; exact hK.out _ _ (Ex.refl _) rfl) | (go_simp; exact hK.out _ _ (Ex.refl _) rfl)
    apply Steps.one (MP.eq _) 8 rfl
    · intro o ho FA x hO hD K hK
      obtain rfl := Option.some.inj ho.symm
      clear ho
      have ev31 : FA.eval (.tmp 31) = _ := hD 6 31 (by kernel_rfl)
      have e31 := (eval_tmp FA 31).symm.trans ev31
      replace ev31 := Lib.hid ev31
      have ev30 : FA.eval (.tmp 30) = _ := hD 5 30 (by kernel_rfl)
      have e30 := (eval_tmp FA 30).symm.trans ev30
      replace ev30 := Lib.hid ev30
      first | have ge30 := slot_of e30 | have ge30 := slot_un e30
      clear hO hD
      first | (go_simp; exact hK.out _ _ (Ex.refl _) rfl) | (go_simp; refine (HSZ.out _).mono ?_; rintro e w1 ⟨bs2, d2, rfl, rfl⟩; exact hK.out _ _ (Ex.plus_ _ _ _) rfl)
    apply Steps.one (MP.eq _) 9 rfl
    · intro o ho FA x hO hD K hK
      obtain rfl := Option.some.inj ho.symm
      clear ho
      have e2 := hO 2 (by kernel_rfl)
      simp only [eval_tmp, List.getElem?_toArray, List.getElem?_cons_succ, List.getElem?_cons_zero, Option.getD_some] at e2
      have ev2 := Lib.hid ((eval_tmp FA 2).trans e2)
      have ev30 : FA.eval (.tmp 30) = _ := hD 5 30 (by kernel_rfl)
      have e30 := (eval_tmp FA 30).symm.trans ev30
      replace ev30 := Lib.hid ev30
      first | have ge30 := slot_of e30 | have ge30 := slot_un e30
      clear hO hD
      go_simp
      exact hK.out _ _ (Ex.refl _) rfl
    apply Steps.one (MP.eq _) 10 rfl
    · intro o ho FA x hO hD K hK
      obtain rfl := Option.some.inj ho.symm
      clear ho
      have ev33 : FA.eval (.tmp 33) = _ := hD 8 33 (by kernel_rfl)
      have e33 := (eval_tmp FA 33).symm.trans ev33
      replace ev33 := Lib.hid ev33
      have ev30 : FA.eval (.tmp 30) = _ := hD 5 30 (by kernel_rfl)
      have e30 := (eval_tmp FA 30).symm.trans ev30
      replace ev30 := Lib.hid ev30
      first | have ge30 := slot_of e30 | have ge30 := slot_un e30
      clear hO hD
      first | (refine wanted_ifG ?_ ?_; (· go_simp); refine wp_ld1 24 (.tmp 33) rfl ev33.out (hS.later (below_plus _ _ _)) rfl Try.underlying24 rfl ?_; exact hK.out _ _ (Ex.refl _) rfl) | (go_simp; exact hK.out _ _ (Ex.refl _) rfl)
    apply Steps.one (MP.eq _) 11 rfl
    · intro o ho FA x hO hD K hK
      obtain rfl := Option.some.inj ho.symm
      clear ho
      have ev34 : FA.eval (.tmp 34) = _ := hD 9 34 (by kernel_rfl)
      have e34 := (eval_tmp FA 34).symm.trans ev34
      replace ev34 := Lib.hid ev34
      have ev30 : FA.eval (.tmp 30) = _ := hD 5 30 (by kernel_rfl)
      have e30 := (eval_tmp FA 30).symm.trans ev30
      replace ev30 := Lib.hid ev30
      first | have ge30 := slot_of e30 | have ge30 := slot_un e30
      clear hO hD
      go_simp
      exact hK.out _ _ (Ex.refl _) rfl
    apply Steps.one (MP.eq _) 12 rfl
    · intro o ho FA x hO hD K hK
      obtain rfl := Option.some.inj ho.symm
      clear ho
      have ev35 : FA.eval (.tmp 35) = _ := hD 10 35 (by kernel_rfl)
      have e35 := (eval_tmp FA 35).symm.trans ev35
      replace ev35 := Lib.hid ev35
      have ev30 : FA.eval (.tmp 30) = _ := hD 5 30 (by kernel_rfl)
      have e30 := (eval_tmp FA 30).symm.trans ev30
      replace ev30 := Lib.hid ev30
      first | have ge30 := slot_of e30 | have ge30 := slot_un e30
      clear hO hD
      go_simp
      exact hK.out _ _ (Ex.refl _) rfl
    apply Steps.one (MP.eq _) 13 rfl
    · intro o ho FA x hO hD K hK
      obtain rfl := Option.some.inj ho.symm
      clear ho
      have ev32 : FA.eval (.tmp 32) = _ := hD 7 32 (by kernel_rfl)
      have e32 := (eval_tmp FA 32).symm.trans ev32
      replace ev32 := Lib.hid ev32
      have ev36 : FA.eval (.tmp 36) = _ := hD 11 36 (by kernel_rfl)
      have e36 := (eval_tmp FA 36).symm.trans ev36
      replace ev36 := Lib.hid ev36
      have ev30 : FA.eval (.tmp 30) = _ := hD 5 30 (by kernel_rfl)
      have e30 := (eval_tmp FA 30).symm.trans ev30
      replace ev30 := Lib.hid ev30
      first | have ge30 := slot_of e30 | have ge30 := slot_un e30
      clear hO hD
      go_simp
      exact hK.out _ _ (Ex.refl _) rfl
    apply Steps.one (MP.eq _) 14 rfl
    · intro o ho FA x hO hD K hK
      obtain rfl := Option.some.inj ho.symm
      clear ho
      have ev30 : FA.eval (.tmp 30) = _ := hD 5 30 (by kernel_rfl)
      have e30 := (eval_tmp FA 30).symm.trans ev30
      replace ev30 := Lib.hid ev30
      have ev37 : FA.eval (.tmp 37) = _ := hD 12 37 (by kernel_rfl)
      have e37 := (eval_tmp FA 37).symm.trans ev37
      replace ev37 := Lib.hid ev37
      clear hO hD
      go_simp
      exact hK.out _ _ (Ex.refl _) rfl
    apply Steps.one (MP.eq _) 15 rfl
    · intro o ho FA x hO hD K hK
      obtain rfl := Option.some.inj ho.symm
      clear ho
      have ev38 : FA.eval (.tmp 38) = _ := hD 13 38 (by kernel_rfl)
      have e38 := (eval_tmp FA 38).symm.trans ev38
      replace ev38 := Lib.hid ev38
      clear hO hD
      go_simp
      exact hK.out _ _ (Ex.refl _) rfl
    apply Steps.one (MP.eq _) 16 rfl
    · intro o ho FA x hO hD K hK
      obtain rfl := Option.some.inj ho.symm
      clear ho
      have e5 := hO 5 (by kernel_rfl)
      simp only [eval_tmp, List.getElem?_toArray, List.getElem?_cons_succ, List.getElem?_cons_zero, Option.getD_some] at e5
      have ev5 := Lib.hid ((eval_tmp FA 5).trans e5)
      have ev39 : FA.eval (.tmp 39) = _ := hD 14 39 (by kernel_rfl)
      have e39 := (eval_tmp FA 39).symm.trans ev39
      replace ev39 := Lib.hid ev39
      first | have ge39 := slot_of e39 | have ge39 := slot_un e39
      clear hO hD
      first | (refine wanted_ifG ?_ ?_; (· go_simp); refine wp_ldA 77 (.tmp 5) rfl (h4C ts ln id st mo fo tl pr sm s6 sh sl d6 dh dl A n k) ev5.out (hX.later (below_plus _ _ _)) (whole_ _) u1 u2 (szH4 _ _ _ _ _ _ _ _ _ _ _ _ _ _ _ _ _ _) ?_; exact hK.out _ _ (Ex.refl _) rfl) | (go_simp; exact hK.out _ _ (Ex.refl _) rfl)
    apply Steps.one (MP.eq _) 17 rfl
    · intro o ho FA x hO hD K hK
      obtain rfl := Option.some.inj ho.symm
      clear ho
      have ev40 : FA.eval (.tmp 40) = _ := hD 15 40 (by kernel_rfl)
      have e40 := (eval_tmp FA 40).symm.trans ev40
      replace ev40 := Lib.hid ev40
      have ev39 : FA.eval (.tmp 39) = _ := hD 14 39 (by kernel_rfl)
      have e39 := (eval_tmp FA 39).symm.trans ev39
      replace ev39 := Lib.hid ev39
      first | have ge39 := slot_of e39 | have ge39 := slot_un e39
      clear hO hD
      first | (go_simp; exact hK.out _ _ (Ex.refl _) rfl) | (go_simp; refine (HFR.out _).mono ?_; rintro e w1 ⟨bs2, d2, rfl, rfl⟩; exact hK.out _ _ (Ex.plus_ _ _ _) rfl)
    apply Steps.one (MP.eq _) 18 rfl
    · intro o ho FA x hO hD K hK
      obtain rfl := Option.some.inj ho.symm
      clear ho
      have e2 := hO 2 (by kernel_rfl)
      simp only [eval_tmp, List.getElem?_toArray, List.getElem?_cons_succ, List.getElem?_cons_zero, Option.getD_some] at e2
      have ev2 := Lib.hid ((eval_tmp FA 2).trans e2)
      have ev39 : FA.eval (.tmp 39) = _ := hD 14 39 (by kernel_rfl)
      have e39 := (eval_tmp FA 39).symm.trans ev39
      replace ev39 := Lib.hid ev39
      first | have ge39 := slot_of e39 | have ge39 := slot_un e39
      clear hO hD
      go_simp
      exact hK.out _ _ (Ex.refl _) rfl
    apply Steps.one (MP.eq _) 19 rfl
    · intro o ho FA x hO hD K hK
      obtain rfl := Option.some.inj ho.symm
      clear ho
      have ev42 : FA.eval (.tmp 42) = _ := hD 17 42 (by kernel_rfl)
      have e42 := (eval_tmp FA 42).symm.trans ev42
      replace ev42 := Lib.hid ev42
      have ev39 : FA.eval (.tmp 39) = _ := hD 14 39 (by kernel_rfl)
      have e39 := (eval_tmp FA 39).symm.trans ev39
      replace ev39 := Lib.hid ev39
      first | have ge39 := slot_of e39 | have ge39 := slot_un e39
      clear hO hD
      first | (refine wanted_ifG ?_ ?_; (· go_simp); refine wp_ld1 4 (.tmp 42) rfl ev42.out (hS.later (below_plus _ _ _)) rfl Try.underlying4 rfl ?_; exact hK.out _ _ (Ex.refl _) rfl) | (go_simp; exact hK.out _ _ (Ex.refl _) rfl)
    apply Steps.one (MP.eq _) 20 rfl
    · intro o ho FA x hO hD K hK
      obtain rfl := Option.some.inj ho.symm
      clear ho
      have ev43 : FA.eval (.tmp 43) = _ := hD 18 43 (by kernel_rfl)
      have e43 := (eval_tmp FA 43).symm.trans ev43
      replace ev43 := Lib.hid ev43
      have ev39 : FA.eval (.tmp 39) = _ := hD 14 39 (by kernel_rfl)
      have e39 := (eval_tmp FA 39).symm.trans ev39
      replace ev39 := Lib.hid ev39
      first | have ge39 := slot_of e39 | have ge39 := slot_un e39
      clear hO hD
      go_simp
      exact hK.out _ _ (Ex.refl _) rfl
    apply Steps.one (MP.eq (bif mo then undef else .pointer (some ⟨w.heap.size, 5, none⟩))) 21 rfl
    · intro o ho FA x hO hD K hK
      obtain rfl := Option.some.inj ho.symm
      clear ho
      have e2 := hO 2 (by kernel_rfl)
      simp only [eval_tmp, List.getElem?_toArray, List.getElem?_cons_succ, List.getElem?_cons_zero, Option.getD_some] at e2
      have ev2 := Lib.hid ((eval_tmp FA 2).trans e2)
      have ev44 : FA.eval (.tmp 44) = _ := hD 19 44 (by kernel_rfl)
      have e44 := (eval_tmp FA 44).symm.trans ev44
      replace ev44 := Lib.hid ev44
      first | have ge44 := slot_of e44 | have ge44 := slot_un e44
      clear hO hD
      cases mo <;> (first | (go_simp; exact hK.out _ _ (Ex.refl _) rfl) | (fail))
    apply Steps.one (MP.eq (bif mo then undef else .int .i64 fo)) 22 rfl
    · intro o ho FA x hO hD K hK
      obtain rfl := Option.some.inj ho.symm
      clear ho
      have ev45 : FA.eval (.tmp 45) = _ := hD 20 45 (by kernel_rfl)
      have e45 := (eval_tmp FA 45).symm.trans ev45
      replace ev45 := Lib.hid ev45
      have ev44 : FA.eval (.tmp 44) = _ := hD 19 44 (by kernel_rfl)
      have e44 := (eval_tmp FA 44).symm.trans ev44
      replace ev44 := Lib.hid ev44
      first | have ge44 := slot_of e44 | have ge44 := slot_un e44
      clear hO hD
      cases mo <;> (first | (go_simp; exact hK.out _ _ (Ex.refl _) rfl) | (refine wanted_ifG (by go_simp) ?_; refine wp_ld1 3 (.tmp 45) rfl ev45.out (hS.later (below_plus _ _ _)) rfl Try.underlying3 rfl ?_; exact hK.out _ _ (Ex.refl _) rfl))
    apply Steps.one (MP.eq (bif mo then undef else .bool (decide (0 < fo)))) 23 rfl
    · intro o ho FA x hO hD K hK
      obtain rfl := Option.some.inj ho.symm
      clear ho
      have ev46 : FA.eval (.tmp 46) = _ := hD 21 46 (by kernel_rfl)
      have e46 := (eval_tmp FA 46).symm.trans ev46
      replace ev46 := Lib.hid ev46
      have ev44 : FA.eval (.tmp 44) = _ := hD 19 44 (by kernel_rfl)
      have e44 := (eval_tmp FA 44).symm.trans ev44
      replace ev44 := Lib.hid ev44
      first | have ge44 := slot_of e44 | have ge44 := slot_un e44
      clear hO hD
      cases mo <;> (first | (go_simp; exact hK.out _ _ (Ex.refl _) rfl) | (fail))
    apply Steps.one (MP.eq (.bool (mo || decide (0 < fo)))) 24 rfl
    · intro o ho FA x hO hD K hK
      obtain rfl := Option.some.inj ho.symm
      clear ho
      have ev44 : FA.eval (.tmp 44) = _ := hD 19 44 (by kernel_rfl)
      have e44 := (eval_tmp FA 44).symm.trans ev44
      replace ev44 := Lib.hid ev44
      have ev47 : FA.eval (.tmp 47) = _ := hD 22 47 (by kernel_rfl)
      have e47 := (eval_tmp FA 47).symm.trans ev47
      replace ev47 := Lib.hid ev47
      have ev39 : FA.eval (.tmp 39) = _ := hD 14 39 (by kernel_rfl)
      have e39 := (eval_tmp FA 39).symm.trans ev39
      replace ev39 := Lib.hid ev39
      first | have ge39 := slot_of e39 | have ge39 := slot_un e39
      clear hO hD
      cases mo <;> (first | (go_simp; exact hK.out _ _ (Ex.refl _) rfl) | (fail))
    apply Steps.one (MP.eq _) 25 rfl
    · intro o ho FA x hO hD K hK
      obtain rfl := Option.some.inj ho.symm
      clear ho
      have ev41 : FA.eval (.tmp 41) = _ := hD 16 41 (by kernel_rfl)
      have e41 := (eval_tmp FA 41).symm.trans ev41
      replace ev41 := Lib.hid ev41
      have ev48 : FA.eval (.tmp 48) = _ := hD 23 48 (by kernel_rfl)
      have e48 := (eval_tmp FA 48).symm.trans ev48
      replace ev48 := Lib.hid ev48
      have ev39 : FA.eval (.tmp 39) = _ := hD 14 39 (by kernel_rfl)
      have e39 := (eval_tmp FA 39).symm.trans ev39
      replace ev39 := Lib.hid ev39
      first | have ge39 := slot_of e39 | have ge39 := slot_un e39
      clear hO hD
      go_simp
      exact hK.out _ _ (Ex.refl _) rfl
    apply Steps.one (MP.eq _) 26 rfl
    · intro o ho FA x hO hD K hK
      obtain rfl := Option.some.inj ho.symm
      clear ho
      have ev39 : FA.eval (.tmp 39) = _ := hD 14 39 (by kernel_rfl)
      have e39 := (eval_tmp FA 39).symm.trans ev39
      replace ev39 := Lib.hid ev39
      have ev49 : FA.eval (.tmp 49) = _ := hD 24 49 (by kernel_rfl)
      have e49 := (eval_tmp FA 49).symm.trans ev49
      replace ev49 := Lib.hid ev49
      clear hO hD
      go_simp
      exact hK.out _ _ (Ex.refl _) rfl
    refine Steps.fin_ (fun vs x hp => ?_)
    have p0 : vs 0 = _ := hp 0 (by omega)
    have p1 : vs 1 = _ := hp 1 (by omega)
    have p2 : vs 2 = _ := hp 2 (by omega)
    have p3 : vs 3 = _ := hp 3 (by omega)
    have p4 : vs 4 = _ := hp 4 (by omega)
    have p5 : vs 5 = _ := hp 5 (by omega)
    have p6 : vs 6 = _ := hp 6 (by omega)
    have p7 : vs 7 = _ := hp 7 (by omega)
    have p8 : vs 8 = _ := hp 8 (by omega)
    have p9 : vs 9 = _ := hp 9 (by omega)
    have p10 : vs 10 = _ := hp 10 (by omega)
    have p11 : vs 11 = _ := hp 11 (by omega)
    have p12 : vs 12 = _ := hp 12 (by omega)
    have p13 : vs 13 = _ := hp 13 (by omega)
    have p14 : vs 14 = _ := hp 14 (by omega)
    have p15 : vs 15 = _ := hp 15 (by omega)
    have p16 : vs 16 = _ := hp 16 (by omega)
    have p17 : vs 17 = _ := hp 17 (by omega)
    have p18 : vs 18 = _ := hp 18 (by omega)
    have p19 : vs 19 = _ := hp 19 (by omega)
    have p20 : vs 20 = _ := hp 20 (by omega)
    have p21 : vs 21 = _ := hp 21 (by omega)
    have p22 : vs 22 = _ := hp 22 (by omega)
    have p23 : vs 23 = _ := hp 23 (by omega)
    have p24 : vs 24 = _ := hp 24 (by omega)
    have p25 : vs 25 = _ := hp 25 (by omega)
    clear hp
    simp only [List.take_succ_cons, List.take_zero, List.drop_succ_cons, List.drop_zero, putAll, Nat.zero_add, Nat.reduceAdd, Act.put, List.setIfInBounds_toArray, List.set_cons_zero, List.set_cons_succ, p0, p1, p2, p3, p4, p5, p6, p7, p8, p9, p10, p11, p12, p13, p14, p15, p16, p17, p18, p19, p20, p21, p22, p23, p24, p25]
    clear p0 p1 p2 p3 p4 p5 p6 p7 p8 p9 p10 p11 p12 p13 p14 p15 p16 p17 p18 p19 p20 p21 p22 p23 p24 p25
    clear vs
    replace hS := hS.later (below_plus _ x.bs x.d)
    replace hX := hX.later (below_plus _ x.bs x.d)
    replace hr := hr.plus_ x.bs x.d
    replace h2 := h2.plus_ x.bs x.d
    replace be := belowP be x.bs x.d
    generalize plus W3 x.bs x.d = W4 at *
    go_wp2
    refine wp_relS 22 127 rfl (by kernel_rfl) (by kernel_rfl) ?_
    apply Steps.one (MP.eq _) 1 rfl
    · intro o ho FA x hO hD K hK
      obtain rfl := Option.some.inj ho.symm
      clear ho
      have e2 := hO 2 (by kernel_rfl)
      simp only [eval_tmp, List.getElem?_toArray, List.getElem?_cons_succ, List.getElem?_cons_zero, Option.getD_some] at e2
      have ev2 := Lib.hid ((eval_tmp FA 2).trans e2)
      clear hO hD
      refine wanted_if rfl ?_
      refine wp_ldA 83 (.tmp 2) rfl (h4C ts ln id st mo fo tl pr sm s6 sh sl d6 dh dl A n k) ev2.out (hS.later (below_plus _ _ _)) (whole_ _) r1 r2 (szR4 _ _ _ _ _ _ _ _ _ _ _ _ _ _ _ _ _ _) ?_
      exact hK.out _ _ (Ex.refl _) rfl
    apply Steps.one (MP.eq _) 2 rfl
    · intro o ho FA x hO hD K hK
      obtain rfl := Option.some.inj ho.symm
      clear ho
      have ev51 : FA.eval (.tmp 51) = _ := hD 0 51 (by kernel_rfl)
      have e51 := (eval_tmp FA 51).symm.trans ev51
      replace ev51 := Lib.hid ev51
      clear hO hD
      go_simp
      refine (HR2.out _).mono ?_
      rintro e w1 ⟨bs2, d2, rfl, rfl⟩
      exact hK.out _ _ (Ex.plus_ _ _ _) rfl
    apply Steps.one (MP.eq _) 3 rfl
    · intro o ho FA x hO hD K hK
      obtain rfl := Option.some.inj ho.symm
      clear ho
      have ev52 : FA.eval (.tmp 52) = _ := hD 1 52 (by kernel_rfl)
      have e52 := (eval_tmp FA 52).symm.trans ev52
      replace ev52 := Lib.hid ev52
      clear hO hD
      go_simp
      exact hK.out _ _ (Ex.refl _) rfl
    apply Steps.one (MP.eq _) 4 rfl
    · intro o ho FA x hO hD K hK
      obtain rfl := Option.some.inj ho.symm
      clear ho
      have e5 := hO 5 (by kernel_rfl)
      simp only [eval_tmp, List.getElem?_toArray, List.getElem?_cons_succ, List.getElem?_cons_zero, Option.getD_some] at e5
      have ev5 := Lib.hid ((eval_tmp FA 5).trans e5)
      have ev53 : FA.eval (.tmp 53) = _ := hD 2 53 (by kernel_rfl)
      have e53 := (eval_tmp FA 53).symm.trans ev53
      replace ev53 := Lib.hid ev53
      first | have ge53 := slot_of e53 | have ge53 := slot_un e53
      clear hO hD
      first | (refine wanted_ifG ?_ ?_; (· go_simp); refine wp_ldA 77 (.tmp 5) rfl (h4C ts ln id st mo fo tl pr sm s6 sh sl d6 dh dl A n k) ev5.out (hX.later (below_plus _ _ _)) (whole_ _) u1 u2 (szH4 _ _ _ _ _ _ _ _ _ _ _ _ _ _ _ _ _ _) ?_; exact hK.out _ _ (Ex.refl _) rfl) | (go_simp; exact hK.out _ _ (Ex.refl _) rfl)
    apply Steps.one (MP.rb Bx) 5 rfl
    · intro o ho FA x hO hD K hK
      obtain rfl := Option.some.inj ho.symm
      clear ho
      have ev54 : FA.eval (.tmp 54) = _ := hD 3 54 (by kernel_rfl)
      have e54 := (eval_tmp FA 54).symm.trans ev54
      replace ev54 := Lib.hid ev54
      have ev53 : FA.eval (.tmp 53) = _ := hD 2 53 (by kernel_rfl)
      have e53 := (eval_tmp FA 53).symm.trans ev53
      replace ev53 := Lib.hid ev53
      first | have ge53 := slot_of e53 | have ge53 := slot_un e53
      clear hO hD
      first | (go_simp; exact hK.out _ _ (Ex.refl _) rfl) | (go_simp; refine (HB1.out _ (hr.plus_ _ _)).mono ?_; rintro e w1 ⟨A3, n3, c3, bs2, d2, rfl, rfl, ho2⟩; exact hK.out _ _ (Ex.plus_ _ _ _) ⟨_, _, _, rfl, ho2.rb⟩)
    apply Steps.one (MP.eq _) 6 rfl
    · intro o ho FA x hO hD K hK
      obtain rfl := Option.some.inj ho.symm
      clear ho
      have f55 := hD 4 55 (by kernel_rfl)
      generalize eu55 : FA.eval (.tmp 55) = u55 at f55
      have e55 := (eval_tmp FA 55).symm.trans eu55
      have ev55 := Lib.hid eu55
      clear eu55
      have ev53 : FA.eval (.tmp 53) = _ := hD 2 53 (by kernel_rfl)
      have e53 := (eval_tmp FA 53).symm.trans ev53
      replace ev53 := Lib.hid ev53
      first | have ge53 := slot_of e53 | have ge53 := slot_un e53
      clear hO hD
      obtain ⟨A1, n1, c1, rfl, hr1⟩ := f55
      have es := run_str bt Try.underlying9 hr1
      go_simp
      exact hK.out _ _ (Ex.refl _) rfl
    apply Steps.one (MP.eq _) 7 rfl
    · intro o ho FA x hO hD K hK
      obtain rfl := Option.some.inj ho.symm
      clear ho
      have e2 := hO 2 (by kernel_rfl)
      simp only [eval_tmp, List.getElem?_toArray, List.getElem?_cons_succ, List.getElem?_cons_zero, Option.getD_some] at e2
      have ev2 := Lib.hid ((eval_tmp FA 2).trans e2)
      have ev53 : FA.eval (.tmp 53) = _ := hD 2 53 (by kernel_rfl)
      have e53 := (eval_tmp FA 53).symm.trans ev53
      replace ev53 := Lib.hid ev53
      first | have ge53 := slot_of e53 | have ge53 := slot_un e53
      clear hO hD
      first | (refine wanted_ifG ?_ ?_; (· go_simp); refine wp_ldA 83 (.tmp 2) rfl (h4C ts ln id st mo fo tl pr sm s6 sh sl d6 dh dl A n k) ev2.out (hS.later (below_plus _ _ _)) (whole_ _) r1 r2 (szR4 _ _ _ _ _ _ _ _ _ _ _ _ _ _ _ _ _ _) ?_; exact hK.out _ _ (Ex.refl _) rfl) | (go_simp; exact hK.out _ _ (Ex.refl _) rfl)
    apply Steps.one (MP.rb Bx) 8 rfl
    · intro o ho FA x hO hD K hK
      obtain rfl := Option.some.inj ho.symm
      clear ho
      have ev57 : FA.eval (.tmp 57) = _ := hD 6 57 (by kernel_rfl)
      have e57 := (eval_tmp FA 57).symm.trans ev57
      replace ev57 := Lib.hid ev57
      have ev53 : FA.eval (.tmp 53) = _ := hD 2 53 (by kernel_rfl)
      have e53 := (eval_tmp FA 53).symm.trans ev53
      replace ev53 := Lib.hid ev53
      first | have ge53 := slot_of e53 | have ge53 := slot_un e53
      clear hO hD
      first | (go_simp; exact hK.out _ _ (Ex.refl _) rfl) | (go_simp; refine (HB2.out _ (hr.plus_ _ _)).mono ?_; rintro e w1 ⟨A3, n3, c3, bs2, d2, rfl, rfl, ho2⟩; exact hK.out _ _ (Ex.plus_ _ _ _) ⟨_, _, _, rfl, ho2.rb⟩)
    apply Steps.one (MP.eq _) 9 rfl
    · intro o ho FA x hO hD K hK
      obtain rfl := Option.some.inj ho.symm
      clear ho
      have f58 := hD 7 58 (by kernel_rfl)
      generalize eu58 : FA.eval (.tmp 58) = u58 at f58
      have e58 := (eval_tmp FA 58).symm.trans eu58
      have ev58 := Lib.hid eu58
      clear eu58
      have ev53 : FA.eval (.tmp 53) = _ := hD 2 53 (by kernel_rfl)
      have e53 := (eval_tmp FA 53).symm.trans ev53
      replace ev53 := Lib.hid ev53
      first | have ge53 := slot_of e53 | have ge53 := slot_un e53
      clear hO hD
      obtain ⟨A1, n1, c1, rfl, hr1⟩ := f58
      have es := run_str bt Try.underlying9 hr1
      go_simp
      exact hK.out _ _ (Ex.refl _) rfl
    apply Steps.one (MP.eq _) 10 rfl
    · intro o ho FA x hO hD K hK
      obtain rfl := Option.some.inj ho.symm
      clear ho
      have ev56 : FA.eval (.tmp 56) = _ := hD 5 56 (by kernel_rfl)
      have e56 := (eval_tmp FA 56).symm.trans ev56
      replace ev56 := Lib.hid ev56
      have ev59 : FA.eval (.tmp 59) = _ := hD 8 59 (by kernel_rfl)
      have e59 := (eval_tmp FA 59).symm.trans ev59
      replace ev59 := Lib.hid ev59
      have ev53 : FA.eval (.tmp 53) = _ := hD 2 53 (by kernel_rfl)
      have e53 := (eval_tmp FA 53).symm.trans ev53
      replace ev53 := Lib.hid ev53
      first | have ge53 := slot_of e53 | have ge53 := slot_un e53
      clear hO hD
      go_simp
      exact hK.out _ _ (Ex.refl _) rfl
    apply Steps.one (MP.eq _) 11 rfl
    · intro o ho FA x hO hD K hK
      obtain rfl := Option.some.inj ho.symm
      clear ho
      have ev53 : FA.eval (.tmp 53) = _ := hD 2 53 (by kernel_rfl)
      have e53 := (eval_tmp FA 53).symm.trans ev53
      replace ev53 := Lib.hid ev53
      have ev60 : FA.eval (.tmp 60) = _ := hD 9 60 (by kernel_rfl)
      have e60 := (eval_tmp FA 60).symm.trans ev60
      replace ev60 := Lib.hid ev60
      clear hO hD
      go_simp
      exact hK.out _ _ (Ex.refl _) rfl
    apply Steps.one (MP.eq _) 12 rfl
    · intro o ho FA x hO hD K hK
      obtain rfl := Option.some.inj ho.symm
      clear ho
      have ev61 : FA.eval (.tmp 61) = _ := hD 10 61 (by kernel_rfl)
      have e61 := (eval_tmp FA 61).symm.trans ev61
      replace ev61 := Lib.hid ev61
      clear hO hD
      go_simp
      exact hK.out _ _ (Ex.refl _) rfl
    apply Steps.one (MP.eq _) 13 rfl
    · intro o ho FA x hO hD K hK
      obtain rfl := Option.some.inj ho.symm
      clear ho
      have e2 := hO 2 (by kernel_rfl)
      simp only [eval_tmp, List.getElem?_toArray, List.getElem?_cons_succ, List.getElem?_cons_zero, Option.getD_some] at e2
      have ev2 := Lib.hid ((eval_tmp FA 2).trans e2)
      have ev62 : FA.eval (.tmp 62) = _ := hD 11 62 (by kernel_rfl)
      have e62 := (eval_tmp FA 62).symm.trans ev62
      replace ev62 := Lib.hid ev62
      first | have ge62 := slot_of e62 | have ge62 := slot_un e62
      clear hO hD
      first | (refine wanted_ifG ?_ ?_; (· go_simp); refine wp_ldA 83 (.tmp 2) rfl (h4C ts ln id st mo fo tl pr sm s6 sh sl d6 dh dl A n k) ev2.out (hS.later (below_plus _ _ _)) (whole_ _) r1 r2 (szR4 _ _ _ _ _ _ _ _ _ _ _ _ _ _ _ _ _ _) ?_; exact hK.out _ _ (Ex.refl _) rfl) | (go_simp; exact hK.out _ _ (Ex.refl _) rfl)
    apply Steps.one (MP.eq _) 14 rfl
    · intro o ho FA x hO hD K hK
      obtain rfl := Option.some.inj ho.symm
      clear ho
      have ev63 : FA.eval (.tmp 63) = _ := hD 12 63 (by kernel_rfl)
      have e63 := (eval_tmp FA 63).symm.trans ev63
      replace ev63 := Lib.hid ev63
      have ev62 : FA.eval (.tmp 62) = _ := hD 11 62 (by kernel_rfl)
      have e62 := (eval_tmp FA 62).symm.trans ev62
      replace ev62 := Lib.hid ev62
      first | have ge62 := slot_of e62 | have ge62 := slot_un e62
      clear hO hD
      first | (go_simp; exact hK.out _ _ (Ex.refl _) rfl) | (go_simp; refine (HR2.out _).mono ?_; rintro e w1 ⟨bs2, d2, rfl, rfl⟩; exact hK.out _ _ (Ex.plus_ _ _ _) rfl)
    apply Steps.one (MP.eq _) 15 rfl
    · intro o ho FA x hO hD K hK
      obtain rfl := Option.some.inj ho.symm
      clear ho
      have ev64 : FA.eval (.tmp 64) = _ := hD 13 64 (by kernel_rfl)
      have e64 := (eval_tmp FA 64).symm.trans ev64
      replace ev64 := Lib.hid ev64
      have ev62 : FA.eval (.tmp 62) = _ := hD 11 62 (by kernel_rfl)
      have e62 := (eval_tmp FA 62).symm.trans ev62
      replace ev62 := Lib.hid ev62
      first | have ge62 := slot_of e62 | have ge62 := slot_un e62
      clear hO hD
      go_simp
      exact hK.out _ _ (Ex.refl _) rfl
    apply Steps.one (MP.eq _) 16 rfl
    · intro o ho FA x hO hD K hK
      obtain rfl := Option.some.inj ho.symm
      clear ho
      have ev65 : FA.eval (.tmp 65) = _ := hD 14 65 (by kernel_rfl)
      have e65 := (eval_tmp FA 65).symm.trans ev65
      replace ev65 := Lib.hid ev65
      have ev62 : FA.eval (.tmp 62) = _ := hD 11 62 (by kernel_rfl)
      have e62 := (eval_tmp FA 62).symm.trans ev62
      replace ev62 := Lib.hid ev62
      first | have ge62 := slot_of e62 | have ge62 := slot_un e62
      clear hO hD
      go_simp
      exact hK.out _ _ (Ex.refl _) rfl
    apply Steps.one (MP.eq _) 17 rfl
    · intro o ho FA x hO hD K hK
      obtain rfl := Option.some.inj ho.symm
      clear ho
      have e5 := hO 5 (by kernel_rfl)
      simp only [eval_tmp, List.getElem?_toArray, List.getElem?_cons_succ, List.getElem?_cons_zero, Option.getD_some] at e5
      have ev5 := Lib.hid ((eval_tmp FA 5).trans e5)
      have ev66 : FA.eval (.tmp 66) = _ := hD 15 66 (by kernel_rfl)
      have e66 := (eval_tmp FA 66).symm.trans ev66
      replace ev66 := Lib.hid ev66
      first | have ge66 := slot_of e66 | have ge66 := slot_un e66
      clear hO hD
      first | (refine wanted_ifG ?_ ?_; (· go_simp); refine wp_ldA 77 (.tmp 5) rfl (h4C ts ln id st mo fo tl pr sm s6 sh sl d6 dh dl A n k) ev5.out (hX.later (below_plus _ _ _)) (whole_ _) u1 u2 (szH4 _ _ _ _ _ _ _ _ _ _ _ _ _ _ _ _ _ _) ?_; exact hK.out _ _ (Ex.refl _) rfl) | (go_simp; exact hK.out _ _ (Ex.refl _) rfl)
    apply Steps.one (MP.eq _) 18 rfl
    · intro o ho FA x hO hD K hK
      obtain rfl := Option.some.inj ho.symm
      clear ho
      have ev67 : FA.eval (.tmp 67) = _ := hD 16 67 (by kernel_rfl)
      have e67 := (eval_tmp FA 67).symm.trans ev67
      replace ev67 := Lib.hid ev67
      have ev66 : FA.eval (.tmp 66) = _ := hD 15 66 (by kernel_rfl)
      have e66 := (eval_tmp FA 66).symm.trans ev66
      replace ev66 := Lib.hid ev66
      first | have ge66 := slot_of e66 | have ge66 := slot_un e66
      clear hO hD
      first | (go_simp; exact hK.out _ _ (Ex.refl _) rfl) | (go_simp; refine (HB1.out _ (hr.plus_ _ _)).mono ?_; rintro e w1 ⟨A3, n3, c3, bs2, d2, rfl, rfl, ho2⟩; exact hK.out _ _ (Ex.plus_ _ _ _) ⟨_, _, _, rfl, ho2.rb⟩)
    apply Steps.one (MP.eq _) 19 rfl
    · intro o ho FA x hO hD K hK
      obtain rfl := Option.some.inj ho.symm
      clear ho
      have ev68 : FA.eval (.tmp 68) = _ := hD 17 68 (by kernel_rfl)
      have e68 := (eval_tmp FA 68).symm.trans ev68
      replace ev68 := Lib.hid ev68
      have ev66 : FA.eval (.tmp 66) = _ := hD 15 66 (by kernel_rfl)
      have e66 := (eval_tmp FA 66).symm.trans ev66
      replace ev66 := Lib.hid ev66
      first | have ge66 := slot_of e66 | have ge66 := slot_un e66
      clear hO hD
      go_simp
      exact hK.out _ _ (Ex.refl _) rfl
    apply Steps.one (MP.eq _) 20 rfl
    · intro o ho FA x hO hD K hK
      obtain rfl := Option.some.inj ho.symm
      clear ho
      have ev69 : FA.eval (.tmp 69) = _ := hD 18 69 (by kernel_rfl)
      have e69 := (eval_tmp FA 69).symm.trans ev69
      replace ev69 := Lib.hid ev69
      have ev66 : FA.eval (.tmp 66) = _ := hD 15 66 (by kernel_rfl)
      have e66 := (eval_tmp FA 66).symm.trans ev66
      replace ev66 := Lib.hid ev66
      first | have ge66 := slot_of e66 | have ge66 := slot_un e66
      clear hO hD
      go_simp
      exact hK.out _ _ (Ex.refl _) rfl
    apply Steps.one (MP.eq _) 21 rfl
    · intro o ho FA x hO hD K hK
      obtain rfl := Option.some.inj ho.symm
      clear ho
      have ev66 : FA.eval (.tmp 66) = _ := hD 15 66 (by kernel_rfl)
      have e66 := (eval_tmp FA 66).symm.trans ev66
      replace ev66 := Lib.hid ev66
      have ev70 : FA.eval (.tmp 70) = _ := hD 19 70 (by kernel_rfl)
      have e70 := (eval_tmp FA 70).symm.trans ev70
      replace ev70 := Lib.hid ev70
      have ev62 : FA.eval (.tmp 62) = _ := hD 11 62 (by kernel_rfl)
      have e62 := (eval_tmp FA 62).symm.trans ev62
      replace ev62 := Lib.hid ev62
      first | have ge62 := slot_of e62 | have ge62 := slot_un e62
      clear hO hD
      go_simp
      exact hK.out _ _ (Ex.refl _) rfl
    apply Steps.one (MP.eq _) 22 rfl
    · intro o ho FA x hO hD K hK
      obtain rfl := Option.some.inj ho.symm
      clear ho
      have ev62 : FA.eval (.tmp 62) = _ := hD 11 62 (by kernel_rfl)
      have e62 := (eval_tmp FA 62).symm.trans ev62
      replace ev62 := Lib.hid ev62
      have ev71 : FA.eval (.tmp 71) = _ := hD 20 71 (by kernel_rfl)
      have e71 := (eval_tmp FA 71).symm.trans ev71
      replace ev71 := Lib.hid ev71
      clear hO hD
      go_simp
      exact hK.out _ _ (Ex.refl _) rfl
    refine Steps.fin_ (fun vs x hp => ?_)
    have p0 : vs 0 = _ := hp 0 (by omega)
    have p1 : vs 1 = _ := hp 1 (by omega)
    have p2 : vs 2 = _ := hp 2 (by omega)
    have p3 : vs 3 = _ := hp 3 (by omega)
    have p4 := hp 4 (by omega)
    have p5 : vs 5 = _ := hp 5 (by omega)
    have p6 : vs 6 = _ := hp 6 (by omega)
    have p7 := hp 7 (by omega)
    have p8 : vs 8 = _ := hp 8 (by omega)
    have p9 : vs 9 = _ := hp 9 (by omega)
    have p10 : vs 10 = _ := hp 10 (by omega)
    have p11 : vs 11 = _ := hp 11 (by omega)
    have p12 : vs 12 = _ := hp 12 (by omega)
    have p13 : vs 13 = _ := hp 13 (by omega)
    have p14 : vs 14 = _ := hp 14 (by omega)
    have p15 : vs 15 = _ := hp 15 (by omega)
    have p16 : vs 16 = _ := hp 16 (by omega)
    have p17 : vs 17 = _ := hp 17 (by omega)
    have p18 : vs 18 = _ := hp 18 (by omega)
    have p19 : vs 19 = _ := hp 19 (by omega)
    have p20 : vs 20 = _ := hp 20 (by omega)
    have p21 : vs 21 = _ := hp 21 (by omega)
    clear hp
    simp only [List.take_succ_cons, List.take_zero, List.drop_succ_cons, List.drop_zero, putAll, Nat.zero_add, Nat.reduceAdd, Act.put, List.setIfInBounds_toArray, List.set_cons_zero, List.set_cons_succ, p0, p1, p2, p3, p5, p6, p8, p9, p10, p11, p12, p13, p14, p15, p16, p17, p18, p19, p20, p21]
    clear p0 p1 p2 p3 p5 p6 p8 p9 p10 p11 p12 p13 p14 p15 p16 p17 p18 p19 p20 p21
    generalize vs 4 = y4 at *
    generalize vs 7 = y7 at *
    clear vs
    replace hS := hS.later (below_plus _ x.bs x.d)
    replace hX := hX.later (below_plus _ x.bs x.d)
    replace hr := hr.plus_ x.bs x.d
    replace h2 := h2.plus_ x.bs x.d
    replace be := belowP be x.bs x.d
    generalize plus W4 x.bs x.d = W5 at *
    clear HB1 HB2 HR1 HR2 HFR HSZ HTO
    cases hr2 : r4 n ((20 + n + m : Nat) : Int) fo s6 sh sl d6 dh dl
    · have HP := Lib.hid (fun w => packet4_arg ts ln id st mo fo tl pr sm s6 sh sl d6 dh dl A n k A2 m c2 w hn hf k1 k2 k3 k4 (by omega) hr2)
      have HQ := Lib.hid (fun w => refPacket4_arg ts ln id st mo fo tl pr sm s6 sh sl d6 dh dl A n k A2 m c2 w hn hf k1 k2 k3 k4 (by omega) hr2)
      go_upto_region 10 with (first
        | (refine at_op (.load 77 (.tmp 5)) rfl ?_; refine wpList_ldA (t := 77) 77 (.tmp 5) rfl rfl (h4C ts ln id st mo fo tl pr sm s6 sh sl d6 dh dl A n k) rfl (by with_reducible repeat (first | exact hX | refine Bk.later ?_ (below_plus _ _ _) | refine Bk.alloc ?_ _)) (whole_ _) u1 u2 (szH4 _ _ _ _ _ _ _ _ _ _ _ _ _ _ _ _ _ _) ?_)
        | (refine at_op (.load 83 (.tmp 2)) rfl ?_; refine wpList_ldA (t := 83) 83 (.tmp 2) rfl rfl (h4C ts ln id st mo fo tl pr sm s6 sh sl d6 dh dl A n k) rfl (by with_reducible repeat (first | exact hS | refine Bk.later ?_ (below_plus _ _ _) | refine Bk.alloc ?_ _)) (whole_ _) r1 r2 (szR4 _ _ _ _ _ _ _ _ _ _ _ _ _ _ _ _ _ _) ?_)
        | (go_at_call 42; (with_reducible refine (HP.out _).mono ?_); rintro e w1 ⟨A6, n6, c6, bs6, d6x, rfl, rfl, hb6⟩)
        | (go_at_call 54; (with_reducible refine (HQ.out _).mono ?_); rintro e w1 ⟨A7, n7, c7, bs7, d7, rfl, rfl, hb7⟩))
      have e61 := run_str bt Try.underlying9 (hb6.plus_ bs7 d7)
      have e63 := run_str bt Try.underlying9 hb7
      go_wp2_with (go_at_call 43; refine (HAW.out _).mono ?_; rintro e w1 ⟨bs8, d8, rfl, rfl⟩)
      go_ret
      exact ⟨rfl, belowP (belowP (belowP be _ _) _ _) _ _⟩
    · obtain ⟨q1, q2, q3, q4, q5, q6, rfl, rfl, q7, rfl, rfl, q8⟩ := r4_true hr2
      obtain ⟨fo, rfl⟩ := Int.eq_ofNat_of_zero_le q5
      have hol : o.length = n := hr.1
      have hll : load.length = m := h2.1
      have HP0 := fun w (hr : Rb w A n k o) (h2 : Rb w A2 m c2 load) => packet4_ok ts ln id st mo fo tl pr sm sl dl A n k o A2 m c2 load w hr h2 b1 b2 b3 b4 q7 q8 q1 q2 (by omega) (by omega)
      have HQ0 := fun w (hr : Rb w A n k o) (h2 : Rb w A2 m c2 load) => refPacket4_ok ts ln id st mo fo tl pr sm sl dl A n k o A2 m c2 load w hr h2 b1 b2 b3 b4 q7 q8 q1 q2 (by omega) (by omega)
      have HZ0 := fun A n' c w h => parse4_w ts (20 + n + m) id st mo fo tl pr sl dl A n' c o load w h b1 b2 b3 b4 q7 q8 (by omega) (by omega) (by omega) (by omega) (by omega)
      generalize ip4B ts (20 + n + m) id (pl4 st mo fo) tl pr (ip4K ts (20 + n + m) id (pl4 st mo fo) tl pr sl dl o) sl dl o ++ load = Px at *
      generalize ip4K ts (20 + n + m) id (pl4 st mo fo) tl pr sl dl o = ks at *
      clear hr2 q3 q4
      generalize 20 + n + m = ls at *
      have HP := Lib.hid HP0
      have HQ := Lib.hid HQ0
      have HZ := Lib.hid HZ0
      clear HP0 HQ0 HZ0
      have HOFX := Lib.hid (fun w => of4 ts 0 id st mo (fo : Int) tl pr 0 false 0 sl false 0 dl A n k w)
      go_upto_region 10 with (first
        | (refine at_op (.load 77 (.tmp 5)) rfl ?_; refine wpList_ldA (t := 77) 77 (.tmp 5) rfl rfl (h4C ts ln id st mo (fo : Int) tl pr sm false 0 sl false 0 dl A n k) rfl (by with_reducible repeat (first | exact hX | refine Bk.later ?_ (below_plus _ _ _) | refine Bk.alloc ?_ _)) (whole_ _) u1 u2 (szH4 _ _ _ _ _ _ _ _ _ _ _ _ _ _ _ _ _ _) ?_)
        | (refine at_op (.load 83 (.tmp 2)) rfl ?_; refine wpList_ldA (t := 83) 83 (.tmp 2) rfl rfl (h4C ts ln id st mo (fo : Int) tl pr sm false 0 sl false 0 dl A n k) rfl (by with_reducible repeat (first | exact hS | refine Bk.later ?_ (below_plus _ _ _) | refine Bk.alloc ?_ _)) (whole_ _) r1 r2 (szR4 _ _ _ _ _ _ _ _ _ _ _ _ _ _ _ _ _ _) ?_)
        | (go_at_call 42; (with_reducible refine (HP.out _ hr h2).mono ?_); rintro e w1 ⟨A6, n6, c6, bs6, d6x, rfl, rfl, hb6⟩)
        | (go_at_call 54; (with_reducible refine (HQ.out _ (hr.plus_ _ _) (h2.plus_ _ _)).mono ?_); rintro e w1 ⟨A7, n7, c7, bs7, d7, rfl, rfl, hb7⟩))
      replace hb6 := hb6.plus_ bs7 d7
      have e61 := run_str bt Try.underlying9 hb6
      have e63 := run_str bt Try.underlying9 hb7
      replace hX := (hX.later (below_plus _ bs6 d6x)).later (below_plus _ bs7 d7)
      replace hr := (hr.plus_ bs6 d6x).plus_ bs7 d7
      replace h2 := (h2.plus_ bs6 d6x).plus_ bs7 d7
      replace be := belowP (belowP be bs6 d6x) bs7 d7
      generalize plus (plus W5 bs6 d6x) bs7 d7 = W6 at *
      clear hb7 hS
      have zX := hX.lt
      go_upto_region 15 with (first
        | (go_at_call 44; (with_reducible refine (HZ.out _ _ _ _ hb6).mono ?_); rintro e w1 ⟨A4, n4, k4, A5, n5, k5, bs8, d8, rfl, rfl, ho4, hl4⟩)
        | (refine at_op (.store 77 (.tmp 10) (.tmp 101)) rfl ?_; refine wpList_stA (t := 77) 77 (.tmp 10) (.tmp 101) rfl rfl (h4C ts (ls : Int) id st mo (fo : Int) tl pr ks false 0 sl false 0 dl A4 n4 k4) (h4C 0 0 0 false false 0 0 0 0 false 0 0 false 0 0 none 0 0) rfl (h4C_one _ _ _ _ _ _ _ _ _ _ _ _ _ _ _ _ _ _) rfl rfl ?_ (szH4 _ _ _ _ _ _ _ _ _ _ _ _ _ _ _ _ _ _) ?_; (· refine Bk.newK _ _ _ ?_ rfl; simp [size_plus]); intro W7 hY gr7))
      clear e61 e63 hb6
      have b7 := below_grown (Below.allocS (below_plus W6 bs8 d8) _) gr7 (by omega)
      replace be := be.trans (b7.mono be.size)
      replace hX := hX.later b7
      replace hr := hr.later b7
      replace h2 := h2.later b7
      replace ho4 := ho4.later (below_grown (Below.allocS (Below.refl _ _) _) gr7 (by simp [size_plus]))
      replace hl4 := hl4.later (below_grown (Below.allocS (Below.refl _ _) _) gr7 (by simp [size_plus]))
      have hne : g5 < W6.heap.size + bs8.length := by omega
      clear gr7 b7 zX
      generalize W6.heap.size + bs8.length = g10 at *
      have zg := be.size
      have z10 := hY.lt
      go_upto_region 16 with (first
        | (refine at_op (.store 22 (.tmp 104) (.const (.int .u16 0))) rfl ?_; refine wpList_st1R 22 (.tmp 104) (.const (.int .u16 0)) rfl rfl rfl rfl hY rfl (by intro x h; cases h) rfl (by kernel_rfl) ?_; intro W8 hY8 gr8 fr8; have hX8 := hX.grown gr8 (by simp; omega))
        | (refine at_op (.store 3 (.tmp 105) (.const (.int .i64 0))) rfl ?_; refine wpList_st1R 3 (.tmp 105) (.const (.int .i64 0)) rfl rfl rfl rfl hY8 rfl (by intro x h; cases h) rfl (by kernel_rfl) ?_; intro W9 hY9 gr9 fr9; have hX9 := hX8.grown gr9 (by simp; omega))
        | (refine at_op (.store 3 (.tmp 106) (.const (.int .i64 0))) rfl ?_; refine wpList_st1R 3 (.tmp 106) (.const (.int .i64 0)) rfl rfl rfl rfl hX9 rfl (by intro x h; cases h) rfl (by kernel_rfl) ?_; intro W10 hX10 gr10 fr10; have hY10 := hY9.grown gr10 (by simp; omega))
        | (refine at_op (.store 22 (.tmp 107) (.const (.int .u16 0))) rfl ?_; refine wpList_st1R 22 (.tmp 107) (.const (.int .u16 0)) rfl rfl rfl rfl hX10 rfl (by intro x h; cases h) rfl (by kernel_rfl) ?_; intro W11 hX11 gr11 fr11; have hY11 := hY10.grown gr11 (by simp; omega)))
      replace hY : Bk W11 g10 77 (h4C ts 0 id st mo (fo : Int) tl pr 0 false 0 sl false 0 dl A4 n4 k4) := hY11
      replace hX : Bk W11 g5 77 (h4C ts 0 id st mo (fo : Int) tl pr 0 false 0 sl false 0 dl A n k) := hX11
      replace hr := fr11 _ _ _ _ (fr10 _ _ _ _ (fr9 _ _ _ _ (fr8 _ _ _ _ hr)))
      replace h2 := fr11 _ _ _ _ (fr10 _ _ _ _ (fr9 _ _ _ _ (fr8 _ _ _ _ h2)))
      replace ho4 := fr11 _ _ _ _ (fr10 _ _ _ _ (fr9 _ _ _ _ (fr8 _ _ _ _ ho4)))
      replace hl4 := fr11 _ _ _ _ (fr10 _ _ _ _ (fr9 _ _ _ _ (fr8 _ _ _ _ hl4)))
      replace be := below_grown (below_grown (below_grown (below_grown be gr8 (by omega)) gr9 (by omega)) gr10 (by omega)) gr11 (by omega)
      clear hX8 hX9 hX10 hX11 hY8 hY9 hY10 hY11 gr8 gr9 gr10 gr11 fr8 fr9 fr10 fr11
      have HOFY := Lib.hid (fun w => of4 ts 0 id st mo (fo : Int) tl pr 0 false 0 sl false 0 dl A4 n4 k4 w)
      have HSM := Lib.hid (fun w (h : Rb w A4 n4 k4 o) (h' : Rb w A n k o) => same4 ts 0 id st mo (fo : Int) tl pr 0 false 0 sl false 0 dl A4 n4 k4 A n k o w h h')
      go_wp2
      refine wp_relS 20 127 rfl (by kernel_rfl) (by kernel_rfl) ?_
      apply Steps.one (MP.eq _) 1 rfl
      · intro o ho FA x hO hD K hK
        obtain rfl := Option.some.inj ho.symm
        clear ho
        have e12 := hO 12 (by kernel_rfl)
        simp only [eval_tmp, List.getElem?_toArray, List.getElem?_cons_succ, List.getElem?_cons_zero, Option.getD_some] at e12
        have ev12 := Lib.hid ((eval_tmp FA 12).trans e12)
        clear hO hD
        go_simp
        exact hK.out _ _ (Ex.refl _) rfl
      apply Steps.one (MP.eq _) 2 rfl
      · intro o ho FA x hO hD K hK
        obtain rfl := Option.some.inj ho.symm
        clear ho
        have ev108 : FA.eval (.tmp 108) = _ := hD 0 108 (by kernel_rfl)
        have e108 := (eval_tmp FA 108).symm.trans ev108
        replace ev108 := Lib.hid ev108
        clear hO hD
        go_simp
        exact hK.out _ _ (Ex.refl _) rfl
      apply Steps.one (MP.eq _) 3 rfl
      · intro o ho FA x hO hD K hK
        obtain rfl := Option.some.inj ho.symm
        clear ho
        have ev109 : FA.eval (.tmp 109) = _ := hD 1 109 (by kernel_rfl)
        have e109 := (eval_tmp FA 109).symm.trans ev109
        replace ev109 := Lib.hid ev109
        clear hO hD
        go_simp
        exact hK.out _ _ (Ex.refl _) rfl
      apply Steps.one (MP.eq _) 4 rfl
      · intro o ho FA x hO hD K hK
        obtain rfl := Option.some.inj ho.symm
        clear ho
        have e10 := hO 10 (by kernel_rfl)
        simp only [eval_tmp, List.getElem?_toArray, List.getElem?_cons_succ, List.getElem?_cons_zero, Option.getD_some] at e10
        have ev10 := Lib.hid ((eval_tmp FA 10).trans e10)
        have ev110 : FA.eval (.tmp 110) = _ := hD 2 110 (by kernel_rfl)
        have e110 := (eval_tmp FA 110).symm.trans ev110
        replace ev110 := Lib.hid ev110
        first | have ge110 := slot_of e110 | have ge110 := slot_un e110
        clear hO hD
        first | (refine wanted_ifG ?_ ?_; (· go_simp); refine wp_ldA 77 (.tmp 10) rfl (h4C ts 0 id st mo (fo : Int) tl pr 0 false 0 sl false 0 dl A4 n4 k4) ev10.out (hY.later (below_plus _ _ _)) (whole_ _) u1 u2 (szH4 _ _ _ _ _ _ _ _ _ _ _ _ _ _ _ _ _ _) ?_; exact hK.out _ _ (Ex.refl _) rfl) | (go_simp; exact hK.out _ _ (Ex.refl _) rfl)
      apply Steps.one (MP.eq _) 5 rfl
      · intro o ho FA x hO hD K hK
        obtain rfl := Option.some.inj ho.symm
        clear ho
        have ev111 : FA.eval (.tmp 111) = _ := hD 3 111 (by kernel_rfl)
        have e111 := (eval_tmp FA 111).symm.trans ev111
        replace ev111 := Lib.hid ev111
        have ev110 : FA.eval (.tmp 110) = _ := hD 2 110 (by kernel_rfl)
        have e110 := (eval_tmp FA 110).symm.trans ev110
        replace ev110 := Lib.hid ev110
        first | have ge110 := slot_of e110 | have ge110 := slot_un e110
        clear hO hD
        first | (go_simp; exact hK.out _ _ (Ex.refl _) rfl) | (go_simp; refine (HOFY.out _).mono ?_; rintro e w1 ⟨bs2, d2, rfl, rfl⟩; exact hK.out _ _ (Ex.plus_ _ _ _) rfl)
      apply Steps.one (MP.eq _) 6 rfl
      · intro o ho FA x hO hD K hK
        obtain rfl := Option.some.inj ho.symm
        clear ho
        have e5 := hO 5 (by kernel_rfl)
        simp only [eval_tmp, List.getElem?_toArray, List.getElem?_cons_succ, List.getElem?_cons_zero, Option.getD_some] at e5
        have ev5 := Lib.hid ((eval_tmp FA 5).trans e5)
        have ev110 : FA.eval (.tmp 110) = _ := hD 2 110 (by kernel_rfl)
        have e110 := (eval_tmp FA 110).symm.trans ev110
        replace ev110 := Lib.hid ev110
        first | have ge110 := slot_of e110 | have ge110 := slot_un e110
        clear hO hD
        first | (refine wanted_ifG ?_ ?_; (· go_simp); refine wp_ldA 77 (.tmp 5) rfl (h4C ts 0 id st mo (fo : Int) tl pr 0 false 0 sl false 0 dl A n k) ev5.out (hX.later (below_plus _ _ _)) (whole_ _) u1 u2 (szH4 _ _ _ _ _ _ _ _ _ _ _ _ _ _ _ _ _ _) ?_; exact hK.out _ _ (Ex.refl _) rfl) | (go_simp; exact hK.out _ _ (Ex.refl _) rfl)
      apply Steps.one (MP.eq _) 7 rfl
      · intro o ho FA x hO hD K hK
        obtain rfl := Option.some.inj ho.symm
        clear ho
        have ev113 : FA.eval (.tmp 113) = _ := hD 5 113 (by kernel_rfl)
        have e113 := (eval_tmp FA 113).symm.trans ev113
        replace ev113 := Lib.hid ev113
        have ev110 : FA.eval (.tmp 110) = _ := hD 2 110 (by kernel_rfl)
        have e110 := (eval_tmp FA 110).symm.trans ev110
        replace ev110 := Lib.hid ev110
        first | have ge110 := slot_of e110 | have ge110 := slot_un e110
        clear hO hD
        first | (go_simp; exact hK.out _ _ (Ex.refl _) rfl) | (go_simp; refine (HOFX.out _).mono ?_; rintro e w1 ⟨bs2, d2, rfl, rfl⟩; exact hK.out _ _ (Ex.plus_ _ _ _) rfl)
      apply Steps.one (MP.eq _) 8 rfl
      · intro o ho FA x hO hD K hK
        obtain rfl := Option.some.inj ho.symm
        clear ho
        have ev112 : FA.eval (.tmp 112) = _ := hD 4 112 (by kernel_rfl)
        have e112 := (eval_tmp FA 112).symm.trans ev112
        replace ev112 := Lib.hid ev112
        have ev114 : FA.eval (.tmp 114) = _ := hD 6 114 (by kernel_rfl)
        have e114 := (eval_tmp FA 114).symm.trans ev114
        replace ev114 := Lib.hid ev114
        have ev110 : FA.eval (.tmp 110) = _ := hD 2 110 (by kernel_rfl)
        have e110 := (eval_tmp FA 110).symm.trans ev110
        replace ev110 := Lib.hid ev110
        first | have ge110 := slot_of e110 | have ge110 := slot_un e110
        clear hO hD
        first | (go_simp; exact hK.out _ _ (Ex.refl _) rfl) | (go_simp; refine (HSM.out _ (ho4.plus_ _ _) (hr.plus_ _ _)).mono ?_; rintro e w1 ⟨bs2, d2, rfl, rfl⟩; exact hK.out _ _ (Ex.plus_ _ _ _) rfl)
      apply Steps.one (MP.eq _) 9 rfl
      · intro o ho FA x hO hD K hK
        obtain rfl := Option.some.inj ho.symm
        clear ho
        have ev110 : FA.eval (.tmp 110) = _ := hD 2 110 (by kernel_rfl)
        have e110 := (eval_tmp FA 110).symm.trans ev110
        replace ev110 := Lib.hid ev110
        have ev115 : FA.eval (.tmp 115) = _ := hD 7 115 (by kernel_rfl)
        have e115 := (eval_tmp FA 115).symm.trans ev115
        replace ev115 := Lib.hid ev115
        clear hO hD
        go_simp
        exact hK.out _ _ (Ex.refl _) rfl
      apply Steps.one (MP.eq _) 10 rfl
      · intro o ho FA x hO hD K hK
        obtain rfl := Option.some.inj ho.symm
        clear ho
        have ev116 : FA.eval (.tmp 116) = _ := hD 8 116 (by kernel_rfl)
        have e116 := (eval_tmp FA 116).symm.trans ev116
        replace ev116 := Lib.hid ev116
        clear hO hD
        go_simp
        exact hK.out _ _ (Ex.refl _) rfl
      apply Steps.one (MP.eq _) 11 rfl
      · intro o ho FA x hO hD K hK
        obtain rfl := Option.some.inj ho.symm
        clear ho
        have e11 := hO 11 (by kernel_rfl)
        simp only [eval_tmp, List.getElem?_toArray, List.getElem?_cons_succ, List.getElem?_cons_zero, Option.getD_some] at e11
        have ev11 := Lib.hid ((eval_tmp FA 11).trans e11)
        have ev117 : FA.eval (.tmp 117) = _ := hD 9 117 (by kernel_rfl)
        have e117 := (eval_tmp FA 117).symm.trans ev117
        replace ev117 := Lib.hid ev117
        first | have ge117 := slot_of e117 | have ge117 := slot_un e117
        clear hO hD
        go_simp
        exact hK.out _ _ (Ex.refl _) rfl
      apply Steps.one (MP.eq _) 12 rfl
      · intro o ho FA x hO hD K hK
        obtain rfl := Option.some.inj ho.symm
        clear ho
        have ev118 : FA.eval (.tmp 118) = _ := hD 10 118 (by kernel_rfl)
        have e118 := (eval_tmp FA 118).symm.trans ev118
        replace ev118 := Lib.hid ev118
        have ev117 : FA.eval (.tmp 117) = _ := hD 9 117 (by kernel_rfl)
        have e117 := (eval_tmp FA 117).symm.trans ev117
        replace ev117 := Lib.hid ev117
        first | have ge117 := slot_of e117 | have ge117 := slot_un e117
        clear hO hD
        have es := run_str bt Try.underlying9 (hl4.plus_ x.bs x.d)
        go_simp
        exact hK.out _ _ (Ex.refl _) rfl
      apply Steps.one (MP.eq _) 13 rfl
      · intro o ho FA x hO hD K hK
        obtain rfl := Option.some.inj ho.symm
        clear ho
        have e1 := hO 1 (by kernel_rfl)
        simp only [eval_tmp, List.getElem?_toArray, List.getElem?_cons_succ, List.getElem?_cons_zero, Option.getD_some] at e1
        have ev1 := Lib.hid ((eval_tmp FA 1).trans e1)
        have ev117 : FA.eval (.tmp 117) = _ := hD 9 117 (by kernel_rfl)
        have e117 := (eval_tmp FA 117).symm.trans ev117
        replace ev117 := Lib.hid ev117
        first | have ge117 := slot_of e117 | have ge117 := slot_un e117
        clear hO hD
        go_simp
        exact hK.out _ _ (Ex.refl _) rfl
      apply Steps.one (MP.eq _) 14 rfl
      · intro o ho FA x hO hD K hK
        obtain rfl := Option.some.inj ho.symm
        clear ho
        have ev120 : FA.eval (.tmp 120) = _ := hD 12 120 (by kernel_rfl)
        have e120 := (eval_tmp FA 120).symm.trans ev120
        replace ev120 := Lib.hid ev120
        have ev117 : FA.eval (.tmp 117) = _ := hD 9 117 (by kernel_rfl)
        have e117 := (eval_tmp FA 117).symm.trans ev117
        replace ev117 := Lib.hid ev117
        first | have ge117 := slot_of e117 | have ge117 := slot_un e117
        clear hO hD
        have es := run_str bt Try.underlying9 (h2.plus_ x.bs x.d)
        go_simp
        exact hK.out _ _ (Ex.refl _) rfl
      apply Steps.one (MP.eq _) 15 rfl
      · intro o ho FA x hO hD K hK
        obtain rfl := Option.some.inj ho.symm
        clear ho
        have ev119 : FA.eval (.tmp 119) = _ := hD 11 119 (by kernel_rfl)
        have e119 := (eval_tmp FA 119).symm.trans ev119
        replace ev119 := Lib.hid ev119
        have ev121 : FA.eval (.tmp 121) = _ := hD 13 121 (by kernel_rfl)
        have e121 := (eval_tmp FA 121).symm.trans ev121
        replace ev121 := Lib.hid ev121
        have ev117 : FA.eval (.tmp 117) = _ := hD 9 117 (by kernel_rfl)
        have e117 := (eval_tmp FA 117).symm.trans ev117
        replace ev117 := Lib.hid ev117
        first | have ge117 := slot_of e117 | have ge117 := slot_un e117
        clear hO hD
        go_simp
        exact hK.out _ _ (Ex.refl _) rfl
      apply Steps.one (MP.eq _) 16 rfl
      · intro o ho FA x hO hD K hK
        obtain rfl := Option.some.inj ho.symm
        clear ho
        have ev117 : FA.eval (.tmp 117) = _ := hD 9 117 (by kernel_rfl)
        have e117 := (eval_tmp FA 117).symm.trans ev117
        replace ev117 := Lib.hid ev117
        have ev122 : FA.eval (.tmp 122) = _ := hD 14 122 (by kernel_rfl)
        have e122 := (eval_tmp FA 122).symm.trans ev122
        replace ev122 := Lib.hid ev122
        clear hO hD
        go_simp
        exact hK.out _ _ (Ex.refl _) rfl
      apply Steps.one (MP.eq _) 17 rfl
      · intro o ho FA x hO hD K hK
        obtain rfl := Option.some.inj ho.symm
        clear ho
        have ev123 : FA.eval (.tmp 123) = _ := hD 15 123 (by kernel_rfl)
        have e123 := (eval_tmp FA 123).symm.trans ev123
        replace ev123 := Lib.hid ev123
        clear hO hD
        go_simp
        exact hK.out _ _ (Ex.refl _) rfl
      apply Steps.one (MP.eq _) 18 rfl
      · intro o ho FA x hO hD K hK
        obtain rfl := Option.some.inj ho.symm
        clear ho
        have ev124 : FA.eval (.tmp 124) = _ := hD 16 124 (by kernel_rfl)
        have e124 := (eval_tmp FA 124).symm.trans ev124
        replace ev124 := Lib.hid ev124
        first | have ge124 := slot_of e124 | have ge124 := slot_un e124
        clear hO hD
        first | (go_simp; exact hK.out _ _ (Ex.refl _) rfl) | (go_simp; refine (HAW.out _).mono ?_; rintro e w1 ⟨bs2, d2, rfl, rfl⟩; exact hK.out _ _ (Ex.plus_ _ _ _) rfl)
      apply Steps.one (MP.eq _) 19 rfl
      · intro o ho FA x hO hD K hK
        obtain rfl := Option.some.inj ho.symm
        clear ho
        have ev124 : FA.eval (.tmp 124) = _ := hD 16 124 (by kernel_rfl)
        have e124 := (eval_tmp FA 124).symm.trans ev124
        replace ev124 := Lib.hid ev124
        have ev125 : FA.eval (.tmp 125) = _ := hD 17 125 (by kernel_rfl)
        have e125 := (eval_tmp FA 125).symm.trans ev125
        replace ev125 := Lib.hid ev125
        clear hO hD
        go_simp
        exact hK.out _ _ (Ex.refl _) rfl
      apply Steps.one (MP.eq _) 20 rfl
      · intro o ho FA x hO hD K hK
        obtain rfl := Option.some.inj ho.symm
        clear ho
        have ev126 : FA.eval (.tmp 126) = _ := hD 18 126 (by kernel_rfl)
        have e126 := (eval_tmp FA 126).symm.trans ev126
        replace ev126 := Lib.hid ev126
        clear hO hD
        go_simp
        exact hK.out _ _ (Ex.refl _) rfl
      refine Steps.fin_ (fun vs x hp => ?_)
      have p0 : vs 0 = _ := hp 0 (by omega)
      have p1 : vs 1 = _ := hp 1 (by omega)
      have p2 : vs 2 = _ := hp 2 (by omega)
      have p3 : vs 3 = _ := hp 3 (by omega)
      have p4 : vs 4 = _ := hp 4 (by omega)
      have p5 : vs 5 = _ := hp 5 (by omega)
      have p6 : vs 6 = _ := hp 6 (by omega)
      have p7 : vs 7 = _ := hp 7 (by omega)
      have p8 : vs 8 = _ := hp 8 (by omega)
      have p9 : vs 9 = _ := hp 9 (by omega)
      have p10 : vs 10 = _ := hp 10 (by omega)
      have p11 : vs 11 = _ := hp 11 (by omega)
      have p12 : vs 12 = _ := hp 12 (by omega)
      have p13 : vs 13 = _ := hp 13 (by omega)
      have p14 : vs 14 = _ := hp 14 (by omega)
      have p15 : vs 15 = _ := hp 15 (by omega)
      have p16 : vs 16 = _ := hp 16 (by omega)
      have p17 : vs 17 = _ := hp 17 (by omega)
      have p18 : vs 18 = _ := hp 18 (by omega)
      have p19 : vs 19 = _ := hp 19 (by omega)
      clear hp
      simp only [List.take_succ_cons, List.take_zero, List.drop_succ_cons, List.drop_zero, putAll, Nat.zero_add, Nat.reduceAdd, Act.put, List.setIfInBounds_toArray, List.set_cons_zero, List.set_cons_succ, p0, p1, p2, p3, p4, p5, p6, p7, p8, p9, p10, p11, p12, p13, p14, p15, p16, p17, p18, p19]
      clear p0 p1 p2 p3 p4 p5 p6 p7 p8 p9 p10 p11 p12 p13 p14 p15 p16 p17 p18 p19
      clear vs
      go_wp2
      go_ret
      exact ⟨rfl, belowP be _ _⟩
end Go.Proofs.Ytldecdeiibfekaa
