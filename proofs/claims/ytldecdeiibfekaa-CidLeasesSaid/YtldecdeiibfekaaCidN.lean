/- The law CidMakes (chapter 13). -/
import Derived.Test.YtldecdeiibfekaaCidM
import Derived.Test.YtldecdeiibfekaaLea
namespace Go.Proofs.Ytldecdeiibfekaa
open Go.RowKit
set_option linter.unusedVariables false
set_option linter.unusedSimpArgs false
attribute [local go_sem ↓] sliced_cut
attribute [local go_sem] cutA_zero

set_option maxHeartbeats 4000000 in
set_option maxRecDepth 100000 in
theorem cidMakes_bad (w : World) (key : List UInt8) (hk : K16 key) (n : Nat) (v s : Int) (u : Nat) (hu : (plB v s && decide (u < 1099511627776)) = false) :
    Calls Try.prog 4 #[.agg (ringC key n).toArray, .agg (plI v s).toArray, .int .u64 (u : Int)] w fun e w' => e = .returned (.bool true) ∧ Below w.heap.size w w' := by
  have q := ringC_16 key hk n
  obtain ⟨da, a1, a2, a3⟩ := row16
  obtain ⟨dr, r1, r2, r3⟩ : ∃ d, Try.prog.underlying 51 = some d ∧ d.isRow = true ∧ (Try.prog.info? 51).map (·.size) = some 17 := ⟨_, Try.underlying51, rfl, by kernel_rfl⟩
  have r4 : (Try.prog.info? 51).map (·.size) = some (ringC key n).length := by rw [ringC_length key hk n]; exact r3
  obtain ⟨dq, vr1, vr2, vr3⟩ := rowRing
  obtain ⟨dp, y1, y2⟩ := rowPl
  have hR : Bk ((w.alloc (.cells (ringC key n).toArray 51)).alloc (.cells (plI v s).toArray 53)) w.heap.size 51 (ringC key n) := (Bk.new w 51 (ringC key n).toArray).alloc _
  have hP : Bk ((w.alloc (.cells (ringC key n).toArray 51)).alloc (.cells (plI v s).toArray 53)) (w.heap.size + 1) 53 (plI v s) := Bk.newK _ _ _ (by simp) rfl
  have be : Below w.heap.size w ((w.alloc (.cells (ringC key n).toArray 51)).alloc (.cells (plI v s).toArray 53)) := Below.allocS (Below.allocS (Below.refl _ _) _) _
  have HMK := Lib.hid (fun w => cidMake_no key hk n v s u w hu)
  have HRT := Lib.hid (fun w => refCidRight v s u w)
  rw [hu] at HRT
  have HAW := Lib.hid cidAwake
  clear hu
  go_enter Try.func4, Try.ntmps4
  go_upto_region 1 with (fail)
  generalize (w.alloc (.cells (ringC key n).toArray 51)).alloc (.cells (plI v s).toArray 53) = W at *
  have q2 : W.cell? ⟨w.heap.size, 16, none⟩ = some (.int .u64 (n : Int)) := by rw [hR.cell]; exact q
  go_upto_region 2 with (first
    | (refine at_op (.load 49 (.tmp 16)) rfl ?_; refine wpList_ldA (t := 51) 49 (.tmp 16) rfl rfl (bcs key) rfl (hR) (ringC_key key n) a1 a2 (szArr key hk) ?_)
    | (go_at_call 30; refine (ringNew_any key hk n _).mono ?_; rintro e w1 ⟨bs1, d1, rfl, rfl⟩)
    | (refine at_op (.store 56 (.tmp 7) (.tmp 20)) rfl ?_; refine wpList_stA (t := 56) 56 (.tmp 7) (.tmp 20) rfl rfl (ringC key n) ring0 (by rw [ringC_length key hk]; rfl) (ringC_one key n) rfl rfl ?_ (szRing key hk n) ?_; (· refine Bk.newK _ _ _ ?_ rfl; simp [size_plus]); intro W2 hX hgr))
  have bx := below_grown (Below.allocS (below_plus W bs1 d1) (.cells (ring0).toArray 56)) hgr (by omega)
  have zb := be.size
  have zP := hP.lt
  replace hR := hR.later bx
  replace hP := hP.later bx
  replace be := be.trans (bx.mono zb)
  have hgx : w.heap.size + 1 < W.heap.size + bs1.length := by omega
  generalize W.heap.size + bs1.length = gx at *
  clear hgr bx zb zP q2 W
  have q0 : W2.cell? ⟨w.heap.size + 1, 0, none⟩ = some (.int .i64 v) := hP.cell 0
  have q1 : W2.cell? ⟨w.heap.size + 1, 1, none⟩ = some (.int .i64 s) := hP.cell 1
  have z1 := hP.lt
  go_wp2_with (first
    | (refine at_op (.load 56 (.tmp 7)) rfl ?_; refine wpList_ldA (t := 56) 56 (.tmp 7) rfl rfl (ringC key n) rfl (by with_reducible repeat (first | exact hX | refine Bk.later ?_ (below_plus _ _ _) | refine Bk.alloc ?_ _)) (ringC_whole key n) vr1 vr2 (szRing key hk n) ?_)
    | (refine at_op (.load 53 (.tmp 4)) rfl ?_; refine wpList_ldG (t := 53) 53 (.tmp 4) rfl rfl (plI v s) rfl (by with_reducible repeat (first | exact hP | refine Bk.later ?_ (below_plus _ _ _) | refine Bk.alloc ?_ _)) (whole_ _) y1 y2 (szPlI _ _) ?_)
    | (go_at_call 31; refine (HMK.out _).mono ?_; rintro e w1 ⟨bs2, d2, rfl, rfl⟩)
    | (go_at_call 32; refine (HRT.out _).mono ?_; rintro e w1 ⟨bs3, d3, rfl, rfl⟩)
    | (go_at_call 33; refine (HAW.out _).mono ?_; rintro e w1 ⟨bs4, d4, rfl, rfl⟩))
  go_ret
  exact ⟨rfl, belowP (belowP (belowP be _ _) _ _) _ _⟩
theorem eq_plC (w : World) (v s : Nat) : (binOp .eql 53 (.agg (plC v s).toArray) (.agg (plC v s).toArray)).run Try.prog w = .ok (.bool true) w := by
  unfold plC
  go_simp
attribute [local go_sem ↓] eq_plC
set_option maxHeartbeats 4000000 in
set_option maxRecDepth 100000 in
theorem cidMakes_good (w : World) (key : List UInt8) (hk : K16 key) (n nx : Nat) (hn : n < 18446744073709551616) (v s u : Nat) (hv : v < 8) (hs : s < 4096) (hu : u < 1099511627776) (v2 s2 u2 : Nat) (E2 : Int)
    (HNX : ∀ w, Calls Try.prog 36 #[.agg (ringC key n).toArray] w (RetV w (.agg (ringC key nx).toArray)))
    (HR1 : ∀ w A c, Rb w A 12 c (cidB key n v s u) → Calls Try.prog 35 #[.agg (ringC key n).toArray, .slice A 12 c] w (RetV w (.tuple #[.agg (plC v s).toArray, .int .u64 (u : Int), .int .i64 0])))
    (HR2 : ∀ w A c, Rb w A 12 c (cidB key n v s u) → Calls Try.prog 35 #[.agg (ringC key nx).toArray, .slice A 12 c] w (RetV w (.tuple #[.agg (plC v2 s2).toArray, .int .u64 (u2 : Int), .int .i64 E2])))
    (hx : n = 18446744073709551615 ∨ n ≠ 18446744073709551615 ∧ v = v2 ∧ s = s2 ∧ u = u2 ∧ 0 = E2) :
    Calls Try.prog 4 #[.agg (ringC key n).toArray, .agg (plC v s).toArray, .int .u64 (u : Int)] w fun e w' => e = .returned (.bool true) ∧ Below w.heap.size w w' := by
  have q := ringC_16 key hk n
  obtain ⟨da, a1, a2, a3⟩ := row16
  obtain ⟨dr, r1, r2, r3⟩ : ∃ d, Try.prog.underlying 51 = some d ∧ d.isRow = true ∧ (Try.prog.info? 51).map (·.size) = some 17 := ⟨_, Try.underlying51, rfl, by kernel_rfl⟩
  have r4 : (Try.prog.info? 51).map (·.size) = some (ringC key n).length := by rw [ringC_length key hk n]; exact r3
  obtain ⟨dq, vr1, vr2, vr3⟩ := rowRing
  obtain ⟨dp, y1, y2⟩ := rowPl
  have hR : Bk ((w.alloc (.cells (ringC key n).toArray 51)).alloc (.cells (plC v s).toArray 53)) w.heap.size 51 (ringC key n) := (Bk.new w 51 (ringC key n).toArray).alloc _
  have hP : Bk ((w.alloc (.cells (ringC key n).toArray 51)).alloc (.cells (plC v s).toArray 53)) (w.heap.size + 1) 53 (plC v s) := Bk.newK _ _ _ (by simp) rfl
  have be : Below w.heap.size w ((w.alloc (.cells (ringC key n).toArray 51)).alloc (.cells (plC v s).toArray 53)) := Below.allocS (Below.allocS (Below.refl _ _) _) _
  have HMK := Lib.hid (fun w => cidMake_yes key hk n v s u w hn hv hs hu)
  have HRM := Lib.hid (fun w => refMake key hk n v s u w hn hv hs hu)
  have HRT := Lib.hid (fun w => refCidRight v s u w)
  have hB := cidB_length key n v s u
  rw [show (plB (v : Int) (s : Int) && decide (u < 1099511627776)) = true from by simp [plB]; omega] at HRT
  have HAW := Lib.hid cidAwake
  replace HNX := Lib.hid HNX
  replace HR1 := Lib.hid HR1
  replace HR2 := Lib.hid HR2
  have HX := Lib.hid hx
  clear hx
  generalize cidB key n v s u = Bx at *
  have HBL := Lib.hid hB
  clear hB
  go_enter Try.func4, Try.ntmps4
  go_upto_region 1 with (fail)
  generalize (w.alloc (.cells (ringC key n).toArray 51)).alloc (.cells (plC v s).toArray 53) = W at *
  have q2 : W.cell? ⟨w.heap.size, 16, none⟩ = some (.int .u64 (n : Int)) := by rw [hR.cell]; exact q
  go_upto_region 2 with (first
    | (refine at_op (.load 49 (.tmp 16)) rfl ?_; refine wpList_ldA (t := 51) 49 (.tmp 16) rfl rfl (bcs key) rfl (hR) (ringC_key key n) a1 a2 (szArr key hk) ?_)
    | (go_at_call 30; refine (ringNew_any key hk n _).mono ?_; rintro e w1 ⟨bs1, d1, rfl, rfl⟩)
    | (refine at_op (.store 56 (.tmp 7) (.tmp 20)) rfl ?_; refine wpList_stA (t := 56) 56 (.tmp 7) (.tmp 20) rfl rfl (ringC key n) ring0 (by rw [ringC_length key hk]; rfl) (ringC_one key n) rfl rfl ?_ (szRing key hk n) ?_; (· refine Bk.newK _ _ _ ?_ rfl; simp [size_plus]); intro W2 hX hgr))
  have bx := below_grown (Below.allocS (below_plus W bs1 d1) (.cells (ring0).toArray 56)) hgr (by omega)
  have zb := be.size
  have zP := hP.lt
  replace hR := hR.later bx
  replace hP := hP.later bx
  replace be := be.trans (bx.mono zb)
  have hgx : w.heap.size + 1 < W.heap.size + bs1.length := by omega
  generalize W.heap.size + bs1.length = gx at *
  clear hgr bx zb zP q2 W
  have q0 : W2.cell? ⟨w.heap.size + 1, 0, none⟩ = some (.int .i64 (v : Int)) := hP.cell 0
  have q1 : W2.cell? ⟨w.heap.size + 1, 1, none⟩ = some (.int .i64 (s : Int)) := hP.cell 1
  have z1 := hP.lt
  go_upto_region 5 with (first
    | (refine at_op (.load 56 (.tmp 7)) rfl ?_; refine wpList_ldA (t := 56) 56 (.tmp 7) rfl rfl (ringC key n) rfl (by with_reducible repeat (first | exact hX | refine Bk.later ?_ (below_plus _ _ _) | refine Bk.alloc ?_ _)) (ringC_whole key n) vr1 vr2 (szRing key hk n) ?_)
    | (refine at_op (.load 53 (.tmp 4)) rfl ?_; refine wpList_ldG (t := 53) 53 (.tmp 4) rfl rfl (plC v s) rfl (by with_reducible repeat (first | exact hP | refine Bk.later ?_ (below_plus _ _ _) | refine Bk.alloc ?_ _)) (whole_ _) y1 y2 (szPl _ _) ?_)
    | (go_at_call 31; refine (HMK.out _).mono ?_; rintro e w1 ⟨A9, n9, c9, bs2, d2, rfl, rfl, h9⟩)
    | (go_at_call 32; refine (HRT.out _).mono ?_; rintro e w1 ⟨bs3, d3, rfl, rfl⟩))
  refine gen_world (fun W' => Bk W' w.heap.size 51 (ringC key n) ∧ Bk W' (w.heap.size + 1) 53 (plC v s) ∧ Bk W' gx 56 (ringC key n) ∧ Rb W' A9 n9 c9 Bx ∧ Below w.heap.size w W') ⟨(hR.later (below_plus _ _ _)).later (below_plus _ _ _), (hP.later (below_plus _ _ _)).later (below_plus _ _ _), (hX.later (below_plus _ _ _)).later (below_plus _ _ _), h9.plus_ _ _, belowP (belowP be _ _) _ _⟩ ?_
  clear hR hP hX be q0 q1 z1 h9
  rintro W3 ⟨hR, hP, hX, h9, be⟩
  obtain rfl : n9 = 12 := by rw [← h9.1, HBL.out]
  have z0 := hP.lt
  go_wp2
  refine wp_rel 15 109 rfl (by kernel_rfl) (by kernel_rfl) (fun i => match i with | 0 => MP.eq (.int .i64 0) | 1 => MP.eq (.bool false) | 2 => MP.eq (.bool false) | 3 => MP.eq (.slice A9 12 c9) | 4 => MP.eq (.string ⟨Bx.toArray⟩) | 5 => MP.eq (.agg (ringC key n).toArray) | 6 => MP.eq (.pointer (some ⟨w.heap.size + 1, 0, none⟩)) | 7 => MP.eq (.int .i64 (v : Int)) | 8 => MP.eq (.pointer (some ⟨w.heap.size + 1, 1, none⟩)) | 9 => MP.eq (.int .i64 (s : Int)) | 10 => MP.eq (.int .u64 (u : Int)) | 11 => MP.rb Bx | 12 => MP.eq (.string ⟨Bx.toArray⟩) | 13 => MP.eq (.bool false) | 14 => MP.eq (.bool false) | _ => MP.any) ?_ ?_
  · intro i hi o ho FA x hO hD K hK
    match i, hi, ho, hO, hD, hK with
    | 0, _, ho, hO, hD, hK => 
      obtain rfl := Option.some.inj ho.symm
      clear ho
      have ev9 : FA.eval (.tmp 9) = .int .i64 0 := hO 9 (by kernel_rfl)
      have e9 : FA.tmps[9]?.getD undef = .int .i64 0 := by simpa [Act.eval] using ev9
      replace ev9 := Lib.hid ev9
      clear hO hD
      go_simp
      exact hK.out _ _ (Ex.refl _) rfl
    | 1, _, ho, hO, hD, hK => 
      obtain rfl := Option.some.inj ho.symm
      clear ho
      have ev45 : FA.eval (.tmp 45) = .int .i64 0 := hD 0 45 (by kernel_rfl)
      have e45 : FA.tmps[45]?.getD undef = .int .i64 0 := by simpa [Act.eval] using ev45
      replace ev45 := Lib.hid ev45
      clear hO hD
      go_simp
      exact hK.out _ _ (Ex.refl _) rfl
    | 2, _, ho, hO, hD, hK => 
      obtain rfl := Option.some.inj ho.symm
      clear ho
      have ev46 : FA.eval (.tmp 46) = .bool false := hD 1 46 (by kernel_rfl)
      have e46 : FA.tmps[46]?.getD undef = .bool false := by simpa [Act.eval] using ev46
      replace ev46 := Lib.hid ev46
      clear hO hD
      go_simp
      exact hK.out _ _ (Ex.refl _) rfl
    | 3, _, ho, hO, hD, hK => 
      obtain rfl := Option.some.inj ho.symm
      clear ho
      have ev8 : FA.eval (.tmp 8) = .slice A9 12 c9 := hO 8 (by kernel_rfl)
      have e8 : FA.tmps[8]?.getD undef = .slice A9 12 c9 := by simpa [Act.eval] using ev8
      replace ev8 := Lib.hid ev8
      have ev47 : FA.eval (.tmp 47) = .bool false := hD 2 47 (by kernel_rfl)
      have e47 : FA.tmps[47]?.getD undef = .bool false := by simpa [Act.eval] using ev47
      replace ev47 := Lib.hid ev47
      have ge47 := slot_of e47
      clear hO hD
      go_simp
      exact hK.out _ _ (Ex.refl _) rfl
    | 4, _, ho, hO, hD, hK => 
      obtain rfl := Option.some.inj ho.symm
      clear ho
      have ev48 : FA.eval (.tmp 48) = .slice A9 12 c9 := hD 3 48 (by kernel_rfl)
      have e48 : FA.tmps[48]?.getD undef = .slice A9 12 c9 := by simpa [Act.eval] using ev48
      replace ev48 := Lib.hid ev48
      have ev47 : FA.eval (.tmp 47) = .bool false := hD 2 47 (by kernel_rfl)
      have e47 : FA.tmps[47]?.getD undef = .bool false := by simpa [Act.eval] using ev47
      replace ev47 := Lib.hid ev47
      have ge47 := slot_of e47
      clear hO hD
      have es := run_str bt Try.underlying9 (h9.plus_ x.bs x.d)
      go_simp
      exact hK.out _ _ (Ex.refl _) rfl
    | 5, _, ho, hO, hD, hK => 
      obtain rfl := Option.some.inj ho.symm
      clear ho
      have ev3 : FA.eval (.tmp 3) = .pointer (some ⟨w.heap.size, 0, none⟩) := hO 3 (by kernel_rfl)
      have e3 : FA.tmps[3]?.getD undef = .pointer (some ⟨w.heap.size, 0, none⟩) := by simpa [Act.eval] using ev3
      replace ev3 := Lib.hid ev3
      have ev47 : FA.eval (.tmp 47) = .bool false := hD 2 47 (by kernel_rfl)
      have e47 : FA.tmps[47]?.getD undef = .bool false := by simpa [Act.eval] using ev47
      replace ev47 := Lib.hid ev47
      have ge47 := slot_of e47
      clear hO hD
      refine wanted_ifG (by go_simp) ?_
      refine wp_load_mid 51 (.tmp 3) rfl w.heap.size 0 ev3.out (ringC key n) _ (Bk.range (hR.later (below_plus _ _ _))) r1 r2 r4 ?_
      exact hK.out _ _ (Ex.refl _) rfl
    | 6, _, ho, hO, hD, hK => 
      obtain rfl := Option.some.inj ho.symm
      clear ho
      have ev4 : FA.eval (.tmp 4) = .pointer (some ⟨w.heap.size + 1, 0, none⟩) := hO 4 (by kernel_rfl)
      have e4 : FA.tmps[4]?.getD undef = .pointer (some ⟨w.heap.size + 1, 0, none⟩) := by simpa [Act.eval] using ev4
      replace ev4 := Lib.hid ev4
      have ev47 : FA.eval (.tmp 47) = .bool false := hD 2 47 (by kernel_rfl)
      have e47 : FA.tmps[47]?.getD undef = .bool false := by simpa [Act.eval] using ev47
      replace ev47 := Lib.hid ev47
      have ge47 := slot_of e47
      clear hO hD
      go_simp
      exact hK.out _ _ (Ex.refl _) rfl
    | 7, _, ho, hO, hD, hK => 
      obtain rfl := Option.some.inj ho.symm
      clear ho
      have ev51 : FA.eval (.tmp 51) = .pointer (some ⟨w.heap.size + 1, 0, none⟩) := hD 6 51 (by kernel_rfl)
      have e51 : FA.tmps[51]?.getD undef = .pointer (some ⟨w.heap.size + 1, 0, none⟩) := by simpa [Act.eval] using ev51
      replace ev51 := Lib.hid ev51
      have ev47 : FA.eval (.tmp 47) = .bool false := hD 2 47 (by kernel_rfl)
      have e47 : FA.tmps[47]?.getD undef = .bool false := by simpa [Act.eval] using ev47
      replace ev47 := Lib.hid ev47
      have ge47 := slot_of e47
      clear hO hD
      have cc : (plus W3 x.bs x.d).cell? ⟨w.heap.size + 1, 0, none⟩ = some (.int .i64 (v : Int)) := (hP.later (below_plus _ _ _)).cell 0
      go_simp
      exact hK.out _ _ (Ex.refl _) rfl
    | 8, _, ho, hO, hD, hK => 
      obtain rfl := Option.some.inj ho.symm
      clear ho
      have ev4 : FA.eval (.tmp 4) = .pointer (some ⟨w.heap.size + 1, 0, none⟩) := hO 4 (by kernel_rfl)
      have e4 : FA.tmps[4]?.getD undef = .pointer (some ⟨w.heap.size + 1, 0, none⟩) := by simpa [Act.eval] using ev4
      replace ev4 := Lib.hid ev4
      have ev47 : FA.eval (.tmp 47) = .bool false := hD 2 47 (by kernel_rfl)
      have e47 : FA.tmps[47]?.getD undef = .bool false := by simpa [Act.eval] using ev47
      replace ev47 := Lib.hid ev47
      have ge47 := slot_of e47
      clear hO hD
      go_simp
      exact hK.out _ _ (Ex.refl _) rfl
    | 9, _, ho, hO, hD, hK => 
      obtain rfl := Option.some.inj ho.symm
      clear ho
      have ev53 : FA.eval (.tmp 53) = .pointer (some ⟨w.heap.size + 1, 1, none⟩) := hD 8 53 (by kernel_rfl)
      have e53 : FA.tmps[53]?.getD undef = .pointer (some ⟨w.heap.size + 1, 1, none⟩) := by simpa [Act.eval] using ev53
      replace ev53 := Lib.hid ev53
      have ev47 : FA.eval (.tmp 47) = .bool false := hD 2 47 (by kernel_rfl)
      have e47 : FA.tmps[47]?.getD undef = .bool false := by simpa [Act.eval] using ev47
      replace ev47 := Lib.hid ev47
      have ge47 := slot_of e47
      clear hO hD
      have cc : (plus W3 x.bs x.d).cell? ⟨w.heap.size + 1, 1, none⟩ = some (.int .i64 (s : Int)) := (hP.later (below_plus _ _ _)).cell 1
      go_simp
      exact hK.out _ _ (Ex.refl _) rfl
    | 10, _, ho, hO, hD, hK => 
      obtain rfl := Option.some.inj ho.symm
      clear ho
      have ev2 : FA.eval (.tmp 2) = .int .u64 (u : Int) := hO 2 (by kernel_rfl)
      have e2 : FA.tmps[2]?.getD undef = .int .u64 (u : Int) := by simpa [Act.eval] using ev2
      replace ev2 := Lib.hid ev2
      have ev47 : FA.eval (.tmp 47) = .bool false := hD 2 47 (by kernel_rfl)
      have e47 : FA.tmps[47]?.getD undef = .bool false := by simpa [Act.eval] using ev47
      replace ev47 := Lib.hid ev47
      have ge47 := slot_of e47
      clear hO hD
      go_simp
      exact hK.out _ _ (Ex.refl _) rfl
    | 11, _, ho, hO, hD, hK => 
      obtain rfl := Option.some.inj ho.symm
      clear ho
      have ev50 : FA.eval (.tmp 50) = .agg (ringC key n).toArray := hD 5 50 (by kernel_rfl)
      have e50 : FA.tmps[50]?.getD undef = .agg (ringC key n).toArray := by simpa [Act.eval] using ev50
      replace ev50 := Lib.hid ev50
      have ev52 : FA.eval (.tmp 52) = .int .i64 (v : Int) := hD 7 52 (by kernel_rfl)
      have e52 : FA.tmps[52]?.getD undef = .int .i64 (v : Int) := by simpa [Act.eval] using ev52
      replace ev52 := Lib.hid ev52
      have ev54 : FA.eval (.tmp 54) = .int .i64 (s : Int) := hD 9 54 (by kernel_rfl)
      have e54 : FA.tmps[54]?.getD undef = .int .i64 (s : Int) := by simpa [Act.eval] using ev54
      replace ev54 := Lib.hid ev54
      have ev55 : FA.eval (.tmp 55) = .int .u64 (u : Int) := hD 10 55 (by kernel_rfl)
      have e55 : FA.tmps[55]?.getD undef = .int .u64 (u : Int) := by simpa [Act.eval] using ev55
      replace ev55 := Lib.hid ev55
      have ev47 : FA.eval (.tmp 47) = .bool false := hD 2 47 (by kernel_rfl)
      have e47 : FA.tmps[47]?.getD undef = .bool false := by simpa [Act.eval] using ev47
      replace ev47 := Lib.hid ev47
      have ge47 := slot_of e47
      clear hO hD
      go_simp
      refine (HRM.out _).mono ?_
      rintro e w1 ⟨A3, n3, c3, bs2, d2, rfl, rfl, ho2⟩
      exact hK.out _ _ (Ex.plus_ _ _ _) ⟨_, _, _, rfl, ho2.rb⟩
    | 12, _, ho, hO, hD, hK => 
      obtain rfl := Option.some.inj ho.symm
      clear ho
      have f56 := hD 11 56 (by kernel_rfl)
      generalize eu56 : FA.eval (.tmp 56) = u56 at f56
      have e56 : FA.tmps[56]?.getD undef = u56 := by rw [← eu56]; simp [Act.eval]
      have ev56 := Lib.hid eu56
      clear eu56
      have ev47 : FA.eval (.tmp 47) = .bool false := hD 2 47 (by kernel_rfl)
      have e47 : FA.tmps[47]?.getD undef = .bool false := by simpa [Act.eval] using ev47
      replace ev47 := Lib.hid ev47
      have ge47 := slot_of e47
      clear hO hD
      obtain ⟨A1, n1, c1, rfl, hr1⟩ := f56
      have es := run_str bt Try.underlying9 hr1
      go_simp
      exact hK.out _ _ (Ex.refl _) rfl
    | 13, _, ho, hO, hD, hK => 
      obtain rfl := Option.some.inj ho.symm
      clear ho
      have ev49 : FA.eval (.tmp 49) = .string ⟨Bx.toArray⟩ := hD 4 49 (by kernel_rfl)
      have e49 : FA.tmps[49]?.getD undef = .string ⟨Bx.toArray⟩ := by simpa [Act.eval] using ev49
      replace ev49 := Lib.hid ev49
      have ev57 : FA.eval (.tmp 57) = .string ⟨Bx.toArray⟩ := hD 12 57 (by kernel_rfl)
      have e57 : FA.tmps[57]?.getD undef = .string ⟨Bx.toArray⟩ := by simpa [Act.eval] using ev57
      replace ev57 := Lib.hid ev57
      have ev47 : FA.eval (.tmp 47) = .bool false := hD 2 47 (by kernel_rfl)
      have e47 : FA.tmps[47]?.getD undef = .bool false := by simpa [Act.eval] using ev47
      replace ev47 := Lib.hid ev47
      have ge47 := slot_of e47
      clear hO hD
      go_simp
      exact hK.out _ _ (Ex.refl _) rfl
    | 14, _, ho, hO, hD, hK => 
      obtain rfl := Option.some.inj ho.symm
      clear ho
      have ev47 : FA.eval (.tmp 47) = .bool false := hD 2 47 (by kernel_rfl)
      have e47 : FA.tmps[47]?.getD undef = .bool false := by simpa [Act.eval] using ev47
      replace ev47 := Lib.hid ev47
      have ev58 : FA.eval (.tmp 58) = .bool false := hD 13 58 (by kernel_rfl)
      have e58 : FA.tmps[58]?.getD undef = .bool false := by simpa [Act.eval] using ev58
      replace ev58 := Lib.hid ev58
      clear hO hD
      go_simp
      exact hK.out _ _ (Ex.refl _) rfl
    | (k + 15), hi, _, _, _, _ => exact absurd hi (by omega)
  intro vs x hp
  have p0 : vs 0 = .int .i64 0 := hp 0 (by omega)
  have p1 : vs 1 = .bool false := hp 1 (by omega)
  have p2 : vs 2 = .bool false := hp 2 (by omega)
  have p3 : vs 3 = .slice A9 12 c9 := hp 3 (by omega)
  have p4 : vs 4 = .string ⟨Bx.toArray⟩ := hp 4 (by omega)
  have p5 : vs 5 = .agg (ringC key n).toArray := hp 5 (by omega)
  have p6 : vs 6 = .pointer (some ⟨w.heap.size + 1, 0, none⟩) := hp 6 (by omega)
  have p7 : vs 7 = .int .i64 (v : Int) := hp 7 (by omega)
  have p8 : vs 8 = .pointer (some ⟨w.heap.size + 1, 1, none⟩) := hp 8 (by omega)
  have p9 : vs 9 = .int .i64 (s : Int) := hp 9 (by omega)
  have p10 : vs 10 = .int .u64 (u : Int) := hp 10 (by omega)
  have p11 := hp 11 (by omega)
  have p12 : vs 12 = .string ⟨Bx.toArray⟩ := hp 12 (by omega)
  have p13 : vs 13 = .bool false := hp 13 (by omega)
  have p14 : vs 14 = .bool false := hp 14 (by omega)
  clear hp
  simp only [List.take_succ_cons, List.take_zero, List.drop_succ_cons, List.drop_zero, putAll, Nat.zero_add, Nat.reduceAdd, Act.put, List.setIfInBounds_toArray, List.set_cons_zero, List.set_cons_succ, p0, p1, p2, p3, p4, p5, p6, p7, p8, p9, p10, p12, p13, p14]
  clear p0 p1 p2 p3 p4 p5 p6 p7 p8 p9 p10 p12 p13 p14
  generalize vs 11 = y11 at *
  clear vs
  replace hR := hR.later (below_plus _ x.bs x.d)
  replace hP := hP.later (below_plus _ x.bs x.d)
  replace hX := hX.later (below_plus _ x.bs x.d)
  replace h9 := h9.plus_ x.bs x.d
  replace be := belowP be x.bs x.d
  generalize plus W3 x.bs x.d = W4 at *
  go_upto_region 8 with (first
    | (refine at_op (.load 56 (.tmp 7)) rfl ?_; refine wpList_ldA (t := 56) 56 (.tmp 7) rfl rfl (ringC key n) rfl (by with_reducible repeat (first | exact hX | refine Bk.later ?_ (below_plus _ _ _) | refine Bk.alloc ?_ _)) (ringC_whole key n) vr1 vr2 (szRing key hk n) ?_)
    | (go_at_call 35; refine (HR1.out _ _ _ h9).mono ?_; rintro e w1 ⟨bs5, d5, rfl, rfl⟩)
    | (refine at_op (.store 53 (.tmp 10) (.tmp 64)) rfl ?_; refine wpList_stA (t := 53) 53 (.tmp 10) (.tmp 64) rfl rfl (plC v s) ((plC 0 0)) rfl (plC_one _ _) rfl rfl ?_ (szPl _ _) ?_; (· refine Bk.newK _ _ _ ?_ rfl; simp [size_plus]); intro W5 hA hgr))
  have zb := be.size
  have b5 := below_grown (Below.allocS (below_plus W4 bs5 d5) (.cells #[.int .i64 0, .int .i64 0] 53)) hgr (by omega)
  replace hR := hR.later b5
  replace hP := hP.later b5
  replace hX := hX.later b5
  replace h9 := h9.later b5
  replace be := be.trans (b5.mono zb)
  generalize W4.heap.size + bs5.length = g10 at *
  clear hgr b5 zb z0 W3 HMK HRM HRT
  go_upto_region 9 with (first
    | (refine at_op (.load 56 (.tmp 7)) rfl ?_; refine wpList_ldA (t := 56) 56 (.tmp 7) rfl rfl (ringC key n) rfl (by with_reducible repeat (first | exact hX | refine Bk.later ?_ (below_plus _ _ _) | refine Bk.alloc ?_ _)) (ringC_whole key n) vr1 vr2 (szRing key hk n) ?_)
    | (go_at_call 36; refine (HNX.out _).mono ?_; rintro e w1 ⟨bs6, d6, rfl, rfl⟩)
    | (go_at_call 35; refine (HR2.out _ _ _ (h9.plus_ _ _)).mono ?_; rintro e w1 ⟨bs7, d7, rfl, rfl⟩)
    | (refine at_op (.store 53 (.tmp 13) (.tmp 72)) rfl ?_; refine wpList_stA (t := 53) 53 (.tmp 13) (.tmp 72) rfl rfl (plC v2 s2) ((plC 0 0)) rfl (plC_one _ _) rfl rfl ?_ (szPl _ _) ?_; (· refine Bk.newK _ _ _ ?_ rfl; simp [size_plus]); intro W7 hB hgr))
  have zb := be.size
  have b7 := below_grown (Below.allocS (belowP (below_plus W5 bs6 d6) bs7 d7) (.cells #[.int .i64 0, .int .i64 0] 53)) hgr (by omega)
  replace hR := hR.later b7
  replace hP := hP.later b7
  replace hA := hA.later b7
  replace be := be.trans (b7.mono zb)
  generalize W5.heap.size + bs6.length + bs7.length = g13 at *
  clear hgr b7 zb
  have q3 : W7.cell? ⟨w.heap.size, 16, none⟩ = some (.int .u64 (n : Int)) := by rw [hR.cell]; exact q
  rcases HX.out with hmax | ⟨hmax, rfl, rfl, rfl, rfl⟩
  · have t1 : ((n : Int) == 18446744073709551615) = true := by rw [beq_iff_eq]; omega
    clear hmax HX
    go_wp2_with (first
      | go_skip
      | (refine at_op (.load 53 (.tmp 10)) rfl ?_; refine wpList_ldA (t := 53) 53 (.tmp 10) rfl rfl (plC v s) rfl (by with_reducible repeat (first | exact hA | refine Bk.later ?_ (below_plus _ _ _) | refine Bk.alloc ?_ _)) (whole_ _) y1 y2 (szPl _ _) ?_)
      | (refine at_op (.load 53 (.tmp 4)) rfl ?_; refine wpList_ldA (t := 53) 53 (.tmp 4) rfl rfl (plC v s) rfl (by with_reducible repeat (first | exact hP | refine Bk.later ?_ (below_plus _ _ _) | refine Bk.alloc ?_ _)) (whole_ _) y1 y2 (szPl _ _) ?_)
      | (go_at_call 33; refine (HAW.out _).mono ?_; rintro e w1 ⟨bs8, d8, rfl, rfl⟩))
    go_ret
    exact ⟨rfl, belowP be _ _⟩
  · have t1 : ((n : Int) == 18446744073709551615) = false := by rw [beq_eq_false_iff_ne]; omega
    clear hmax HX
    go_wp2_with (first
      | go_skip
      | (refine at_op (.load 53 (.tmp 10)) rfl ?_; refine wpList_ldG (t := 53) 53 (.tmp 10) rfl rfl (plC v s) rfl (by with_reducible repeat (first | exact hA | refine Bk.later ?_ (below_plus _ _ _) | refine Bk.alloc ?_ _)) (whole_ _) y1 y2 (szPl _ _) ?_)
      | (refine at_op (.load 53 (.tmp 4)) rfl ?_; refine wpList_ldG (t := 53) 53 (.tmp 4) rfl rfl (plC v s) rfl (by with_reducible repeat (first | exact hP | refine Bk.later ?_ (below_plus _ _ _) | refine Bk.alloc ?_ _)) (whole_ _) y1 y2 (szPl _ _) ?_)
      | (refine at_op (.load 53 (.tmp 13)) rfl ?_; refine wpList_ldG (t := 53) 53 (.tmp 13) rfl rfl (plC v s) rfl (by with_reducible repeat (first | exact hB | refine Bk.later ?_ (below_plus _ _ _) | refine Bk.alloc ?_ _)) (whole_ _) y1 y2 (szPl _ _) ?_)
      | (go_at_call 33; refine (HAW.out _).mono ?_; rintro e w1 ⟨bs8, d8, rfl, rfl⟩))
    go_ret
    exact ⟨rfl, belowP be _ _⟩
theorem hid_back_ (b wd m : Nat) (hb : b < 2) (hw : wd < 32768) (hm : m < 32768) : hidN b wd m / 32768 = b ∧ (hidN b wd m ^^^ m) % 32768 = wd := by
  have hx : wd ^^^ m < 2 ^ 15 := Nat.xor_lt_two_pow hw hm
  constructor
  · unfold hidN; omega
  · have e : hidN b wd m = 2 ^ 15 * b ||| (wd ^^^ m) := by rw [← Nat.two_pow_add_eq_or_of_lt hx]; unfold hidN; omega
    rw [e, show (32768 : Nat) = 2 ^ 15 from rfl, Nat.xor_mod_two_pow, ← Nat.two_pow_add_eq_or_of_lt hx, Nat.mul_add_mod, Nat.mod_eq_of_lt hx, Nat.mod_eq_of_lt hm, Nat.xor_assoc, Nat.xor_self, Nat.xor_zero]
/-- reading an ID with a ring that has its key -/
theorem cidRead_made (key : List UInt8) (hk : K16 key) (n m : Nat) (v s u : Nat) (hv : v < 8) (hs : s < 4096) (hu : u < 1099511627776) (A : Option Addr) (c : Nat) (w : World) (h : Rb w A 12 c (cidB key n v s u))
    (HAT : ∀ w, Calls Try.prog 105 #[.agg (ringC key m).toArray, .int .i64 ((n % 2 : Nat) : Int)] w (RetV w (.tuple #[.agg (bcs (derK key n)).toArray, .bool true]))) :
    Calls Try.prog 35 #[.agg (ringC key m).toArray, .slice A 12 c] w (RetV w (.tuple #[.agg (plC v s).toArray, .int .u64 (u : Int), .int .i64 0])) := by
  obtain ⟨e1, e2⟩ := hid_back_ (n % 2) (4096 * v + s) (cmskN (derK key n) u) (Nat.mod_lt _ (by decide)) (by omega) (cmskN_lt _ _)
  have x0 : num (((cidB key n v s u).drop 0).take 5) = u := by unfold cidB; have := num_mid [] (dig (cidW key n v s u) 2 ++ ctagB (derK key n) u (cidW key n v s u)) u 5 0 rfl (by omega); simpa [List.append_assoc] using this
  have x1 : num (((cidB key n v s u).drop 5).take 2) = cidW key n v s u := by unfold cidB; have := num_mid (dig u 5) (ctagB (derK key n) u (cidW key n v s u)) (cidW key n v s u) 2 5 (by simp [dig_length]) (by have := cidW_lt key n v s u hv hs; omega); simpa [List.append_assoc] using this
  have x2 : (cidB key n v s u).drop 7 = ctagB (derK key n) u (cidW key n v s u) := by unfold cidB; rw [List.drop_left' (by simp [dig_length])]
  have := cidRead_ok key hk m A c (cidB key n v s u) (derK key n) (K16_of _ _) w h (by rw [x0, x1, x2]) (by
    intro w
    rw [x1]
    have e : ((cidW key n v s u : Nat) : Int) / 32768 = ((n % 2 : Nat) : Int) := by unfold cidW; omega
    rw [e]
    exact HAT w)
  rw [x0, x1] at this
  have e3 : (cidW key n v s u ^^^ cmskN (derK key n) u) % 32768 = 4096 * v + s := e2
  rw [e3, show (4096 * v + s) / 4096 = v by omega, show (4096 * v + s) % 4096 = s by omega] at this
  exact this
theorem cidMakes_walk (w : World) (key : List UInt8) (hk : K16 key) (n : Nat) (hn : n < 18446744073709551616) (v s : Int) (u : Nat) (hu : u < 18446744073709551616) :
    Calls Try.prog 4 #[.agg (ringC key n).toArray, .agg (plI v s).toArray, .int .u64 (u : Int)] w fun e w' => e = .returned (.bool true) ∧ Below w.heap.size w w' := by
  cases hb : (plB v s && decide (u < 1099511627776))
  · exact cidMakes_bad w key hk n v s u hb
  · simp only [plB, Bool.and_eq_true, decide_eq_true_eq] at hb
    obtain ⟨⟨h1, h2, h3, h4⟩, h5⟩ := hb
    obtain ⟨v, rfl⟩ := Int.eq_ofNat_of_zero_le h1
    obtain ⟨s, rfl⟩ := Int.eq_ofNat_of_zero_le h3
    have hv : v < 8 := by omega
    have hs : s < 4096 := by omega
    have HR1 := fun w A c h => cidRead_made key hk n n v s u hv hs h5 A c w h (fun w => ringAt_now key hk n _ w hn rfl)
    by_cases hmax : n = 18446744073709551615
    · have HN := fun w => ringNext_any key hk n w hn
      rw [show (n + 1) % 18446744073709551616 = 0 by omega] at HN
      have x1 : ∀ (A : Option Addr) (c : Nat) w, Rb w A 12 c (cidB key n v s u) → Calls Try.prog 35 #[.agg (ringC key 0).toArray, .slice A 12 c] w (RetV w (.tuple #[.agg (plC 0 0).toArray, .int .u64 0, .int .i64 26])) := fun A c w h => by
        refine cidRead_none key hk 0 A c _ key0 K16_0 w h (fun w => ?_)
        have x1 : num (((cidB key n v s u).drop 5).take 2) = cidW key n v s u := by unfold cidB; have := num_mid (dig u 5) (ctagB (derK key n) u (cidW key n v s u)) (cidW key n v s u) 2 5 (by simp [dig_length]) (by have := cidW_lt key n v s u hv hs; omega); simpa [List.append_assoc] using this
        rw [x1]
        obtain ⟨e1, e2⟩ := hid_back_ (n % 2) (4096 * v + s) (cmskN (derK key n) u) (Nat.mod_lt _ (by decide)) (by omega) (cmskN_lt _ _)
        have e : ((cidW key n v s u : Nat) : Int) / 32768 = ((n % 2 : Nat) : Int) := by unfold cidW; omega
        rw [e]
        exact ringAt_zero key hk 0 _ w (by omega) (by omega) rfl
      exact cidMakes_good w key hk n 0 hn v s u hv hs h5 0 0 0 26 HN (fun w A c h => HR1 w A c h) (fun w A c h => x1 A c w h) (.inl hmax)
    · have HN := fun w => ringNext_any key hk n w hn
      rw [Nat.mod_eq_of_lt (show n + 1 < 18446744073709551616 by omega)] at HN
      exact cidMakes_good w key hk n (n + 1) hn v s u hv hs h5 v s u 0 HN (fun w A c h => HR1 w A c h) (fun w A c h => cidRead_made key hk n (n + 1) v s u hv hs h5 A c w h (fun w => ringAt_then key hk (n + 1) _ w (by omega) (by omega) (by omega))) (.inr ⟨hmax, rfl, rfl, rfl, rfl⟩)
end Go.Proofs.Ytldecdeiibfekaa
