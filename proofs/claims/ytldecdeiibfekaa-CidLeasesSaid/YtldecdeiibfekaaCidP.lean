/- (cid.Lease).Take. -/
import Derived.Test.YtldecdeiibfekaaCidM
import Derived.Test.YtldecdeiibfekaaLea
namespace Go.Proofs.Ytldecdeiibfekaa
open Go.RowKit
set_option linter.unusedVariables false
set_option linter.unusedSimpArgs false
attribute [local go_sem ↓] sliced_cut
attribute [local go_sem] cutA_zero

theorem bodyPost_aggM {P : Program} {fn : Func} {R : Ending → World → Prop} {a : Act} {w : World} {slot slot2 slot3 ty g : Nat} {d : TypeDesc} {cs : List Value} {u u' : Value} (hfr : fn.results = #[.tmp slot, .cell slot2 ty, .tmp slot3]) (hs : a.tmps.getD slot undef = u) (hs2 : a.tmps.getD slot2 undef = .pointer (some ⟨g, 0, none⟩)) (hs3 : a.tmps.getD slot3 undef = u')
    (hb : w.rangeAt g 0 cs) (hu : P.underlying ty = some d) (hd : d.isRow = true) (hi : (P.info? ty).map (·.size) = some cs.length) (hdf : a.defers = []) (hR : R (.returned (.tuple #[u, .agg cs.toArray, u'])) w) : bodyPost P fn R .ret a w := by
  refine bodyPost_ret (v := .tuple #[u, .agg cs.toArray, u']) ?_ hdf hR
  have h1 := run_loadVar_mid (P := P) w g 0 ty cs d hb hu hd hi
  have hs' : a.tmps[slot]?.getD undef = u := by simpa using hs
  have hs2' : a.tmps[slot2]?.getD undef = .pointer (some ⟨g, 0, none⟩) := by simpa using hs2
  have hs3' : a.tmps[slot3]?.getD undef = u' := by simpa using hs3
  simp [results, hfr, hs', hs2', hs3', asAddr, h1]
set_option maxHeartbeats 4000000 in
set_option maxRecDepth 100000 in
theorem takeNone (key : List UInt8) (hk : K16 key) (n a b : Nat) (v s : Int) (w : World) (ha : a < 18446744073709551616) (hb : b < 18446744073709551616) (h0 : b - a = 0) : Calls Try.prog 40 #[.agg (leC a b).toArray, .agg (ringC key n).toArray, .agg (plI v s).toArray] w (RetV w (.tuple #[.slice none 0 0, .agg (leC a b).toArray, .int .i64 6])) := by
  obtain ⟨dl, ul1, ul2⟩ := rowLe
  obtain ⟨dq, vr1, vr2, vr3⟩ := rowRing
  obtain ⟨dp, y1, y2⟩ := rowPl
  have hL : Bk ((((w.alloc (.cells (leC a b).toArray 67)).alloc (.cells (ringC key n).toArray 56)).alloc (.cells (plI v s).toArray 53)).alloc (.cells #[.int .u64 0, .int .u64 0] 67)) w.heap.size 67 (leC a b) := (((Bk.new w 67 (leC a b).toArray).alloc _).alloc _).alloc _
  have hX : Bk ((((w.alloc (.cells (leC a b).toArray 67)).alloc (.cells (ringC key n).toArray 56)).alloc (.cells (plI v s).toArray 53)).alloc (.cells #[.int .u64 0, .int .u64 0] 67)) (w.heap.size + 1) 56 (ringC key n) := ((Bk.newK _ _ _ (by simp) rfl).alloc _).alloc _
  have hP : Bk ((((w.alloc (.cells (leC a b).toArray 67)).alloc (.cells (ringC key n).toArray 56)).alloc (.cells (plI v s).toArray 53)).alloc (.cells #[.int .u64 0, .int .u64 0] 67)) (w.heap.size + 1 + 1) 53 (plI v s) := (Bk.newK _ _ _ (by simp) rfl).alloc _
  have hZ : Bk ((((w.alloc (.cells (leC a b).toArray 67)).alloc (.cells (ringC key n).toArray 56)).alloc (.cells (plI v s).toArray 53)).alloc (.cells #[.int .u64 0, .int .u64 0] 67)) (w.heap.size + 1 + 1 + 1) 67 (leC 0 0) := Bk.newK _ _ _ (by simp) rfl
  have be : Below w.heap.size w ((((w.alloc (.cells (leC a b).toArray 67)).alloc (.cells (ringC key n).toArray 56)).alloc (.cells (plI v s).toArray 53)).alloc (.cells #[.int .u64 0, .int .u64 0] 67)) := Below.allocS (Below.allocS (Below.allocS (Below.allocS (Below.refl _ _) _) _) _) _
  have HL := Lib.hid (fun w => leLeft a b w ha hb)
  rw [h0] at HL
  clear h0
  go_enter Try.func40, Try.ntmps40
  go_upto_region 1 with (fail)
  generalize (((w.alloc (.cells (leC a b).toArray 67)).alloc (.cells (ringC key n).toArray 56)).alloc (.cells (plI v s).toArray 53)).alloc (.cells #[.int .u64 0, .int .u64 0] 67) = W at *
  go_upto_region 2 with (first
    | (refine at_op (.load 67 (.tmp 3)) rfl ?_; refine wpList_ldA (t := 67) 67 (.tmp 3) rfl rfl (leC a b) rfl (by with_reducible repeat (first | exact hL | refine Bk.later ?_ (below_plus _ _ _) | refine Bk.alloc ?_ _)) (whole_ _) ul1 ul2 (szLe _ _) ?_)
    | (go_at_call 39; refine (HL.out _).mono ?_; rintro e w1 ⟨bs1, d1, rfl, rfl⟩))
  replace hL := hL.later (below_plus _ bs1 d1)
  replace hX := hX.later (below_plus _ bs1 d1)
  replace hP := hP.later (below_plus _ bs1 d1)
  replace hZ := hZ.later (below_plus _ bs1 d1)
  replace be := belowP be bs1 d1
  generalize plus W bs1 d1 = W at *
  have q0 : W.cell? ⟨w.heap.size, 0, none⟩ = some (.int .u64 (a : Int)) := hL.cell 0
  have q1 : W.cell? ⟨w.heap.size, 1, none⟩ = some (.int .u64 (b : Int)) := hL.cell 1
  have z0 := hL.lt
  refine wp_tail 2 (by kernel_rfl) (by kernel_rfl) ?_
  simp only [List.take_succ_cons, List.take_zero, List.drop_succ_cons, List.drop_zero]
  repeat still_step
  refine wpStill_nil ?_
  replace hZ := hZ.drew
  have bd : Below w.heap.size w W.drew := be.drew
  go_wp2_with (refine at_op (.store 67 (.tmp 7) (.tmp 14)) rfl ?_; refine wpList_stA (t := 67) 67 (.tmp 7) (.tmp 14) rfl rfl (leC a b) (leC 0 0) rfl (leC_one _ _) rfl rfl hZ (szLe _ _) ?_; intro W9 hZ9 hgr)
  refine bodyPost_aggM Try.results40 rfl rfl rfl hZ9.range ul1 ul2 (szLe _ _) rfl (RetV.mk (below_grown bd hgr (by omega)))
set_option maxHeartbeats 4000000 in
set_option maxRecDepth 100000 in
theorem takeArg (key : List UInt8) (hk : K16 key) (n a b : Nat) (v s : Int) (w : World) (ha : a < 18446744073709551616) (hb : b < 18446744073709551616) (h0 : b - a ≠ 0) (hu : (plB v s && decide (a < 1099511627776)) = false) : Calls Try.prog 40 #[.agg (leC a b).toArray, .agg (ringC key n).toArray, .agg (plI v s).toArray] w (RetV w (.tuple #[.slice none 0 0, .agg (leC a b).toArray, .int .i64 1])) := by
  obtain ⟨dl, ul1, ul2⟩ := rowLe
  obtain ⟨dq, vr1, vr2, vr3⟩ := rowRing
  obtain ⟨dp, y1, y2⟩ := rowPl
  have hL : Bk ((((w.alloc (.cells (leC a b).toArray 67)).alloc (.cells (ringC key n).toArray 56)).alloc (.cells (plI v s).toArray 53)).alloc (.cells #[.int .u64 0, .int .u64 0] 67)) w.heap.size 67 (leC a b) := (((Bk.new w 67 (leC a b).toArray).alloc _).alloc _).alloc _
  have hX : Bk ((((w.alloc (.cells (leC a b).toArray 67)).alloc (.cells (ringC key n).toArray 56)).alloc (.cells (plI v s).toArray 53)).alloc (.cells #[.int .u64 0, .int .u64 0] 67)) (w.heap.size + 1) 56 (ringC key n) := ((Bk.newK _ _ _ (by simp) rfl).alloc _).alloc _
  have hP : Bk ((((w.alloc (.cells (leC a b).toArray 67)).alloc (.cells (ringC key n).toArray 56)).alloc (.cells (plI v s).toArray 53)).alloc (.cells #[.int .u64 0, .int .u64 0] 67)) (w.heap.size + 1 + 1) 53 (plI v s) := (Bk.newK _ _ _ (by simp) rfl).alloc _
  have hZ : Bk ((((w.alloc (.cells (leC a b).toArray 67)).alloc (.cells (ringC key n).toArray 56)).alloc (.cells (plI v s).toArray 53)).alloc (.cells #[.int .u64 0, .int .u64 0] 67)) (w.heap.size + 1 + 1 + 1) 67 (leC 0 0) := Bk.newK _ _ _ (by simp) rfl
  have be : Below w.heap.size w ((((w.alloc (.cells (leC a b).toArray 67)).alloc (.cells (ringC key n).toArray 56)).alloc (.cells (plI v s).toArray 53)).alloc (.cells #[.int .u64 0, .int .u64 0] 67)) := Below.allocS (Below.allocS (Below.allocS (Below.allocS (Below.refl _ _) _) _) _) _
  have HL := Lib.hid (fun w => leLeft a b w ha hb)
  have HM := Lib.hid (fun w => cidMake_no key hk n v s a w hu)
  have t1 : (((b - a : Nat) : Int) == 0) = false := by rw [beq_eq_false_iff_ne]; omega
  clear h0 hu
  generalize b - a = lf at *
  go_enter Try.func40, Try.ntmps40
  go_upto_region 1 with (fail)
  generalize (((w.alloc (.cells (leC a b).toArray 67)).alloc (.cells (ringC key n).toArray 56)).alloc (.cells (plI v s).toArray 53)).alloc (.cells #[.int .u64 0, .int .u64 0] 67) = W at *
  go_upto_region 3 with (first
    | (refine at_op (.load 67 (.tmp 3)) rfl ?_; refine wpList_ldA (t := 67) 67 (.tmp 3) rfl rfl (leC a b) rfl (by with_reducible repeat (first | exact hL | refine Bk.later ?_ (below_plus _ _ _) | refine Bk.alloc ?_ _)) (whole_ _) ul1 ul2 (szLe _ _) ?_)
    | (go_at_call 39; refine (HL.out _).mono ?_; rintro e w1 ⟨bs1, d1, rfl, rfl⟩))
  replace hL := hL.later (below_plus _ bs1 d1)
  replace hX := hX.later (below_plus _ bs1 d1)
  replace hP := hP.later (below_plus _ bs1 d1)
  replace hZ := hZ.later (below_plus _ bs1 d1)
  replace be := belowP be bs1 d1
  generalize plus W bs1 d1 = W at *
  have q0 : W.cell? ⟨w.heap.size, 0, none⟩ = some (.int .u64 (a : Int)) := hL.cell 0
  have q1 : W.cell? ⟨w.heap.size, 1, none⟩ = some (.int .u64 (b : Int)) := hL.cell 1
  have z0 := hL.lt
  go_upto_region 5 with (first
    | (refine at_op (.load 56 (.tmp 4)) rfl ?_; refine wpList_ldA (t := 56) 56 (.tmp 4) rfl rfl (ringC key n) rfl (by with_reducible repeat (first | exact hX | refine Bk.later ?_ (below_plus _ _ _) | refine Bk.alloc ?_ _)) (ringC_whole key n) vr1 vr2 (szRing key hk n) ?_)
    | (refine at_op (.load 53 (.tmp 5)) rfl ?_; refine wpList_ldA (t := 53) 53 (.tmp 5) rfl rfl (plI v s) rfl (by with_reducible repeat (first | exact hP | refine Bk.later ?_ (below_plus _ _ _) | refine Bk.alloc ?_ _)) (whole_ _) y1 y2 (szPlI _ _) ?_)
    | (go_at_call 31; refine (HM.out _).mono ?_; rintro e w1 ⟨bs2, d2, rfl, rfl⟩))
  replace hL := hL.later (below_plus _ bs2 d2)
  replace hX := hX.later (below_plus _ bs2 d2)
  replace hP := hP.later (below_plus _ bs2 d2)
  replace hZ := hZ.later (below_plus _ bs2 d2)
  replace be := belowP be bs2 d2
  clear q0 q1 z0
  generalize plus W bs2 d2 = W at *
  have q0 : W.cell? ⟨w.heap.size, 0, none⟩ = some (.int .u64 (a : Int)) := hL.cell 0
  have q1 : W.cell? ⟨w.heap.size, 1, none⟩ = some (.int .u64 (b : Int)) := hL.cell 1
  have z0 := hL.lt
  go_wp2
  refine wp_relE 3 34 [1, 2] rfl (by kernel_rfl) (by kernel_rfl) (fun i => match i with | 0 => MP.eq (.agg (leC a b).toArray) | 1 => MP.eq (.int .i64 1) | 2 => MP.eq (.slice none 0 0) | _ => MP.any) ?_ ?_
  · intro i hi o ho FA x hO hD
    match i, hi, ho, hO, hD with
    | 0, _, ho, hO, hD => 
      obtain rfl := Option.some.inj ho.symm
      clear ho
      have ev3 : FA.eval (.tmp 3) = .pointer (some ⟨w.heap.size, 0, none⟩) := hO 3 (by kernel_rfl)
      have e3 : FA.tmps[3]?.getD undef = .pointer (some ⟨w.heap.size, 0, none⟩) := by simpa [Act.eval] using ev3
      replace ev3 := Lib.hid ev3
      clear hO hD
      rw [if_neg (by decide)]
      intro K hK
      refine wanted_ifG (by go_simp) ?_
      refine wp_load_mid 67 (.tmp 3) rfl (w.heap.size) 0 ev3.out (leC a b) _ (Bk.range (hL.later (below_plus _ _ _))) ul1 ul2 (szLe _ _) ?_
      exact hK.out _ _ (Ex.refl _) rfl
    | 1, _, ho, hO, hD => 
      obtain rfl := Option.some.inj ho.symm
      clear ho
      have ev10 : FA.eval (.tmp 10) = .int .i64 1 := hO 10 (by kernel_rfl)
      have e10 : FA.tmps[10]?.getD undef = .int .i64 1 := by simpa [Act.eval] using ev10
      replace ev10 := Lib.hid ev10
      clear hO hD
      rw [if_pos (by decide)]
      refine ⟨.int .i64 1, .inl ⟨by simp [Region.wanted], fun w => ?_⟩, rfl⟩
      go_simp
    | 2, _, ho, hO, hD => 
      obtain rfl := Option.some.inj ho.symm
      clear ho
      clear hO hD
      rw [if_pos (by decide)]
      refine ⟨.slice none 0 0, .inl ⟨by simp [Region.wanted], fun w => ?_⟩, rfl⟩
      go_simp
    | (k + 3), hi, _, _, _ => exact absurd hi (by omega)
  intro vs x hp
  have p0 : vs 0 = .agg (leC a b).toArray := hp 0 (by omega)
  have p1 : vs 1 = .int .i64 1 := hp 1 (by omega)
  have p2 : vs 2 = .slice none 0 0 := hp 2 (by omega)
  clear hp
  simp only [List.take_succ_cons, List.take_zero, List.drop_succ_cons, List.drop_zero, putAll, Nat.zero_add, Nat.reduceAdd, Act.put, List.setIfInBounds_toArray, List.set_cons_zero, List.set_cons_succ, p0, p1, p2]
  clear p0 p1 p2
  clear vs
  replace hZ := hZ.later (below_plus _ x.bs x.d)
  have bd : Below w.heap.size w (plus W x.bs x.d) := belowP be x.bs x.d
  go_wp2_with (refine at_op (.store 67 (.tmp 7) (.tmp 25)) rfl ?_; refine wpList_stA (t := 67) 67 (.tmp 7) (.tmp 25) rfl rfl (leC a b) (leC 0 0) rfl (leC_one _ _) rfl rfl hZ (szLe _ _) ?_; intro W9 hZ9 hgr)
  refine NoPanic.normal ?_
  go_wp2
  refine bodyPost_aggM Try.results40 rfl rfl rfl hZ9.range ul1 ul2 (szLe _ _) rfl (RetV.mk (below_grown bd hgr (by omega)))
/-- an ID, and the lease without its number -/
def RetTk (w : World) (l : List UInt8) (a b : Nat) (e : Ending) (w' : World) : Prop := ∃ A n c bs d, e = .returned (.tuple #[.slice A n c, .agg (leC a b).toArray, .int .i64 0]) ∧ w' = plus w bs d ∧ Rb (plus w bs d) A n c l
theorem RetTk.mk {w w' : World} {l : List UInt8} {a b : Nat} {A : Option Addr} {n c : Nat} (h : Rb w' A n c l) (hb : Below w.heap.size w w') : RetTk w l a b (.returned (.tuple #[.slice A n c, .agg (leC a b).toArray, .int .i64 0])) w' := by
  obtain ⟨bs, d, rfl⟩ := plus_of hb
  exact ⟨A, n, c, bs, d, rfl, rfl, h⟩
set_option maxHeartbeats 4000000 in
set_option maxRecDepth 100000 in
theorem takeYes (key : List UInt8) (hk : K16 key) (n a b v s : Nat) (w : World) (hn : n < 18446744073709551616) (ha : a < 1099511627776) (hb : b < 18446744073709551616) (h0 : b - a ≠ 0) (hv : v < 8) (hs : s < 4096) : Calls Try.prog 40 #[.agg (leC a b).toArray, .agg (ringC key n).toArray, .agg (plC v s).toArray] w (RetTk w (cidB key n v s a) (a + 1) b) := by
  obtain ⟨dl, ul1, ul2⟩ := rowLe
  obtain ⟨dq, vr1, vr2, vr3⟩ := rowRing
  obtain ⟨dp, y1, y2⟩ := rowPl
  have hL : Bk ((((w.alloc (.cells (leC a b).toArray 67)).alloc (.cells (ringC key n).toArray 56)).alloc (.cells (plC v s).toArray 53)).alloc (.cells #[.int .u64 0, .int .u64 0] 67)) w.heap.size 67 (leC a b) := (((Bk.new w 67 (leC a b).toArray).alloc _).alloc _).alloc _
  have hX : Bk ((((w.alloc (.cells (leC a b).toArray 67)).alloc (.cells (ringC key n).toArray 56)).alloc (.cells (plC v s).toArray 53)).alloc (.cells #[.int .u64 0, .int .u64 0] 67)) (w.heap.size + 1) 56 (ringC key n) := ((Bk.newK _ _ _ (by simp) rfl).alloc _).alloc _
  have hP : Bk ((((w.alloc (.cells (leC a b).toArray 67)).alloc (.cells (ringC key n).toArray 56)).alloc (.cells (plC v s).toArray 53)).alloc (.cells #[.int .u64 0, .int .u64 0] 67)) (w.heap.size + 1 + 1) 53 (plC v s) := (Bk.newK _ _ _ (by simp) rfl).alloc _
  have hZ : Bk ((((w.alloc (.cells (leC a b).toArray 67)).alloc (.cells (ringC key n).toArray 56)).alloc (.cells (plC v s).toArray 53)).alloc (.cells #[.int .u64 0, .int .u64 0] 67)) (w.heap.size + 1 + 1 + 1) 67 (leC 0 0) := Bk.newK _ _ _ (by simp) rfl
  have be : Below w.heap.size w ((((w.alloc (.cells (leC a b).toArray 67)).alloc (.cells (ringC key n).toArray 56)).alloc (.cells (plC v s).toArray 53)).alloc (.cells #[.int .u64 0, .int .u64 0] 67)) := Below.allocS (Below.allocS (Below.allocS (Below.allocS (Below.refl _ _) _) _) _) _
  have HL := Lib.hid (fun w => leLeft a b w (by omega) hb)
  have HM := Lib.hid (fun w => cidMake_yesO key hk n v s a w hn hv hs ha)
  have t1 : (((b - a : Nat) : Int) == 0) = false := by rw [beq_eq_false_iff_ne]; omega
  clear h0
  generalize b - a = lf at *
  generalize cidB key n v s a = Bx at *
  go_enter Try.func40, Try.ntmps40
  go_upto_region 1 with (fail)
  generalize (((w.alloc (.cells (leC a b).toArray 67)).alloc (.cells (ringC key n).toArray 56)).alloc (.cells (plC v s).toArray 53)).alloc (.cells #[.int .u64 0, .int .u64 0] 67) = W at *
  go_upto_region 3 with (first
    | (refine at_op (.load 67 (.tmp 3)) rfl ?_; refine wpList_ldA (t := 67) 67 (.tmp 3) rfl rfl (leC a b) rfl (by with_reducible repeat (first | exact hL | refine Bk.later ?_ (below_plus _ _ _) | refine Bk.alloc ?_ _)) (whole_ _) ul1 ul2 (szLe _ _) ?_)
    | (go_at_call 39; refine (HL.out _).mono ?_; rintro e w1 ⟨bs1, d1, rfl, rfl⟩))
  replace hL := hL.later (below_plus _ bs1 d1)
  replace hX := hX.later (below_plus _ bs1 d1)
  replace hP := hP.later (below_plus _ bs1 d1)
  replace hZ := hZ.later (below_plus _ bs1 d1)
  replace be := belowP be bs1 d1
  generalize plus W bs1 d1 = W at *
  have q0 : W.cell? ⟨w.heap.size, 0, none⟩ = some (.int .u64 (a : Int)) := hL.cell 0
  have q1 : W.cell? ⟨w.heap.size, 1, none⟩ = some (.int .u64 (b : Int)) := hL.cell 1
  have z0 := hL.lt
  go_upto_region 6 with (first
    | (refine at_op (.load 56 (.tmp 4)) rfl ?_; refine wpList_ldA (t := 56) 56 (.tmp 4) rfl rfl (ringC key n) rfl (by with_reducible repeat (first | exact hX | refine Bk.later ?_ (below_plus _ _ _) | refine Bk.alloc ?_ _)) (ringC_whole key n) vr1 vr2 (szRing key hk n) ?_)
    | (refine at_op (.load 53 (.tmp 5)) rfl ?_; refine wpList_ldA (t := 53) 53 (.tmp 5) rfl rfl (plC v s) rfl (by with_reducible repeat (first | exact hP | refine Bk.later ?_ (below_plus _ _ _) | refine Bk.alloc ?_ _)) (whole_ _) y1 y2 (szPl _ _) ?_)
    | (go_at_call 31; refine (HM.out _).mono ?_; rintro e w1 ⟨A9, n9, c9, bs2, d2, rfl, rfl, h9⟩))
  have hZ0 := hZ
  replace hL := hL.later (below_plus _ bs2 d2)
  replace hX := hX.later (below_plus _ bs2 d2)
  replace hP := hP.later (below_plus _ bs2 d2)
  replace hZ := hZ.later (below_plus _ bs2 d2)
  replace be := belowP be bs2 d2
  clear q0 q1 z0
  have zZ : w.heap.size + 1 + 1 + 1 < W.heap.size := hZ0.lt
  generalize plus W bs2 d2 = W at *
  have q0 : W.cell? ⟨w.heap.size, 0, none⟩ = some (.int .u64 (a : Int)) := hL.cell 0
  have q1 : W.cell? ⟨w.heap.size, 1, none⟩ = some (.int .u64 (b : Int)) := hL.cell 1
  have z0 := hL.lt
  have hw : IntKind.u64.wrap ((a : Int) + 1) = (a : Int) + 1 := IntWalk.u64_in _ (by omega)
  refine wp_tail 8 (by kernel_rfl) (by kernel_rfl) ?_
  simp only [List.take_succ_cons, List.take_zero, List.drop_succ_cons, List.drop_zero]
  repeat still_step
  refine wpStill_nil ?_
  replace hZ := hZ.drew
  have bd : Below w.heap.size w W.drew := be.drew
  go_wp2_with (refine at_op (.store 67 (.tmp 7) (.tmp 33)) rfl ?_; refine wpList_stA (t := 67) 67 (.tmp 7) (.tmp 33) rfl rfl (leC (a + 1) b) (leC 0 0) rfl (leC_one _ _) rfl (by simp [Act.eval, leC, hw]) hZ (szLe _ _) ?_; intro W9 hZ9 hgr)
  refine bodyPost_aggM Try.results40 rfl rfl rfl hZ9.range ul1 ul2 (szLe _ _) rfl ?_
  refine RetTk.mk (h9.drew.grown hgr (fun k hk e => ?_)).rb (below_grown bd hgr (by omega))
  have := (h9.blk k hk).1
  injection e with e
  omega
end Go.Proofs.Ytldecdeiibfekaa
