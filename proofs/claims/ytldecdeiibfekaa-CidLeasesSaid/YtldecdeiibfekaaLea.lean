/- Leases: Left, Cut; the example of chapter 13. -/
import Derived.Test.YtldecdeiibfekaaCid
import Derived.Test.YtldecdeiibfekaaSu
namespace Go.Proofs.Ytldecdeiibfekaa
open Go.RowKit
set_option linter.unusedVariables false
set_option linter.unusedSimpArgs false
attribute [local go_sem ↓] sliced_cut
attribute [local go_sem] cutA_zero

def leC (a b : Nat) : List Value := [.int .u64 (a : Int), .int .u64 (b : Int)]
theorem leC_whole (v s : Nat) : ((leC v s).drop 0).take (leC v s).length = leC v s := rfl
theorem leC_one (v s : Nat) : ∀ u ∈ leC v s, u.oneCell' = true := by
  intro u hu
  simp [leC] at hu
  rcases hu with rfl | rfl <;> rfl
theorem szLe (v s : Nat) : (Try.prog.info? 67).map (·.size) = some (leC v s).length := by kernel_rfl
theorem rowLe : ∃ d, Try.prog.underlying 67 = some d ∧ d.isRow = true := ⟨_, Try.underlying67, rfl⟩
theorem run_buildLe0 (w : World) : (Instr.build 67 #[]).run Try.prog w = .ok (.agg (leC 0 0).toArray) w := by kernel_rfl
theorem bodyPost_aggs {P : Program} {fn : Func} {R : Ending → World → Prop} {a : Act} {w : World} {slot slot2 slot3 ty g g' : Nat} {d : TypeDesc} {cs cs' : List Value} {u' : Value} (hfr : fn.results = #[.cell slot ty, .cell slot2 ty, .tmp slot3]) (hs : a.tmps.getD slot undef = .pointer (some ⟨g, 0, none⟩)) (hs2 : a.tmps.getD slot2 undef = .pointer (some ⟨g', 0, none⟩)) (hs3 : a.tmps.getD slot3 undef = u')
    (hb : w.rangeAt g 0 cs) (hb' : w.rangeAt g' 0 cs') (hu : P.underlying ty = some d) (hd : d.isRow = true) (hi : (P.info? ty).map (·.size) = some cs.length) (hi' : (P.info? ty).map (·.size) = some cs'.length) (hdf : a.defers = []) (hR : R (.returned (.tuple #[.agg cs.toArray, .agg cs'.toArray, u'])) w) : bodyPost P fn R .ret a w := by
  refine bodyPost_ret (v := .tuple #[.agg cs.toArray, .agg cs'.toArray, u']) ?_ hdf hR
  have h1 := run_loadVar_mid (P := P) w g 0 ty cs d hb hu hd hi
  have h2 := run_loadVar_mid (P := P) w g' 0 ty cs' d hb' hu hd hi'
  have hs' : a.tmps[slot]?.getD undef = .pointer (some ⟨g, 0, none⟩) := by simpa using hs
  have hs2' : a.tmps[slot2]?.getD undef = .pointer (some ⟨g', 0, none⟩) := by simpa using hs2
  have hs3' : a.tmps[slot3]?.getD undef = u' := by simpa using hs3
  simp [results, hfr, hs', hs2', hs3', asAddr, h1, h2]
set_option maxHeartbeats 1000000 in
theorem leLeft (a b : Nat) (w : World) (ha : a < 18446744073709551616) (hb : b < 18446744073709551616) : Calls Try.prog 39 #[.agg (leC a b).toArray] w (RetV w (.int .u64 ((b - a : Nat) : Int))) := by
  unfold leC
  by_cases h : b ≤ a
  · go_enter Try.func39, Try.ntmps39
    go_wp2
    go_ret
    exact RetV.is_ (by simp; omega) (Below.allocS (Below.refl _ _) _)
  · go_enter Try.func39, Try.ntmps39
    go_wp2
    go_ret
    exact RetV.is_ (by simp; omega) (Below.allocS (Below.refl _ _) _)
set_option maxHeartbeats 1000000 in
set_option maxRecDepth 100000 in
theorem leCut_no (a b m : Nat) (w : World) (ha : a < 18446744073709551616) (hb : b < 18446744073709551616) (hm : b - a < m) : Calls Try.prog 38 #[.agg (leC a b).toArray, .int .u64 m] w (RetV w (.tuple #[.agg (leC 0 0).toArray, .agg (leC a b).toArray, .int .i64 6])) := by
  obtain ⟨dp, y1, y2⟩ := rowLe
  have b0 : Bk (((w.alloc (.cells (leC a b).toArray 67)).alloc (.cells #[.int .u64 0, .int .u64 0] 67)).alloc (.cells #[.int .u64 0, .int .u64 0] 67)) w.heap.size 67 (leC a b) := ((Bk.new w 67 (leC a b).toArray).alloc _).alloc _
  have b1 : Bk (((w.alloc (.cells (leC a b).toArray 67)).alloc (.cells #[.int .u64 0, .int .u64 0] 67)).alloc (.cells #[.int .u64 0, .int .u64 0] 67)) (w.heap.size + 1) 67 (leC 0 0) := (Bk.newK _ _ _ (by simp) rfl).alloc _
  have b2 : Bk (((w.alloc (.cells (leC a b).toArray 67)).alloc (.cells #[.int .u64 0, .int .u64 0] 67)).alloc (.cells #[.int .u64 0, .int .u64 0] 67)) (w.heap.size + 1 + 1) 67 (leC 0 0) := Bk.newK _ _ _ (by simp) rfl
  have be : Below w.heap.size w (((w.alloc (.cells (leC a b).toArray 67)).alloc (.cells #[.int .u64 0, .int .u64 0] 67)).alloc (.cells #[.int .u64 0, .int .u64 0] 67)) := Below.allocS (Below.allocS (Below.allocS (Below.refl _ _) _) _) _
  have HL := Lib.hid (fun w => leLeft a b w ha hb)
  generalize b - a = z at *
  go_enter Try.func38, Try.ntmps38
  go_upto_region 2 with (first
    | (refine at_op (.load 67 (.tmp 2)) rfl ?_; refine wpList_ldA (t := 67) 67 (.tmp 2) rfl rfl (leC a b) rfl b0 (leC_whole a b) y1 y2 (szLe a b) ?_)
    | (go_at_call 39; refine (HL.out _).mono ?_; rintro e w1 ⟨bs1, d1, rfl, rfl⟩))
  replace b0 := b0.later (below_plus _ bs1 d1)
  replace b1 := b1.later (below_plus _ bs1 d1)
  replace b2 := b2.later (below_plus _ bs1 d1)
  replace be := belowP be bs1 d1
  generalize plus (((w.alloc (.cells (leC a b).toArray 67)).alloc (.cells #[.int .u64 0, .int .u64 0] 67)).alloc (.cells #[.int .u64 0, .int .u64 0] 67)) bs1 d1 = W at *
  refine wp_su (fun b => b = w.heap.size + 1 ∨ b = w.heap.size + 1 + 1) 5 26 2 [2, 3] rfl (by kernel_rfl) (by kernel_rfl) (fun i => match i with | 0 => MC.eq (.agg (leC 0 0).toArray) | 1 => MC.eq (.agg (leC a b).toArray) | 2 => MC.any | 3 => MC.any | 4 => MC.eq (.int .i64 6) | _ => MC.any) (fun k w' => Bk w' (w.heap.size + 1) 67 (if k = 0 then leC 0 0 else leC 0 0) ∧ Bk w' (w.heap.size + 1 + 1) 67 (if k < 2 then leC 0 0 else leC a b)) ?_ ?_ ?_ ?_ ?_
  · exact fun k w w' h h' => ⟨h.1.later h'.below, h.2.later h'.below⟩
  · exact ⟨b1, b2⟩
  · intro i hi o ho hq FA w' hC hO hD K hK
    match i, hi, ho, hq, hO, hD, hK with
    | 0, _, ho, hq, hO, hD, hK => 
      obtain rfl := Option.some.inj ho.symm
      clear ho hq
      clear hO hD
      refine wanted_if rfl ?_
      unfold Oper.wp execOp
      simp only [Sem.run_bind, List.map_toArray, List.map_nil, run_buildLe0, Result.andThen_ok, Sem.run_pure]
      exact hK.out _ _ (Ex.refl _) rfl
    | 1, _, ho, hq, hO, hD, hK => 
      obtain rfl := Option.some.inj ho.symm
      clear ho hq
      have ev2 : FA.eval (.tmp 2) = .pointer (some ⟨w.heap.size, 0, none⟩) := hO 2 (by kernel_rfl)
      have e2 : FA.tmps[2]?.getD undef = .pointer (some ⟨w.heap.size, 0, none⟩) := by simpa [Act.eval] using ev2
      replace ev2 := Lib.hid ev2
      clear hO hD
      refine wanted_if rfl ?_
      refine wp_load_mid 67 (.tmp 2) rfl w.heap.size 0 ev2.out (leC a b) _ (Bk.range (b0.chg hC (by omega))) y1 y2 (szLe a b) ?_
      exact hK.out _ _ (Ex.refl _) rfl
    | 2, _, _, hq, _, _, _ => exact absurd hq (by decide)
    | 3, _, _, hq, _, _, _ => exact absurd hq (by decide)
    | 4, _, ho, hq, hO, hD, hK => 
      obtain rfl := Option.some.inj ho.symm
      clear ho hq
      clear hO hD
      go_simp
      exact hK.out _ _ (Ex.refl _) rfl
    | (k + 5), hi, _, _, _, _, _ => exact absurd hi (by omega)
  · intro k i hk o ho FA w' hC hS hO hD K hK
    match k, hk, hS, hK with
    | 0, hk, hS, hK => 
      obtain rfl : 2 = i := Option.some.inj hk
      obtain rfl := Option.some.inj ho.symm
      clear ho hk
      have ev4 : FA.eval (.tmp 4) = .pointer (some ⟨w.heap.size + 1, 0, none⟩) := hO 4 (by kernel_rfl)
      have e4 : FA.tmps[4]?.getD undef = .pointer (some ⟨w.heap.size + 1, 0, none⟩) := by simpa [Act.eval] using ev4
      replace ev4 := Lib.hid ev4
      have ev12 : FA.eval (.tmp 12) = .agg (leC 0 0).toArray := hD 0 12 (by kernel_rfl)
      have e12 : FA.tmps[12]?.getD undef = .agg (leC 0 0).toArray := by simpa [Act.eval] using ev12
      replace ev12 := Lib.hid ev12
      clear hO hD
      refine wanted_if rfl ?_
      refine wp_stA 67 (.tmp 4) (.tmp 12) rfl (leC 0 0) (leC 0 0) rfl (leC_one _ _) ev4.out ev12.out hS.1 (szLe _ _) ?_
      intro w'' hn hg
      exact hK.out _ _ (Chg.one hg (by omega)) ⟨hn, hS.2.grown hg (by simp)⟩ trivial
    | 1, hk, hS, hK => 
      obtain rfl : 3 = i := Option.some.inj hk
      obtain rfl := Option.some.inj ho.symm
      clear ho hk
      have ev5 : FA.eval (.tmp 5) = .pointer (some ⟨w.heap.size + 1 + 1, 0, none⟩) := hO 5 (by kernel_rfl)
      have e5 : FA.tmps[5]?.getD undef = .pointer (some ⟨w.heap.size + 1 + 1, 0, none⟩) := by simpa [Act.eval] using ev5
      replace ev5 := Lib.hid ev5
      have ev13 : FA.eval (.tmp 13) = .agg (leC a b).toArray := hD 1 13 (by kernel_rfl)
      have e13 : FA.tmps[13]?.getD undef = .agg (leC a b).toArray := by simpa [Act.eval] using ev13
      replace ev13 := Lib.hid ev13
      clear hO hD
      refine wanted_if rfl ?_
      refine wp_stA 67 (.tmp 5) (.tmp 13) rfl (leC a b) (leC 0 0) rfl (leC_one _ _) ev5.out ev13.out hS.2 (szLe _ _) ?_
      intro w'' hn hg
      exact hK.out _ _ (Chg.one hg (by omega)) ⟨hS.1.grown hg (by simp), hn⟩ trivial
    | (k + 2), hk, _, _ => simp at hk
  intro vs w' hC hS hp
  have p0 : vs 0 = .agg (leC 0 0).toArray := hp 0 (by omega) rfl
  have p1 : vs 1 = .agg (leC a b).toArray := hp 1 (by omega) rfl
  have p4 : vs 4 = .int .i64 6 := hp 4 (by omega) rfl
  clear hp
  simp only [List.take_succ_cons, List.take_zero, List.drop_succ_cons, List.drop_zero, putAll, Nat.zero_add, Nat.reduceAdd, Act.put, List.setIfInBounds_toArray, List.set_cons_zero, List.set_cons_succ, p0, p1, p4]
  clear p0 p1 p4
  clear vs
  obtain ⟨h4, h5⟩ := hS
  go_wp2
  refine bodyPost_aggs Try.results38 rfl rfl rfl h4.range h5.range y1 y2 (szLe _ _) (szLe _ _) rfl (RetV.mk ?_)
  exact be.trans (hC.below (B := w.heap.size) (fun b hb => by omega) be.size)

set_option maxHeartbeats 1000000 in
set_option maxRecDepth 100000 in
theorem leCut_yes (a b k m : Nat) (w : World) (ha : a < 18446744073709551616) (hb : b < 18446744073709551616) (hk : k ≤ b - a) (hm : m = a + k) (hml : a + k < 18446744073709551616) : Calls Try.prog 38 #[.agg (leC a b).toArray, .int .u64 k] w (RetV w (.tuple #[.agg (leC a m).toArray, .agg (leC m b).toArray, .int .i64 0])) := by
  obtain ⟨dp, y1, y2⟩ := rowLe
  have b0 : Bk (((w.alloc (.cells (leC a b).toArray 67)).alloc (.cells #[.int .u64 0, .int .u64 0] 67)).alloc (.cells #[.int .u64 0, .int .u64 0] 67)) w.heap.size 67 (leC a b) := ((Bk.new w 67 (leC a b).toArray).alloc _).alloc _
  have b1 : Bk (((w.alloc (.cells (leC a b).toArray 67)).alloc (.cells #[.int .u64 0, .int .u64 0] 67)).alloc (.cells #[.int .u64 0, .int .u64 0] 67)) (w.heap.size + 1) 67 (leC 0 0) := (Bk.newK _ _ _ (by simp) rfl).alloc _
  have b2 : Bk (((w.alloc (.cells (leC a b).toArray 67)).alloc (.cells #[.int .u64 0, .int .u64 0] 67)).alloc (.cells #[.int .u64 0, .int .u64 0] 67)) (w.heap.size + 1 + 1) 67 (leC 0 0) := Bk.newK _ _ _ (by simp) rfl
  have be : Below w.heap.size w (((w.alloc (.cells (leC a b).toArray 67)).alloc (.cells #[.int .u64 0, .int .u64 0] 67)).alloc (.cells #[.int .u64 0, .int .u64 0] 67)) := Below.allocS (Below.allocS (Below.allocS (Below.refl _ _) _) _) _
  have HL := Lib.hid (fun w => leLeft a b w ha hb)
  generalize b - a = z at *
  have q0 : ∀ W, Bk W w.heap.size 67 (leC a b) → W.cell? ⟨w.heap.size, 0, none⟩ = some (.int .u64 (a : Int)) := fun W h => h.cell 0
  have q1 : ∀ W, Bk W w.heap.size 67 (leC a b) → W.cell? ⟨w.heap.size, 1, none⟩ = some (.int .u64 (b : Int)) := fun W h => h.cell 1
  replace q0 := Lib.hid q0
  replace q1 := Lib.hid q1
  replace hm := Lib.hid hm
  go_enter Try.func38, Try.ntmps38
  go_upto_region 3 with (first
    | (refine at_op (.load 67 (.tmp 2)) rfl ?_; refine wpList_ldA (t := 67) 67 (.tmp 2) rfl rfl (leC a b) rfl b0 (leC_whole a b) y1 y2 (szLe a b) ?_)
    | (go_at_call 39; refine (HL.out _).mono ?_; rintro e w1 ⟨bs1, d1, rfl, rfl⟩))
  replace b0 := b0.later (below_plus _ bs1 d1)
  replace b1 := b1.later (below_plus _ bs1 d1)
  replace b2 := b2.later (below_plus _ bs1 d1)
  replace be := belowP be bs1 d1
  generalize plus (((w.alloc (.cells (leC a b).toArray 67)).alloc (.cells #[.int .u64 0, .int .u64 0] 67)).alloc (.cells #[.int .u64 0, .int .u64 0] 67)) bs1 d1 = W at *
  have z0 := b0.lt
  have c0 := q0.out _ b0
  have c1 := q1.out _ b0
  have hm' : (a : Int) + (k : Int) = (m : Int) := by rw [hm.out]; simp
  go_wp2
  refine wp_su (fun b => b = w.heap.size + 1 ∨ b = w.heap.size + 1 + 1) 11 26 2 [8, 9] rfl (by kernel_rfl) (by kernel_rfl) (fun i => match i with | 0 => MC.eq (.pointer (some ⟨w.heap.size, 0, none⟩)) | 1 => MC.eq (.int .u64 (a : Int)) | 2 => MC.eq (.int .u64 (m : Int)) | 3 => MC.eq (.agg (leC a m).toArray) | 4 => MC.eq (.int .u64 (m : Int)) | 5 => MC.eq (.pointer (some ⟨w.heap.size, 1, none⟩)) | 6 => MC.eq (.int .u64 (b : Int)) | 7 => MC.eq (.agg (leC m b).toArray) | 8 => MC.any | 9 => MC.any | 10 => MC.eq (.int .i64 0) | _ => MC.any) (fun k w' => Bk w' (w.heap.size + 1) 67 (if k = 0 then leC 0 0 else leC a m) ∧ Bk w' (w.heap.size + 1 + 1) 67 (if k < 2 then leC 0 0 else leC m b)) ?_ ?_ ?_ ?_ ?_
  · exact fun k w w' h h' => ⟨h.1.later h'.below, h.2.later h'.below⟩
  · exact ⟨b1, b2⟩
  · intro i hi o ho hq FA w' hC hO hD K hK
    match i, hi, ho, hq, hO, hD, hK with
    | 0, _, ho, hq, hO, hD, hK => 
      obtain rfl := Option.some.inj ho.symm
      clear ho hq
      have ev2 : FA.eval (.tmp 2) = .pointer (some ⟨w.heap.size, 0, none⟩) := hO 2 (by kernel_rfl)
      have e2 : FA.tmps[2]?.getD undef = .pointer (some ⟨w.heap.size, 0, none⟩) := by simpa [Act.eval] using ev2
      replace ev2 := Lib.hid ev2
      clear hO hD
      go_simp
      exact hK.out _ _ (Ex.refl _) rfl
    | 1, _, ho, hq, hO, hD, hK => 
      obtain rfl := Option.some.inj ho.symm
      clear ho hq
      have ev18 : FA.eval (.tmp 18) = .pointer (some ⟨w.heap.size, 0, none⟩) := hD 0 18 (by kernel_rfl)
      have e18 : FA.tmps[18]?.getD undef = .pointer (some ⟨w.heap.size, 0, none⟩) := by simpa [Act.eval] using ev18
      replace ev18 := Lib.hid ev18
      clear hO hD
      have z0' := (b0.chg hC (by omega)).lt
      have cc := q0.out _ (b0.chg hC (by omega))
      go_simp
      exact hK.out _ _ (Ex.refl _) rfl
    | 2, _, ho, hq, hO, hD, hK => 
      obtain rfl := Option.some.inj ho.symm
      clear ho hq
      have ev7 : FA.eval (.tmp 7) = .int .u64 (m : Int) := hO 7 (by kernel_rfl)
      have e7 : FA.tmps[7]?.getD undef = .int .u64 (m : Int) := by simpa [Act.eval] using ev7
      replace ev7 := Lib.hid ev7
      clear hO hD
      go_simp
      exact hK.out _ _ (Ex.refl _) rfl
    | 3, _, ho, hq, hO, hD, hK => 
      obtain rfl := Option.some.inj ho.symm
      clear ho hq
      have ev19 : FA.eval (.tmp 19) = .int .u64 (a : Int) := hD 1 19 (by kernel_rfl)
      have e19 : FA.tmps[19]?.getD undef = .int .u64 (a : Int) := by simpa [Act.eval] using ev19
      replace ev19 := Lib.hid ev19
      have ev20 : FA.eval (.tmp 20) = .int .u64 (m : Int) := hD 2 20 (by kernel_rfl)
      have e20 : FA.tmps[20]?.getD undef = .int .u64 (m : Int) := by simpa [Act.eval] using ev20
      replace ev20 := Lib.hid ev20
      clear hO hD
      go_simp
      exact hK.out _ _ (Ex.refl _) rfl
    | 4, _, ho, hq, hO, hD, hK => 
      obtain rfl := Option.some.inj ho.symm
      clear ho hq
      have ev7 : FA.eval (.tmp 7) = .int .u64 (m : Int) := hO 7 (by kernel_rfl)
      have e7 : FA.tmps[7]?.getD undef = .int .u64 (m : Int) := by simpa [Act.eval] using ev7
      replace ev7 := Lib.hid ev7
      clear hO hD
      go_simp
      exact hK.out _ _ (Ex.refl _) rfl
    | 5, _, ho, hq, hO, hD, hK => 
      obtain rfl := Option.some.inj ho.symm
      clear ho hq
      have ev2 : FA.eval (.tmp 2) = .pointer (some ⟨w.heap.size, 0, none⟩) := hO 2 (by kernel_rfl)
      have e2 : FA.tmps[2]?.getD undef = .pointer (some ⟨w.heap.size, 0, none⟩) := by simpa [Act.eval] using ev2
      replace ev2 := Lib.hid ev2
      clear hO hD
      go_simp
      exact hK.out _ _ (Ex.refl _) rfl
    | 6, _, ho, hq, hO, hD, hK => 
      obtain rfl := Option.some.inj ho.symm
      clear ho hq
      have ev23 : FA.eval (.tmp 23) = .pointer (some ⟨w.heap.size, 1, none⟩) := hD 5 23 (by kernel_rfl)
      have e23 : FA.tmps[23]?.getD undef = .pointer (some ⟨w.heap.size, 1, none⟩) := by simpa [Act.eval] using ev23
      replace ev23 := Lib.hid ev23
      clear hO hD
      have z0' := (b0.chg hC (by omega)).lt
      have cc := q1.out _ (b0.chg hC (by omega))
      go_simp
      exact hK.out _ _ (Ex.refl _) rfl
    | 7, _, ho, hq, hO, hD, hK => 
      obtain rfl := Option.some.inj ho.symm
      clear ho hq
      have ev22 : FA.eval (.tmp 22) = .int .u64 (m : Int) := hD 4 22 (by kernel_rfl)
      have e22 : FA.tmps[22]?.getD undef = .int .u64 (m : Int) := by simpa [Act.eval] using ev22
      replace ev22 := Lib.hid ev22
      have ev24 : FA.eval (.tmp 24) = .int .u64 (b : Int) := hD 6 24 (by kernel_rfl)
      have e24 : FA.tmps[24]?.getD undef = .int .u64 (b : Int) := by simpa [Act.eval] using ev24
      replace ev24 := Lib.hid ev24
      clear hO hD
      go_simp
      exact hK.out _ _ (Ex.refl _) rfl
    | 8, _, _, hq, _, _, _ => exact absurd hq (by decide)
    | 9, _, _, hq, _, _, _ => exact absurd hq (by decide)
    | 10, _, ho, hq, hO, hD, hK => 
      obtain rfl := Option.some.inj ho.symm
      clear ho hq
      clear hO hD
      go_simp
      exact hK.out _ _ (Ex.refl _) rfl
    | (k + 11), hi, _, _, _, _, _ => exact absurd hi (by omega)
  · intro k i hk o ho FA w' hC hS hO hD K hK
    match k, hk, hS, hK with
    | 0, hk, hS, hK => 
      obtain rfl : 8 = i := Option.some.inj hk
      obtain rfl := Option.some.inj ho.symm
      clear ho hk
      have ev4 : FA.eval (.tmp 4) = .pointer (some ⟨w.heap.size + 1, 0, none⟩) := hO 4 (by kernel_rfl)
      have e4 : FA.tmps[4]?.getD undef = .pointer (some ⟨w.heap.size + 1, 0, none⟩) := by simpa [Act.eval] using ev4
      replace ev4 := Lib.hid ev4
      have ev21 : FA.eval (.tmp 21) = .agg (leC a m).toArray := hD 3 21 (by kernel_rfl)
      have e21 : FA.tmps[21]?.getD undef = .agg (leC a m).toArray := by simpa [Act.eval] using ev21
      replace ev21 := Lib.hid ev21
      clear hO hD
      refine wanted_if rfl ?_
      refine wp_stA 67 (.tmp 4) (.tmp 21) rfl (leC a m) (leC 0 0) rfl (leC_one _ _) ev4.out ev21.out hS.1 (szLe _ _) ?_
      intro w'' hn hg
      exact hK.out _ _ (Chg.one hg (by omega)) ⟨hn, hS.2.grown hg (by simp)⟩ trivial
    | 1, hk, hS, hK => 
      obtain rfl : 9 = i := Option.some.inj hk
      obtain rfl := Option.some.inj ho.symm
      clear ho hk
      have ev5 : FA.eval (.tmp 5) = .pointer (some ⟨w.heap.size + 1 + 1, 0, none⟩) := hO 5 (by kernel_rfl)
      have e5 : FA.tmps[5]?.getD undef = .pointer (some ⟨w.heap.size + 1 + 1, 0, none⟩) := by simpa [Act.eval] using ev5
      replace ev5 := Lib.hid ev5
      have ev25 : FA.eval (.tmp 25) = .agg (leC m b).toArray := hD 7 25 (by kernel_rfl)
      have e25 : FA.tmps[25]?.getD undef = .agg (leC m b).toArray := by simpa [Act.eval] using ev25
      replace ev25 := Lib.hid ev25
      clear hO hD
      refine wanted_if rfl ?_
      refine wp_stA 67 (.tmp 5) (.tmp 25) rfl (leC m b) (leC 0 0) rfl (leC_one _ _) ev5.out ev25.out hS.2 (szLe _ _) ?_
      intro w'' hn hg
      exact hK.out _ _ (Chg.one hg (by omega)) ⟨hS.1.grown hg (by simp), hn⟩ trivial
    | (k + 2), hk, _, _ => simp at hk
  intro vs w' hC hS hp
  have p0 : vs 0 = .pointer (some ⟨w.heap.size, 0, none⟩) := hp 0 (by omega) rfl
  have p1 : vs 1 = .int .u64 (a : Int) := hp 1 (by omega) rfl
  have p2 : vs 2 = .int .u64 (m : Int) := hp 2 (by omega) rfl
  have p3 : vs 3 = .agg (leC a m).toArray := hp 3 (by omega) rfl
  have p4 : vs 4 = .int .u64 (m : Int) := hp 4 (by omega) rfl
  have p5 : vs 5 = .pointer (some ⟨w.heap.size, 1, none⟩) := hp 5 (by omega) rfl
  have p6 : vs 6 = .int .u64 (b : Int) := hp 6 (by omega) rfl
  have p7 : vs 7 = .agg (leC m b).toArray := hp 7 (by omega) rfl
  have p10 : vs 10 = .int .i64 0 := hp 10 (by omega) rfl
  clear hp
  simp only [List.take_succ_cons, List.take_zero, List.drop_succ_cons, List.drop_zero, putAll, Nat.zero_add, Nat.reduceAdd, Act.put, List.setIfInBounds_toArray, List.set_cons_zero, List.set_cons_succ, p0, p1, p2, p3, p4, p5, p6, p7, p10]
  clear p0 p1 p2 p3 p4 p5 p6 p7 p10
  clear vs
  obtain ⟨h4, h5⟩ := hS
  go_wp2
  refine bodyPost_aggs Try.results38 rfl rfl rfl h4.range h5.range y1 y2 (szLe _ _) (szLe _ _) rfl (RetV.mk ?_)
  exact be.trans (hC.below (B := w.heap.size) (fun b hb => by omega) be.size)

set_option maxHeartbeats 1000000 in
set_option maxRecDepth 100000 in
theorem cidAwake (w : World) : Calls Try.prog 33 #[] w (RetV w (.bool true)) := by
  have HC : ∀ w, Calls Try.prog 38 #[.agg #[.int .u64 3, .int .u64 5], .int .u64 1] w (RetV w (.tuple #[.agg #[.int .u64 3, .int .u64 4], .agg #[.int .u64 4, .int .u64 5], .int .i64 0])) := fun w => leCut_yes 3 5 1 4 w (by decide) (by decide) (by decide) rfl (by decide)
  have HL : ∀ w, Calls Try.prog 39 #[.agg #[.int .u64 4, .int .u64 5]] w (RetV w (.int .u64 1)) := fun w => leLeft 4 5 w (by decide) (by decide)
  replace HC := Lib.hid HC
  replace HL := Lib.hid HL
  go_enter Try.func33, Try.ntmps33
  go_wp2_with (first
    | (go_at_call 38; refine (HC.out _).mono ?_; rintro e w1 ⟨bs1, d1, rfl, rfl⟩)
    | (go_at_call 39; refine (HL.out _).mono ?_; rintro e w1 ⟨bs2, d2, rfl, rfl⟩))
  go_ret
  refine RetV.is_ rfl ?_
  repeat (first | exact Below.refl _ _ | refine belowP ?_ _ _ | refine Below.allocS ?_ _)
end Go.Proofs.Ytldecdeiibfekaa
