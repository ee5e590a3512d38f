/- Texts of the law CodecStates, part 3. -/
import Derived.Test.YtljlflmkmjcnnaaGreatDoorZCodecStates2
set_option linter.unusedVariables false
set_option linter.unusedSimpArgs false
namespace Go.Proofs.YtljlflmkmjcnnaaGreatDoor
section
open Go.RowKit
attribute [local go_sem ↓] sliced_cut
attribute [local go_sem] cutA_zero
def stk0 : Stk := ⟨[], 0, 0⟩
def RetRS (D : Nat → Prop) (w : World) (S : Stk) (F : Value → Value) (e : Ending) (w' : World) : Prop := ∃ A n c bs d, e = .returned (F (.agg (rstC A n c S).toArray)) ∧ w' = plus w bs d ∧ RSt D (plus w bs d) S.lv A n c
theorem RetRS.mk {D : Nat → Prop} {w w' : World} {S S' : Stk} {F : Value → Value} {A : Option Addr} {n c : Nat} {v : Value} (hv : v = F (.agg (rstC A n c S).toArray)) (h : RSt D w' S.lv A n c) (hb : Below w.heap.size w w') : RetRS D w S F (.returned v) w' := by
 obtain ⟨bs, d, rfl⟩ := plus_of hb
 exact ⟨A, n, c, bs, d, by rw [hv], rfl, h⟩
theorem refBz_evi (S : Stk) (n : Int) : refBz (eviS S n) = refBz S := by unfold eviS; split <;> rfl
theorem lv_evi (S : Stk) (n : Int) : (eviS S n).lv = S.lv := by unfold eviS; split <;> rfl
theorem refBz_adm (S : Stk) (n : Int) : refBz (admS S n) = refBz S := by unfold admS; split <;> rfl
theorem lv_adm (S : Stk) (n : Int) : (admS S n).lv = S.lv := by unfold admS; split <;> rfl
theorem refEv_rls (S : Stk) (n : Int) : refEv (rlsS S n) = refEv S := by unfold rlsS; split <;> rfl
theorem lv_rls (S : Stk) (n : Int) : (rlsS S n).lv = S.lv := by unfold rlsS; split <;> rfl
set_option maxHeartbeats 4000000
set_option maxRecDepth 100000
theorem refEvict_any (S : Stk) (A : Option Addr) (n c : Nat) (v : Int) (w : World) {D : Nat → Prop} (hD : ∀ b, D b → b < w.heap.size) (hR : RSt D w S.lv A n c) : Calls Tryz.prog 126 #[.agg (rstC A n c S).toArray, .int .i64 v] w (RetRS D w (eviS S v) (fun x => .tuple #[x, .int .i64 (eviE S v : Nat)])) := by
 obtain ⟨EE, hEE⟩ : ∃ x, eviE S v = x := ⟨_, rfl⟩
 rw [hEE]
 have HEE := Lib.hid hEE
 clear hEE
 have hRR := Lib.hid (fun W (h : Below w.heap.size w W) => show RSt D W (eviS S v).lv A n c by rw [lv_evi]; exact hR.later h)
 cases hnb : numB v
 ·have he := Lib.hid (show EE = 1 by rw [← HEE.out]; unfold eviE; rw [hnb]; rfl)
  have hs : eviS S v = S := by unfold eviS; rw [hnb]; rfl
  rw [hs] at hRR ⊢
  have hno : v < 1 ∨ 64 < v := by simp [numB] at hnb; omega
  clear hs hnb HEE
  have hzv : ∀ w, (zeroValue 113).run Tryz.prog w = .ok (.agg (rstC none 0 0 stk0).toArray) w := fun _ => by kernel_rfl
  obtain ⟨dvr1, vr1, vr2⟩ := rowRst
  obtain ⟨bs, bz, be, zV⟩ := box2 w 113 113 (rstC A n c S) (rstC none 0 0 stk0)
  go_enter Tryz.func126, Tryz.ntmps126
  go_upto_region 1 with (fail)
  generalize (w.alloc (.cells (rstC A n c S).toArray 113)).alloc (.cells (rstC none 0 0 stk0).toArray 113) = V at *
  by_cases h1 : v < 1
  ·clear hno
   go_upto_region 2 with (fail)
   refine wp_region_lit ?_
   refine wpList_ldA (t := 113) 113 (.tmp 2) rfl rfl (rstC A n c S) rfl (bs) (whole_ _) vr1 vr2 (szRst A n c S) ?_
   simp only [Act.put, qsT, qsZ, qsS]
   refine wpList_stA (t := 113) 113 (.tmp 4) (.tmp 12) rfl rfl (rstC A n c S) (rstC none 0 0 stk0) (by rw [rstC_len, rstC_len]) (rstC_one _ _ _ _) rfl rfl bz (szRst _ _ _ _) ?_
   intro W9 h9 g9
   refine wpList_plain rfl (fun K hK => ?_); go_simp; with_reducible refine hK _ _ ?_; clear hK K
   go_wp2
   refine bodyPost_agg2 Tryz.results126 rfl rfl h9.range vr1 vr2 (szRst _ _ _ _) rfl ?_
   exact RetRS.mk (S' := S) (by rw [he.out]; rfl) (hRR.out _ (below_grown be g9 (by omega))) (below_grown be g9 (by omega))
  ·have h2 : 64 < v := by omega
   clear hno
   go_upto_region 2 with (fail)
   refine wp_region_lit ?_
   refine wpList_ldA (t := 113) 113 (.tmp 2) rfl rfl (rstC A n c S) rfl (bs) (whole_ _) vr1 vr2 (szRst A n c S) ?_
   simp only [Act.put, qsT, qsZ, qsS]
   refine wpList_stA (t := 113) 113 (.tmp 4) (.tmp 12) rfl rfl (rstC A n c S) (rstC none 0 0 stk0) (by rw [rstC_len, rstC_len]) (rstC_one _ _ _ _) rfl rfl bz (szRst _ _ _ _) ?_
   intro W9 h9 g9
   refine wpList_plain rfl (fun K hK => ?_); go_simp; with_reducible refine hK _ _ ?_; clear hK K
   go_wp2
   refine bodyPost_agg2 Tryz.results126 rfl rfl h9.range vr1 vr2 (szRst _ _ _ _) rfl ?_
   exact RetRS.mk (S' := S) (by rw [he.out]; rfl) (hRR.out _ (below_grown be g9 (by omega))) (below_grown be g9 (by omega))
 ·have hr := numB_rg hnb
  obtain ⟨i, rfl⟩ : ∃ i : Nat, v = i := ⟨v.toNat, by omega⟩
  have i1 : ¬ (i : Int) < 1 := by omega
  have i2 : ¬ 64 < (i : Int) := by omega
  have i3 : (i : Int) < 65 := by omega
  have hc := rstC_ev A n c S i (by omega)
  cases hd : deadS S (i : Int)
  ·have he := Lib.hid (show EE = 0 by rw [← HEE.out]; unfold eviE; rw [hnb, hd]; rfl)
   have hset := Lib.hid (rstC_setEv A n c S (eviS S (i : Int)) i (by omega) true (by have := refEv_evi (S := S) (n := (i : Int)) (by rw [hnb, hd]; rfl); simpa using this) (refBz_evi S _))
   rw [hd] at hc
   clear HEE hnb hd
   generalize eviS S (i : Int) = ES at *
   have hzv : ∀ w, (zeroValue 113).run Tryz.prog w = .ok (.agg (rstC none 0 0 stk0).toArray) w := fun _ => by kernel_rfl
   obtain ⟨dvr1, vr1, vr2⟩ := rowRst
   obtain ⟨bs, bz, be, zV⟩ := box2 w 113 113 (rstC A n c S) (rstC none 0 0 stk0)
   go_enter Tryz.func126, Tryz.ntmps126
   go_upto_region 1 with (fail)
   generalize (w.alloc (.cells (rstC A n c S).toArray 113)).alloc (.cells (rstC none 0 0 stk0).toArray 113) = V at *
   have q0 : V.cell? ⟨w.heap.size, 1 + i, none⟩ = some (.bool false) := (bs.cell _).trans hc
   go_upto_region 5 with (fail)
   refine wp_region_lit ?_
   iterate 3 (refine wpList_plain rfl (fun K hK => ?_); go_simp; with_reducible refine hK _ _ ?_; clear hK K)
   refine wpList_st1 4 (.tmp 20) (.const (.bool true)) rfl rfl rfl rfl bs (by rw [rstC_len]; omega) rfl (by kernel_rfl) ?_
   intro W4 h4 g4
   simp only [Act.put, qsT, qsZ, qsS]
   replace bs : Bk W4 w.heap.size 113 (rstC A n c ES) := by rw [← hset.out]; exact h4
   replace bz := bz.grown g4 (fun e => by injection e with e; omega)
   replace be := below_grown be g4 (Nat.le_refl _)
   clear h4 g4 q0
   go_upto_region 6 with (fail)
   refine wp_region_lit ?_
   refine wpList_ldA (t := 113) 113 (.tmp 2) rfl rfl (rstC A n c ES) rfl (bs) (whole_ _) vr1 vr2 (szRst A n c ES) ?_
   simp only [Act.put, qsT, qsZ, qsS]
   refine wpList_stA (t := 113) 113 (.tmp 4) (.tmp 21) rfl rfl (rstC A n c ES) (rstC none 0 0 stk0) (by rw [rstC_len, rstC_len]) (rstC_one _ _ _ _) rfl rfl bz (szRst _ _ _ _) ?_
   intro W9 h9 g9
   refine wpList_plain rfl (fun K hK => ?_); go_simp; with_reducible refine hK _ _ ?_; clear hK K
   go_wp2
   refine bodyPost_agg2 Tryz.results126 rfl rfl h9.range vr1 vr2 (szRst _ _ _ _) rfl ?_
   exact RetRS.mk (S' := S) (by rw [he.out]; rfl) (hRR.out _ (below_grown be g9 (by omega))) (below_grown be g9 (by omega))
  ·have he := Lib.hid (show EE = 7 by rw [← HEE.out]; unfold eviE; rw [hnb, hd]; rfl)
   have hs : eviS S (i : Int) = S := by unfold eviS; rw [hnb, hd]; rfl
   rw [hs] at hRR ⊢
   rw [hd] at hc
   clear HEE hnb hd hs
   have hzv : ∀ w, (zeroValue 113).run Tryz.prog w = .ok (.agg (rstC none 0 0 stk0).toArray) w := fun _ => by kernel_rfl
   obtain ⟨dvr1, vr1, vr2⟩ := rowRst
   obtain ⟨bs, bz, be, zV⟩ := box2 w 113 113 (rstC A n c S) (rstC none 0 0 stk0)
   go_enter Tryz.func126, Tryz.ntmps126
   go_upto_region 1 with (fail)
   generalize (w.alloc (.cells (rstC A n c S).toArray 113)).alloc (.cells (rstC none 0 0 stk0).toArray 113) = V at *
   have q0 : V.cell? ⟨w.heap.size, 1 + i, none⟩ = some (.bool true) := (bs.cell _).trans hc
   go_upto_region 4 with (fail)
   refine wp_region_lit ?_
   refine wpList_ldA (t := 113) 113 (.tmp 2) rfl rfl (rstC A n c S) rfl (bs) (whole_ _) vr1 vr2 (szRst A n c S) ?_
   simp only [Act.put, qsT, qsZ, qsS]
   refine wpList_stA (t := 113) 113 (.tmp 4) (.tmp 17) rfl rfl (rstC A n c S) (rstC none 0 0 stk0) (by rw [rstC_len, rstC_len]) (rstC_one _ _ _ _) rfl rfl bz (szRst _ _ _ _) ?_
   intro W9 h9 g9
   refine wpList_plain rfl (fun K hK => ?_); go_simp; with_reducible refine hK _ _ ?_; clear hK K
   go_wp2
   refine bodyPost_agg2 Tryz.results126 rfl rfl h9.range vr1 vr2 (szRst _ _ _ _) rfl ?_
   exact RetRS.mk (S' := S) (by rw [he.out]; rfl) (hRR.out _ (below_grown be g9 (by omega))) (below_grown be g9 (by omega))
theorem refAdmit_any (S : Stk) (hok : StkOk S) (A : Option Addr) (n c : Nat) (v : Int) (w : World) {D : Nat → Prop} (hD : ∀ b, D b → b < w.heap.size) (hR : RSt D w S.lv A n c) : Calls Tryz.prog 127 #[.agg (rstC A n c S).toArray, .int .i64 v] w (RetRS D w (admS S v) (fun x => .tuple #[x, .int .i64 (admE S v : Nat)])) := by
 obtain ⟨EE, hEE⟩ : ∃ x, admE S v = x := ⟨_, rfl⟩
 rw [hEE]
 have HEE := Lib.hid hEE
 clear hEE
 have hRR := Lib.hid (fun W (h : Below w.heap.size w W) => show RSt D W (admS S v).lv A n c by rw [lv_adm]; exact hR.later h)
 have HD := Lib.hid (fun w => refDead_any S A n c v w)
 cases hd : deadS S v
 ·have he := Lib.hid (show EE = 6 by rw [← HEE.out]; unfold admE; rw [hd]; rfl)
  have hs : admS S v = S := by unfold admS; rw [hd]; rfl
  rw [hs] at hRR ⊢
  rw [hd] at HD
  clear HEE hs hd
  have hzv : ∀ w, (zeroValue 113).run Tryz.prog w = .ok (.agg (rstC none 0 0 stk0).toArray) w := fun _ => by kernel_rfl
  obtain ⟨dvr1, vr1, vr2⟩ := rowRst
  obtain ⟨bs, bz, be, zV⟩ := box2 w 113 113 (rstC A n c S) (rstC none 0 0 stk0)
  go_enter Tryz.func127, Tryz.ntmps127
  go_upto_region 1 with (fail)
  generalize (w.alloc (.cells (rstC A n c S).toArray 113)).alloc (.cells (rstC none 0 0 stk0).toArray 113) = V at *
  go_upto_region 1 with (fail)
  refine wp_region_lit ?_
  refine wpList_ldA (t := 113) 113 (.tmp 2) rfl rfl (rstC A n c S) rfl (bs) (whole_ _) vr1 vr2 (szRst A n c S) ?_
  refine wpList_plain rfl (fun K hK => ?_); go_simp; with_reducible refine hK _ _ ?_; clear hK K
  refine wpList_plain rfl (fun K hK => ?_)
  go_simp
  refine (HD.out _).mono ?_
  rintro e w1 ⟨bs1, d1, rfl, rfl⟩
  with_reducible refine hK _ _ ?_
  clear hK K
  replace bs := bs.later (below_plus V bs1 d1)
  replace bz := bz.later (below_plus V bs1 d1)
  replace be := belowP be bs1 d1
  replace zV : w.heap.size + 2 ≤ (plus V bs1 d1).heap.size := by simp [size_plus]; omega
  generalize plus V bs1 d1 = V1 at *
  refine wpList_plain rfl (fun K hK => ?_); go_simp; with_reducible refine hK _ _ ?_; clear hK K
  go_upto_region 2 with (fail)
  refine wp_region_lit ?_
  refine wpList_ldA (t := 113) 113 (.tmp 2) rfl rfl (rstC A n c S) rfl (bs) (whole_ _) vr1 vr2 (szRst A n c S) ?_
  simp only [Act.put, qsT, qsZ, qsS]
  refine wpList_stA (t := 113) 113 (.tmp 4) (.tmp 10) rfl rfl (rstC A n c S) (rstC none 0 0 stk0) (by rw [rstC_len, rstC_len]) (rstC_one _ _ _ _) rfl rfl bz (szRst _ _ _ _) ?_
  intro W9 h9 g9
  refine wpList_plain rfl (fun K hK => ?_); go_simp; with_reducible refine hK _ _ ?_; clear hK K
  go_wp2
  refine bodyPost_agg2 Tryz.results127 rfl rfl h9.range vr1 vr2 (szRst _ _ _ _) rfl ?_
  exact RetRS.mk (S' := S) (by rw [he.out]; rfl) (hRR.out _ (below_grown be g9 (by omega))) (below_grown be g9 (by omega))
 ·have hr := hasB_rg hd
  obtain ⟨i, rfl⟩ : ∃ i : Nat, v = i := ⟨v.toNat, by omega⟩
  have i3 : (i : Int) < 65 := by omega
  have he := Lib.hid (show EE = 0 by rw [← HEE.out]; unfold admE; rw [hd]; rfl)
  have hset := Lib.hid (rstC_setEv A n c S (admS S (i : Int)) i (by omega) false (by have := refEv_adm (S := S) (n := (i : Int)) hok.ev hd; simpa using this) (refBz_adm S _))
  rw [hd] at HD
  clear HEE hd hr
  generalize admS S (i : Int) = ES at *
  have hzv : ∀ w, (zeroValue 113).run Tryz.prog w = .ok (.agg (rstC none 0 0 stk0).toArray) w := fun _ => by kernel_rfl
  obtain ⟨dvr1, vr1, vr2⟩ := rowRst
  obtain ⟨bs, bz, be, zV⟩ := box2 w 113 113 (rstC A n c S) (rstC none 0 0 stk0)
  go_enter Tryz.func127, Tryz.ntmps127
  go_upto_region 1 with (fail)
  generalize (w.alloc (.cells (rstC A n c S).toArray 113)).alloc (.cells (rstC none 0 0 stk0).toArray 113) = V at *
  go_upto_region 1 with (fail)
  refine wp_region_lit ?_
  refine wpList_ldA (t := 113) 113 (.tmp 2) rfl rfl (rstC A n c S) rfl (bs) (whole_ _) vr1 vr2 (szRst A n c S) ?_
  refine wpList_plain rfl (fun K hK => ?_); go_simp; with_reducible refine hK _ _ ?_; clear hK K
  refine wpList_plain rfl (fun K hK => ?_)
  go_simp
  refine (HD.out _).mono ?_
  rintro e w1 ⟨bs1, d1, rfl, rfl⟩
  with_reducible refine hK _ _ ?_
  clear hK K
  replace bs := bs.later (below_plus V bs1 d1)
  replace bz := bz.later (below_plus V bs1 d1)
  replace be := belowP be bs1 d1
  replace zV : w.heap.size + 2 ≤ (plus V bs1 d1).heap.size := by simp [size_plus]; omega
  generalize plus V bs1 d1 = V1 at *
  refine wpList_plain rfl (fun K hK => ?_); go_simp; with_reducible refine hK _ _ ?_; clear hK K
  go_upto_region 3 with (fail)
  refine wp_region_lit ?_
  iterate 3 (refine wpList_plain rfl (fun K hK => ?_); go_simp; with_reducible refine hK _ _ ?_; clear hK K)
  refine wpList_st1 4 (.tmp 13) (.const (.bool false)) rfl rfl rfl rfl bs (by rw [rstC_len]; omega) rfl (by kernel_rfl) ?_
  intro W4 h4 g4
  simp only [Act.put, qsT, qsZ, qsS]
  replace bs : Bk W4 w.heap.size 113 (rstC A n c ES) := by rw [← hset.out]; exact h4
  replace bz := bz.grown g4 (fun e => by injection e with e; omega)
  replace be := below_grown be g4 (Nat.le_refl _)
  clear h4 g4
  go_upto_region 4 with (fail)
  refine wp_region_lit ?_
  refine wpList_ldA (t := 113) 113 (.tmp 2) rfl rfl (rstC A n c ES) rfl (bs) (whole_ _) vr1 vr2 (szRst A n c ES) ?_
  simp only [Act.put, qsT, qsZ, qsS]
  refine wpList_stA (t := 113) 113 (.tmp 4) (.tmp 14) rfl rfl (rstC A n c ES) (rstC none 0 0 stk0) (by rw [rstC_len, rstC_len]) (rstC_one _ _ _ _) rfl rfl bz (szRst _ _ _ _) ?_
  intro W9 h9 g9
  refine wpList_plain rfl (fun K hK => ?_); go_simp; with_reducible refine hK _ _ ?_; clear hK K
  go_wp2
  refine bodyPost_agg2 Tryz.results127 rfl rfl h9.range vr1 vr2 (szRst _ _ _ _) rfl ?_
  exact RetRS.mk (S' := S) (by rw [he.out]; rfl) (hRR.out _ (below_grown be g9 (by omega))) (below_grown be g9 (by omega))
theorem refRelease_any (S : Stk) (hok : StkOk S) (A : Option Addr) (n c : Nat) (v : Int) (w : World) {D : Nat → Prop} (hD : ∀ b, D b → b < w.heap.size) (hR : RSt D w S.lv A n c) : Calls Tryz.prog 74 #[.agg (rstC A n c S).toArray, .int .i64 v] w (RetRS D w (rlsS S v) (fun x => .tuple #[x, .int .i64 (rlsE S v : Nat)])) := by
 obtain ⟨EE, hEE⟩ : ∃ x, rlsE S v = x := ⟨_, rfl⟩
 rw [hEE]
 have HEE := Lib.hid hEE
 clear hEE
 have hRR := Lib.hid (fun W (h : Below w.heap.size w W) => show RSt D W (rlsS S v).lv A n c by rw [lv_rls]; exact hR.later h)
 cases hd : hasB S.bz v 0 8
 ·have he := Lib.hid (show EE = 6 by rw [← HEE.out]; unfold rlsE; rw [hd]; rfl)
  have hs : rlsS S v = S := by unfold rlsS; rw [hd]; rfl
  rw [hs] at hRR ⊢
  clear HEE hs
  by_cases h1 : v < 0
  ·clear hd
   have hzv : ∀ w, (zeroValue 113).run Tryz.prog w = .ok (.agg (rstC none 0 0 stk0).toArray) w := fun _ => by kernel_rfl
   obtain ⟨dvr1, vr1, vr2⟩ := rowRst
   obtain ⟨bs, bz, be, zV⟩ := box2 w 113 113 (rstC A n c S) (rstC none 0 0 stk0)
   go_enter Tryz.func74, Tryz.ntmps74
   go_upto_region 1 with (fail)
   generalize (w.alloc (.cells (rstC A n c S).toArray 113)).alloc (.cells (rstC none 0 0 stk0).toArray 113) = V at *
   go_upto_region 2 with (fail)
   refine wp_region_lit ?_
   refine wpList_ldA (t := 113) 113 (.tmp 2) rfl rfl (rstC A n c S) rfl (bs) (whole_ _) vr1 vr2 (szRst A n c S) ?_
   simp only [Act.put, qsT, qsZ, qsS]
   refine wpList_stA (t := 113) 113 (.tmp 4) (.tmp 19) rfl rfl (rstC A n c S) (rstC none 0 0 stk0) (by rw [rstC_len, rstC_len]) (rstC_one _ _ _ _) rfl rfl bz (szRst _ _ _ _) ?_
   intro W9 h9 g9
   refine wpList_plain rfl (fun K hK => ?_); go_simp; with_reducible refine hK _ _ ?_; clear hK K
   go_wp2
   refine bodyPost_agg2 Tryz.results74 rfl rfl h9.range vr1 vr2 (szRst _ _ _ _) rfl ?_
   exact RetRS.mk (S' := S) (by rw [he.out]; rfl) (hRR.out _ (below_grown be g9 (by omega))) (below_grown be g9 (by omega))
  ·by_cases h2 : 7 < v
   ·clear hd
    have hzv : ∀ w, (zeroValue 113).run Tryz.prog w = .ok (.agg (rstC none 0 0 stk0).toArray) w := fun _ => by kernel_rfl
    obtain ⟨dvr1, vr1, vr2⟩ := rowRst
    obtain ⟨bs, bz, be, zV⟩ := box2 w 113 113 (rstC A n c S) (rstC none 0 0 stk0)
    go_enter Tryz.func74, Tryz.ntmps74
    go_upto_region 1 with (fail)
    generalize (w.alloc (.cells (rstC A n c S).toArray 113)).alloc (.cells (rstC none 0 0 stk0).toArray 113) = V at *
    go_upto_region 2 with (fail)
    refine wp_region_lit ?_
    refine wpList_ldA (t := 113) 113 (.tmp 2) rfl rfl (rstC A n c S) rfl (bs) (whole_ _) vr1 vr2 (szRst A n c S) ?_
    simp only [Act.put, qsT, qsZ, qsS]
    refine wpList_stA (t := 113) 113 (.tmp 4) (.tmp 19) rfl rfl (rstC A n c S) (rstC none 0 0 stk0) (by rw [rstC_len, rstC_len]) (rstC_one _ _ _ _) rfl rfl bz (szRst _ _ _ _) ?_
    intro W9 h9 g9
    refine wpList_plain rfl (fun K hK => ?_); go_simp; with_reducible refine hK _ _ ?_; clear hK K
    go_wp2
    refine bodyPost_agg2 Tryz.results74 rfl rfl h9.range vr1 vr2 (szRst _ _ _ _) rfl ?_
    exact RetRS.mk (S' := S) (by rw [he.out]; rfl) (hRR.out _ (below_grown be g9 (by omega))) (below_grown be g9 (by omega))
   ·obtain ⟨i, rfl⟩ : ∃ i : Nat, v = i := ⟨v.toNat, by omega⟩
    have i3 : (i : Int) < 8 := by omega
    have hc := rstC_bz A n c S i (by omega)
    have hb : S.bz.testBit i = false := by
     unfold hasB at hd
     rw [decide_eq_true (show ((0 : Nat) : Int) ≤ (i : Int) by omega), decide_eq_true (show (i : Int) < ((0 : Nat) : Int) + (8 : Nat) by omega), show ((i : Int) - ((0 : Nat) : Int)).toNat = i by omega] at hd
     simpa using hd
    rw [hb] at hc
    clear hd hb
    have hzv : ∀ w, (zeroValue 113).run Tryz.prog w = .ok (.agg (rstC none 0 0 stk0).toArray) w := fun _ => by kernel_rfl
    obtain ⟨dvr1, vr1, vr2⟩ := rowRst
    obtain ⟨bs, bz, be, zV⟩ := box2 w 113 113 (rstC A n c S) (rstC none 0 0 stk0)
    go_enter Tryz.func74, Tryz.ntmps74
    go_upto_region 1 with (fail)
    generalize (w.alloc (.cells (rstC A n c S).toArray 113)).alloc (.cells (rstC none 0 0 stk0).toArray 113) = V at *
    have q0 : V.cell? ⟨w.heap.size, 66 + i, none⟩ = some (.bool false) := (bs.cell _).trans hc
    go_upto_region 2 with (fail)
    refine wp_region_lit ?_
    refine wpList_ldA (t := 113) 113 (.tmp 2) rfl rfl (rstC A n c S) rfl (bs) (whole_ _) vr1 vr2 (szRst A n c S) ?_
    simp only [Act.put, qsT, qsZ, qsS]
    refine wpList_stA (t := 113) 113 (.tmp 4) (.tmp 19) rfl rfl (rstC A n c S) (rstC none 0 0 stk0) (by rw [rstC_len, rstC_len]) (rstC_one _ _ _ _) rfl rfl bz (szRst _ _ _ _) ?_
    intro W9 h9 g9
    refine wpList_plain rfl (fun K hK => ?_); go_simp; with_reducible refine hK _ _ ?_; clear hK K
    go_wp2
    refine bodyPost_agg2 Tryz.results74 rfl rfl h9.range vr1 vr2 (szRst _ _ _ _) rfl ?_
    exact RetRS.mk (S' := S) (by rw [he.out]; rfl) (hRR.out _ (below_grown be g9 (by omega))) (below_grown be g9 (by omega))
 ·have hr := hasB_rg hd
  obtain ⟨i, rfl⟩ : ∃ i : Nat, v = i := ⟨v.toNat, by omega⟩
  have i1 : ¬ (i : Int) < 0 := by omega
  have i2 : ¬ 7 < (i : Int) := by omega
  have i3 : (i : Int) < 8 := by omega
  have hc := rstC_bz A n c S i (by omega)
  have hb : S.bz.testBit i = true := by have := hr.2.2; rwa [show ((i : Int) - ((0 : Nat) : Int)).toNat = i by omega] at this
  rw [hb] at hc
  have he := Lib.hid (show EE = 0 by rw [← HEE.out]; unfold rlsE; rw [hd]; rfl)
  have hset := Lib.hid (rstC_setBz A n c S (rlsS S (i : Int)) i false (by have := refBz_rel (S := S) (v := (i : Int)) hd hok; simpa using this) (refEv_rls S _))
  clear HEE hd hr hb
  generalize rlsS S (i : Int) = ES at *
  have hzv : ∀ w, (zeroValue 113).run Tryz.prog w = .ok (.agg (rstC none 0 0 stk0).toArray) w := fun _ => by kernel_rfl
  obtain ⟨dvr1, vr1, vr2⟩ := rowRst
  obtain ⟨bs, bz, be, zV⟩ := box2 w 113 113 (rstC A n c S) (rstC none 0 0 stk0)
  go_enter Tryz.func74, Tryz.ntmps74
  go_upto_region 1 with (fail)
  generalize (w.alloc (.cells (rstC A n c S).toArray 113)).alloc (.cells (rstC none 0 0 stk0).toArray 113) = V at *
  have q0 : V.cell? ⟨w.heap.size, 66 + i, none⟩ = some (.bool true) := (bs.cell _).trans hc
  go_upto_region 3 with (fail)
  refine wp_region_lit ?_
  iterate 3 (refine wpList_plain rfl (fun K hK => ?_); go_simp; with_reducible refine hK _ _ ?_; clear hK K)
  refine wpList_st1 4 (.tmp 22) (.const (.bool false)) rfl rfl rfl rfl bs (by rw [rstC_len]; omega) rfl (by kernel_rfl) ?_
  intro W4 h4 g4
  simp only [Act.put, qsT, qsZ, qsS]
  replace bs : Bk W4 w.heap.size 113 (rstC A n c ES) := by rw [← hset.out]; exact h4
  replace bz := bz.grown g4 (fun e => by injection e with e; omega)
  replace be := below_grown be g4 (Nat.le_refl _)
  clear h4 g4 q0
  go_upto_region 4 with (fail)
  refine wp_region_lit ?_
  refine wpList_ldA (t := 113) 113 (.tmp 2) rfl rfl (rstC A n c ES) rfl (bs) (whole_ _) vr1 vr2 (szRst A n c ES) ?_
  simp only [Act.put, qsT, qsZ, qsS]
  refine wpList_stA (t := 113) 113 (.tmp 4) (.tmp 23) rfl rfl (rstC A n c ES) (rstC none 0 0 stk0) (by rw [rstC_len, rstC_len]) (rstC_one _ _ _ _) rfl rfl bz (szRst _ _ _ _) ?_
  intro W9 h9 g9
  refine wpList_plain rfl (fun K hK => ?_); go_simp; with_reducible refine hK _ _ ?_; clear hK K
  go_wp2
  refine bodyPost_agg2 Tryz.results74 rfl rfl h9.range vr1 vr2 (szRst _ _ _ _) rfl ?_
  exact RetRS.mk (S' := S) (by rw [he.out]; rfl) (hRR.out _ (below_grown be g9 (by omega))) (below_grown be g9 (by omega))
theorem etE : ET Tryz.prog 110 165 (.agg #[.int .i64 0, .slice none 0 0]) 2 32 := ⟨Tryz.underlying110, by kernel_rfl, rfl, by decide, by decide⟩
theorem bodyPost_agg3s {P : Program} {fn : Func} {R : Ending → World → Prop} {a : Act} {w : World} {slot slot2 slot3 ty g : Nat} {d : TypeDesc} {cs : List Value} {u u' : Value} (hfr : fn.results = #[.cell slot ty, .tmp slot2, .tmp slot3]) (hs : a.tmps.getD slot undef = .pointer (some ⟨g, 0, none⟩)) (hs2 : a.tmps.getD slot2 undef = u) (hs3 : a.tmps.getD slot3 undef = u')
  (hb : w.rangeAt g 0 cs) (hu : P.underlying ty = some d) (hd : d.isRow = true) (hi : (P.info? ty).map (·.size) = some cs.length) (hdf : a.defers = []) (hR : R (.returned (.tuple #[.agg cs.toArray, u, u'])) w) : bodyPost P fn R .ret a w := by
 refine bodyPost_ret (v := .tuple #[.agg cs.toArray, u, u']) ?_ hdf hR
 have h1 := run_loadVar_mid (P := P) w g 0 ty cs d hb hu hd hi
 have hs' : a.tmps[slot]?.getD undef = .pointer (some ⟨g, 0, none⟩) := by simpa using hs
 have hs2' : a.tmps[slot2]?.getD undef = u := by simpa using hs2
 have hs3' : a.tmps[slot3]?.getD undef = u' := by simpa using hs3
 simp [results, hfr, hs', hs2', hs3', asAddr, h1]
theorem rstC_setL (A : Option Addr) (n c : Nat) (B : Option Addr) (m d : Nat) (S S' : Stk) (h1 : S'.ev = S.ev) (h2 : S'.bz = S.bz) : (rstC A n c S).set 0 (.slice B m d) = rstC B m d S' := by
 unfold rstC refEv refBz deadS
 rw [h1, h2]
 rfl
theorem refPush_any (S : Stk) (hok : StkOk S) (A : Option Addr) (n c : Nat) (t : Tab) (B : Option Addr) (m d : Nat) (w : World) {D : Nat → Prop} (hD : ∀ b, D b → b < w.heap.size) (hR : RSt D w S.lv A n c) (hT : Rs 1 w B m d (itK (refT t))) (hB : Off D w B) : Calls Tryz.prog 129 #[.agg (rstC A n c S).toArray, .slice B m d] w (RetRS D w (pushS S t) (fun x => .tuple #[x, .int .i64 (pushV S : Nat), .int .i64 (pushE S : Nat)])) := by
 have HF := Lib.hid (fun w h => refFree_any S hok.len A n c w (D := D) h)
 have HR0 := Lib.hid (And.intro hR hT)
 obtain ⟨PV, hPV⟩ : ∃ x, pushV S = x := ⟨_, rfl⟩
 obtain ⟨PE, hPE⟩ : ∃ x, pushE S = x := ⟨_, rfl⟩
 rw [hPV, hPE]
 have HPV := Lib.hid hPV
 have HPE := Lib.hid hPE
 clear hPV hPE
 have hn8 : n ≤ 8 := by have := hR.len; have := hok.len; omega
 by_cases hf : freeS S < 8
 ·have e1 : frR S = (freeS S : Int) := if_pos hf
  rw [e1] at HF
  have hs : pushS S t = { S with lv := S.lv ++ [(freeS S, t)] } := if_pos hf
  rw [hs]
  have hv := Lib.hid (show PV = freeS S by rw [← HPV.out]; exact if_pos hf)
  have he := Lib.hid (show PE = 0 by rw [← HPE.out]; exact if_pos hf)
  clear HPV HPE e1 hs
  generalize freeS S = fv at *
  have i0 : ¬ (fv : Int) < 0 := by omega
  have hzv : ∀ w, (zeroValue 113).run Tryz.prog w = .ok (.agg (rstC none 0 0 stk0).toArray) w := fun _ => by kernel_rfl
  obtain ⟨dvr1, vr1, vr2⟩ := rowRst
  obtain ⟨bs, bz, be, zV⟩ := box2 w 113 113 (rstC A n c S) (rstC none 0 0 stk0)
  go_enter Tryz.func129, Tryz.ntmps129
  go_upto_region 1 with (fail)
  generalize (w.alloc (.cells (rstC A n c S).toArray 113)).alloc (.cells (rstC none 0 0 stk0).toArray 113) = V at *
  go_upto_region 1 with (fail)
  obtain ⟨E, hE0, hrE0, -, hEd⟩ := HR0.out.1
  have HE0 := Lib.hid hE0
  have HrE0 := Lib.hid hrE0
  clear hE0 hrE0
  replace hR := hR.later be
  replace hT := hT.later be
  refine wp_region_lit ?_
  refine wpList_ldA (t := 113) 113 (.tmp 2) rfl rfl (rstC A n c S) rfl (bs) (whole_ _) vr1 vr2 (szRst A n c S) ?_
  refine wpList_plain rfl (fun K hK => ?_)
  go_simp
  refine (HF.out _ hR).mono ?_
  rintro e w1 ⟨bs1, d1, rfl, rfl⟩
  with_reducible refine hK _ _ ?_
  clear hK K
  refine wpList_plain rfl (fun K hK => ?_); go_simp; with_reducible refine hK _ _ ?_; clear hK K
  replace hR := hR.later (below_plus V bs1 d1)
  replace hT := hT.later (below_plus V bs1 d1)
  replace bs := bs.later (below_plus V bs1 d1)
  replace bz := bz.later (below_plus V bs1 d1)
  replace be := belowP be bs1 d1
  clear HF zV
  generalize plus V bs1 d1 = W at *
  have zW := bz.lt
  have hE := HE0.out.later be
  have hrE := HrE0.out.later be
  have hnE : n ≤ 8 := hn8
  go_upto_region 4 with (fail)
  refine wp_region_lit ?_
  iterate 2 (refine wpList_plain rfl (fun K hK => ?_); go_simp; with_reducible refine hK _ _ ?_; clear hK K)
  refine wpList_ld1 (t := 113) (cs := rstC A n c S) 110 (.tmp 14) rfl (by rfl) rfl (bs.alloc _) rfl Tryz.underlying110 rfl ?_
  simp only [Act.put, qsT, qsZ, qsS]
  refine wpList_appS etE rfl (.tmp 13) (.tmp 15) rfl rfl (Os.lit W (Nat.le_refl _) #[] 0 rfl (Nat.zero_le _)) rfl (hrE.alloc _) (flat_one enE enE_one _) (by omega) (by simp) ?_
  intro A2 n2 c2 w4 hn2 hO4 hb4 hg4
  subst hn2
  simp only [Act.put, qsT, qsZ, qsS]
  have hb4W : Below W.heap.size W w4 := (Below.allocS (Below.refl _ _) _).trans hb4
  simp only [List.nil_append, Nat.zero_add] at hO4
  iterate 4 (refine wpList_plain rfl (fun K hK => ?_); go_simp; with_reducible refine hK _ _ ?_; clear hK K)
  have belowW : Below W.heap.size W (w4.alloc (.cells #[.int .i64 (fv : Int), .slice B m d] 165)) := Below.allocS hb4W _
  refine wpList_appS etE rfl (.tmp 16) (.tmp 20) rfl rfl (hO4.later (Below.allocS (Below.refl _ _) _)) rfl (Rs.of_bk (n := 1) (c := 1) (Bk.new w4 _ _) rfl (Nat.le_refl _)) (by simp [Value.oneCell']) (by omega) belowW.size ?_
  intro A3 n3 c3 w5 hn3 hO5 hb5 hg5
  subst hn3
  simp only [Act.put, qsT, qsZ, qsS]
  have hbw := belowW.trans hb5
  replace bs := bs.later hbw
  replace bz := bz.later hbw
  replace be := be.trans (hbw.mono be.size)
  have zw := hbw.size
  clear belowW hO4 hb4 hg4 hb4W hb5 hg5 hE hrE hT hbw
  have hset := rstC_setL A n c A3 (n + 1) c3 S { S with lv := S.lv ++ [(fv, t)] } rfl rfl
  refine wpList_plain rfl (fun K hK => ?_); go_simp; with_reducible refine hK _ _ ?_; clear hK K
  refine wpList_st1 110 (.tmp 22) (.tmp 21) rfl rfl rfl rfl bs (by rw [rstC_len]; omega) rfl (by kernel_rfl) ?_
  intro W6 h6 g6
  simp only [Act.put, qsT, qsZ, qsS]
  replace bs : Bk W6 w.heap.size 113 (rstC A3 (n + 1) c3 { S with lv := S.lv ++ [(fv, t)] }) := by rw [← hset]; exact h6
  replace bz := bz.grown g6 (fun e => by injection e with e; omega)
  have hO6 := hO5.grown g6 (fun k hk e => by have := (hO5.blk k hk).1; injection e with e; omega)
  replace be := below_grown be g6 (Nat.le_refl _)
  clear h6 g6 hO5 hset
  generalize hES : ({ S with lv := S.lv ++ [(fv, t)] } : Stk) = ES at *
  go_upto_region 5 with (fail)
  refine wp_region_lit ?_
  refine wpList_ldA (t := 113) 113 (.tmp 2) rfl rfl (rstC A3 (n + 1) c3 ES) rfl (bs) (whole_ _) vr1 vr2 (szRst A3 (n + 1) c3 ES) ?_
  refine wpList_plain rfl (fun K hK => ?_); go_simp; with_reducible refine hK _ _ ?_; clear hK K
  refine wpList_stA (t := 113) 113 (.tmp 4) (.tmp 23) rfl rfl (rstC A3 (n + 1) c3 ES) (rstC none 0 0 stk0) (by rw [rstC_len, rstC_len]) (rstC_one _ _ _ _) rfl rfl bz (szRst _ _ _ _) ?_
  intro W9 h9 g9
  iterate 2 (refine wpList_plain rfl (fun K hK => ?_); go_simp; with_reducible refine hK _ _ ?_; clear hK K)
  go_wp2
  refine bodyPost_agg3s Tryz.results129 rfl rfl rfl h9.range vr1 vr2 (szRst _ _ _ _) rfl ?_
  have be9 := below_grown be g9 (by omega)
  have hO9 := hO6.grown g9 (fun k hk e => by have := (hO6.blk k hk).1; injection e with e; omega)
  refine RetRS.mk (S' := S) (by rw [hv.out, he.out]; rfl) ?_ be9
  rw [← hES]
  refine ⟨E ++ [(fv, B, m, d)], (HE0.out.later be9).snoc fv t B m d (HR0.out.2.later be9), ?_, Off.own hO9 (fun b hb => by have := hD b hb; omega), fun e he => ?_⟩
  ·have := hO9.rs
   rw [List.flatMap_append]
   simpa [enE] using this
  ·rcases List.mem_append.1 he with he | he
   ·exact (hEd e he).size be9.size
   ·simp only [List.mem_cons, List.not_mem_nil, or_false] at he
    subst he
    exact hB.size be9.size
 ·have e1 : frR S = -1 := if_neg hf
  rw [e1] at HF
  have hs : pushS S t = S := if_neg hf
  rw [hs]
  have hv := Lib.hid (show PV = 0 by rw [← HPV.out]; exact if_neg hf)
  have he := Lib.hid (show PE = 23 by rw [← HPE.out]; exact if_neg hf)
  clear HPV HPE e1 hs
  have hzv : ∀ w, (zeroValue 113).run Tryz.prog w = .ok (.agg (rstC none 0 0 stk0).toArray) w := fun _ => by kernel_rfl
  obtain ⟨dvr1, vr1, vr2⟩ := rowRst
  obtain ⟨bs, bz, be, zV⟩ := box2 w 113 113 (rstC A n c S) (rstC none 0 0 stk0)
  go_enter Tryz.func129, Tryz.ntmps129
  go_upto_region 1 with (fail)
  generalize (w.alloc (.cells (rstC A n c S).toArray 113)).alloc (.cells (rstC none 0 0 stk0).toArray 113) = V at *
  go_upto_region 1 with (fail)
  replace hR := hR.later be
  refine wp_region_lit ?_
  refine wpList_ldA (t := 113) 113 (.tmp 2) rfl rfl (rstC A n c S) rfl (bs) (whole_ _) vr1 vr2 (szRst A n c S) ?_
  refine wpList_plain rfl (fun K hK => ?_)
  go_simp
  refine (HF.out _ hR).mono ?_
  rintro e w1 ⟨bs1, d1, rfl, rfl⟩
  with_reducible refine hK _ _ ?_
  clear hK K
  refine wpList_plain rfl (fun K hK => ?_); go_simp; with_reducible refine hK _ _ ?_; clear hK K
  replace hR := hR.later (below_plus V bs1 d1)
  replace bs := bs.later (below_plus V bs1 d1)
  replace bz := bz.later (below_plus V bs1 d1)
  replace be := belowP be bs1 d1
  clear HF zV
  generalize plus V bs1 d1 = W at *
  have zW := bz.lt
  go_upto_region 3 with (fail)
  refine wp_region_lit ?_
  refine wpList_ldA (t := 113) 113 (.tmp 2) rfl rfl (rstC A n c S) rfl (bs) (whole_ _) vr1 vr2 (szRst A n c S) ?_
  simp only [Act.put, qsT, qsZ, qsS]
  refine wpList_stA (t := 113) 113 (.tmp 4) (.tmp 12) rfl rfl (rstC A n c S) (rstC none 0 0 stk0) (by rw [rstC_len, rstC_len]) (rstC_one _ _ _ _) rfl rfl bz (szRst _ _ _ _) ?_
  intro W9 h9 g9
  iterate 2 (refine wpList_plain rfl (fun K hK => ?_); go_simp; with_reducible refine hK _ _ ?_; clear hK K)
  go_wp2
  refine bodyPost_agg3s Tryz.results129 rfl rfl rfl h9.range vr1 vr2 (szRst _ _ _ _) rfl ?_
  exact RetRS.mk (S' := S) (by rw [hv.out, he.out]; rfl) (HR0.out.1.later (below_grown be g9 (by omega))) (below_grown be g9 (by omega))
theorem refEv_ret (S : Stk) (v : Int) : refEv (retS S v) = refEv S := by unfold retS; split <;> rfl
theorem refRetire_any (S : Stk) (hok : StkOk S) (A : Option Addr) (n c : Nat) (v : Int) (w : World) {D : Nat → Prop} (hD : ∀ b, D b → b < w.heap.size) (hR : RSt D w S.lv A n c) : Calls Tryz.prog 73 #[.agg (rstC A n c S).toArray, .int .i64 v] w (RetRS D w (retS S v) (fun x => .tuple #[x, .int .i64 (retE S v : Nat)])) := by
 have h8 := hok.len
 have HI := Lib.hid (fun w h => refIndexS_any S h8 A n c v w (D := D) h)
 obtain ⟨EE, hEE⟩ : ∃ x, retE S v = x := ⟨_, rfl⟩
 rw [hEE]
 have HEE := Lib.hid hEE
 clear hEE
 have hn := hR.len
 have hcap := hR.cap
 have HR0 := Lib.hid hR
 by_cases hl : idxS S v < S.lv.length
 ·have hix : ixS S v = (idxS S v : Int) := if_pos hl
  rw [hix] at HI
  by_cases hl2 : idxS S v + 1 < S.lv.length
  ·have he := Lib.hid (show EE = 0 by rw [← HEE.out]; unfold retE; rw [if_pos hl2])
   obtain ⟨E, hE0, hrE0, -, hEd⟩ := hR
   have hat := idxS_at hl
   have hv8 := (hok.rg _ (List.getElem_mem hl)).1
   obtain ⟨i, rfl⟩ : ∃ i : Nat, v = i := ⟨v.toNat, by omega⟩
   have hi8 : i < 8 := by omega
   have hlv : (retS S (i : Int)).lv = S.lv.eraseIdx (idxS S (i : Int)) := by unfold retS; rw [if_pos hl2]
   have hEE0 : EnOk w (retS S (i : Int)).lv (E.eraseIdx (idxS S (i : Int))) := by rw [hlv]; exact hE0.erase _
   have hbz : refBz (retS S (i : Int)) = (refBz S).set i true := by have := refBz_ret hl2 hok; simpa using this
   have hev := refEv_ret S (i : Int)
   have hEl := hE0.1
   clear hat hv8 hix hE0
   generalize idxS S (i : Int) = k at *
   generalize retS S (i : Int) = RS at *
   clear HEE hlv
   have HEE0 := Lib.hid hEE0
   have HBZ := Lib.hid hbz
   have HEV := Lib.hid hev
   obtain ⟨xb, xo, rfl, hxb, -⟩ := hrE0.at_ (by omega) (by decide)
   have htake0 : Rs 2 w (some ⟨xb, xo, none⟩) k c ((E.take k).flatMap enE) := by have h := hrE0.take (k := k) (by omega); rw [flat_take enE 2 enE_len] at h; exact h
   have hcut0 : Rs 2 w (cutA (some ⟨xb, xo, none⟩) c (k + 1) 2) (n - (k + 1)) (c - (k + 1)) ((E.drop (k + 1)).flatMap enE) := by have h := hrE0.cut (k := k + 1) (by omega); rw [flat_drop enE 2 enE_len] at h; exact h
   have l1 : k ≤ n := by omega
   have l2 : (k : Int) ≤ (n : Int) := by omega
   have l3 : (n : Int) ≤ (c : Int) := by omega
   have l4 : k ≤ c := by omega
   have l5 : (k : Int) ≤ (c : Int) := by omega
   have l6 : k + 1 ≤ n := by omega
   have l7 : ((k + 1 : Nat) : Int) ≤ (n : Int) := by omega
   have l8 : IntKind.i64.wrap ((k : Int) + 1) = ((k + 1 : Nat) : Int) := by rw [IntWalk.i64_in _ (by omega)]; simp
   have l9 : ((k + 1 : Nat) : Int) ≤ (c : Int) := by omega
   have l10 : k + 1 ≤ c := by omega
   have l11 : 0 ≤ (k : Int) + 1 := by omega
   have l12 : (k : Int) + 1 ≤ (n : Int) := by omega
   have l13 : ¬ (k : Int) < 0 := by omega
   have l14 : IntKind.i64.wrap ((n : Int) - 1) = (n : Int) - 1 := IntWalk.i64_in _ (by omega)
   have l15 : ((k : Int) == (n : Int) - 1) = false := by simp; omega
   have n8 : n ≤ 8 := by omega
   have ii8 : (i : Int) < 8 := by omega
   clear hn hEE0 hbz hev hEl hrE0 hcap
   have hzv : ∀ w, (zeroValue 113).run Tryz.prog w = .ok (.agg (rstC none 0 0 stk0).toArray) w := fun _ => by kernel_rfl
   obtain ⟨dvr1, vr1, vr2⟩ := rowRst
   obtain ⟨bs, bz, be, zV⟩ := box2 w 113 113 (rstC (some ⟨xb, xo, none⟩) n c S) (rstC none 0 0 stk0)
   go_enter Tryz.func73, Tryz.ntmps73
   go_upto_region 1 with (fail)
   generalize (w.alloc (.cells (rstC (some ⟨xb, xo, none⟩) n c S).toArray 113)).alloc (.cells (rstC none 0 0 stk0).toArray 113) = V at *
   go_upto_region 1 with (fail)
   refine wp_region_lit ?_
   refine wpList_ldA (t := 113) 113 (.tmp 2) rfl rfl (rstC (some ⟨xb, xo, none⟩) n c S) rfl (bs) (whole_ _) vr1 vr2 (szRst _ _ _ _) ?_
   refine wpList_plain rfl (fun K hK => ?_); go_simp; with_reducible refine hK _ _ ?_; clear hK K
   refine wpList_plain rfl (fun K hK => ?_)
   go_simp
   refine (HI.out _ (HR0.out.later be)).mono ?_
   rintro e w1 ⟨bs1, d1, rfl, rfl⟩
   with_reducible refine hK _ _ ?_
   clear hK K
   replace bs := bs.later (below_plus V bs1 d1)
   replace bz := bz.later (below_plus V bs1 d1)
   replace be := belowP be bs1 d1
   have zW := bz.lt
   clear HI zV
   generalize plus V bs1 d1 = W at *
   refine wpList_plain rfl (fun K hK => ?_); go_simp; with_reducible refine hK _ _ ?_; clear hK K
   have htake := htake0.later be
   have hcut := hcut0.later be
   have q0 : W.cell? ⟨w.heap.size, 0, none⟩ = some (.slice (some ⟨xb, xo, none⟩) n c) := bs.cell 0
   go_upto_region 6 with (fail)
   clear q0
   refine wp_relS 11 37 rfl (by kernel_rfl) (by kernel_rfl) ?_
   apply Steps.o1 (MP.ofs 165 2 W.heap.size []) 1 rfl rfl
   ·intro FA x hO hD K hK
    clear hO hD
    go_simp
    refine hK.out _ _ (Ex.alloc _ _) ⟨_, _, rfl, ?_⟩
    have h := Os.lit (s := 2) (e := 165) (base := W.heap.size) (plus W x.bs x.d) (by simp [size_plus]) #[] 0 rfl (Nat.zero_le _)
    rw [size_plus] at h
    exact h
   apply Steps.o1 (MP.eq _) 2 rfl rfl
   ·intro FA x hO hD K hK
    have e2 := hO 2 (by kernel_rfl)
    simp only [eval_tmp, qgT, qgS, qgZ, qoS] at e2
    have ev2 := Lib.hid ((eval_tmp FA 2).trans e2)
    clear hO hD
    go_simp
    exact hK.out _ _ (Ex.refl _) rfl
   apply Steps.o1 (MP.eq _) 3 rfl rfl
   ·intro FA x hO hD K hK
    obtain ⟨e21, ev21⟩ := qE (hD 1 21 (by kernel_rfl))
    clear hO hD
    refine wanted_if rfl ?_
    refine wp_ld1 110 (.tmp 21) rfl ev21.out (bs.later (below_plus _ _ _)) rfl Tryz.underlying110 rfl ?_
    exact hK.out _ _ (Ex.refl _) rfl
   apply Steps.o1 (MP.eq _) 4 rfl rfl
   ·intro FA x hO hD K hK
    have e6 := hO 6 (by kernel_rfl)
    simp only [eval_tmp, qgT, qgS, qgZ, qoS] at e6
    have ev6 := Lib.hid ((eval_tmp FA 6).trans e6)
    clear hO hD
    go_simp
    exact hK.out _ _ (Ex.refl _) rfl
   apply Steps.o1 (MP.eq _) 5 rfl rfl
   ·intro FA x hO hD K hK
    obtain ⟨e22, ev22⟩ := qE (hD 2 22 (by kernel_rfl))
    obtain ⟨e23, ev23⟩ := qE (hD 3 23 (by kernel_rfl))
    clear hO hD
    go_simp
    exact hK.out _ _ (Ex.refl _) rfl
   apply Steps.o1 (MP.os 165 2 W.heap.size ([] ++ (E.take k).flatMap enE)) 6 rfl rfl
   ·intro FA x hO hD K hK
    obtain ⟨u20, f20, e20, ev20⟩ := qG (hD 0 20 (by kernel_rfl))
    obtain ⟨e24, ev24⟩ := qE (hD 4 24 (by kernel_rfl))
    clear hO hD
    obtain ⟨A1, n1, hv1, h1⟩ := f20
    have hn1 : n1 = 0 := by have := h1.rs.1; simp at this; omega
    subst hn1
    refine wanted_if rfl ?_
    refine wp_appFS etE (.tmp 20) (.tmp 24) rfl (ev20.out.trans hv1) h1 ev24.out (htake.plus_ x.bs x.d) (flat_one enE enE_one _) (by omega) (by simp [size_plus]) ?_
    intro A3 n3 c3 w3 hn3 ho3 hex
    exact hK.out _ _ hex ⟨_, _, _, rfl, ho3⟩
   apply Steps.o1 (MP.eq _) 7 rfl rfl
   ·intro FA x hO hD K hK
    have e2 := hO 2 (by kernel_rfl)
    simp only [eval_tmp, qgT, qgS, qgZ, qoS] at e2
    have ev2 := Lib.hid ((eval_tmp FA 2).trans e2)
    clear hO hD
    go_simp
    exact hK.out _ _ (Ex.refl _) rfl
   apply Steps.o1 (MP.eq _) 8 rfl rfl
   ·intro FA x hO hD K hK
    obtain ⟨e26, ev26⟩ := qE (hD 6 26 (by kernel_rfl))
    clear hO hD
    refine wanted_if rfl ?_
    refine wp_ld1 110 (.tmp 26) rfl ev26.out (bs.later (below_plus _ _ _)) rfl Tryz.underlying110 rfl ?_
    exact hK.out _ _ (Ex.refl _) rfl
   apply Steps.o1 (MP.eq _) 9 rfl rfl
   ·intro FA x hO hD K hK
    have e6 := hO 6 (by kernel_rfl)
    simp only [eval_tmp, qgT, qgS, qgZ, qoS] at e6
    have ev6 := Lib.hid ((eval_tmp FA 6).trans e6)
    clear hO hD
    go_simp
    exact hK.out _ _ (Ex.refl _) rfl
   apply Steps.o1 (MP.eq _) 10 rfl rfl
   ·intro FA x hO hD K hK
    obtain ⟨e28, ev28⟩ := qE (hD 8 28 (by kernel_rfl))
    clear hO hD
    go_simp
    exact hK.out _ _ (Ex.refl _) rfl
   apply Steps.o1 (MP.eq _) 11 rfl rfl
   ·intro FA x hO hD K hK
    obtain ⟨e27, ev27⟩ := qE (hD 7 27 (by kernel_rfl))
    obtain ⟨e29, ev29⟩ := qE (hD 9 29 (by kernel_rfl))
    clear hO hD
    go_simp
    exact hK.out _ _ (Ex.refl _) rfl
   refine Steps.fin_ (fun vs x hp => ?_)
   have p0 := hp 0 (by omega)
   have p1 : vs 1 = _ := hp 1 (by omega)
   have p2 : vs 2 = _ := hp 2 (by omega)
   have p3 : vs 3 = _ := hp 3 (by omega)
   have p4 : vs 4 = _ := hp 4 (by omega)
   have p5 := hp 5 (by omega)
   have p6 : vs 6 = _ := hp 6 (by omega)
   have p7 : vs 7 = _ := hp 7 (by omega)
   have p8 : vs 8 = _ := hp 8 (by omega)
   have p9 : vs 9 = _ := hp 9 (by omega)
   have p10 : vs 10 = _ := hp 10 (by omega)
   clear hp
   simp only [List.take_succ_cons, List.take_zero, List.drop_succ_cons, List.drop_zero, putAll, Nat.zero_add, Nat.reduceAdd, Act.put, qsT, qsZ, qsS, p1, p2, p3, p4, p6, p7, p8, p9, p10]
   clear p1 p2 p3 p4 p6 p7 p8 p9 p10
   generalize vs 0 = y0 at *
   generalize vs 5 = y5 at *
   clear vs
   obtain ⟨A4, n4, c4, rfl, h4⟩ := p5
   have hbx := below_plus W x.bs x.d
   replace hcut := hcut.later hbx
   replace bs := bs.later hbx
   replace bz := bz.later hbx
   replace be := be.trans (hbx.mono be.size)
   have zX := hbx.size
   have hl4 := h4.rs.1
   simp only [List.nil_append] at h4 hl4
   rw [flat_len enE 2 enE_len, List.length_take] at hl4
   have hn4 : n4 ≤ 100 := by omega
   clear hl4 hbx htake
   generalize plus W x.bs x.d = X at *
   refine wpList_appS etE rfl (.tmp 25) (.tmp 30) rfl rfl h4 rfl hcut (flat_one enE enE_one _) (by omega) zX ?_
   intro A5 n5 c5 w5 hn5 hO5 hb5 hg5
   simp only [Act.put, qsT, qsZ, qsS]
   have hlen5 := hO5.1
   rw [← List.flatMap_append, ← List.eraseIdx_eq_take_drop_succ] at hO5 hlen5
   replace bs := bs.below hb5 (by omega)
   replace bz := bz.below hb5 (by omega)
   replace be := be.trans (hb5.mono (by omega))
   have z5 := hb5.size
   have hset := rstC_setL (some ⟨xb, xo, none⟩) n c A5 n5 c5 S { S with lv := RS.lv } rfl rfl
   clear h4 hcut hb5 hg5 hlen5 hn5
   refine wpList_plain rfl (fun K hK => ?_); go_simp; with_reducible refine hK _ _ ?_; clear hK K
   refine wpList_st1 110 (.tmp 32) (.tmp 31) rfl rfl rfl rfl bs (by rw [rstC_len]; omega) rfl (by kernel_rfl) ?_
   intro W6 h6 g6
   simp only [Act.put, qsT, qsZ, qsS]
   replace bs : Bk W6 w.heap.size 113 (rstC A5 n5 c5 { S with lv := RS.lv }) := by rw [← hset]; exact h6
   replace bz := bz.grown g6 (fun e => by injection e with e; omega)
   have hO6 := hO5.grown g6 (fun k hk e => by have := (hO5.blk k hk).1; injection e with e; omega)
   replace be := below_grown be g6 (Nat.le_refl _)
   clear h6 g6 hO5 hset
   have hset := rstC_setBz A5 n5 c5 { S with lv := RS.lv } RS i true HBZ.out HEV.out
   go_upto_region 7 with (fail)
   refine wp_region_lit ?_
   iterate 3 (refine wpList_plain rfl (fun K hK => ?_); go_simp; with_reducible refine hK _ _ ?_; clear hK K)
   refine wpList_st1 4 (.tmp 35) (.const (.bool true)) rfl rfl rfl rfl bs (by rw [rstC_len]; omega) rfl (by kernel_rfl) ?_
   intro W7 h7 g7
   simp only [Act.put, qsT, qsZ, qsS]
   replace bs : Bk W7 w.heap.size 113 (rstC A5 n5 c5 RS) := by rw [← hset]; exact h7
   replace bz := bz.grown g7 (fun e => by injection e with e; omega)
   have hO7 := hO6.grown g7 (fun k hk e => by have := (hO6.blk k hk).1; injection e with e; omega)
   replace be := below_grown be g7 (Nat.le_refl _)
   clear h7 g7 hO6 hset
   go_upto_region 8 with (fail)
   refine wp_region_lit ?_
   refine wpList_ldA (t := 113) 113 (.tmp 2) rfl rfl (rstC A5 n5 c5 RS) rfl (bs) (whole_ _) vr1 vr2 (szRst A5 n5 c5 RS) ?_
   simp only [Act.put, qsT, qsZ, qsS]
   refine wpList_stA (t := 113) 113 (.tmp 4) (.tmp 36) rfl rfl (rstC A5 n5 c5 RS) (rstC none 0 0 stk0) (by rw [rstC_len, rstC_len]) (rstC_one _ _ _ _) rfl rfl bz (szRst _ _ _ _) ?_
   intro W9 h9 g9
   refine wpList_plain rfl (fun K hK => ?_); go_simp; with_reducible refine hK _ _ ?_; clear hK K
   go_wp2
   refine bodyPost_agg2 Tryz.results73 rfl rfl h9.range vr1 vr2 (szRst _ _ _ _) rfl ?_
   have be9 := below_grown be g9 (by omega)
   have hO9 := hO7.grown g9 (fun k hk e => by have := (hO7.blk k hk).1; injection e with e; omega)
   refine RetRS.mk (S' := S) (by rw [he.out]; rfl) ⟨_, HEE0.out.later be9, hO9.rs, Off.own hO9 (fun b hb => by have := hD b hb; have := be9.size; omega), fun e he2 => (hEd e (List.mem_of_mem_eraseIdx he2)).size be9.size⟩ be9
  ·have he := Lib.hid (show EE = 1 by rw [← HEE.out]; unfold retE; rw [if_neg hl2, if_pos (by omega)])
   have hs : retS S v = S := by unfold retS; rw [if_neg hl2]
   rw [hs]
   clear HEE hs
   obtain ⟨m, hm⟩ : ∃ m, n = m + 1 := ⟨n - 1, by omega⟩
   subst hm
   rw [show idxS S v = m by omega] at HI
   have l1 : IntKind.i64.wrap (((m + 1 : Nat) : Int) - 1) = (m : Int) := by rw [IntWalk.i64_in _ (by omega)]; omega
   have l2 : IntKind.i64.wrap ((m : Int) + 1 - 1) = (m : Int) := by rw [IntWalk.i64_in _ (by omega)]; omega
   have l3 : IntKind.i64.wrap (m : Int) = (m : Int) := IntWalk.i64_in _ (by omega)
   clear hn hix hl hl2
   have hzv : ∀ w, (zeroValue 113).run Tryz.prog w = .ok (.agg (rstC none 0 0 stk0).toArray) w := fun _ => by kernel_rfl
   obtain ⟨dvr1, vr1, vr2⟩ := rowRst
   obtain ⟨bs, bz, be, zV⟩ := box2 w 113 113 (rstC A (m + 1) c S) (rstC none 0 0 stk0)
   go_enter Tryz.func73, Tryz.ntmps73
   go_upto_region 1 with (fail)
   generalize (w.alloc (.cells (rstC A (m + 1) c S).toArray 113)).alloc (.cells (rstC none 0 0 stk0).toArray 113) = V at *
   go_upto_region 1 with (fail)
   refine wp_region_lit ?_
   refine wpList_ldA (t := 113) 113 (.tmp 2) rfl rfl (rstC A (m + 1) c S) rfl (bs) (whole_ _) vr1 vr2 (szRst _ _ _ _) ?_
   refine wpList_plain rfl (fun K hK => ?_); go_simp; with_reducible refine hK _ _ ?_; clear hK K
   refine wpList_plain rfl (fun K hK => ?_)
   go_simp
   refine (HI.out _ (HR0.out.later be)).mono ?_
   rintro e w1 ⟨bs1, d1, rfl, rfl⟩
   with_reducible refine hK _ _ ?_
   clear hK K
   replace bs := bs.later (below_plus V bs1 d1)
   replace bz := bz.later (below_plus V bs1 d1)
   replace be := belowP be bs1 d1
   have zW := bz.lt
   clear HI zV
   generalize plus V bs1 d1 = W at *
   refine wpList_plain rfl (fun K hK => ?_); go_simp; with_reducible refine hK _ _ ?_; clear hK K
   have q0 : W.cell? ⟨w.heap.size, 0, none⟩ = some (.slice A (m + 1) c) := bs.cell 0
   go_upto_region 5 with (fail)
   refine wp_region_lit ?_
   refine wpList_ldA (t := 113) 113 (.tmp 2) rfl rfl (rstC A (m + 1) c S) rfl (bs) (whole_ _) vr1 vr2 (szRst A (m + 1) c S) ?_
   simp only [Act.put, qsT, qsZ, qsS]
   refine wpList_stA (t := 113) 113 (.tmp 4) (.tmp 19) rfl rfl (rstC A (m + 1) c S) (rstC none 0 0 stk0) (by rw [rstC_len, rstC_len]) (rstC_one _ _ _ _) rfl rfl bz (szRst _ _ _ _) ?_
   intro W9 h9 g9
   refine wpList_plain rfl (fun K hK => ?_); go_simp; with_reducible refine hK _ _ ?_; clear hK K
   go_wp2
   refine bodyPost_agg2 Tryz.results73 rfl rfl h9.range vr1 vr2 (szRst _ _ _ _) rfl ?_
   exact RetRS.mk (S' := S) (by rw [he.out]; rfl) (HR0.out.later (below_grown be g9 (by omega))) (below_grown be g9 (by omega))
 ·have hix : ixS S v = -1 := if_neg hl
  have he := Lib.hid (show EE = 24 by rw [← HEE.out]; unfold retE; rw [if_neg (by omega), if_neg (by have := idxS_le S v; omega)])
  have hs : retS S v = S := by unfold retS; rw [if_neg (by omega)]
  rw [hs]
  rw [hix] at HI
  clear hix hl HEE hs hn
  have hzv : ∀ w, (zeroValue 113).run Tryz.prog w = .ok (.agg (rstC none 0 0 stk0).toArray) w := fun _ => by kernel_rfl
  obtain ⟨dvr1, vr1, vr2⟩ := rowRst
  obtain ⟨bs, bz, be, zV⟩ := box2 w 113 113 (rstC A n c S) (rstC none 0 0 stk0)
  go_enter Tryz.func73, Tryz.ntmps73
  go_upto_region 1 with (fail)
  generalize (w.alloc (.cells (rstC A n c S).toArray 113)).alloc (.cells (rstC none 0 0 stk0).toArray 113) = V at *
  go_upto_region 1 with (fail)
  refine wp_region_lit ?_
  refine wpList_ldA (t := 113) 113 (.tmp 2) rfl rfl (rstC A n c S) rfl (bs) (whole_ _) vr1 vr2 (szRst A n c S) ?_
  refine wpList_plain rfl (fun K hK => ?_); go_simp; with_reducible refine hK _ _ ?_; clear hK K
  refine wpList_plain rfl (fun K hK => ?_)
  go_simp
  refine (HI.out _ (HR0.out.later be)).mono ?_
  rintro e w1 ⟨bs1, d1, rfl, rfl⟩
  with_reducible refine hK _ _ ?_
  clear hK K
  replace bs := bs.later (below_plus V bs1 d1)
  replace bz := bz.later (below_plus V bs1 d1)
  replace be := belowP be bs1 d1
  have zW := bz.lt
  clear HI zV
  generalize plus V bs1 d1 = W at *
  refine wpList_plain rfl (fun K hK => ?_); go_simp; with_reducible refine hK _ _ ?_; clear hK K
  go_upto_region 3 with (fail)
  refine wp_region_lit ?_
  refine wpList_ldA (t := 113) 113 (.tmp 2) rfl rfl (rstC A n c S) rfl (bs) (whole_ _) vr1 vr2 (szRst A n c S) ?_
  simp only [Act.put, qsT, qsZ, qsS]
  refine wpList_stA (t := 113) 113 (.tmp 4) (.tmp 12) rfl rfl (rstC A n c S) (rstC none 0 0 stk0) (by rw [rstC_len, rstC_len]) (rstC_one _ _ _ _) rfl rfl bz (szRst _ _ _ _) ?_
  intro W9 h9 g9
  refine wpList_plain rfl (fun K hK => ?_); go_simp; with_reducible refine hK _ _ ?_; clear hK K
  go_wp2
  refine bodyPost_agg2 Tryz.results73 rfl rfl h9.range vr1 vr2 (szRst _ _ _ _) rfl ?_
  exact RetRS.mk (S' := S) (by rw [he.out]; rfl) (HR0.out.later (below_grown be g9 (by omega))) (below_grown be g9 (by omega))
end

section
open Go.RowKit
attribute [local go_sem ↓] sliced_cut
attribute [local go_sem] cutA_zero
theorem Chg.wid {D D' : Nat → Prop} {w w' : World} (h : Chg D w w') (hd : ∀ b, D b → D' b) : Chg D' w w' := ⟨h.os, h.tape, h.output, h.size, fun b hb hn => h.block b hb (fun h => hn (hd b h))⟩
theorem Chg.fre {D : Nat → Prop} {w w1 w2 : World} {g : Nat} (h : Chg D w w1) (hg : w1.grownBy w2 (some g)) (hl : w.heap.size ≤ g) : Chg D w w2 :=
 ⟨hg.os.trans h.os, hg.tape.trans h.tape, hg.output.trans h.output, Nat.le_trans h.size hg.size, fun b hb hd => (hg.block b (Nat.lt_of_lt_of_le hb h.size) (fun e => by injection e with e; omega)).trans (h.block b hb hd)⟩
def newT (S : Stk) : Tab := (S.lv.getLast?.map (·.2)).getD []
theorem newT_ok {S : Stk} (h : StkOk S) : TabOk (newT S) := by
 unfold newT
 cases hl : S.lv.getLast? with
 | none => exact ⟨by simp, by simp⟩
 | some e => exact (h.rg e (List.mem_of_getLast? hl)).2
theorem newest_ex (S : Stk) (h8 : S.lv.length ≤ 8) : ∃ (x : Int) (b : Bool), ∀ (g : Nat) (w : World), Bk w g 209 (stkC S) → Calls Tryz.prog 118 #[.pointer (some ⟨g, 0, none⟩)] w (RetV w (.tuple #[.int .i64 x, .agg (tabC (newT S)).toArray, .bool b])) := by
 by_cases h0 : 0 < S.lv.length
 ·refine ⟨((S.lv[S.lv.length - 1]).1 : Nat), true, fun g w h => ?_⟩
  have := newest_yes S h8 h0 g w h
  have e : newT S = (S.lv[S.lv.length - 1]).2 := by
   unfold newT
   rw [List.getLast?_eq_getElem?, List.getElem?_eq_getElem (by omega)]
   rfl
  rw [e]
  exact this
 ·refine ⟨0, false, fun g w h => ?_⟩
  have := newest_no S (by omega) g w h
  have e : newT S = [] := by
   unfold newT
   rw [List.getLast?_eq_getElem?, List.getElem?_eq_none (by omega)]
   rfl
  rw [e]
  exact this
theorem Rs.noInt {s : Nat} {w w' : World} {A : Option Addr} {n c g : Nat} {cs ds : List Value} {t : TypeId} (h : Rs s w A n c cs) (hcs : cs ≠ [] → ∃ (j : Nat) (k : IntKind) (z : Int), cs[j]? = some (Value.int k z)) (hb : Bk w g t ds) (hds : ∀ u ∈ ds, ∀ (k : IntKind) (z : Int), u ≠ Value.int k z) (hg : w.grownBy w' (some g)) : Rs s w' A n c cs := by
 refine ⟨h.1, h.2.1, ?_⟩
 by_cases h0 : cs = []
 ·exact .inl h0
 ·rcases h.2.2 with h' | ⟨b, off, hA, hbl, hc⟩
  ·exact .inl h'
  ·refine .inr ⟨b, off, hA, Nat.lt_of_lt_of_le hbl hg.size, fun i u hu => ?_⟩
   have hne : b ≠ g := by
    rintro rfl
    obtain ⟨j, k, z, hj⟩ := hcs h0
    have h1 := hc j _ hj
    rw [hb.cell] at h1
    exact hds _ (List.mem_of_getElem? h1) k z rfl
   exact (World.cell?_of_block (hg.block b hbl (fun e => hne (by injection e)))).trans (hc i u hu)
theorem RSt.noInt {D : Nat → Prop} {w w' : World} {L : List (Nat × Tab)} {A : Option Addr} {n c g : Nat} {ds : List Value} {t : TypeId} (h : RSt D w L A n c) (hb : Bk w g t ds) (hds : ∀ u ∈ ds, ∀ (k : IntKind) (z : Int), u ≠ Value.int k z) (hg : w.grownBy w' (some g)) : RSt D w' L A n c := by
 obtain ⟨E, h1, h2, h3, h4⟩ := h
 refine ⟨E, ⟨h1.1, fun i a b => ⟨(h1.2 i a b).1, (h1.2 i a b).2.noInt (fun hne => ?_) hb hds hg⟩⟩, h2.noInt (fun hne => ?_) hb hds hg, h3.size hg.size, fun e he => (h4 e he).size hg.size⟩
 ·cases hL : refT L[i].2 with
  | nil => rw [hL] at hne; exact absurd rfl hne
  | cons x t => exact ⟨0, _, _, rfl⟩
 ·cases E with
  | nil => exact absurd rfl hne
  | cons e t => exact ⟨0, _, _, rfl⟩
def MP.rst (D : Nat → Prop) (S : Stk) (G : Value → Value) : MP := ⟨fun v w => ∃ A n c, v = G (.agg (rstC A n c S).toArray) ∧ RSt D w S.lv A n c, fun _ _ _ ⟨A, n, c, h1, h2⟩ h => ⟨A, n, c, h1, h2.later h.below⟩⟩
def MP.osw (e : TypeId) (s base : Nat) (cs : List Value) : MP := ⟨fun v w => ∃ A n c, v = .slice A n c ∧ Os e s w base A n c cs, fun _ _ _ ⟨A, n, c, h1, h2⟩ h => ⟨A, n, c, h1, h2.later h.below⟩⟩
end

section
open Go.RowKit
def RetBE (w : World) (l : List UInt8) (E : Int) (e : Ending) (w' : World) : Prop := ∃ A n c bs d, e = .returned (.tuple #[.slice A n c, .int .i64 E]) ∧ w' = plus w bs d ∧ Rb (plus w bs d) A n c l
theorem RetBE.mk {w w' : World} {l : List UInt8} {E : Int} {A : Option Addr} {n c : Nat} (h : Rb w' A n c l) (hb : Below w.heap.size w w') : RetBE w l E (.returned (.tuple #[.slice A n c, .int .i64 E])) w' := by
 obtain ⟨bs, d, rfl⟩ := plus_of hb
 exact ⟨A, n, c, bs, d, rfl, rfl, h⟩
end

section
open Go.RowKit
attribute [local go_sem ↓] sliced_cut
attribute [local go_sem] cutA_zero
set_option maxHeartbeats 4000000 in
set_option maxRecDepth 100000 in
theorem adrOf4 (x : Nat) (l : List UInt8) (A : Option Addr) (c : Nat) (w : World) (h : Rb w A 4 c l) (hx : num l = x) : Calls Tryz.prog 136 #[.slice A 4 c] w (RetV w (.tuple #[.agg (adC false 0 x).toArray, .int .i64 0])) := by
 obtain ⟨dv, v1, v2⟩ : ∃ d, Tryz.prog.underlying 32 = some d ∧ d.isRow = true := ⟨_, Tryz.underlying32, rfl⟩
 have b2 : Bk (w.alloc (.cells #[.bool false, .int .u64 0, .int .u64 0] 32)) w.heap.size 32 (adC false 0 0) := Bk.new w 32 #[.bool false, .int .u64 0, .int .u64 0]
 have be : Below w.heap.size w (w.alloc (.cells #[.bool false, .int .u64 0, .int .u64 0] 32)) := Below.allocS (Below.refl _ _) _
 have hl := h.1
 have HR := Lib.hid (fun W (h : Rb W A 4 c l) => readK A 4 c l W h (by omega))
 have hx2 : Hid (num ((l.drop 0).take 4) = x) := Lib.hid (by rw [List.drop_zero, List.take_of_length_le (by omega)]; exact hx)
 clear hx
 go_enter Tryz.func136, Tryz.ntmps136
 go_upto_region 1 with (fail)
 replace h := h.later be
 generalize w.alloc (.cells #[.bool false, .int .u64 0, .int .u64 0] 32) = V at *
 have zb := be.size
 have z2 := b2.lt
 go_wp2_with fail
 refine (HR.out _ h).mono ?_
 rintro e w1 ⟨r, bs1, d1, rfl, rfl, hr1, hR⟩
 replace b2 := b2.later (below_plus _ bs1 d1)
 replace be := belowP be bs1 d1
 have hr2 : w.heap.size < r := by omega
 generalize plus V bs1 d1 = V1 at *
 go_wp2_with fail
 refine (numG V1 r l 0 x 4 (by omega) hR (by omega) (by omega) hx2.out).mono ?_
 rintro e V2 ⟨rfl, hR1, hg1⟩
 replace b2 := b2.grown hg1 (by simp; omega)
 replace be := below_grown be hg1 (by omega)
 clear hg1 hR hR1
 go_wp2_with (refine at_op (.store 32 (.tmp 2) (.tmp 13)) rfl ?_; refine wpList_stA (t := 32) 32 (.tmp 2) (.tmp 13) rfl rfl (adC false 0 x) (adC false 0 0) rfl (adC_one _ _ _) rfl rfl (b2) (szAd _ _ _) ?_; intro W4 h4 g4)
 refine bodyPost_agg2 Tryz.results136 rfl rfl h4.range v1 v2 (szAd _ _ _) rfl (RetV.mk ?_)
 exact below_grown be g4 (by omega)
end

section
open Go.RowKit
attribute [local go_sem ↓] sliced_cut
attribute [local go_sem] cutA_zero
abbrev StB := Option (List UInt8)
def tkB (n : Nat) : StB → List UInt8
 | none => []
 | some l => if n ≤ l.length then l.take n else []
def drB (n : Nat) : StB → StB
 | none => none
 | some l => if n ≤ l.length then some (l.drop n) else none
def SL (s : StB) : Prop := ∀ l, s = some l → l.length ≤ 1000000
theorem SL.dr {s : StB} (h : SL s) (n : Nat) : SL (drB n s) := by
 intro l hl
 cases s with
 | none => cases hl
 | some x =>
  simp only [drB] at hl
  split at hl
  ·injection hl with hl
   subst hl
   have := h x rfl
   rw [List.length_drop]
   omega
  ·cases hl
theorem tkB_le (n : Nat) (s : StB) : (tkB n s).length ≤ n := by
 cases s with
 | none => exact Nat.zero_le _
 | some l =>
  simp only [tkB]
  split
  ·exact List.length_take_le _ _
  ·exact Nat.zero_le _
theorem tkB_drB (n : Nat) (s : StB) (hn : 0 < n) : ((tkB n s).length = n ↔ (drB n s).isSome = true) ∧ ((tkB n s).length = n ∨ tkB n s = []) := by
 cases s with
 | none => simp [tkB, drB]; omega
 | some l =>
  simp only [tkB, drB]
  by_cases h : n ≤ l.length
  ·simp [h]
  ·simp [h]; omega
def numT (n : Nat) (s : StB) : Nat := num (tkB n s)
theorem numT_lt (n k : Nat) (s : StB) (h : 256 ^ n ≤ k) : numT n s < k := Nat.lt_of_lt_of_le (num_lt n _ (tkB_le n s)) h
def RP (w : World) (r : Nat) : StB → Prop
 | none => Rdr w r [] true
 | some l => Rdr w r l false
theorem RP.lt {w : World} {r : Nat} {s : StB} (h : RP w r s) : r < w.heap.size := by
 cases s <;> exact Rdr.lt h
theorem RP.later {w w' : World} {r : Nat} {s : StB} (h : RP w r s) (hb : Below w.heap.size w w') : RP w' r s := by
 cases s <;> exact Rdr.later h hb
theorem RP.far {w : World} {r : Nat} {s : StB} (h : RP w r s) {p : Addr} (hp : r < p.block) (u : Value) : RP (w.setCell p u) r s := by
 cases s <;> exact Rdr.far h hp u
theorem nextT (r n : Nat) (s : StB) (w : World) (h : RP w r s) (hs : SL s) (hn : n ≤ 1000000) : Calls Tryz.prog 82 #[.pointer (some ⟨r, 0, none⟩), .int .i64 n] w fun e w' => ∃ A m c, e = .returned (.slice A m c) ∧ (tkB n s).length = m ∧ m ≤ c ∧ Rd w' r A (bcs (tkB n s)) ∧ RP w' r (drB n s) ∧ w.grownBy w' (some r) := by
 cases s with
 | none =>
  by_cases h0 : n = 0
  ·subst h0
   refine (next_any r [] true 0 w h (by simp) (by simp)).mono ?_
   rintro e w1 ⟨A, c, rfl, hc, hrd, hrr, hg⟩
   exact ⟨A, 0, c, rfl, rfl, hc, hrd, hrr, hg⟩
  ·refine (next_bad r [] true n w h (.inr (by simp; omega)) (by simp) (by omega)).mono ?_
   rintro e w1 ⟨rfl, hrr, hg⟩
   exact ⟨none, 0, 0, rfl, rfl, Nat.le_refl _, .inl rfl, hrr, hg⟩
 | some l =>
  have hl := hs l rfl
  by_cases hn1 : n ≤ l.length
  ·refine (next_any r l false n w h hn1 (by omega)).mono ?_
   rintro e w1 ⟨A, c, rfl, hc, hrd, hrr, hg⟩
   simp only [tkB, drB, hn1, if_true]
   exact ⟨A, n, c, rfl, by simp; omega, hc, hrd, hrr, hg⟩
  ·refine (next_bad r l false n w h (.inr (by omega)) (by omega) (by omega)).mono ?_
   rintro e w1 ⟨rfl, hrr, hg⟩
   simp only [tkB, drB, hn1, if_false]
   exact ⟨none, 0, 0, rfl, rfl, Nat.le_refl _, .inl rfl, hrr, hg⟩
def RetT (w : World) (r : Nat) (s : StB) (v : Value) (e : Ending) (w' : World) : Prop := e = .returned v ∧ RP w' r s ∧ w.grownBy w' (some r)
theorem numTP (r n : Nat) (s : StB) (w : World) (h : RP w r s) (hs : SL s) (h8 : n ≤ 8) : Calls Tryz.prog 32 #[.pointer (some ⟨r, 0, none⟩), .int .i64 n] w (RetT w r (drB n s) (.int .u64 (numT n s : Nat))) := by
 have hle := tkB_le n s
 have HN := Lib.hid (nextT r n s)
 have HX := Lib.hid (show numT n s = num (tkB n s) from rfl)
 generalize tkB n s = l at *
 generalize numT n s = X at *
 go_enter Tryz.func32, Tryz.ntmps32
 go_wp2_with (go_at_call 82; refine (HN.out _ h hs (by omega)).mono ?_; rintro e w1 ⟨A, m, c, rfl, hm, hc, hrd, hrr, hg⟩)
 have hl : (bcs l).length = m := by rw [bcs_length, hm]
 have HL := Lib.hid hl
 have HM := Lib.hid hm
 have hm8 : m ≤ 8 := by omega
 clear hl hm hle
 go_loop [5, 7, 14] (fun x y i => ∃ j : Nat, j ≤ m ∧ i = .int .i64 j ∧ x = .int .u64 (num (l.take j) : Nat)) (fun _ _ i => m - (intOf i).toNat)
 case atStart => exact ⟨0, Nat.zero_le _, rfl, rfl⟩
 case round =>
  obtain ⟨j, hj, rfl, rfl⟩ := hrel
  by_cases hlt : j < m
  ·obtain ⟨b, off, rfl, hb, hcell⟩ := hrd.at_ (by rw [HL.out]; omega)
   have hjl : j < l.length := by rw [HM.out]; exact hlt
   have hcj : w1.cell? ⟨b, off + j, none⟩ = some (.int .u8 (l[j].toNat : Int)) := hcell j _ (by rw [bcs_get _ _ hjl])
   have HS := Lib.hid (num_take_succ l j hjl)
   have hN : num (l.take j) < 72057594037927936 := Nat.lt_of_lt_of_le (num_lt j _ (List.length_take_le _ _)) (pow_le_seven j (by omega))
   have hx : l[j].toNat < 256 := l[j].toNat_lt
   have hor := u64_shl_or (num (l.take j)) (l[j].toNat) hN hx
   clear hcell
   go_wp2
   go_round
   case rel => exact ⟨j + 1, by omega, by go_num, by rw [HS.out]; simp⟩
   case measure => simp [intOf]; omega
  ·obtain rfl : j = m := by omega
   have hX : X = num (l.take j) := by rw [HX.out, List.take_of_length_le (by rw [HM.out]; omega)]
   go_wp2
   go_ret
   exact ⟨rfl, hrr, hg⟩
theorem byteT (r : Nat) (s : StB) (w : World) (h : RP w r s) (hs : SL s) : Calls Tryz.prog 37 #[.pointer (some ⟨r, 0, none⟩)] w (RetT w r (drB 1 s) (.int .u8 (numT 1 s : Nat))) := by
 have hx := numT_lt 1 256 s (by decide)
 have HN := Lib.hid (numTP r 1 s)
 generalize numT 1 s = x at *
 go_enter Tryz.func37, Tryz.ntmps37
 go_wp2_with fail
 refine (HN.out _ h hs (by omega)).mono ?_
 rintro e w1 ⟨rfl, hrr, hg⟩
 go_wp2
 go_ret
 exact ⟨rfl, hrr, hg⟩
theorem wordT (r : Nat) (s : StB) (w : World) (h : RP w r s) (hs : SL s) : Calls Tryz.prog 84 #[.pointer (some ⟨r, 0, none⟩)] w (RetT w r (drB 2 s) (.int .u16 (numT 2 s : Nat))) := by
 have hx := numT_lt 2 65536 s (by decide)
 have HN := Lib.hid (numTP r 2 s)
 generalize numT 2 s = x at *
 go_enter Tryz.func84, Tryz.ntmps84
 go_wp2_with fail
 refine (HN.out _ h hs (by omega)).mono ?_
 rintro e w1 ⟨rfl, hrr, hg⟩
 go_wp2
 go_ret
 exact ⟨rfl, hrr, hg⟩
def RetTB (w : World) (r : Nat) (s : StB) (l : List UInt8) (e : Ending) (w' : World) : Prop := ∃ A n c, e = .returned (.slice A n c) ∧ Ob w' w.heap.size A n c l ∧ RP w' r s ∧ w.grownBy w' (some r)
theorem bytesT (r n : Nat) (s : StB) (w : World) (h : RP w r s) (hs : SL s) (hn : n ≤ 1000000) : Calls Tryz.prog 34 #[.pointer (some ⟨r, 0, none⟩), .int .i64 n] w (RetTB w r (drB n s) (tkB n s)) := by
 have hle := tkB_le n s
 have HN := Lib.hid (nextT r n s)
 generalize tkB n s = l at *
 go_enter Tryz.func34, Tryz.ntmps34
 go_wp2_with fail
 refine (HN.out _ h hs hn).mono ?_
 rintro e w1 ⟨A, m, c, rfl, hm, hc, hrd, hrr, hg⟩
 go_wp2_with fail
 refine (clone_any _ _ _ l _ (hrd.rb (Nat.le_of_lt hrr.lt) hm hc) (by omega)).mono ?_
 rintro e w2 ⟨A2, n2, c2, bs2, d2, rfl, rfl, ho2⟩
 go_wp2
 go_ret
 exact ⟨A2, n2, c2, rfl, ho2.mono hg.size, hrr.later (below_plus _ _ _), hg.trans (grownBy_of_below (below_plus _ _ _) |> fun h => ⟨h.os, h.tape, h.output, h.size, fun i hi hne => h.block i hi (by simp)⟩)⟩
theorem badT (r : Nat) (s : StB) (w : World) (h : RP w r s) : Calls Tryz.prog 35 #[.pointer (some ⟨r, 0, none⟩)] w fun e w' => e = .returned (.bool s.isNone) ∧ w = w' := by
 cases s with
 | none => exact badG w r [] true h
 | some l => exact badG w r l false h
theorem leftT (r : Nat) (s : StB) (w : World) (h : RP w r s) : Calls Tryz.prog 39 #[.pointer (some ⟨r, 0, none⟩)] w fun e w' => e = .returned (.int .i64 ((s.getD []).length : Nat)) ∧ w = w' := by
 cases s with
 | none => exact leftG w r [] true h
 | some l => exact leftG w r l false h
theorem readT (A : Option Addr) (n c : Nat) (L : List UInt8) (w : World) (h : Rb w A n c L) (hm : n ≤ 549755813888) : Calls Tryz.prog 31 #[.slice A n c] w fun e w' => ∃ r bs d, e = .returned (.pointer (some ⟨r, 0, none⟩)) ∧ w' = plus w bs d ∧ w.heap.size ≤ r ∧ RP (plus w bs d) r (some L) :=
 (read_any A n c L w h hm).mono fun _ _ ⟨r, bs, d, h1, h2, h3, h4⟩ => ⟨r, bs, d, h1, h2, h3, h4⟩
set_option maxHeartbeats 1000000 in
set_option maxRecDepth 100000 in
theorem adrOfN (A : Option Addr) (n c : Nat) (w : World) (h4 : n ≠ 4) (h16 : n ≠ 16) : Calls Tryz.prog 136 #[.slice A n c] w (RetV w (.tuple #[.agg (adC false 0 0).toArray, .int .i64 20])) := by
 have h4' : (n : Int) ≠ 4 := by omega
 have h16' : (n : Int) ≠ 16 := by omega
 obtain ⟨dk, u1, u2⟩ : ∃ d, Tryz.prog.underlying 32 = some d ∧ d.isRow = true := ⟨_, Tryz.underlying32, rfl⟩
 have b2 : Bk (w.alloc (.cells #[.bool false, .int .u64 0, .int .u64 0] 32)) w.heap.size 32 (adC false 0 0) := Bk.new w 32 #[.bool false, .int .u64 0, .int .u64 0]
 have be : Below w.heap.size w (w.alloc (.cells #[.bool false, .int .u64 0, .int .u64 0] 32)) := Below.allocS (Below.refl _ _) _
 go_enter Tryz.func136, Tryz.ntmps136
 go_upto_region 1 with (fail)
 generalize w.alloc (.cells #[.bool false, .int .u64 0, .int .u64 0] 32) = V at *
 go_wp2_with (refine at_op (.store 32 (.tmp 2) (.tmp 24)) rfl ?_; refine wpList_stA (t := 32) 32 (.tmp 2) (.tmp 24) rfl rfl (adC false 0 0) (adC false 0 0) rfl (adC_one _ _ _) rfl rfl (b2) (szAd _ _ _) ?_; intro W4 h4 g4)
 refine bodyPost_agg2 Tryz.results136 rfl rfl h4.range u1 u2 (szAd _ _ _) rfl (RetV.mk ?_)
 exact below_grown be g4 (by omega)
end

section
open Go.RowKit
attribute [local go_sem ↓] sliced_cut
attribute [local go_sem] cutA_zero
theorem grown_new {a b c : World} {g r : Nat} (h : a.grownBy b (some r)) (k : b.grownBy c (some g)) (hg : a.heap.size ≤ g) : a.grownBy c (some r) :=
 ⟨k.os.trans h.os, k.tape.trans h.tape, k.output.trans h.output, Nat.le_trans h.size k.size, fun i hi hne => (k.block i (Nat.lt_of_lt_of_le hi h.size) (fun e => by injection e with e; omega)).trans (h.block i hi hne)⟩
theorem grown_below {a b c : World} {r : Nat} (h : a.grownBy b (some r)) (k : Below b.heap.size b c) : a.grownBy c (some r) :=
 ⟨k.os.trans h.os, k.tape.trans h.tape, k.output.trans h.output, Nat.le_trans h.size k.size, fun i hi hne => (k.block i (Nat.lt_of_lt_of_le hi h.size)).trans (h.block i hi hne)⟩
theorem grown_chg {a b c : World} {r : Nat} {D : Nat → Prop} (h : a.grownBy b (some r)) (k : Chg D b c) (hd : ∀ i, D i → a.heap.size ≤ i) : a.grownBy c (some r) :=
 have k2 := k.below (B := a.heap.size) (fun i hi => hd i hi) h.size
 ⟨k2.os.trans h.os, k2.tape.trans h.tape, k2.output.trans h.output, Nat.le_trans h.size k2.size, fun i hi hne => (k2.block i hi).trans (h.block i hi hne)⟩
theorem RP.low {w w' : World} {r : Nat} {s : StB} (h : RP w r s) (hb : Below (r + 1) w w') : RP w' r s := by
 cases s <;> (obtain ⟨A, n, c, h1, h2, h3, h4⟩ := h; exact ⟨A, n, c, (hb.block r (by omega)).trans h1, h2, h3, h4.below ⟨hb.os, hb.tape, hb.output, hb.size, fun k hk => hb.block k (by omega)⟩⟩)
def adX (x : List UInt8) : Option (Bool × Nat × Nat) := if x.length = 4 then some (false, 0, num x) else if x.length = 16 then some (true, num (x.take 8), num (x.drop 8)) else none
def adS (s : StB) : Option ((Bool × Nat × Nat) × StB) := (adX (tkB (numT 1 s) (drB 1 s))).map fun q => (q, drB (numT 1 s) (drB 1 s))
theorem adX_some {z : Nat} {s : StB} {q : Bool × Nat × Nat} (hz : 0 < z) (h : adX (tkB z s) = some q) : ∃ l, drB z s = some l := by
 have h9 := tkB_drB z s hz
 rcases h9.2 with h8 | h8
 ·exact Option.isSome_iff_exists.1 (h9.1.1 h8)
 ·rw [h8] at h
  cases h
theorem adX_none {z : Nat} {s : StB} (h4 : z ≠ 4) (h16 : z ≠ 16) : adX (tkB z s) = none := by
 have h9 : (tkB z s).length = z ∨ tkB z s = [] := by
  by_cases hz : 0 < z
  ·exact (tkB_drB z s hz).2
  ·exact .inr (List.eq_nil_of_length_eq_zero (by have := tkB_le z s; omega))
 rcases h9 with h9 | h9
 ·unfold adX
  rw [if_neg (by omega), if_neg (by omega)]
 ·rw [h9]
  rfl
theorem adX_16 (x : List UInt8) (h : x.length = 16) : x = dig (num (x.take 8)) 8 ++ dig (num (x.drop 8)) 8 := by
 rw [digNum 8 _ (by rw [List.length_take]; omega), digNum 8 _ (by rw [List.length_drop]; omega), List.take_append_drop]
theorem numL (l : List UInt8) (n k : Nat) (h : l.length ≤ n) (hk : 256 ^ n ≤ k) : num l < k := Nat.lt_of_lt_of_le (num_lt n l h) hk
def RetAX (w : World) (x : List UInt8) (F : Bool → Value) (e : Ending) (w' : World) : Prop := ∃ six ah al ok bs d, e = .returned (.tuple #[.agg (adC six ah al).toArray, F ok]) ∧ w' = plus w bs d ∧ ah < 18446744073709551616 ∧ al < 18446744073709551616 ∧ (ok = true ∧ adX x = some (six, ah, al) ∨ ok = false ∧ adX x = none)
theorem adX_any {w : World} {G : World → (Ending → World → Prop) → Prop} (x : List UInt8) (F : Bool → Value) (hm : ∀ w P Q, (∀ e w', P e w' → Q e w') → G w P → G w Q)
  (h4 : x.length = 4 → G w (RetV w (.tuple #[.agg (adC false 0 (num x)).toArray, F true]))) (h16 : x.length = 16 → G w (RetV w (.tuple #[.agg (adC true (num (x.take 8)) (num (x.drop 8))).toArray, F true]))) (hn : x.length ≠ 4 → x.length ≠ 16 → G w (RetV w (.tuple #[.agg (adC false 0 0).toArray, F false]))) : G w (RetAX w x F) := by
 by_cases c4 : x.length = 4
 ·refine hm _ _ _ ?_ (h4 c4)
  rintro e w1 ⟨bs, d, rfl, rfl⟩
  exact ⟨false, 0, num x, true, bs, d, rfl, rfl, by decide, numL x 4 _ (by omega) (by decide), .inl ⟨rfl, by unfold adX; rw [if_pos c4]⟩⟩
 by_cases c16 : x.length = 16
 ·refine hm _ _ _ ?_ (h16 c16)
  rintro e w1 ⟨bs, d, rfl, rfl⟩
  exact ⟨true, _, _, true, bs, d, rfl, rfl, numL _ 8 _ (by rw [List.length_take]; omega) (by decide), numL _ 8 _ (by rw [List.length_drop]; omega) (by decide), .inl ⟨rfl, by unfold adX; rw [if_neg c4, if_pos c16]⟩⟩
 ·refine hm _ _ _ ?_ (hn c4 c16)
  rintro e w1 ⟨bs, d, rfl, rfl⟩
  exact ⟨false, 0, 0, false, bs, d, rfl, rfl, by decide, by decide, .inr ⟨rfl, by unfold adX; rw [if_neg c4, if_neg c16]⟩⟩
theorem adrOfX (A : Option Addr) (n c : Nat) (x : List UInt8) (w : World) (h : Rb w A n c x) : Calls Tryz.prog 136 #[.slice A n c] w (RetAX w x (fun ok => .int .i64 (if ok then 0 else 20))) := by
 have hl := h.1
 refine adX_any (G := fun w P => Calls Tryz.prog 136 #[.slice A n c] w P) x _ (fun w P Q h1 h2 => h2.mono h1) (fun h4 => ?_) (fun h16 => ?_) (fun h4 h16 => ?_)
 ·obtain rfl : n = 4 := by omega
  exact adrOf4 _ x A c w h rfl
 ·obtain rfl : n = 16 := by omega
  exact adrOf16 _ _ A c w (numL _ 8 _ (by rw [List.length_take]; omega) (by decide)) (numL _ 8 _ (by rw [List.length_drop]; omega) (by decide)) (by rw [← adX_16 x h16]; exact h)
 ·exact adrOfN A n c w (by omega) (by omega)
theorem adrOfT (A : Option Addr) (n c : Nat) (x : List UInt8) (w : World) (h : Rb w A n c x) (hn : n ≤ 16) : Calls Tryz.prog 136 #[.slice A n c] w fun e w' => ∃ six ah al E bs d, e = .returned (.tuple #[.agg (adC six ah al).toArray, .int .i64 E]) ∧ w' = plus w bs d ∧ ah < 18446744073709551616 ∧ al < 18446744073709551616 ∧ (E = 0 ∧ adX x = some (six, ah, al) ∨ E = 20 ∧ adX x = none) :=
 (adrOfX A n c x w h).mono fun e w' ⟨six, ah, al, ok, bs, d, h1, h2, h3, h4, h5⟩ => by
  rcases h5 with ⟨rfl, h5⟩ | ⟨rfl, h5⟩
  ·exact ⟨six, ah, al, 0, bs, d, h1, h2, h3, h4, .inl ⟨rfl, h5⟩⟩
  ·exact ⟨six, ah, al, 20, bs, d, h1, h2, h3, h4, .inr ⟨rfl, h5⟩⟩
def RetTA (w : World) (r : Nat) (s : StB) (e : Ending) (w' : World) : Prop := ∃ six ah al ok, e = .returned (.tuple #[.agg (adC six ah al).toArray, .bool ok]) ∧ w.grownBy w' (some r) ∧ ah < 18446744073709551616 ∧ al < 18446744073709551616 ∧ (ok = false ∧ adS s = none ∨ ok = true ∧ adS s = some ((six, ah, al), drB (numT 1 s) (drB 1 s)) ∧ RP w' r (drB (numT 1 s) (drB 1 s)))
set_option maxHeartbeats 4000000
set_option maxRecDepth 100000
theorem takeAddr_any (r : Nat) (s : StB) (w : World) (h : RP w r s) (hs : SL s) : Calls Tryz.prog 83 #[.pointer (some ⟨r, 0, none⟩)] w (RetTA w r s) := by
 obtain ⟨dk, u1, u2⟩ : ∃ d, Tryz.prog.underlying 32 = some d ∧ d.isRow = true := ⟨_, Tryz.underlying32, rfl⟩
 have b2 : Bk (w.alloc (.cells #[.bool false, .int .u64 0, .int .u64 0] 32)) w.heap.size 32 (adC false 0 0) := Bk.new w 32 #[.bool false, .int .u64 0, .int .u64 0]
 have be : Below w.heap.size w (w.alloc (.cells #[.bool false, .int .u64 0, .int .u64 0] 32)) := Below.allocS (Below.refl _ _) _
 have zr := h.lt
 have hz256 := numT_lt 1 256 s (by decide)
 have hs1 := hs.dr 1
 have HB := Lib.hid (byteT r s)
 have HBy := Lib.hid (fun w h => bytesT r (numT 1 s) (drB 1 s) w h hs1 (by omega))
 obtain ⟨z, hz⟩ : ∃ z, numT 1 s = z := ⟨_, rfl⟩
 have hz9 := hz
 rw [hz] at HB HBy hz256
 clear hz
 replace hz9 := Lib.hid hz9
 have gr : w.grownBy (w.alloc (.cells #[.bool false, .int .u64 0, .int .u64 0] 32)) (some r) := ⟨be.os, be.tape, be.output, be.size, fun i hi _ => be.block i hi⟩
 go_enter Tryz.func83, Tryz.ntmps83
 go_upto_region 1 with (fail)
 replace h := h.later be
 generalize w.alloc (.cells #[.bool false, .int .u64 0, .int .u64 0] 32) = V at *
 clear be
 go_wp2_with fail
 refine (HB.out _ h hs).mono ?_
 rintro e V1 ⟨rfl, hR1, hg1⟩
 replace b2 := b2.grown hg1 (by simp; omega)
 replace gr := gr.trans hg1
 clear hg1 h
 by_cases h4 : z = 4
 ·subst h4
  go_wp2_with fail
  refine (HBy.out V1 hR1).mono ?_
  rintro e V2 ⟨A, n, c, rfl, ho, hR2, hg2⟩
  replace b2 := b2.grown hg2 (by simp; omega)
  replace gr := gr.trans hg2
  have hRb := ho.rb
  clear hg2 hR1 HBy HB
  go_wp2_with fail
  refine (adrOfT A n c _ V2 hRb (by rw [← hRb.1]; have := tkB_le 4 (drB 1 s); omega)).mono ?_
  rintro e w1 ⟨six, ah, al, E, bs1, d1, rfl, rfl, ha1, ha2, hE⟩
  replace b2 := b2.later (below_plus V2 bs1 d1)
  replace gr := grown_below gr (below_plus V2 bs1 d1)
  replace hR2 := hR2.later (below_plus V2 bs1 d1)
  have zV2 := b2.lt
  generalize plus V2 bs1 d1 = V3 at *
  go_upto_region 5 with (refine at_op (.store 32 (.tmp 5) (.tmp 22)) rfl ?_; refine wpList_stA (t := 32) 32 (.tmp 5) (.tmp 22) rfl rfl (adC six ah al) (adC false 0 0) rfl (adC_one _ _ _) rfl rfl (Bk.new _ _ _) (szAd _ _ _) ?_; intro W4 h4 g4)
  have be4 : Below V3.heap.size V3 W4 := below_grown (Below.allocS (Below.refl _ _) _) g4 (Nat.le_refl _)
  have hX : Bk W4 V3.heap.size 32 (adC six ah al) := h4
  replace b2 := b2.later be4
  replace gr := grown_below gr be4
  replace hR2 := hR2.later be4
  have nX : ¬ (fun b => b = w.heap.size) V3.heap.size := fun h => by have h' : V3.heap.size = w.heap.size := h; omega
  clear be4 h4 g4
  generalize V3.heap.size = g5 at *
  rcases hE with ⟨rfl, hE⟩ | ⟨rfl, hE⟩
  ·obtain ⟨l5, hl5⟩ := adX_some (by decide : 0 < 4) hE
   have hR5 := hR2
   rw [hl5] at hR5
   have zR := hR5.lt
   go_wp2
   refine wp_suS (fun b => b = w.heap.size) 10 32 2 [8] rfl (by kernel_rfl) (by kernel_rfl) (fun k w' => Bk w' w.heap.size 32 (if k = 0 then adC false 0 0 else adC six ah al)) (fun k w w' h h' => h.later h'.below) (b2) ?_
   apply StepsC.one (MC.eq _) 1 rfl (by decide)
   ·intro o ho FA w' hC hO hD K hK
    obtain rfl := qoi ho
    have e5 := hO 5 (by kernel_rfl)
    simp only [eval_tmp, qgT, qgS, qgZ, qoS] at e5
    have ev5 := Lib.hid ((eval_tmp FA 5).trans e5)
    clear hO hD ho
    refine wanted_if rfl ?_
    refine wp_ldA 32 (.tmp 5) rfl (adC six ah al) ev5.out (hX.chg hC nX) (whole_ _) u1 u2 (szAd _ _ _) ?_
    exact hK.out _ _ (Ex.refl _) rfl
   apply StepsC.one (MC.eq _) 2 rfl (by decide)
   ·intro o ho FA w' hC hO hD K hK
    obtain rfl := qoi ho
    have e6 := hO 6 (by kernel_rfl)
    simp only [eval_tmp, qgT, qgS, qgZ, qoS] at e6
    have ev6 := Lib.hid ((eval_tmp FA 6).trans e6)
    clear hO hD ho
    go_simp
    exact hK.out _ _ (Ex.refl _) rfl
   apply StepsC.one (MC.eq _) 3 rfl (by decide)
   ·intro o ho FA w' hC hO hD K hK
    obtain rfl := qoi ho
    obtain ⟨e25, ev25⟩ := qE (hD 1 25 (by kernel_rfl))
    clear hO hD ho
    go_simp
    exact hK.out _ _ (Ex.refl _) rfl
   apply StepsC.one (MC.eq _) 4 rfl (by decide)
   ·intro o ho FA w' hC hO hD K hK
    obtain rfl := qoi ho
    obtain ⟨e26, ev26⟩ := qE (hD 2 26 (by kernel_rfl))
    clear hO hD ho
    go_simp
    exact hK.out _ _ (Ex.refl _) rfl
   apply StepsC.one (MC.eq _) 5 rfl (by decide)
   ·intro o ho FA w' hC hO hD K hK
    obtain rfl := qoi ho
    have e0 := hO 0 (by kernel_rfl)
    simp only [eval_tmp, qgT, qgS, qgZ, qoS] at e0
    have ev0 := Lib.hid ((eval_tmp FA 0).trans e0)
    obtain ⟨e27, ev27⟩ := qE (hD 3 27 (by kernel_rfl))
    first | have ge27 := slot_of e27 | have ge27 := slot_un e27
    clear hO hD ho
    go_simp
    exact hK.out _ _ (Ex.refl _) rfl
   apply StepsC.one (MC.eq _) 6 rfl (by decide)
   ·intro o ho FA w' hC hO hD K hK
    obtain rfl := qoi ho
    obtain ⟨e28, ev28⟩ := qE (hD 4 28 (by kernel_rfl))
    obtain ⟨e27, ev27⟩ := qE (hD 3 27 (by kernel_rfl))
    first | have ge27 := slot_of e27 | have ge27 := slot_un e27
    clear hO hD ho
    go_simp
    refine (badT r (some l5) _ (hR5.low (hC.below (B := r + 1) (fun b hb => by have : b = w.heap.size := hb; omega) (by omega)))).mono ?_
    rintro e w1 ⟨rfl, rfl⟩
    exact hK.out _ _ (Ex.refl _) rfl
   apply StepsC.one (MC.eq _) 7 rfl (by decide)
   ·intro o ho FA w' hC hO hD K hK
    obtain rfl := qoi ho
    obtain ⟨e29, ev29⟩ := qE (hD 5 29 (by kernel_rfl))
    obtain ⟨e27, ev27⟩ := qE (hD 3 27 (by kernel_rfl))
    first | have ge27 := slot_of e27 | have ge27 := slot_un e27
    clear hO hD ho
    go_simp
    exact hK.out _ _ (Ex.refl _) rfl
   apply StepsC.one (MC.eq _) 8 rfl (by decide)
   ·intro o ho FA w' hC hO hD K hK
    obtain rfl := qoi ho
    obtain ⟨e27, ev27⟩ := qE (hD 3 27 (by kernel_rfl))
    obtain ⟨e30, ev30⟩ := qE (hD 6 30 (by kernel_rfl))
    clear hO hD ho
    go_simp
    exact hK.out _ _ (Ex.refl _) rfl
   apply StepsC.mov MC.any 9 0 rfl rfl rfl
   ·intro o ho FA w' hC hO hD hS K hK
    obtain rfl := qoi ho
    have e2 := hO 2 (by kernel_rfl)
    simp only [eval_tmp, qgT, qgS, qgZ, qoS] at e2
    have ev2 := Lib.hid ((eval_tmp FA 2).trans e2)
    obtain ⟨e24, ev24⟩ := qE (hD 0 24 (by kernel_rfl))
    clear hO hD ho
    refine wanted_if rfl ?_
    refine wp_stA 32 (.tmp 2) (.tmp 24) rfl (adC six ah al) (adC false 0 0) rfl (adC_one _ _ _) ev2.out ev24.out hS (szAd _ _ _) ?_
    intro w'' hn hg
    exact hK.out undef _ (Chg.one hg rfl) hn trivial
   apply StepsC.one (MC.eq _) 10 rfl (by decide)
   ·intro o ho FA w' hC hO hD K hK
    obtain rfl := qoi ho
    obtain ⟨e31, ev31⟩ := qE (hD 7 31 (by kernel_rfl))
    clear hO hD ho
    go_simp
    exact hK.out _ _ (Ex.refl _) rfl
   refine StepsC.fin_ (fun vs w' hC hS hp => ?_)
   have p0 : vs 0 = _ := hp 0 (by omega) rfl
   have p1 : vs 1 = _ := hp 1 (by omega) rfl
   have p2 : vs 2 = _ := hp 2 (by omega) rfl
   have p3 : vs 3 = _ := hp 3 (by omega) rfl
   have p4 : vs 4 = _ := hp 4 (by omega) rfl
   have p5 : vs 5 = _ := hp 5 (by omega) rfl
   have p6 : vs 6 = _ := hp 6 (by omega) rfl
   have p7 : vs 7 = _ := hp 7 (by omega) rfl
   have p9 : vs 9 = _ := hp 9 (by omega) rfl
   clear hp
   simp only [List.take_succ_cons, List.take_zero, List.drop_succ_cons, List.drop_zero, putAll, Nat.zero_add, Nat.reduceAdd, Act.put, qsT, qsZ, qsS, p0, p1, p2, p3, p4, p5, p6, p7, p9]
   clear p0 p1 p2 p3 p4 p5 p6 p7 p9
   clear vs
   have gw : w.grownBy w' (some r) := grown_chg gr hC (fun b hb => by have : b = w.heap.size := hb; omega)
   go_wp2
   refine bodyPost_agg2 Tryz.results83 rfl rfl (Bk.range hS) u1 u2 (szAd _ _ _) rfl ?_
   exact ⟨six, ah, al, true, rfl, gw, ha1, ha2, .inr ⟨rfl, by unfold adS; rw [hz9.out]; simp only [hE, Option.map], by rw [hz9.out, hl5]; exact hR5.low (hC.below (B := r + 1) (fun b hb => by have : b = w.heap.size := hb; omega) (by omega))⟩⟩
  ·
   go_wp2
   refine wp_suS (fun b => b = w.heap.size) 10 32 2 [8] rfl (by kernel_rfl) (by kernel_rfl) (fun k w' => Bk w' w.heap.size 32 (if k = 0 then adC false 0 0 else adC six ah al)) (fun k w w' h h' => h.later h'.below) (b2) ?_
   apply StepsC.one (MC.eq _) 1 rfl (by decide)
   ·intro o ho FA w' hC hO hD K hK
    obtain rfl := qoi ho
    have e5 := hO 5 (by kernel_rfl)
    simp only [eval_tmp, qgT, qgS, qgZ, qoS] at e5
    have ev5 := Lib.hid ((eval_tmp FA 5).trans e5)
    clear hO hD ho
    refine wanted_if rfl ?_
    refine wp_ldA 32 (.tmp 5) rfl (adC six ah al) ev5.out (hX.chg hC nX) (whole_ _) u1 u2 (szAd _ _ _) ?_
    exact hK.out _ _ (Ex.refl _) rfl
   apply StepsC.one (MC.eq _) 2 rfl (by decide)
   ·intro o ho FA w' hC hO hD K hK
    obtain rfl := qoi ho
    have e6 := hO 6 (by kernel_rfl)
    simp only [eval_tmp, qgT, qgS, qgZ, qoS] at e6
    have ev6 := Lib.hid ((eval_tmp FA 6).trans e6)
    clear hO hD ho
    go_simp
    exact hK.out _ _ (Ex.refl _) rfl
   apply StepsC.one (MC.eq _) 3 rfl (by decide)
   ·intro o ho FA w' hC hO hD K hK
    obtain rfl := qoi ho
    obtain ⟨e25, ev25⟩ := qE (hD 1 25 (by kernel_rfl))
    clear hO hD ho
    go_simp
    exact hK.out _ _ (Ex.refl _) rfl
   apply StepsC.one (MC.eq _) 4 rfl (by decide)
   ·intro o ho FA w' hC hO hD K hK
    obtain rfl := qoi ho
    obtain ⟨e26, ev26⟩ := qE (hD 2 26 (by kernel_rfl))
    clear hO hD ho
    go_simp
    exact hK.out _ _ (Ex.refl _) rfl
   apply StepsC.one (MC.eq _) 5 rfl (by decide)
   ·intro o ho FA w' hC hO hD K hK
    obtain rfl := qoi ho
    have e0 := hO 0 (by kernel_rfl)
    simp only [eval_tmp, qgT, qgS, qgZ, qoS] at e0
    have ev0 := Lib.hid ((eval_tmp FA 0).trans e0)
    obtain ⟨e27, ev27⟩ := qE (hD 3 27 (by kernel_rfl))
    first | have ge27 := slot_of e27 | have ge27 := slot_un e27
    clear hO hD ho
    go_simp
    exact hK.out _ _ (Ex.refl _) rfl
   apply StepsC.one (MC.eq _) 6 rfl (by decide)
   ·intro o ho FA w' hC hO hD K hK
    obtain rfl := qoi ho
    obtain ⟨e28, ev28⟩ := qE (hD 4 28 (by kernel_rfl))
    obtain ⟨e27, ev27⟩ := qE (hD 3 27 (by kernel_rfl))
    first | have ge27 := slot_of e27 | have ge27 := slot_un e27
    clear hO hD ho
    go_simp
    exact hK.out _ _ (Ex.refl _) rfl
   apply StepsC.one (MC.eq _) 7 rfl (by decide)
   ·intro o ho FA w' hC hO hD K hK
    obtain rfl := qoi ho
    obtain ⟨e29, ev29⟩ := qE (hD 5 29 (by kernel_rfl))
    obtain ⟨e27, ev27⟩ := qE (hD 3 27 (by kernel_rfl))
    first | have ge27 := slot_of e27 | have ge27 := slot_un e27
    clear hO hD ho
    go_simp
    exact hK.out _ _ (Ex.refl _) rfl
   apply StepsC.one (MC.eq _) 8 rfl (by decide)
   ·intro o ho FA w' hC hO hD K hK
    obtain rfl := qoi ho
    obtain ⟨e27, ev27⟩ := qE (hD 3 27 (by kernel_rfl))
    obtain ⟨e30, ev30⟩ := qE (hD 6 30 (by kernel_rfl))
    clear hO hD ho
    go_simp
    exact hK.out _ _ (Ex.refl _) rfl
   apply StepsC.mov MC.any 9 0 rfl rfl rfl
   ·intro o ho FA w' hC hO hD hS K hK
    obtain rfl := qoi ho
    have e2 := hO 2 (by kernel_rfl)
    simp only [eval_tmp, qgT, qgS, qgZ, qoS] at e2
    have ev2 := Lib.hid ((eval_tmp FA 2).trans e2)
    obtain ⟨e24, ev24⟩ := qE (hD 0 24 (by kernel_rfl))
    clear hO hD ho
    refine wanted_if rfl ?_
    refine wp_stA 32 (.tmp 2) (.tmp 24) rfl (adC six ah al) (adC false 0 0) rfl (adC_one _ _ _) ev2.out ev24.out hS (szAd _ _ _) ?_
    intro w'' hn hg
    exact hK.out undef _ (Chg.one hg rfl) hn trivial
   apply StepsC.one (MC.eq _) 10 rfl (by decide)
   ·intro o ho FA w' hC hO hD K hK
    obtain rfl := qoi ho
    obtain ⟨e31, ev31⟩ := qE (hD 7 31 (by kernel_rfl))
    clear hO hD ho
    go_simp
    exact hK.out _ _ (Ex.refl _) rfl
   refine StepsC.fin_ (fun vs w' hC hS hp => ?_)
   have p0 : vs 0 = _ := hp 0 (by omega) rfl
   have p1 : vs 1 = _ := hp 1 (by omega) rfl
   have p2 : vs 2 = _ := hp 2 (by omega) rfl
   have p3 : vs 3 = _ := hp 3 (by omega) rfl
   have p4 : vs 4 = _ := hp 4 (by omega) rfl
   have p5 : vs 5 = _ := hp 5 (by omega) rfl
   have p6 : vs 6 = _ := hp 6 (by omega) rfl
   have p7 : vs 7 = _ := hp 7 (by omega) rfl
   have p9 : vs 9 = _ := hp 9 (by omega) rfl
   clear hp
   simp only [List.take_succ_cons, List.take_zero, List.drop_succ_cons, List.drop_zero, putAll, Nat.zero_add, Nat.reduceAdd, Act.put, qsT, qsZ, qsS, p0, p1, p2, p3, p4, p5, p6, p7, p9]
   clear p0 p1 p2 p3 p4 p5 p6 p7 p9
   clear vs
   have gw : w.grownBy w' (some r) := grown_chg gr hC (fun b hb => by have : b = w.heap.size := hb; omega)
   go_wp2
   refine bodyPost_agg2 Tryz.results83 rfl rfl (Bk.range hS) u1 u2 (szAd _ _ _) rfl ?_
   exact ⟨six, ah, al, false, rfl, gw, ha1, ha2, .inl ⟨rfl, by unfold adS; rw [hz9.out]; simp only [hE, Option.map]⟩⟩
 by_cases h16 : z = 16
 ·subst h16
  go_wp2_with fail
  refine (HBy.out V1 hR1).mono ?_
  rintro e V2 ⟨A, n, c, rfl, ho, hR2, hg2⟩
  replace b2 := b2.grown hg2 (by simp; omega)
  replace gr := gr.trans hg2
  have hRb := ho.rb
  clear hg2 hR1 HBy HB
  go_wp2_with fail
  refine (adrOfT A n c _ V2 hRb (by rw [← hRb.1]; have := tkB_le 16 (drB 1 s); omega)).mono ?_
  rintro e w1 ⟨six, ah, al, E, bs1, d1, rfl, rfl, ha1, ha2, hE⟩
  replace b2 := b2.later (below_plus V2 bs1 d1)
  replace gr := grown_below gr (below_plus V2 bs1 d1)
  replace hR2 := hR2.later (below_plus V2 bs1 d1)
  have zV2 := b2.lt
  generalize plus V2 bs1 d1 = V3 at *
  go_upto_region 5 with (refine at_op (.store 32 (.tmp 5) (.tmp 22)) rfl ?_; refine wpList_stA (t := 32) 32 (.tmp 5) (.tmp 22) rfl rfl (adC six ah al) (adC false 0 0) rfl (adC_one _ _ _) rfl rfl (Bk.new _ _ _) (szAd _ _ _) ?_; intro W4 h4 g4)
  have be4 : Below V3.heap.size V3 W4 := below_grown (Below.allocS (Below.refl _ _) _) g4 (Nat.le_refl _)
  have hX : Bk W4 V3.heap.size 32 (adC six ah al) := h4
  replace b2 := b2.later be4
  replace gr := grown_below gr be4
  replace hR2 := hR2.later be4
  have nX : ¬ (fun b => b = w.heap.size) V3.heap.size := fun h => by have h' : V3.heap.size = w.heap.size := h; omega
  clear be4 h4 g4
  generalize V3.heap.size = g5 at *
  rcases hE with ⟨rfl, hE⟩ | ⟨rfl, hE⟩
  ·obtain ⟨l5, hl5⟩ := adX_some (by decide : 0 < 16) hE
   have hR5 := hR2
   rw [hl5] at hR5
   have zR := hR5.lt
   go_wp2
   refine wp_suS (fun b => b = w.heap.size) 10 32 2 [8] rfl (by kernel_rfl) (by kernel_rfl) (fun k w' => Bk w' w.heap.size 32 (if k = 0 then adC false 0 0 else adC six ah al)) (fun k w w' h h' => h.later h'.below) (b2) ?_
   apply StepsC.one (MC.eq _) 1 rfl (by decide)
   ·intro o ho FA w' hC hO hD K hK
    obtain rfl := qoi ho
    have e5 := hO 5 (by kernel_rfl)
    simp only [eval_tmp, qgT, qgS, qgZ, qoS] at e5
    have ev5 := Lib.hid ((eval_tmp FA 5).trans e5)
    clear hO hD ho
    refine wanted_if rfl ?_
    refine wp_ldA 32 (.tmp 5) rfl (adC six ah al) ev5.out (hX.chg hC nX) (whole_ _) u1 u2 (szAd _ _ _) ?_
    exact hK.out _ _ (Ex.refl _) rfl
   apply StepsC.one (MC.eq _) 2 rfl (by decide)
   ·intro o ho FA w' hC hO hD K hK
    obtain rfl := qoi ho
    have e6 := hO 6 (by kernel_rfl)
    simp only [eval_tmp, qgT, qgS, qgZ, qoS] at e6
    have ev6 := Lib.hid ((eval_tmp FA 6).trans e6)
    clear hO hD ho
    go_simp
    exact hK.out _ _ (Ex.refl _) rfl
   apply StepsC.one (MC.eq _) 3 rfl (by decide)
   ·intro o ho FA w' hC hO hD K hK
    obtain rfl := qoi ho
    obtain ⟨e25, ev25⟩ := qE (hD 1 25 (by kernel_rfl))
    clear hO hD ho
    go_simp
    exact hK.out _ _ (Ex.refl _) rfl
   apply StepsC.one (MC.eq _) 4 rfl (by decide)
   ·intro o ho FA w' hC hO hD K hK
    obtain rfl := qoi ho
    obtain ⟨e26, ev26⟩ := qE (hD 2 26 (by kernel_rfl))
    clear hO hD ho
    go_simp
    exact hK.out _ _ (Ex.refl _) rfl
   apply StepsC.one (MC.eq _) 5 rfl (by decide)
   ·intro o ho FA w' hC hO hD K hK
    obtain rfl := qoi ho
    have e0 := hO 0 (by kernel_rfl)
    simp only [eval_tmp, qgT, qgS, qgZ, qoS] at e0
    have ev0 := Lib.hid ((eval_tmp FA 0).trans e0)
    obtain ⟨e27, ev27⟩ := qE (hD 3 27 (by kernel_rfl))
    first | have ge27 := slot_of e27 | have ge27 := slot_un e27
    clear hO hD ho
    go_simp
    exact hK.out _ _ (Ex.refl _) rfl
   apply StepsC.one (MC.eq _) 6 rfl (by decide)
   ·intro o ho FA w' hC hO hD K hK
    obtain rfl := qoi ho
    obtain ⟨e28, ev28⟩ := qE (hD 4 28 (by kernel_rfl))
    obtain ⟨e27, ev27⟩ := qE (hD 3 27 (by kernel_rfl))
    first | have ge27 := slot_of e27 | have ge27 := slot_un e27
    clear hO hD ho
    go_simp
    refine (badT r (some l5) _ (hR5.low (hC.below (B := r + 1) (fun b hb => by have : b = w.heap.size := hb; omega) (by omega)))).mono ?_
    rintro e w1 ⟨rfl, rfl⟩
    exact hK.out _ _ (Ex.refl _) rfl
   apply StepsC.one (MC.eq _) 7 rfl (by decide)
   ·intro o ho FA w' hC hO hD K hK
    obtain rfl := qoi ho
    obtain ⟨e29, ev29⟩ := qE (hD 5 29 (by kernel_rfl))
    obtain ⟨e27, ev27⟩ := qE (hD 3 27 (by kernel_rfl))
    first | have ge27 := slot_of e27 | have ge27 := slot_un e27
    clear hO hD ho
    go_simp
    exact hK.out _ _ (Ex.refl _) rfl
   apply StepsC.one (MC.eq _) 8 rfl (by decide)
   ·intro o ho FA w' hC hO hD K hK
    obtain rfl := qoi ho
    obtain ⟨e27, ev27⟩ := qE (hD 3 27 (by kernel_rfl))
    obtain ⟨e30, ev30⟩ := qE (hD 6 30 (by kernel_rfl))
    clear hO hD ho
    go_simp
    exact hK.out _ _ (Ex.refl _) rfl
   apply StepsC.mov MC.any 9 0 rfl rfl rfl
   ·intro o ho FA w' hC hO hD hS K hK
    obtain rfl := qoi ho
    have e2 := hO 2 (by kernel_rfl)
    simp only [eval_tmp, qgT, qgS, qgZ, qoS] at e2
    have ev2 := Lib.hid ((eval_tmp FA 2).trans e2)
    obtain ⟨e24, ev24⟩ := qE (hD 0 24 (by kernel_rfl))
    clear hO hD ho
    refine wanted_if rfl ?_
    refine wp_stA 32 (.tmp 2) (.tmp 24) rfl (adC six ah al) (adC false 0 0) rfl (adC_one _ _ _) ev2.out ev24.out hS (szAd _ _ _) ?_
    intro w'' hn hg
    exact hK.out undef _ (Chg.one hg rfl) hn trivial
   apply StepsC.one (MC.eq _) 10 rfl (by decide)
   ·intro o ho FA w' hC hO hD K hK
    obtain rfl := qoi ho
    obtain ⟨e31, ev31⟩ := qE (hD 7 31 (by kernel_rfl))
    clear hO hD ho
    go_simp
    exact hK.out _ _ (Ex.refl _) rfl
   refine StepsC.fin_ (fun vs w' hC hS hp => ?_)
   have p0 : vs 0 = _ := hp 0 (by omega) rfl
   have p1 : vs 1 = _ := hp 1 (by omega) rfl
   have p2 : vs 2 = _ := hp 2 (by omega) rfl
   have p3 : vs 3 = _ := hp 3 (by omega) rfl
   have p4 : vs 4 = _ := hp 4 (by omega) rfl
   have p5 : vs 5 = _ := hp 5 (by omega) rfl
   have p6 : vs 6 = _ := hp 6 (by omega) rfl
   have p7 : vs 7 = _ := hp 7 (by omega) rfl
   have p9 : vs 9 = _ := hp 9 (by omega) rfl
   clear hp
   simp only [List.take_succ_cons, List.take_zero, List.drop_succ_cons, List.drop_zero, putAll, Nat.zero_add, Nat.reduceAdd, Act.put, qsT, qsZ, qsS, p0, p1, p2, p3, p4, p5, p6, p7, p9]
   clear p0 p1 p2 p3 p4 p5 p6 p7 p9
   clear vs
   have gw : w.grownBy w' (some r) := grown_chg gr hC (fun b hb => by have : b = w.heap.size := hb; omega)
   go_wp2
   refine bodyPost_agg2 Tryz.results83 rfl rfl (Bk.range hS) u1 u2 (szAd _ _ _) rfl ?_
   exact ⟨six, ah, al, true, rfl, gw, ha1, ha2, .inr ⟨rfl, by unfold adS; rw [hz9.out]; simp only [hE, Option.map], by rw [hz9.out, hl5]; exact hR5.low (hC.below (B := r + 1) (fun b hb => by have : b = w.heap.size := hb; omega) (by omega))⟩⟩
  ·
   go_wp2
   refine wp_suS (fun b => b = w.heap.size) 10 32 2 [8] rfl (by kernel_rfl) (by kernel_rfl) (fun k w' => Bk w' w.heap.size 32 (if k = 0 then adC false 0 0 else adC six ah al)) (fun k w w' h h' => h.later h'.below) (b2) ?_
   apply StepsC.one (MC.eq _) 1 rfl (by decide)
   ·intro o ho FA w' hC hO hD K hK
    obtain rfl := qoi ho
    have e5 := hO 5 (by kernel_rfl)
    simp only [eval_tmp, qgT, qgS, qgZ, qoS] at e5
    have ev5 := Lib.hid ((eval_tmp FA 5).trans e5)
    clear hO hD ho
    refine wanted_if rfl ?_
    refine wp_ldA 32 (.tmp 5) rfl (adC six ah al) ev5.out (hX.chg hC nX) (whole_ _) u1 u2 (szAd _ _ _) ?_
    exact hK.out _ _ (Ex.refl _) rfl
   apply StepsC.one (MC.eq _) 2 rfl (by decide)
   ·intro o ho FA w' hC hO hD K hK
    obtain rfl := qoi ho
    have e6 := hO 6 (by kernel_rfl)
    simp only [eval_tmp, qgT, qgS, qgZ, qoS] at e6
    have ev6 := Lib.hid ((eval_tmp FA 6).trans e6)
    clear hO hD ho
    go_simp
    exact hK.out _ _ (Ex.refl _) rfl
   apply StepsC.one (MC.eq _) 3 rfl (by decide)
   ·intro o ho FA w' hC hO hD K hK
    obtain rfl := qoi ho
    obtain ⟨e25, ev25⟩ := qE (hD 1 25 (by kernel_rfl))
    clear hO hD ho
    go_simp
    exact hK.out _ _ (Ex.refl _) rfl
   apply StepsC.one (MC.eq _) 4 rfl (by decide)
   ·intro o ho FA w' hC hO hD K hK
    obtain rfl := qoi ho
    obtain ⟨e26, ev26⟩ := qE (hD 2 26 (by kernel_rfl))
    clear hO hD ho
    go_simp
    exact hK.out _ _ (Ex.refl _) rfl
   apply StepsC.one (MC.eq _) 5 rfl (by decide)
   ·intro o ho FA w' hC hO hD K hK
    obtain rfl := qoi ho
    have e0 := hO 0 (by kernel_rfl)
    simp only [eval_tmp, qgT, qgS, qgZ, qoS] at e0
    have ev0 := Lib.hid ((eval_tmp FA 0).trans e0)
    obtain ⟨e27, ev27⟩ := qE (hD 3 27 (by kernel_rfl))
    first | have ge27 := slot_of e27 | have ge27 := slot_un e27
    clear hO hD ho
    go_simp
    exact hK.out _ _ (Ex.refl _) rfl
   apply StepsC.one (MC.eq _) 6 rfl (by decide)
   ·intro o ho FA w' hC hO hD K hK
    obtain rfl := qoi ho
    obtain ⟨e28, ev28⟩ := qE (hD 4 28 (by kernel_rfl))
    obtain ⟨e27, ev27⟩ := qE (hD 3 27 (by kernel_rfl))
    first | have ge27 := slot_of e27 | have ge27 := slot_un e27
    clear hO hD ho
    go_simp
    exact hK.out _ _ (Ex.refl _) rfl
   apply StepsC.one (MC.eq _) 7 rfl (by decide)
   ·intro o ho FA w' hC hO hD K hK
    obtain rfl := qoi ho
    obtain ⟨e29, ev29⟩ := qE (hD 5 29 (by kernel_rfl))
    obtain ⟨e27, ev27⟩ := qE (hD 3 27 (by kernel_rfl))
    first | have ge27 := slot_of e27 | have ge27 := slot_un e27
    clear hO hD ho
    go_simp
    exact hK.out _ _ (Ex.refl _) rfl
   apply StepsC.one (MC.eq _) 8 rfl (by decide)
   ·intro o ho FA w' hC hO hD K hK
    obtain rfl := qoi ho
    obtain ⟨e27, ev27⟩ := qE (hD 3 27 (by kernel_rfl))
    obtain ⟨e30, ev30⟩ := qE (hD 6 30 (by kernel_rfl))
    clear hO hD ho
    go_simp
    exact hK.out _ _ (Ex.refl _) rfl
   apply StepsC.mov MC.any 9 0 rfl rfl rfl
   ·intro o ho FA w' hC hO hD hS K hK
    obtain rfl := qoi ho
    have e2 := hO 2 (by kernel_rfl)
    simp only [eval_tmp, qgT, qgS, qgZ, qoS] at e2
    have ev2 := Lib.hid ((eval_tmp FA 2).trans e2)
    obtain ⟨e24, ev24⟩ := qE (hD 0 24 (by kernel_rfl))
    clear hO hD ho
    refine wanted_if rfl ?_
    refine wp_stA 32 (.tmp 2) (.tmp 24) rfl (adC six ah al) (adC false 0 0) rfl (adC_one _ _ _) ev2.out ev24.out hS (szAd _ _ _) ?_
    intro w'' hn hg
    exact hK.out undef _ (Chg.one hg rfl) hn trivial
   apply StepsC.one (MC.eq _) 10 rfl (by decide)
   ·intro o ho FA w' hC hO hD K hK
    obtain rfl := qoi ho
    obtain ⟨e31, ev31⟩ := qE (hD 7 31 (by kernel_rfl))
    clear hO hD ho
    go_simp
    exact hK.out _ _ (Ex.refl _) rfl
   refine StepsC.fin_ (fun vs w' hC hS hp => ?_)
   have p0 : vs 0 = _ := hp 0 (by omega) rfl
   have p1 : vs 1 = _ := hp 1 (by omega) rfl
   have p2 : vs 2 = _ := hp 2 (by omega) rfl
   have p3 : vs 3 = _ := hp 3 (by omega) rfl
   have p4 : vs 4 = _ := hp 4 (by omega) rfl
   have p5 : vs 5 = _ := hp 5 (by omega) rfl
   have p6 : vs 6 = _ := hp 6 (by omega) rfl
   have p7 : vs 7 = _ := hp 7 (by omega) rfl
   have p9 : vs 9 = _ := hp 9 (by omega) rfl
   clear hp
   simp only [List.take_succ_cons, List.take_zero, List.drop_succ_cons, List.drop_zero, putAll, Nat.zero_add, Nat.reduceAdd, Act.put, qsT, qsZ, qsS, p0, p1, p2, p3, p4, p5, p6, p7, p9]
   clear p0 p1 p2 p3 p4 p5 p6 p7 p9
   clear vs
   have gw : w.grownBy w' (some r) := grown_chg gr hC (fun b hb => by have : b = w.heap.size := hb; omega)
   go_wp2
   refine bodyPost_agg2 Tryz.results83 rfl rfl (Bk.range hS) u1 u2 (szAd _ _ _) rfl ?_
   exact ⟨six, ah, al, false, rfl, gw, ha1, ha2, .inl ⟨rfl, by unfold adS; rw [hz9.out]; simp only [hE, Option.map]⟩⟩
 have i4 : ((z : Int) == 4) = false := by simp; omega
 have i16 : ((z : Int) == 16) = false := by simp; omega
 have hno : adS s = none := by unfold adS; rw [adX_none (by rw [hz9.out]; exact h4) (by rw [hz9.out]; exact h16)]; rfl
 replace hno := Lib.hid hno
 have j4 : ¬ (z : Int) = 4 := by omega
 have j16 : ¬ (z : Int) = 16 := by omega
 have k4 : ((z : Int) != 4) = true := by simp; omega
 have k16 : ((z : Int) != 16) = true := by simp; omega
 clear HBy HB hz9
 go_wp2_with (refine at_op (.store 32 (.tmp 2) (.tmp 16)) rfl ?_; refine wpList_stA (t := 32) 32 (.tmp 2) (.tmp 16) rfl rfl (adC false 0 0) (adC false 0 0) rfl (adC_one _ _ _) rfl rfl (b2) (szAd _ _ _) ?_; intro W4 h9 g9)
 refine bodyPost_agg2 Tryz.results83 rfl rfl h9.range u1 u2 (szAd _ _ _) rfl ?_
 exact ⟨false, 0, 0, false, rfl, grown_new gr g9 (Nat.le_refl _), by decide, by decide, .inl ⟨rfl, hno.out⟩⟩
def drs : Nat → StB → StB
 | 0, s => s
 | i + 1, s => drB 1 (drB 1 (drs i s))
def mbs : Nat → StB → List (Int × Int)
 | 0, _ => []
 | i + 1, s => mbs i s ++ [((numT 1 (drs i s) : Int), (numT 1 (drB 1 (drs i s)) : Int))]
theorem mbs_len (s : StB) : ∀ i, (mbs i s).length = i
 | 0 => rfl
 | i + 1 => by simp [mbs, mbs_len s i]
theorem SL.drs {s : StB} (h : SL s) : ∀ i, SL (drs i s)
 | 0 => h
 | i + 1 => ((SL.drs h i).dr 1).dr 1
def mbS (s : StB) : Option (List (Int × Int) × List UInt8) := if numT 1 s ≤ 64 then (drs (numT 1 s) (drB 1 s)).map fun l => (mbs (numT 1 s) (drB 1 s), l) else none
theorem grown_old {a b c : World} {r : Nat} (h : a.grownBy b (some r)) (k : Below a.heap.size b c) : a.grownBy c (some r) :=
 ⟨k.os.trans h.os, k.tape.trans h.tape, k.output.trans h.output, Nat.le_trans h.size k.size, fun i hi hne => (k.block i hi).trans (h.block i hi hne)⟩
theorem etCm : ET Tryz.prog 41 87 (.agg #[.int .i64 0, .int .i64 0]) 2 16 := ⟨Tryz.underlying41, by kernel_rfl, rfl, by decide, by decide⟩
def RetTM (w : World) (r : Nat) (s : StB) (e : Ending) (w' : World) : Prop := ∃ A n c ok, e = .returned (.tuple #[.slice A n c, .bool ok]) ∧ w.grownBy w' (some r) ∧ (ok = false ∧ mbS s = none ∨ ok = true ∧ ∃ L l, mbS s = some (L, l) ∧ RP w' r (some l) ∧ Os 87 2 w' w.heap.size A n c (prs .i64 L))
theorem takeMembers_any (r : Nat) (s : StB) (w : World) (h : RP w r s) (hs : SL s) : Calls Tryz.prog 85 #[.pointer (some ⟨r, 0, none⟩)] w (RetTM w r s) := by
 have zr := h.lt
 have hz256 := numT_lt 1 256 s (by decide)
 have hs1 := hs.dr 1
 have HB := Lib.hid (byteT r s)
 have HBi := Lib.hid (fun i w h => byteT r (drs i (drB 1 s)) w h (hs1.drs i))
 have HBj := Lib.hid (fun i w h => byteT r (drB 1 (drs i (drB 1 s))) w h ((hs1.drs i).dr 1))
 obtain ⟨n, hn⟩ : ∃ n, numT 1 s = n := ⟨_, rfl⟩
 have hn9 : Hid (mbS s = if n ≤ 64 then (drs n (drB 1 s)).map fun l => (mbs n (drB 1 s), l) else none) := Lib.hid (by unfold mbS; rw [hn])
 rw [hn] at HB hz256
 clear hn
 generalize drB 1 s = s1 at *
 go_enter Tryz.func85, Tryz.ntmps85
 go_wp2_with fail
 refine (HB.out _ h hs).mono ?_
 rintro e V ⟨rfl, hR, hg⟩
 clear HB h
 by_cases h64 : 64 < n
 ·have i64 : (64 : Int) < (n : Int) := by omega
  have hno : Hid (mbS s = none) := Lib.hid (by rw [hn9.out, if_neg (by omega)])
  go_wp2
  refine bodyPost_ret (v := .tuple #[.slice none 0 0, .bool false]) (by simp [results, Tryz.results85, go_sem]) rfl ?_
  exact ⟨none, 0, 0, false, rfl, hg, .inl ⟨rfl, hno.out⟩⟩
 have i64 : ¬ (64 : Int) < (n : Int) := by omega
 go_upto_region 6 with (fail)
 have hGv := hg
 clear hg
 go_loopw [5, 14] (fun X I wr => ∃ i : Nat, ∃ A m c, I = .int .i64 (i : Int) ∧ i ≤ n ∧ X = .slice A m c ∧ Os 87 2 wr w.heap.size A m c (prs .i64 (mbs i s1)) ∧ RP wr r (drs i s1) ∧ w.grownBy wr (some r)) (fun _ I _ => n - (intOf I).toNat)
 case atStart => exact ⟨0, none, 0, 0, rfl, Nat.zero_le _, rfl, Os.nil_, hR, hGv⟩
 case round =>
  obtain ⟨i, A, m, c, rfl, hi, rfl, hO, hRr, hG⟩ := hrel
  have hm : m = i := by
   have := hO.rs.1
   rw [prs_length, mbs_len] at this
   omega
  subst hm
  by_cases hlt : m < n
  ·have ii : (m : Int) < (n : Int) := by omega
   have hx := numT_lt 1 256 (drs m s1) (by decide)
   have hy := numT_lt 1 256 (drB 1 (drs m s1)) (by decide)
   have HX := Lib.hid (HBi.out m)
   have HY := Lib.hid (HBj.out m)
   have HM := Lib.hid (show mbs (m + 1) s1 = mbs m s1 ++ [((numT 1 (drs m s1) : Int), (numT 1 (drB 1 (drs m s1)) : Int))] from rfl)
   generalize numT 1 (drs m s1) = x at *
   generalize numT 1 (drB 1 (drs m s1)) = y at *
   have zg := hG.size
   go_wp2_with fail
   refine (HX.out _ hRr).mono ?_
   rintro e V1 ⟨rfl, hR1, hg1⟩
   replace hO := hO.grown hg1 (fun k hk e => by have := (hO.blk k hk).1; injection e with e; omega)
   replace hG := hG.trans hg1
   clear hg1 hRr
   go_wp2_with fail
   refine (HY.out _ hR1).mono ?_
   rintro e V2 ⟨rfl, hR2, hg2⟩
   replace hO := hO.grown hg2 (fun k hk e => by have := (hO.blk k hk).1; injection e with e; omega)
   replace hG := hG.trans hg2
   clear hg2 hR1
   have zV2 := hG.size
   go_wp2_with (at_builtin; refine wpList_appS etCm rfl (.tmp 22) (.tmp 26) rfl rfl (hO.later (Below.allocS (Below.refl _ _) _)) rfl (Rs.of_bk (n := 1) (c := 1) (Bk.new V2 _ _) rfl (Nat.le_refl _)) (by simp [Value.oneCell']) (by omega) (by simp; omega) ?_; intro A2 n2 c2 w4 hn2 hO4 hb4 hg4; subst hn2)
   have hb5 : Below w.heap.size V2 w4 := ((Below.refl V2.heap.size V2).alloc (Nat.le_refl _) _ |>.mono (by omega)).trans hb4
   exact ⟨⟨m + 1, A2, _, c2, by go_num, by omega, rfl, by rw [HM.out, prs_append]; exact hO4, hR2.low (hb5.mono (by omega)), grown_old hG hb5⟩, by simp [intOf]; omega⟩
  ·obtain rfl : m = n := by omega
   have ii : ¬ (m : Int) < (m : Int) := by omega
   have hyes : Hid (mbS s = (drs m s1).map fun l => (mbs m s1, l)) := Lib.hid (by rw [hn9.out, if_pos (by omega)])
   go_wp2_with fail
   refine (badT r (drs m s1) _ hRr).mono ?_
   rintro e w1 ⟨rfl, rfl⟩
   cases hd : drs m s1 with
   | none =>
    rw [hd] at hyes
    simp only [Option.isNone]
    go_wp2
    refine bodyPost_ret (v := .tuple #[.slice A m c, .bool false]) (by simp [results, Tryz.results85, go_sem]) rfl ?_
    exact ⟨A, _, c, false, rfl, hG, .inl ⟨rfl, hyes.out⟩⟩
   | some l =>
    rw [hd] at hyes hRr
    simp only [Option.isNone]
    go_wp2
    refine bodyPost_ret (v := .tuple #[.slice A m c, .bool true]) (by simp [results, Tryz.results85, go_sem]) rfl ?_
    exact ⟨A, _, c, true, rfl, hG, .inr ⟨rfl, _, l, hyes.out, hRr, hO⟩⟩
end

section
open Go.RowKit
attribute [local go_sem ↓] sliced_cut
attribute [local go_sem] cutA_zero
def opC (k v b e : Int) (six : Bool) (ah al pt pr : Nat) (wy : Int) (A : Option Addr) (n c : Nat) : List Value := [.int .i64 k, .int .i64 v, .int .i64 b, .int .i64 e, .bool six, .int .u64 (ah : Int), .int .u64 (al : Int), .int .u16 (pt : Int), .int .u8 (pr : Int), .int .i64 wy, .slice A n c]
theorem opC_one (k v b e : Int) (six : Bool) (ah al pt pr : Nat) (wy : Int) (A : Option Addr) (n c : Nat) : ∀ u ∈ opC k v b e six ah al pt pr wy A n c, u.oneCell' = true := by simp [opC, Value.oneCell']
theorem szOp (k v b e : Int) (six : Bool) (ah al pt pr : Nat) (wy : Int) (A : Option Addr) (n c : Nat) : (Tryz.prog.info? 43).map (·.size) = some (opC k v b e six ah al pt pr wy A n c).length := by kernel_rfl
theorem rowOpC : ∃ d, Tryz.prog.underlying 43 = some d ∧ d.isRow = true := ⟨_, Tryz.underlying43, rfl⟩
structure OpR where
 k : Int
 v : Int
 b : Int
 e : Int
 six : Bool
 ah : Nat
 al : Nat
 pt : Nat
 pr : Nat
 wy : Int
 ms : List (Int × Int)
def OpR.cells (o : OpR) (A : Option Addr) (n c : Nat) : List Value := opC o.k o.v o.b o.e o.six o.ah o.al o.pt o.pr o.wy A n c
def popE (k v b e : Nat) (q : Bool × Nat × Nat) (pt pr wy : Nat) : Option (List (Int × Int) × List UInt8) → Option OpR
 | some (L, []) => some ⟨k, v, b, e, q.1, q.2.1, q.2.2, pt, pr, wy, L⟩
 | _ => none
def popS (L : List UInt8) : Option OpR :=
 let s1 := drB 1 (some L); let s2 := drB 1 s1; let s3 := drB 1 s2; let s4 := drB 1 s3
 (adS s4).bind fun p => popE (numT 1 (some L)) (numT 1 s1) (numT 1 s2) (numT 1 s3) p.1 (numT 2 p.2) (numT 1 (drB 2 p.2)) (numT 1 (drB 1 (drB 2 p.2))) (mbS (drB 1 (drB 1 (drB 2 p.2))))
def OpR.fine (o : OpR) : Prop := (0 ≤ o.k ∧ o.k < 256) ∧ (0 ≤ o.v ∧ o.v < 256) ∧ (0 ≤ o.b ∧ o.b < 256) ∧ (0 ≤ o.e ∧ o.e < 256) ∧ o.ah < 18446744073709551616 ∧ o.al < 18446744073709551616 ∧ o.pt < 65536 ∧ o.pr < 256 ∧ (0 ≤ o.wy ∧ o.wy < 256) ∧ o.ms.length ≤ 64
def RetPO (w : World) (L : List UInt8) (F : Bool → Value) (e : Ending) (w' : World) : Prop := ∃ (o : OpR) (ok : Bool) (A : Option Addr) (n c : Nat) (bs : List Obj) (d : Nat), e = .returned (.tuple #[.agg (o.cells A n c).toArray, F ok]) ∧ w' = plus w bs d ∧ o.fine ∧ Rs 2 (plus w bs d) A n c (prs .i64 o.ms) ∧ (ok = true ∧ popS L = some o ∨ ok = false ∧ popS L = none ∧ o = ⟨0, 0, 0, 0, false, 0, 0, 0, 0, 0, []⟩)
theorem OpR.fine0 : OpR.fine ⟨0, 0, 0, 0, false, 0, 0, 0, 0, 0, []⟩ := by simp [OpR.fine]
theorem RetPO.none_ {w w' : World} {L : List UInt8} {F : Bool → Value} (h : popS L = none) (hb : Below w.heap.size w w') : RetPO w L F (.returned (.tuple #[.agg (opC 0 0 0 0 false 0 0 0 0 0 none 0 0).toArray, F false])) w' := by
 obtain ⟨bs, d, rfl⟩ := plus_of hb
 exact ⟨_, false, none, 0, 0, bs, d, rfl, rfl, OpR.fine0, Rs.nil_, .inr ⟨rfl, h, rfl⟩⟩
end

section
open Go.RowKit
attribute [local go_sem ↓] sliced_cut
attribute [local go_sem] cutA_zero
def RetSeg (w : World) (x0 x1 x2 x3 x4 x5 x6 x7 : Nat) (l l2 : List UInt8) (v : Value) (e : Ending) (w' : World) : Prop :=
 ∃ A n c A2 n2 c2 bs d, e = .returned (.tuple #[.agg #[.int .u16 x0, .int .u16 x1, .int .u32 x2, .int .u32 x3, .int .u8 x4, .int .u16 x5, .int .u16 x6, .int .u16 x7, .slice A n c, .slice A2 n2 c2], v]) ∧ w' = plus w bs d ∧ Rb (plus w bs d) A n c l ∧ Rb (plus w bs d) A2 n2 c2 l2
theorem RetSeg.mk {w w' : World} {x0 x1 x2 x3 x4 x5 x6 x7 : Nat} {l l2 : List UInt8} {A : Option Addr} {n c : Nat} {A2 : Option Addr} {n2 c2 : Nat} {v : Value} (h1 : Rb w' A n c l) (h2 : Rb w' A2 n2 c2 l2) (hb : Below w.heap.size w w') :
  RetSeg w x0 x1 x2 x3 x4 x5 x6 x7 l l2 v (.returned (.tuple #[.agg #[.int .u16 x0, .int .u16 x1, .int .u32 x2, .int .u32 x3, .int .u8 x4, .int .u16 x5, .int .u16 x6, .int .u16 x7, .slice A n c, .slice A2 n2 c2], v])) w' := by
 obtain ⟨bs, d, rfl⟩ := plus_of hb
 exact ⟨A, n, c, A2, n2, c2, bs, d, rfl, rfl, h1, h2⟩
def RetSegF (w : World) (x0 x1 x2 x3 x4 x5 x6 x7 : Nat) (l l2 : List UInt8) (v : Value) (e : Ending) (w' : World) : Prop :=
 ∃ A n c A2 n2 c2 bs d, e = .returned (.tuple #[.agg #[.int .u16 x0, .int .u16 x1, .int .u32 x2, .int .u32 x3, .int .u8 x4, .int .u16 x5, .int .u16 x6, .int .u16 x7, .slice A n c, .slice A2 n2 c2], v]) ∧ w' = plus w bs d ∧ Rb (plus w bs d) A n c l ∧ Rb (plus w bs d) A2 n2 c2 l2 ∧ (∀ a, A = some a → w.heap.size ≤ a.block) ∧ ∀ a, A2 = some a → w.heap.size ≤ a.block
theorem Ob.freshT {w : World} {w0 base : Nat} {A : Option Addr} {n c : Nat} {l : List UInt8} (h : Ob w base A n c l) (hb : w0 ≤ base) : ∀ a, A = some a → w0 ≤ a.block := fun a ha => by
 subst ha
 have := (h.blk a.block rfl).1
 omega
theorem RetSegF.mk {w w' : World} {x0 x1 x2 x3 x4 x5 x6 x7 : Nat} {l l2 : List UInt8} {A : Option Addr} {n c : Nat} {A2 : Option Addr} {n2 c2 : Nat} {v : Value} {b1 b2 : Nat} (h1 : Ob w' b1 A n c l) (h2 : Ob w' b2 A2 n2 c2 l2) (hb : Below w.heap.size w w') (f1 : w.heap.size ≤ b1) (f2 : w.heap.size ≤ b2) :
  RetSegF w x0 x1 x2 x3 x4 x5 x6 x7 l l2 v (.returned (.tuple #[.agg #[.int .u16 x0, .int .u16 x1, .int .u32 x2, .int .u32 x3, .int .u8 x4, .int .u16 x5, .int .u16 x6, .int .u16 x7, .slice A n c, .slice A2 n2 c2], v])) w' := by
 obtain ⟨bs, d, rfl⟩ := plus_of hb
 exact ⟨A, n, c, A2, n2, c2, bs, d, rfl, rfl, h1.rb, h2.rb, h1.freshT f1, h2.freshT f2⟩
theorem RetSeg.zero {w w' : World} {v : Value} (hb : Below w.heap.size w w') : RetSeg w 0 0 0 0 0 0 0 0 [] [] v (.returned (.tuple #[.agg #[.int .u16 0, .int .u16 0, .int .u32 0, .int .u32 0, .int .u8 0, .int .u16 0, .int .u16 0, .int .u16 0, .slice none 0 0, .slice none 0 0], v])) w' := RetSeg.mk Rb.nil_ Rb.nil_ hb
end

section
open Go.RowKit
attribute [local go_sem ↓] sliced_cut
attribute [local go_sem] cutA_zero
def RR (w : World) (r : Nat) : StB → Prop
 | none => ∃ A n c, Bk w r 243 [.slice A n c, .bool true]
 | some l => ∃ A n c, Bk w r 243 [.slice A n c, .bool false] ∧ l.length = n ∧ n ≤ c ∧ Rd w r A (bcs l)
theorem RR.bk {w : World} {r : Nat} {s : StB} (h : RR w r s) : ∃ A n c, Bk w r 243 [.slice A n c, .bool s.isNone] := by
 cases s with
 | none => exact h
 | some l =>
  obtain ⟨A, n, c, h1, _⟩ := h
  exact ⟨A, n, c, h1⟩
theorem RR.lt {w : World} {r : Nat} {s : StB} (h : RR w r s) : r < w.heap.size := by
 obtain ⟨A, n, c, h1⟩ := h.bk
 exact h1.lt
theorem RR.low {w w' : World} {r : Nat} {s : StB} (h : RR w r s) (hb : Below (r + 1) w w') : RR w' r s := by
 cases s with
 | none =>
  obtain ⟨A, n, c, h1⟩ := h
  exact ⟨A, n, c, (hb.block r (by omega)).trans h1⟩
 | some l =>
  obtain ⟨A, n, c, h1, h2, h3, h4⟩ := h
  exact ⟨A, n, c, (hb.block r (by omega)).trans h1, h2, h3, h4.below ⟨hb.os, hb.tape, hb.output, hb.size, fun k hk => hb.block k (by omega)⟩⟩
theorem RR.later {w w' : World} {r : Nat} {s : StB} (h : RR w r s) (hb : Below w.heap.size w w') : RR w' r s := h.low (hb.mono h.lt)
end

section
open Go.RowKit
attribute [local go_sem ↓] sliced_cut
attribute [local go_sem] cutA_zero
theorem szRo (k v b e : Int) (six : Bool) (ah al pt pr : Nat) (wy : Int) (A : Option Addr) (n c : Nat) : (Tryz.prog.info? 47).map (·.size) = some (opC k v b e six ah al pt pr wy A n c).length := by kernel_rfl
theorem rowRo : ∃ d, Tryz.prog.underlying 47 = some d ∧ d.isRow = true := ⟨_, Tryz.underlying47, rfl⟩
end

section
open Go.RowKit
attribute [local go_sem ↓] sliced_cut
attribute [local go_sem] cutA_zero
def shB (n : Int) : Bool := decide (0 ≤ n) && decide (n < 256)
def adG (six : Bool) (h l : Nat) : Bool := six || (decide (h = 0) && decide (l < 4294967296))
theorem short_any (n : Int) (w : World) : Calls Tryz.prog 110 #[.int .i64 n] w fun e w' => e = .returned (.bool (shB n)) ∧ w = w' := by
 by_cases h0 : 0 ≤ n
 ·by_cases h1 : n < 256
  ·have d0 : decide (0 ≤ n) = true := by simpa using h0
   have d1 : decide (n ≤ 255) = true := by simp; omega
   have hz : Hid (shB n = true) := Lib.hid (by simp [shB]; omega)
   have k1 : n ≤ 255 := by omega
   go_enter Tryz.func110, Tryz.ntmps110
   go_wp2
   go_ret
   exact ⟨by rw [hz.out]; simp; try omega, rfl⟩
  ·have d0 : decide (0 ≤ n) = true := by simpa using h0
   have d1 : decide (n ≤ 255) = false := by simp; omega
   have hz : Hid (shB n = false) := Lib.hid (by simp [shB]; omega)
   have k1 : ¬ n ≤ 255 := by omega
   go_enter Tryz.func110, Tryz.ntmps110
   go_wp2
   go_ret
   exact ⟨by rw [hz.out]; simp; try omega, rfl⟩
 ·have d0 : decide (0 ≤ n) = false := by simpa using h0
  have hz : Hid (shB n = false) := Lib.hid (by simp [shB]; omega)
  go_enter Tryz.func110, Tryz.ntmps110
  go_wp2
  go_ret
  exact ⟨by rw [hz.out]; simp; try omega, rfl⟩
set_option maxHeartbeats 4000000
set_option maxRecDepth 100000
theorem adrRightC (six : Bool) (h l : Nat) (w : World) (hl : l < 18446744073709551616) : Calls Tryz.prog 111 #[.agg (adC six h l).toArray] w (RetV w (.bool (adG six h l))) := by
 unfold adC
 cases six
 ·by_cases h0 : h = 0
  ·subst h0
   by_cases h1 : l < 4294967296
   ·have t1 : decide (l < 4294967296) = true := by simp; omega
    have hz : Hid (adG false 0 l = true) := Lib.hid (by simp [adG]; omega)
    go_enter Tryz.func111, Tryz.ntmps111
    go_wp2
    go_ret
    exact RetV.is_ (by rw [hz.out]; simp; try omega) (Below.allocS (Below.refl _ _) _)
   ·have t1 : decide (l < 4294967296) = false := by simp; omega
    have hz : Hid (adG false 0 l = false) := Lib.hid (by simp [adG]; omega)
    go_enter Tryz.func111, Tryz.ntmps111
    go_wp2
    go_ret
    exact RetV.is_ (by rw [hz.out]; simp; try omega) (Below.allocS (Below.refl _ _) _)
  ·have e1 : ((h : Int) == 0) = false := by rw [beq_eq_false_iff_ne]; omega
   have hz : Hid (adG false h l = false) := Lib.hid (by simp [adG]; omega)
   clear h0
   go_enter Tryz.func111, Tryz.ntmps111
   go_wp2
   go_ret
   exact RetV.is_ (by rw [hz.out]; rfl) (Below.allocS (Below.refl _ _) _)
 ·go_enter Tryz.func111, Tryz.ntmps111
  go_wp2
  go_ret
  exact RetV.is_ rfl (Below.allocS (Below.refl _ _) _)
theorem refAdrRightC (six : Bool) (h l : Nat) (w : World) (hl : l < 18446744073709551616) : Calls Tryz.prog 69 #[.agg (adC six h l).toArray] w (RetV w (.bool (adG six h l))) := by
 unfold adC
 cases six
 ·by_cases h0 : h = 0
  ·subst h0
   by_cases h1 : l < 4294967296
   ·have t1 : decide (l ≤ 4294967295) = true := by simp; omega
    have hz : Hid (adG false 0 l = true) := Lib.hid (by simp [adG]; omega)
    go_enter Tryz.func69, Tryz.ntmps69
    go_wp2
    go_ret
    exact RetV.is_ (by rw [hz.out]; simp; try omega) (Below.allocS (Below.refl _ _) _)
   ·have t1 : decide (l ≤ 4294967295) = false := by simp; omega
    have hz : Hid (adG false 0 l = false) := Lib.hid (by simp [adG]; omega)
    go_enter Tryz.func69, Tryz.ntmps69
    go_wp2
    go_ret
    exact RetV.is_ (by rw [hz.out]; simp; try omega) (Below.allocS (Below.refl _ _) _)
  ·have e1 : ((h : Int) == 0) = false := by rw [beq_eq_false_iff_ne]; omega
   have hz : Hid (adG false h l = false) := Lib.hid (by simp [adG]; omega)
   clear h0
   go_enter Tryz.func69, Tryz.ntmps69
   go_wp2
   go_ret
   exact RetV.is_ (by rw [hz.out]; rfl) (Below.allocS (Below.refl _ _) _)
 ·go_enter Tryz.func69, Tryz.ntmps69
  go_wp2
  go_ret
  exact RetV.is_ rfl (Below.allocS (Below.refl _ _) _)
def rightB (k v b e : Int) (six : Bool) (ah al : Nat) (wy : Int) (ms : List (Int × Int)) : Bool := (shB k && shB v && shB b && shB e && shB wy) && (adG six ah al && (decide (ms.length ≤ 64) && ms.all (fun p => shB p.1 && shB p.2)))
theorem rng_pr {w : World} {b off : Nat} {p : Int × Int} (h : w.cell? ⟨b, off, none⟩ = some (.int .i64 p.1) ∧ w.cell? ⟨b, off + 1, none⟩ = some (.int .i64 p.2)) : w.rangeAt b off [.int .i64 p.1, .int .i64 p.2] := by
 intro i u hu
 match i, hu with
 | 0, hu => simp at hu; subst hu; exact h.1
 | 1, hu => simp at hu; subst hu; exact h.2
 | i + 2, hu => simp at hu
theorem right_any (k v b e : Int) (six : Bool) (ah al pt pr : Nat) (wy : Int) (ms : List (Int × Int)) (A : Option Addr) (n c : Nat) (w : World) (ha : al < 18446744073709551616) (hr : Rs 2 w A n c (prs .i64 ms)) (hn : n ≤ 1000000) : Calls Tryz.prog 60 #[.agg (opC k v b e six ah al pt pr wy A n c).toArray] w (RetV w (.bool (rightB k v b e six ah al wy ms))) := by
 obtain ⟨da, a1, a2⟩ : ∃ d, Tryz.prog.underlying 32 = some d ∧ d.isRow = true := ⟨_, Tryz.underlying32, rfl⟩
 obtain ⟨dm, m1, m2⟩ : ∃ d, Tryz.prog.underlying 87 = some d ∧ d.isRow = true := ⟨_, Tryz.underlying87, rfl⟩
 have hml : ms.length = n := by have := hr.1; rw [prs_length] at this; omega
 have HAR := Lib.hid (fun w => adrRightC six ah al w ha)
 replace hr := hr.alloc (.cells (opC k v b e six ah al pt pr wy A n c).toArray 43)
 obtain ⟨dv1, v1, v2⟩ := rowOpC
 obtain ⟨b1, be, zV⟩ := box1 w 43 (opC k v b e six ah al pt pr wy A n c)
 go_enter Tryz.func60, Tryz.ntmps60
 go_upto_region 1 with (fail)
 generalize w.alloc (.cells (opC k v b e six ah al pt pr wy A n c).toArray 43) = V at *
 have q0 : V.cell? ⟨w.heap.size, 0, none⟩ = some (.int .i64 k) := b1.cell 0
 have q1 : V.cell? ⟨w.heap.size, 1, none⟩ = some (.int .i64 v) := b1.cell 1
 have q2 : V.cell? ⟨w.heap.size, 2, none⟩ = some (.int .i64 b) := b1.cell 2
 have q3 : V.cell? ⟨w.heap.size, 3, none⟩ = some (.int .i64 e) := b1.cell 3
 have q9 : V.cell? ⟨w.heap.size, 9, none⟩ = some (.int .i64 wy) := b1.cell 9
 go_upto_region 2 with (fail)
 clear q0 q1 q2 q3 q9
 go_loop [18] (fun I => ∃ i : Nat, I = .int .i64 (i : Int) ∧ i ≤ 5 ∧ (1 ≤ i → shB k = true) ∧ (2 ≤ i → shB v = true) ∧ (3 ≤ i → shB b = true) ∧ (4 ≤ i → shB e = true) ∧ (5 ≤ i → shB wy = true)) (fun I => 5 - (intOf I).toNat)
 case atStart => exact ⟨0, rfl, by omega, fun h => by omega, fun h => by omega, fun h => by omega, fun h => by omega, fun h => by omega⟩
 case round =>
  obtain ⟨i, rfl, hi, hp⟩ := hrel
  rcases (by omega : i = 0 ∨ i = 1 ∨ i = 2 ∨ i = 3 ∨ i = 4 ∨ i = 5) with rfl | rfl | rfl | rfl | rfl | rfl
  ·have hx := Lib.hid (short_any k)
   have hix : (Instr.index 197 (.agg #[.int .i64 k, .int .i64 v, .int .i64 b, .int .i64 e, .int .i64 wy]) (.int .i64 0)).run Tryz.prog V = .ok (.int .i64 k) V := by
    show _ = _
    kernel_rfl
   go_wp2_with fail
   refine (hx.out _).mono ?_
   rintro e1 w1 ⟨rfl, rfl⟩
   cases hb : shB k with
   | false =>
    have hno : Hid (rightB k v b e six ah al wy ms = false) := Lib.hid (by simp [rightB, hb])
    go_wp2
    go_ret
    exact RetV.is_ (by rw [hno.out]; rfl) be
   | true =>
    clear hx
    go_wp2
    go_round
    case rel => exact ⟨1, rfl, by omega, fun _ => hb, fun h => by omega, fun h => by omega, fun h => by omega, fun h => by omega⟩
    case measure => simp [intOf]
  ·have hx := Lib.hid (short_any v)
   have hix : (Instr.index 197 (.agg #[.int .i64 k, .int .i64 v, .int .i64 b, .int .i64 e, .int .i64 wy]) (.int .i64 1)).run Tryz.prog V = .ok (.int .i64 v) V := by
    show _ = _
    kernel_rfl
   go_wp2_with fail
   refine (hx.out _).mono ?_
   rintro e1 w1 ⟨rfl, rfl⟩
   cases hb : shB v with
   | false =>
    have hno : Hid (rightB k v b e six ah al wy ms = false) := Lib.hid (by simp [rightB, hb])
    go_wp2
    go_ret
    exact RetV.is_ (by rw [hno.out]; rfl) be
   | true =>
    clear hx
    go_wp2
    go_round
    case rel => exact ⟨2, rfl, by omega, fun h => hp.1 (by omega), fun _ => hb, fun h => by omega, fun h => by omega, fun h => by omega⟩
    case measure => simp [intOf]
  ·have hx := Lib.hid (short_any b)
   have hix : (Instr.index 197 (.agg #[.int .i64 k, .int .i64 v, .int .i64 b, .int .i64 e, .int .i64 wy]) (.int .i64 2)).run Tryz.prog V = .ok (.int .i64 b) V := by
    show _ = _
    kernel_rfl
   go_wp2_with fail
   refine (hx.out _).mono ?_
   rintro e1 w1 ⟨rfl, rfl⟩
   cases hb : shB b with
   | false =>
    have hno : Hid (rightB k v b e six ah al wy ms = false) := Lib.hid (by simp [rightB, hb])
    go_wp2
    go_ret
    exact RetV.is_ (by rw [hno.out]; rfl) be
   | true =>
    clear hx
    go_wp2
    go_round
    case rel => exact ⟨3, rfl, by omega, fun h => hp.1 (by omega), fun h => hp.2.1 (by omega), fun _ => hb, fun h => by omega, fun h => by omega⟩
    case measure => simp [intOf]
  ·have hx := Lib.hid (short_any e)
   have hix : (Instr.index 197 (.agg #[.int .i64 k, .int .i64 v, .int .i64 b, .int .i64 e, .int .i64 wy]) (.int .i64 3)).run Tryz.prog V = .ok (.int .i64 e) V := by
    show _ = _
    kernel_rfl
   go_wp2_with fail
   refine (hx.out _).mono ?_
   rintro e1 w1 ⟨rfl, rfl⟩
   cases hb : shB e with
   | false =>
    have hno : Hid (rightB k v b e six ah al wy ms = false) := Lib.hid (by simp [rightB, hb])
    go_wp2
    go_ret
    exact RetV.is_ (by rw [hno.out]; rfl) be
   | true =>
    clear hx
    go_wp2
    go_round
    case rel => exact ⟨4, rfl, by omega, fun h => hp.1 (by omega), fun h => hp.2.1 (by omega), fun h => hp.2.2.1 (by omega), fun _ => hb, fun h => by omega⟩
    case measure => simp [intOf]
  ·have hx := Lib.hid (short_any wy)
   have hix : (Instr.index 197 (.agg #[.int .i64 k, .int .i64 v, .int .i64 b, .int .i64 e, .int .i64 wy]) (.int .i64 4)).run Tryz.prog V = .ok (.int .i64 wy) V := by
    show _ = _
    kernel_rfl
   go_wp2_with fail
   refine (hx.out _).mono ?_
   rintro e1 w1 ⟨rfl, rfl⟩
   cases hb : shB wy with
   | false =>
    have hno : Hid (rightB k v b e six ah al wy ms = false) := Lib.hid (by simp [rightB, hb])
    go_wp2
    go_ret
    exact RetV.is_ (by rw [hno.out]; rfl) be
   | true =>
    clear hx
    go_wp2
    go_round
    case rel => exact ⟨5, rfl, by omega, fun h => hp.1 (by omega), fun h => hp.2.1 (by omega), fun h => hp.2.2.1 (by omega), fun h => hp.2.2.2.1 (by omega), fun _ => hb⟩
    case measure => simp [intOf]
  ·have HK : Hid (shB k = true ∧ shB v = true ∧ shB b = true ∧ shB e = true ∧ shB wy = true) := Lib.hid ⟨hp.1 (by omega), hp.2.1 (by omega), hp.2.2.1 (by omega), hp.2.2.2.1 (by omega), hp.2.2.2.2 (by omega)⟩
   clear hp hi
   go_wp2_with (refine at_op (.load 32 (.tmp 25)) rfl ?_; refine wpList_ldA (t := 43) (off := 4) 32 (.tmp 25) rfl rfl (adC six ah al) rfl b1 rfl a1 a2 (szAd _ _ _) ?_)
   refine (HAR.out _).mono ?_
   rintro e1 w1 ⟨bs1, d1, rfl, rfl⟩
   replace b1 := b1.later (below_plus V bs1 d1)
   replace hr := hr.later (below_plus V bs1 d1)
   replace be := belowP be bs1 d1
   have q10 : (plus V bs1 d1).cell? ⟨w.heap.size, 10, none⟩ = some (.slice A n c) := b1.cell 10
   clear HAR
   generalize plus V bs1 d1 = V2 at *
   cases had : adG six ah al with
   | false =>
    have hno : Hid (rightB k v b e six ah al wy ms = false) := Lib.hid (by simp [rightB, had])
    go_wp2
    go_ret
    exact RetV.is_ (by rw [hno.out]; rfl) be
   | true =>
    by_cases h64 : 64 < n
    ·have i64 : (64 : Int) < (n : Int) := by omega
     have hml9 : ¬ ms.length ≤ 64 := by omega
     have hno : Hid (rightB k v b e six ah al wy ms = false) := Lib.hid (by simp [rightB, hml9])
     go_wp2
     go_ret
     exact RetV.is_ (by rw [hno.out]; rfl) be
    have i64 : ¬ (64 : Int) < (n : Int) := by omega
    go_upto_region 10 with (fail)
    have hB0 : Hid (Below w.heap.size w V2) := Lib.hid be
    clear be
    go_loopw [38] (fun I wr => ∃ i : Nat, I = .int .i64 (i : Int) ∧ i ≤ n ∧ Below V2.heap.size V2 wr ∧ (ms.take i).all (fun p => shB p.1 && shB p.2) = true) (fun I _ => n - (intOf I).toNat)
    case atStart => exact ⟨0, rfl, Nat.zero_le _, Below.refl _ _, rfl⟩
    case round =>
     obtain ⟨i, rfl, hi, hE, hall⟩ := hrel
     have be9 : Hid (Below w.heap.size w wr) := Lib.hid (hB0.out.trans (hE.mono hB0.out.size))
     by_cases hlt : i < n
     ·have ii : (i : Int) < (n : Int) := by omega
      have hjL : i < ms.length := by omega
      obtain ⟨bl, ol, rfl, hbl, -⟩ := (hr.later hE).at_ (by omega) (by decide)
      have hg7 := rng_pr ((hr.later hE).range2 i hjL)
      have hsn : ms.take (i + 1) = ms.take i ++ [ms[i]] := by simp
      have hmem : ms[i] ∈ ms := List.getElem_mem hjL
      generalize ms[i] = p at *
      obtain ⟨x, y⟩ := p
      replace hsn := Lib.hid hsn
      have hx := Lib.hid (short_any x)
      have hy := Lib.hid (short_any y)
      have hbad : Hid (shB x = false ∨ shB y = false → rightB k v b e six ah al wy ms = false) := Lib.hid (fun h => by
       have : ms.all (fun p => shB p.1 && shB p.2) = false := by
        rw [List.all_eq_false]
        exact ⟨(x, y), hmem, by rcases h with h | h <;> simp [h]⟩
       simp [rightB, this])
      clear hmem
      go_upto_region 12 with (first
       | (refine at_op (.load 87 (.tmp 40)) rfl ?_; refine wpList_load_mid rfl 87 (.tmp 40) rfl bl (ol + i * 2) rfl [.int .i64 x, .int .i64 y] _ hg7 m1 m2 (by kernel_rfl) ?_)
       | (refine at_op (.store 87 (.tmp 6) (.tmp 41)) rfl ?_; refine wpList_stA (t := 87) 87 (.tmp 6) (.tmp 41) rfl rfl [.int .i64 x, .int .i64 y] [.int .i64 0, .int .i64 0] rfl (by simp [Value.oneCell']) rfl rfl (Bk.new _ _ _) (by kernel_rfl) ?_; intro W4 h4 g4))
      have be4 : Below wr.heap.size wr W4 := below_grown (Below.allocS (Below.refl _ _) _) g4 (Nat.le_refl _)
      have q0 : W4.cell? ⟨wr.heap.size, 0, none⟩ = some (.int .i64 x) := h4.cell 0
      have q1 : W4.cell? ⟨wr.heap.size, 1, none⟩ = some (.int .i64 y) := h4.cell 1
      have be10 : Hid (Below w.heap.size w W4) := Lib.hid (be9.out.trans (be4.mono be9.out.size))
      replace hE := hE.trans (be4.mono hE.size)
      clear be4 h4 g4
      generalize wr.heap.size = g6 at *
      go_wp2_with fail
      refine (hx.out _).mono ?_
      rintro e1 w1 ⟨rfl, rfl⟩
      cases hbx : shB x with
      | false =>
       have hno : Hid (rightB k v b e six ah al wy ms = false) := Lib.hid (hbad.out (.inl hbx))
       clear hbad
       go_wp2
       go_ret
       exact RetV.is_ (by rw [hno.out]; rfl) be10.out
      | true =>
       go_wp2_with fail
       refine (hy.out _).mono ?_
       rintro e1 w1 ⟨rfl, rfl⟩
       cases hby : shB y with
       | false =>
        have hno : Hid (rightB k v b e six ah al wy ms = false) := Lib.hid (hbad.out (.inr hby))
        clear hbad
        go_wp2
        go_ret
        exact RetV.is_ (by rw [hno.out]; rfl) be10.out
       | true =>
        clear hbad
        go_wp2
        exact ⟨⟨i + 1, by go_num, by omega, hE, by rw [hsn.out, List.all_append, hall]; simp [hbx, hby]⟩, by simp [intOf]; omega⟩
     ·obtain rfl : i = n := by omega
      have ii : ¬ (i : Int) < (i : Int) := by omega
      have hyes : Hid (rightB k v b e six ah al wy ms = true) := Lib.hid (by
       have h1 := HK.out
       have : ms.all (fun p => shB p.1 && shB p.2) = true := by rw [← hall, List.take_of_length_le (by omega)]
       simp [rightB, h1, had, this]
       omega)
      go_wp2
      go_ret
      exact RetV.is_ (by rw [hyes.out]; rfl) be9.out
end

section
abbrev Adr := Bool × Nat × Nat
structure Vp where
 ad : Adr
 pt : Nat
 pr : Nat
 wy : Int
 ms : List (Int × Int)
 S : Stk
structure Cf where
 num : Nat
 key : List UInt8
 now : Nat
 bk : List (Option Adr)
 vs : List Vp
def knC (C : Cf) (n : Int) : Bool := decide (1 ≤ n) && decide (n ≤ 64) && (C.bk.getD n.toNat none).isSome
def eqV (a : Adr) (pt pr : Nat) (v : Vp) : Bool := decide (v.ad = a ∧ v.pt = pt ∧ v.pr = pr)
def fdC (C : Cf) (a : Adr) (pt pr : Nat) : Nat := C.vs.findIdx (eqV a pt pr)
def wtB (x : Int) : Bool := decide (0 ≤ x) && decide (x ≤ 100)
def okM (C : Cf) (l : List (Int × Int)) : Bool := l.all (fun p => knC C p.1 && wtB p.2) && decide ((l.map (·.1)).Nodup)
def ev0 (C : Cf) : Nat := (C.vs.head?.map (·.S.ev)).getD 0
def newV (C : Cf) (o : OpR) : Vp := ⟨(o.six, o.ah, o.al), o.pt, o.pr, o.wy, [], ⟨[], ev0 C, 0⟩⟩
def wyB (x : Int) : Bool := decide (1 ≤ x) && decide (x ≤ 4)
def addE (C : Cf) (o : OpR) : Nat :=
 if (adG o.six o.ah o.al && (decide (o.pr = 6 ∨ o.pr = 17) && wyB o.wy)) = false then 1
 else if fdC C (o.six, o.ah, o.al) o.pt o.pr < C.vs.length then 7
 else if 16 ≤ C.vs.length then 23 else 0
def tabS (S : Stk) (ms : List (Int × Int)) : Tab := tNext (newT S) (ms.map (·.1))
def setE (C : Cf) (v : Vp) (ms : List (Int × Int)) : Nat := if okM C ms = false then 1 else pushE v.S
def setV (v : Vp) (ms : List (Int × Int)) : Vp := { v with S := pushS v.S (tabS v.S ms), ms := ms }
def mrkE (S : Stk) (k n : Int) : Nat := if k = 7 then admE S n else eviE S n
def mrkS (S : Stk) (k n : Int) : Stk := if k = 7 then admS S n else eviS S n
def mrkV (k n : Int) (v : Vp) : Vp := { v with S := mrkS v.S k n }
def markE (C : Cf) (k n : Int) : Nat := if knC C n = false then 6 else match C.vs with | [] => 1 | v :: _ => mrkE v.S k n
def vAt (C : Cf) (n : Int) : Option Vp := if 0 ≤ n then C.vs[n.toNat]? else none
def vipE (C : Cf) (o : OpR) (v : Vp) : Nat := if o.k = 3 then setE C v o.ms else if o.k = 4 then retE v.S o.e else if o.k = 5 then rlsE v.S o.e else 1
def vipV (o : OpR) (v : Vp) : Vp := if o.k = 3 then setV v o.ms else if o.k = 4 then { v with S := retS v.S o.e } else { v with S := rlsS v.S o.e }
def chE (C : Cf) (o : OpR) : Nat :=
 if o.k = 1 then (if numB o.b && adG o.six o.ah o.al then 0 else 1)
 else if o.k = 2 then addE C o
 else if o.k = 6 ∨ o.k = 7 then markE C o.k o.b
 else if o.k = 8 then 0
 else match vAt C o.v with | none => 6 | some v => vipE C o v
def chC (C : Cf) (o : OpR) : Cf :=
 if o.k = 1 then { C with bk := C.bk.set o.b.toNat (some (o.six, o.ah, o.al)) }
 else if o.k = 2 then { C with vs := C.vs ++ [newV C o] }
 else if o.k = 6 ∨ o.k = 7 then { C with vs := C.vs.map (mrkV o.k o.b) }
 else if o.k = 8 then { C with now := (C.now + 1) % 18446744073709551616 }
 else match vAt C o.v with | none => C | some v => { C with vs := C.vs.set o.v.toNat (vipV o v) }
def doC (C : Cf) (o : OpR) : Cf := if chE C o = 0 then chC C o else C
def upN (C : Cf) : Cf := { C with num := (C.num + 1) % 18446744073709551616 }
def apC (C : Cf) (o : OpR) : Cf := if chE C o = 0 then upN (chC C o) else C
def resE (C : Cf) (ms : List (Int × Int)) (T : Option Stk) : Nat :=
 if C.vs.length = 0 then 6 else match T with
 | none => 1
 | some S => if okM C ms && (List.range 64).all (fun i : Nat => (!deadS S (i + 1 : Nat) || knC C (i + 1 : Nat)) && (decide (C.vs.length ≤ 1) || (deadS S (i + 1 : Nat) == hasB (ev0 C) (i + 1 : Nat) 1 64))) then 0 else 1
def resC (C : Cf) (ms : List (Int × Int)) (S : Stk) : Cf := { C with vs := C.vs.set (C.vs.length - 1) (match C.vs[C.vs.length - 1]? with | some v => { v with ms := ms, S := S } | none => ⟨(false, 0, 0), 0, 0, 0, ms, S⟩) }
def cf0 (key : List UInt8) : Cf := ⟨0, key, 0, List.replicate 65 none, []⟩
/-! what holds of every state -/
def adOk (a : Adr) : Prop := adG a.1 a.2.1 a.2.2 = true ∧ a.2.1 < 18446744073709551616 ∧ a.2.2 < 18446744073709551616
structure VpOk (C : Cf) (v : Vp) : Prop where
 ad : adOk v.ad
 pt : v.pt < 65536
 pr : v.pr = 6 ∨ v.pr = 17
 wy : 1 ≤ v.wy ∧ v.wy ≤ 4
 ms : okM C v.ms = true
 st : StkOk v.S
 ev : v.S.ev = ev0 C
structure CfOk (C : Cf) : Prop where
 num : C.num < 18446744073709551616
 now : C.now < 18446744073709551616
 key : C.key.length = 16
 bl : C.bk.length = 65
 b0 : C.bk.getD 0 none = none
 bk : ∀ i a, C.bk.getD i none = some a → adOk a
 vl : C.vs.length ≤ 16
 vs : ∀ v ∈ C.vs, VpOk C v
 kn : ∀ n : Int, hasB (ev0 C) n 1 64 = true → knC C n = true
 nd : C.vs.Pairwise (fun v u => ¬ (v.ad = u.ad ∧ v.pt = u.pt ∧ v.pr = u.pr))
structure OpOk (o : OpR) : Prop where
 k : -9223372036854775808 ≤ o.k ∧ o.k ≤ 9223372036854775807
 v : -9223372036854775808 ≤ o.v ∧ o.v ≤ 9223372036854775807
 b : -9223372036854775808 ≤ o.b ∧ o.b ≤ 9223372036854775807
 e : -9223372036854775808 ≤ o.e ∧ o.e ≤ 9223372036854775807
 ah : o.ah < 18446744073709551616
 al : o.al < 18446744073709551616
 pt : o.pt < 65536
 pr : o.pr < 256
 wy : -9223372036854775808 ≤ o.wy ∧ o.wy ≤ 9223372036854775807
 ms : ∀ p ∈ o.ms, (-9223372036854775808 ≤ p.1 ∧ p.1 ≤ 9223372036854775807) ∧ (-9223372036854775808 ≤ p.2 ∧ p.2 ≤ 9223372036854775807)
theorem cf0_ok (key : List UInt8) (h : key.length = 16) : CfOk (cf0 key) := by
 refine ⟨by simp [cf0], by simp [cf0], h, by simp [cf0], by rfl, ?_, by simp [cf0], by simp [cf0], ?_, by simp [cf0]⟩
 ·intro i a hi
  simp only [cf0, List.getD_eq_getElem?_getD, List.getElem?_replicate] at hi
  split at hi <;> simp at hi
 ·intro n hn
  have := (hasB_rg hn).2.2
  simp [cf0, ev0] at this
theorem knC_rg {C : Cf} {n : Int} (h : knC C n = true) : 1 ≤ n ∧ n ≤ 64 := by
 simp only [knC, Bool.and_eq_true, decide_eq_true_eq] at h
 exact h.1
theorem okM_all {C : Cf} {l : List (Int × Int)} (h : okM C l = true) : ∀ p ∈ l, knC C p.1 = true ∧ 0 ≤ p.2 ∧ p.2 ≤ 100 := by
 intro p hp
 simp only [okM, Bool.and_eq_true, List.all_eq_true] at h
 have h1 := h.1 p hp
 refine ⟨h1.1, ?_⟩
 have := h1.2
 simpa [wtB] using this
theorem okM_nd {C : Cf} {l : List (Int × Int)} (h : okM C l = true) : (l.map (·.1)).Nodup := by
 simp only [okM, Bool.and_eq_true, decide_eq_true_eq] at h
 exact h.2
theorem okM_len {C : Cf} {l : List (Int × Int)} (h : okM C l = true) : l.length ≤ 64 := by
 have h1 := nodup_le 64 ((l.map (·.1)).map (fun x => x.toNat - 1)) (by
  rw [List.nodup_iff_pairwise_ne, List.pairwise_map]
  refine List.Pairwise.imp_of_mem ?_ (okM_nd h)
  intro a b ha hb hab
  obtain ⟨p, hp, rfl⟩ := List.mem_map.1 ha
  obtain ⟨q, hq, rfl⟩ := List.mem_map.1 hb
  have := knC_rg (okM_all h p hp).1
  have := knC_rg (okM_all h q hq).1
  omega) (fun x hx => by
  obtain ⟨y, hy, rfl⟩ := List.mem_map.1 hx
  obtain ⟨p, hp, rfl⟩ := List.mem_map.1 hy
  have := knC_rg (okM_all h p hp).1
  omega)
 simpa using h1
theorem okM_congr {C C' : Cf} (h : ∀ n, knC C n = true → knC C' n = true) {l : List (Int × Int)} (hl : okM C l = true) : okM C' l = true := by
 simp only [okM, Bool.and_eq_true, List.all_eq_true, decide_eq_true_eq] at hl ⊢
 exact ⟨fun p hp => ⟨h _ (hl.1 p hp).1, (hl.1 p hp).2⟩, hl.2⟩
theorem VpOk.congr {C C' : Cf} (h : ∀ n, knC C n = true → knC C' n = true) (he : ev0 C' = ev0 C) {v : Vp} (hv : VpOk C v) : VpOk C' v :=
 ⟨hv.ad, hv.pt, hv.pr, hv.wy, okM_congr h hv.ms, hv.st, hv.ev.trans he.symm⟩
theorem hasB_dead (S : Stk) (n : Int) : deadS S n = hasB S.ev n 1 64 := rfl
theorem ev_evi_congr {S S' : Stk} (h : S.ev = S'.ev) (n : Int) : (eviS S n).ev = (eviS S' n).ev := by
 unfold eviS deadS
 rw [h]
 split <;> simp [h]
theorem ev_adm_congr {S S' : Stk} (h : S.ev = S'.ev) (n : Int) : (admS S n).ev = (admS S' n).ev := by
 unfold admS deadS
 rw [h]
 split <;> simp [h]
theorem ev_mrk_congr {S S' : Stk} (h : S.ev = S'.ev) (k n : Int) : (mrkS S k n).ev = (mrkS S' k n).ev := by
 unfold mrkS
 split
 ·exact ev_adm_congr h n
 ·exact ev_evi_congr h n
theorem ev_ret (S : Stk) (v : Int) : (retS S v).ev = S.ev := by unfold retS; split <;> rfl
theorem ev_rls (S : Stk) (v : Int) : (rlsS S v).ev = S.ev := by unfold rlsS; split <;> rfl
theorem ev_push (S : Stk) (t : Tab) : (pushS S t).ev = S.ev := by unfold pushS; split <;> rfl
theorem StkOk.mrk {S : Stk} (h : StkOk S) (k n : Int) : StkOk (mrkS S k n) := by
 unfold mrkS
 split
 ·exact h.adm n
 ·exact h.evi n
theorem tabS_ok {S : Stk} (h : StkOk S) (ms : List (Int × Int)) : TabOk (tabS S ms) := tNext_ok _ (newT_ok h) _
theorem vipV_ev (o : OpR) (v : Vp) : (vipV o v).S.ev = v.S.ev := by
 unfold vipV setV
 split
 ·exact ev_push _ _
 ·split
  ·exact ev_ret _ _
  ·exact ev_rls _ _
theorem vipV_st {o : OpR} {v : Vp} (h : StkOk v.S) : StkOk (vipV o v).S := by
 unfold vipV setV
 split
 ·exact h.push (tabS_ok h _)
 ·split
  ·exact h.ret _
  ·exact h.rls _
theorem vipV_id (o : OpR) (v : Vp) : (vipV o v).ad = v.ad ∧ (vipV o v).pt = v.pt ∧ (vipV o v).pr = v.pr ∧ (vipV o v).wy = v.wy := by
 unfold vipV setV
 split
 ·exact ⟨rfl, rfl, rfl, rfl⟩
 ·split <;> exact ⟨rfl, rfl, rfl, rfl⟩
theorem ev0_set {C : Cf} {i : Nat} {v v' : Vp} (hi : C.vs[i]? = some v) (h : v'.S.ev = v.S.ev) : ev0 { C with vs := C.vs.set i v' } = ev0 C := by
 unfold ev0
 cases hc : C.vs with
 | nil => rfl
 | cons a t =>
  cases i with
  | zero =>
   rw [hc] at hi
   simp at hi
   subst hi
   simp [h]
  | succ i => simp
theorem pw_set {l : List Vp} {R : Vp → Vp → Prop} (h : l.Pairwise R) {i : Nat} {v v' : Vp} (hi : l[i]? = some v) (h1 : ∀ u, R v u → R v' u) (h2 : ∀ u, R u v → R u v') : (l.set i v').Pairwise R := by
 rw [List.pairwise_iff_getElem] at h ⊢
 intro a b ha hb hab
 simp only [List.length_set] at ha hb
 have hv : ∀ (hl : i < l.length), l[i] = v := fun hl => by rw [List.getElem?_eq_getElem hl] at hi; exact Option.some.inj hi
 rw [List.getElem_set, List.getElem_set]
 have := h a b ha hb hab
 split
 ·rename_i e
  subst e
  rw [if_neg (by omega)]
  rw [hv ha] at this
  exact h1 _ this
 ·split
  ·rename_i e
   subst e
   rw [hv hb] at this
   exact h2 _ this
  ·exact this
theorem bk_kn {C : Cf} {i : Nat} {a : Adr} (hl : C.bk.length = 65) (n : Int) (h : knC C n = true) : knC { C with bk := C.bk.set i (some a) } n = true := by
 simp only [knC, Bool.and_eq_true, decide_eq_true_eq] at h ⊢
 refine ⟨h.1, ?_⟩
 simp only [List.getD_eq_getElem?_getD, List.getElem?_set] at h ⊢
 split
 ·split
  ·rfl
  ·rename_i h1 h2
   have := h.2
   rw [List.getElem?_eq_none (by omega)] at this
   simp at this
 ·exact h.2
theorem fdC_none {C : Cf} {a : Adr} {pt pr : Nat} (h : ¬ fdC C a pt pr < C.vs.length) : ∀ v ∈ C.vs, ¬ (v.ad = a ∧ v.pt = pt ∧ v.pr = pr) := by
 intro v hv e
 apply h
 unfold fdC
 rw [List.findIdx_lt_length]
 exact ⟨v, hv, decide_eq_true e⟩
theorem doC_ok {C : Cf} (h : CfOk C) {o : OpR} (ho : OpOk o) : CfOk (doC C o) := by
 unfold doC
 by_cases he : chE C o = 0
 rotate_left
 ·rw [if_neg he]; exact h
 rw [if_pos he]
 unfold chC
 unfold chE at he
 by_cases k1 : o.k = 1
 ·rw [if_pos k1] at he ⊢
  split at he
  rotate_left
  ·cases he
  rename_i hg
  simp only [Bool.and_eq_true] at hg
  have hb := hg.1
  simp only [numB, Bool.and_eq_true, decide_eq_true_eq] at hb
  have hk := bk_kn (C := C) (i := o.b.toNat) (a := (o.six, o.ah, o.al)) h.bl
  refine ⟨h.num, h.now, h.key, by simpa using h.bl, ?_, ?_, h.vl, fun v hv => (h.vs v hv).congr hk rfl, fun n hn => hk n (h.kn n hn), h.nd⟩
  ·have := h.b0
   simp only [List.getD_eq_getElem?_getD] at this ⊢
   rw [List.getElem?_set_ne (by omega)]
   exact this
  ·intro i a hi
   simp only [List.getD_eq_getElem?_getD, List.getElem?_set] at hi
   split at hi
   ·split at hi
    ·simp at hi; subst hi; exact ⟨hg.2, ho.ah, ho.al⟩
    ·simp at hi
   ·exact h.bk i a (by simpa only [List.getD_eq_getElem?_getD] using hi)
 rw [if_neg k1] at he ⊢
 by_cases k2 : o.k = 2
 ·rw [if_pos k2] at he ⊢
  unfold addE at he
  split at he
  ·cases he
  rename_i hg
  split at he
  ·cases he
  rename_i hf
  split at he
  ·cases he
  rename_i h16
  have hg : (adG o.six o.ah o.al && (decide (o.pr = 6 ∨ o.pr = 17) && wyB o.wy)) = true := by
   cases hx : (adG o.six o.ah o.al && (decide (o.pr = 6 ∨ o.pr = 17) && wyB o.wy))
   ·exact absurd hx hg
   ·rfl
  simp only [Bool.and_eq_true, decide_eq_true_eq, wyB] at hg
  have he0 : ev0 { C with vs := C.vs ++ [newV C o] } = ev0 C := by
   unfold ev0
   cases hc : C.vs with
   | nil => simp [newV, ev0, hc]
   | cons a t => simp
  have hkn : ∀ n, knC C n = true → knC { C with vs := C.vs ++ [newV C o] } n = true := fun n hn => hn
  refine ⟨h.num, h.now, h.key, h.bl, h.b0, h.bk, by simp; omega, ?_, ?_, ?_⟩
  ·intro v hv
   rcases List.mem_append.1 hv with hv | hv
   ·exact (h.vs v hv).congr hkn he0
   ·simp at hv
    subst hv
    refine ⟨⟨hg.1, ho.ah, ho.al⟩, ho.pt, hg.2.1, hg.2.2, rfl, ?_, he0.symm⟩
    refine ⟨by simp [newV], by simp [newV], ?_, by simp [newV], by simp [newV]⟩
    show ev0 C < _
    unfold ev0
    cases hc : C.vs with
    | nil => simp
    | cons a t => exact (h.vs a (by simp [hc])).st.ev
  ·intro n hn
   rw [he0] at hn
   exact h.kn n hn
  ·rw [List.pairwise_append]
   refine ⟨h.nd, by simp, fun v hv u hu => ?_⟩
   simp at hu
   subst hu
   exact fdC_none hf v hv
 rw [if_neg k2] at he ⊢
 by_cases k6 : o.k = 6 ∨ o.k = 7
 ·rw [if_pos k6] at he ⊢
  unfold markE at he
  split at he
  ·cases he
  rename_i hkn
  have hkn : knC C o.b = true := by
   cases hx : knC C o.b
   ·exact absurd hx hkn
   ·rfl
  have hev : ∀ v ∈ C.vs, (mrkV o.k o.b v).S.ev = ev0 { C with vs := C.vs.map (mrkV o.k o.b) } := by
   intro v hv
   cases hc : C.vs with
   | nil => rw [hc] at hv; cases hv
   | cons a t =>
    show (mrkS v.S o.k o.b).ev = _
    simp only [ev0, List.map_cons, List.head?_cons, Option.map_some, Option.getD_some]
    show _ = (mrkS a.S o.k o.b).ev
    exact ev_mrk_congr ((h.vs v hv).ev.trans (h.vs a (by simp [hc])).ev.symm) _ _
  refine ⟨h.num, h.now, h.key, h.bl, h.b0, h.bk, by simpa using h.vl, ?_, ?_, ?_⟩
  ·intro v hv
   obtain ⟨u, hu, rfl⟩ := List.mem_map.1 hv
   have hu' := h.vs u hu
   exact ⟨hu'.ad, hu'.pt, hu'.pr, hu'.wy, okM_congr (C := C) (fun n hn => hn) hu'.ms, hu'.st.mrk _ _, hev u hu⟩
  ·intro n hn
   show knC C n = true
   cases hc : C.vs with
   | nil => simp [ev0, hc, hasB] at hn
   | cons a t =>
    have ha := h.vs a (by simp [hc])
    have h1 : hasB (mrkS a.S o.k o.b).ev n 1 64 = true := by
     simpa [ev0, hc, mrkV] using hn
    have hr := hasB_rg h1
    obtain ⟨i, rfl⟩ : ∃ i : Nat, n = i := ⟨n.toNat, by omega⟩
    have h2 : deadS (mrkS a.S o.k o.b) (i : Int) = true := h1
    unfold mrkS at h2
    split at h2
    ·by_cases hd : deadS a.S o.b = true
     ·rw [deadS_adm ha.st.ev hd] at h2
      simp only [Bool.and_eq_true] at h2
      exact h.kn _ (by rw [← ha.ev]; exact h2.1)
     ·have : admS a.S o.b = a.S := by unfold admS; rw [if_neg hd]
      rw [this] at h2
      exact h.kn _ (by rw [← ha.ev]; exact h2)
    ·by_cases hd : (numB o.b && !deadS a.S o.b) = true
     ·rw [deadS_evi hd] at h2
      simp only [Bool.or_eq_true, decide_eq_true_eq] at h2
      rcases h2 with h2 | h2
      ·exact h.kn _ (by rw [← ha.ev]; exact h2)
      ·rw [h2]; exact hkn
     ·have : eviS a.S o.b = a.S := by unfold eviS; rw [if_neg hd]
      rw [this] at h2
      exact h.kn _ (by rw [← ha.ev]; exact h2)
  ·rw [List.pairwise_map]
   exact h.nd
 rw [if_neg k6] at he ⊢
 by_cases k8 : o.k = 8
 ·rw [if_pos k8]
  refine ⟨h.num, Nat.mod_lt _ (by decide), h.key, h.bl, h.b0, h.bk, h.vl, fun v hv => VpOk.congr (C := C) (C' := { C with now := (C.now + 1) % 18446744073709551616 }) (fun n hn => hn) rfl (h.vs v hv), h.kn, h.nd⟩
 rw [if_neg k8] at he ⊢
 cases hv : vAt C o.v with
 | none => exact h
 | some v =>
  rw [hv] at he
  replace he : vipE C o v = 0 := he
  show CfOk { C with vs := C.vs.set o.v.toNat (vipV o v) }
  unfold vAt at hv
  split at hv
  rotate_left
  ·cases hv
  have hm := List.mem_of_getElem? hv
  have hvo := h.vs v hm
  have he0 := ev0_set (C := C) hv (vipV_ev o v)
  have hid := vipV_id o v
  refine ⟨h.num, h.now, h.key, h.bl, h.b0, h.bk, by simpa using h.vl, ?_, ?_, ?_⟩
  ·intro u hu
   rcases List.mem_or_eq_of_mem_set hu with hu | rfl
   ·exact VpOk.congr (C := C) (C' := { C with vs := C.vs.set o.v.toNat (vipV o v) }) (fun n hn => hn) he0 (h.vs u hu)
   ·refine ⟨by rw [hid.1]; exact hvo.ad, by rw [hid.2.1]; exact hvo.pt, by rw [hid.2.2.1]; exact hvo.pr, by rw [hid.2.2.2]; exact hvo.wy, ?_, vipV_st hvo.st, ?_⟩
    ·show okM C _ = true
     unfold vipE setE at he
     unfold vipV setV
     split
     ·rename_i k3
      rw [if_pos k3] at he
      split at he
      ·cases he
      ·rename_i hx
       show okM C o.ms = true
       cases hy : okM C o.ms
       ·exact absurd hy hx
       ·rfl
     ·split <;> exact hvo.ms
    ·rw [vipV_ev, he0]; exact hvo.ev
  ·intro n hn
   rw [he0] at hn
   exact h.kn n hn
  ·refine pw_set h.nd hv (fun u hu => ?_) (fun u hu => ?_)
   ·rw [hid.1, hid.2.1, hid.2.2.1]; exact hu
   ·rw [hid.1, hid.2.1, hid.2.2.1]; exact hu
theorem upN_ok {C : Cf} (h : CfOk C) : CfOk (upN C) :=
 ⟨Nat.mod_lt _ (by decide), h.now, h.key, h.bl, h.b0, h.bk, h.vl, fun v hv => VpOk.congr (C := C) (C' := upN C) (fun n hn => hn) rfl (h.vs v hv), h.kn, h.nd⟩
theorem apC_ok {C : Cf} (h : CfOk C) {o : OpR} (ho : OpOk o) : CfOk (apC C o) := by
 have := doC_ok h ho
 unfold apC
 unfold doC at this
 split
 ·rename_i he
  rw [if_pos he] at this
  exact upN_ok this
 ·exact h
theorem apC_do (C : Cf) (o : OpR) : apC C o = if chE C o = 0 then upN (doC C o) else doC C o := by
 unfold apC doC
 split <;> rfl
end

section
open Go.RowKit
attribute [local go_sem ↓] sliced_cut
attribute [local go_sem] cutA_zero
def uadd (x y : UInt64) : UInt64 := x + y
def uxor (x y : UInt64) : UInt64 := x ^^^ y
theorem wadd (x y : UInt64) : IntKind.u64.wrap ((x.toNat : Int) + (y.toNat : Int)) = ((uadd x y).toNat : Int) := by
 unfold uadd
 rw [UInt64.toNat_add, IntKind.wrap_u64]
 omega
theorem wxor (x y : UInt64) : bits .xor .u64 (x.toNat : Int) (y.toNat : Int) = ((uxor x y).toNat : Int) := by
 unfold uxor
 rw [u64_xor_nat _ _ x.toNat_lt y.toNat_lt, UInt64.toNat_xor]
attribute [local go_sem] wadd wxor
structure W4 where
 a : UInt64
 b : UInt64
 c : UInt64
 d : UInt64
def W4.cells (v : W4) : List Value := [.int .u64 (v.a.toNat : Int), .int .u64 (v.b.toNat : Int), .int .u64 (v.c.toNat : Int), .int .u64 (v.d.toNat : Int)]
end

section
open Go.RowKit
attribute [local go_sem ↓] sliced_cut
attribute [local go_sem] cutA_zero
def lnum : List UInt8 → Nat
 | [] => 0
 | b :: l => b.toNat + 256 * lnum l
def lit (l : List UInt8) : UInt64 := UInt64.ofNat (lnum l)
end

section
open Go.RowKit
attribute [local go_sem ↓] sliced_cut
attribute [local go_sem] cutA_zero wadd wxor
theorem wxorc (x : UInt64) (k : Nat) (hk : k < 18446744073709551616) : bits .xor .u64 (x.toNat : Int) (k : Nat) = ((uxor x (UInt64.ofNat k)).toNat : Int) := by
 have e : k = (UInt64.ofNat k).toNat := by rw [UInt64.toNat_ofNat', Nat.mod_eq_of_lt hk]
 have := wxor x (UInt64.ofNat k)
 rw [← e] at this
 exact this
theorem xc1 (x : UInt64) : bits .xor .u64 (x.toNat : Int) 8317987319222330741 = ((uxor x 8317987319222330741).toNat : Int) := wxorc x 8317987319222330741 (by decide)
theorem xc2 (x : UInt64) : bits .xor .u64 (x.toNat : Int) 7237128888997146477 = ((uxor x 7237128888997146477).toNat : Int) := wxorc x 7237128888997146477 (by decide)
theorem xc3 (x : UInt64) : bits .xor .u64 (x.toNat : Int) 7816392313619706465 = ((uxor x 7816392313619706465).toNat : Int) := wxorc x 7816392313619706465 (by decide)
theorem xc4 (x : UInt64) : bits .xor .u64 (x.toNat : Int) 8387220255154660723 = ((uxor x 8387220255154660723).toNat : Int) := wxorc x 8387220255154660723 (by decide)
theorem xc5 (x : UInt64) : bits .xor .u64 (x.toNat : Int) 255 = ((uxor x 255).toNat : Int) := wxorc x 255 (by decide)
attribute [local go_sem] xc1 xc2 xc3 xc4 xc5
end

section
open Go.RowKit
attribute [local go_sem ↓] sliced_cut
attribute [local go_sem] cutA_zero wadd wxor xc5
def K16 (key : List UInt8) : Prop := key.length = 16
end

section
open Go.RowKit
attribute [local go_sem ↓] sliced_cut
attribute [local go_sem] cutA_zero
open Go.ChangeShapes Go.WideShapes in
theorem open_arr {H : Type} {enc : TypeId × Value → H} {P : Program} {W : World} {base n : Nat} {t e : TypeId} {v : Value} {d : DataW H} {p : List MemPlace}
  (ht : P.underlying t = some (.array n e)) (he : P.underlying e = some (.int .u8)) (hC : P.cellsOf e = 1) (hCt : P.cellsOf t = n) (hv : Value.okWide P W .any base t v)
  (h : DataW.Trod enc P W 0 (fun _ => true) true t v d p) : ∃ l : List UInt8, v = .agg (bcs l).toArray ∧ l.length = n := by
 obtain ⟨cs, rfl, hsz⟩ : ∃ cs, v = .agg cs ∧ cs.size = P.cellsOf t := by
  simp only [Value.okWide, ht] at hv
  obtain ⟨cs, h1, h2, _⟩ := hv
  exact ⟨cs, h1, h2⟩
 obtain ⟨fuel, hf⟩ := h
 obtain ⟨xs, m, _, _, hl, hlen, hg⟩ := DataW.trod_array ht hf
 have hcs : cs.size = n := by omega
 have each : ∀ i, i < n → ∃ b : UInt8, cs[i]? = some (.int .u8 (b.toNat : Int)) := by
  intro i hi
  have h1 := hg i hi
  rw [hC, Nat.mul_one] at h1
  have hxi : xs[i]? = some (xs[i]'(by omega)) := List.getElem?_eq_getElem (by omega)
  rw [hxi] at h1
  obtain ⟨z, hz, _, hw⟩ := DataW.trod_int he h1
  have hb := bounds_u8 hw
  refine ⟨UInt8.ofNat z.toNat, ?_⟩
  have hic : i < cs.toList.length := by simp [hcs, hi]
  simp only [Value.cells, List.drop_eq_getElem_cons hic, List.take_succ_cons, List.take_zero, List.cons.injEq, and_true] at hz
  have hz2 : cs[i]? = some (.int .u8 z) := by
   rw [Array.getElem?_eq_getElem (by simpa using hic), ← hz]
   simp
  rw [hz2]
  simp
  omega
 refine ⟨(List.range n).map fun i => match cs[i]? with | some (Value.int _ z) => UInt8.ofNat z.toNat | _ => 0, ?_, by simp⟩
 congr 1
 apply Array.ext
 ·simp [bcs, hcs]
 ·intro i h1 h2
  obtain ⟨b, hb⟩ := each i (by omega)
  have hb2 : cs[i] = .int .u8 (b.toNat : Int) := by rw [Array.getElem?_eq_getElem h1] at hb; exact Option.some.inj hb
  simp [bcs, hb2, hb]
set_option maxRecDepth 100000 in
theorem open_key {H : Type} {enc : TypeId × Value → H} {W : World} {base : Nat} {v : Value} {d : DataW H} {p : List MemPlace} (hv : Value.okWide Tryz.prog W .any base 22 v)
  (h : DataW.Trod enc Tryz.prog W 0 (fun _ => true) true 22 v d p) : ∃ l : List UInt8, v = .agg (bcs l).toArray ∧ K16 l := open_arr Tryz.underlying22 Tryz.underlying5 (by kernel_rfl) (by kernel_rfl) hv h
end

section
open Go.RowKit
attribute [local go_sem ↓] sliced_cut
attribute [local go_sem] cutA_zero
theorem rowKey : ∃ d, Tryz.prog.underlying 55 = some d ∧ d.isRow = true ∧ (Tryz.prog.info? 55).map (·.size) = some 16 := ⟨_, Tryz.underlying55, rfl, by kernel_rfl⟩
end

section
open Go.RowKit
attribute [local go_sem ↓] sliced_cut
attribute [local go_sem] cutA_zero
theorem szU8 (w : World) : (sizeOf 5).run Tryz.prog w = .ok 1 w := by
 obtain ⟨i, hi, hz0, hz1, hz2⟩ := info_parts bt.info
 simp [sizeOf, typeInfo, hi, hz1]
theorem eql_key (w : World) (a b : List UInt8) (ha : K16 a) (hb : K16 b) : (binOp .eql 55 (.agg (bcs a).toArray) (.agg (bcs b).toArray)).run Tryz.prog w = .ok (.bool (a == b)) w :=
 run_eql_bytes w 55 5 16 Tryz.underlying55 Tryz.underlying5 szU8 a b ha hb
theorem eql_key' (w : World) (a b : List UInt8) (ha : K16 a) (hb : K16 b) : (binOp .eql 22 (.agg (bcs a).toArray) (.agg (bcs b).toArray)).run Tryz.prog w = .ok (.bool (a == b)) w :=
 run_eql_bytes w 22 5 16 Tryz.underlying22 Tryz.underlying5 szU8 a b ha hb
attribute [local go_sem ↓] eql_key eql_key'
end

section
open Go.RowKit
attribute [local go_sem ↓] sliced_cut
attribute [local go_sem] cutA_zero
def ringC (key : List UInt8) (n : Nat) : List Value := bcs key ++ [.int .u64 (n : Int)]
theorem ringC_length (key : List UInt8) (hk : K16 key) (n : Nat) : (ringC key n).length = 17 := by
 simp [ringC, bcs_length, show key.length = 16 from hk]
theorem ringC_16 (key : List UInt8) (hk : K16 key) (n : Nat) : (ringC key n)[16]? = some (.int .u64 (n : Int)) := by
 unfold ringC
 rw [List.getElem?_append_right (by rw [bcs_length, show key.length = 16 from hk]; omega), bcs_length, show key.length = 16 from hk]
 rfl
theorem ringC_one (key : List UInt8) (n : Nat) : ∀ u ∈ ringC key n, u.oneCell' = true := by
 intro u hu
 rcases List.mem_append.1 hu with h | h
 ·exact bcs_one key u h
 ·simp at h; subst h; rfl
set_option maxRecDepth 100000 in
theorem run_buildRing (key : List UInt8) (hk : K16 key) (n : Nat) (w : World) : (Instr.build 57 #[(0, .agg (bcs key).toArray), (1, .int .u64 (n : Int))]).run Tryz.prog w = .ok (.agg (ringC key n).toArray) w := by
 obtain ⟨k0, k1, k2, k3, k4, k5, k6, k7, k8, k9, k10, k11, k12, k13, k14, k15, rfl⟩ := list16 hk
 kernel_rfl
theorem rowRing : ∃ d, Tryz.prog.underlying 57 = some d ∧ d.isRow = true ∧ (Tryz.prog.info? 57).map (·.size) = some 17 := ⟨_, Tryz.underlying57, rfl, by kernel_rfl⟩
def ring0 : List Value := [.int .u8 0, .int .u8 0, .int .u8 0, .int .u8 0, .int .u8 0, .int .u8 0, .int .u8 0, .int .u8 0, .int .u8 0, .int .u8 0, .int .u8 0, .int .u8 0, .int .u8 0, .int .u8 0, .int .u8 0, .int .u8 0, .int .u64 0]
set_option maxHeartbeats 1000000 in
set_option maxRecDepth 100000 in
theorem ringNew_any (key : List UInt8) (hk : K16 key) (n : Nat) (w : World) : Calls Tryz.prog 21 #[.agg (bcs key).toArray, .int .u64 n] w (RetV w (.agg (ringC key n).toArray)) := by
 obtain ⟨dk, u1, u2, u3⟩ := rowKey
 obtain ⟨dr, v1, v2, v3⟩ := rowRing
 have hl := ringC_length key hk n
 have hb0 := (Bk.new w 55 (bcs key).toArray).alloc (.cells #[.int .u8 0, .int .u8 0, .int .u8 0, .int .u8 0, .int .u8 0, .int .u8 0, .int .u8 0, .int .u8 0, .int .u8 0, .int .u8 0, .int .u8 0, .int .u8 0, .int .u8 0, .int .u8 0, .int .u8 0, .int .u8 0, .int .u64 0] 57)
 have hb1 := Bk.new (w.alloc (.cells (bcs key).toArray 55)) 57 #[.int .u8 0, .int .u8 0, .int .u8 0, .int .u8 0, .int .u8 0, .int .u8 0, .int .u8 0, .int .u8 0, .int .u8 0, .int .u8 0, .int .u8 0, .int .u8 0, .int .u8 0, .int .u8 0, .int .u8 0, .int .u8 0, .int .u64 0]
 rw [World.size_alloc] at hb1
 go_enter Tryz.func21, Tryz.ntmps21
 go_wp2_with (first
  | (refine at_op (.load 55 (.tmp 2)) rfl ?_; refine wpList_ldA 55 (.tmp 2) rfl rfl (bcs key) rfl hb0 (by rw [List.drop_zero]; exact List.take_of_length_le (Nat.le_refl _)) u1 u2 (by rw [bcs_length, show key.length = 16 from hk]; exact u3) ?_)
  | (refine at_op (.build 57 #[(0, .tmp 5), (1, .tmp 6)]) rfl ?_; refine wpList_build 57 [(0, .tmp 5), (1, .tmp 6)] rfl rfl (.agg (ringC key n).toArray) ?_ ?_; exact run_buildRing key hk n _)
  | (refine at_op (.store 57 (.tmp 4) (.tmp 7)) rfl ?_; refine wpList_stA 57 (.tmp 4) (.tmp 7) rfl rfl (ringC key n) ring0 (by rw [hl]; rfl) (ringC_one key n) rfl rfl hb1 (by rw [hl]; exact v3) ?_; intro w2 hb2 hg2))
 refine bodyPost_agg Tryz.results21 rfl hb2.range v1 v2 (by rw [hl]; exact v3) rfl (RetV.mk ?_)
 exact (((Below.refl _ _).alloc (Nat.le_refl _) _).alloc (by simp) _).trans (below_of_grown hg2 (by simp; omega) (fun k hk => by injection hk with hk; omega))
theorem bcs_whole (key : List UInt8) : ((bcs key).drop 0).take (bcs key).length = bcs key := by rw [List.drop_zero]; exact List.take_of_length_le (Nat.le_refl _)
theorem ringC_key (key : List UInt8) (n : Nat) : ((ringC key n).drop 0).take (bcs key).length = bcs key := by rw [List.drop_zero, ringC]; exact List.take_left
theorem szKey (key : List UInt8) (hk : K16 key) : (Tryz.prog.info? 55).map (·.size) = some (bcs key).length := by rw [bcs_length, show key.length = 16 from hk]; kernel_rfl
theorem szRing (key : List UInt8) (hk : K16 key) (n : Nat) : (Tryz.prog.info? 57).map (·.size) = some (ringC key n).length := by rw [ringC_length key hk n]; kernel_rfl
set_option maxHeartbeats 1000000 in
set_option maxRecDepth 100000 in
theorem ringNext_any (key : List UInt8) (hk : K16 key) (n : Nat) (w : World) (hn : n < 18446744073709551616) : Calls Tryz.prog 65 #[.agg (ringC key n).toArray] w (RetV w (.agg (ringC key ((n + 1) % 18446744073709551616)).toArray)) := by
 have q := ringC_16 key hk n
 obtain ⟨dk, u1, u2, u3⟩ := rowKey
 obtain ⟨dr, v1, v2, v3⟩ := rowRing
 have e : IntKind.u64.wrap ((n : Int) + 1) = (((n + 1) % 18446744073709551616 : Nat) : Int) := by rw [IntKind.wrap_u64]; omega
 generalize (n + 1) % 18446744073709551616 = n2 at *
 have hb0 := (Bk.new w 57 (ringC key n).toArray).alloc (.cells #[.int .u8 0, .int .u8 0, .int .u8 0, .int .u8 0, .int .u8 0, .int .u8 0, .int .u8 0, .int .u8 0, .int .u8 0, .int .u8 0, .int .u8 0, .int .u8 0, .int .u8 0, .int .u8 0, .int .u8 0, .int .u8 0, .int .u64 0] 57)
 have hb1 := Bk.new (w.alloc (.cells (ringC key n).toArray 57)) 57 #[.int .u8 0, .int .u8 0, .int .u8 0, .int .u8 0, .int .u8 0, .int .u8 0, .int .u8 0, .int .u8 0, .int .u8 0, .int .u8 0, .int .u8 0, .int .u8 0, .int .u8 0, .int .u8 0, .int .u8 0, .int .u8 0, .int .u64 0]
 rw [World.size_alloc] at hb1
 go_enter Tryz.func65, Tryz.ntmps65
 go_wp2_with (first
  | (refine at_op (.load 55 (.tmp 3)) rfl ?_; refine wpList_ldA 55 (.tmp 3) rfl rfl (bcs key) rfl hb0 (ringC_key key n) u1 u2 (szKey key hk) ?_)
  | (go_at_call 21; refine (ringNew_any key hk n2 _).mono ?_; rintro e w1 ⟨bs1, d1, rfl, rfl⟩)
  | (refine at_op (.store 57 (.tmp 2) (.tmp 8)) rfl ?_; refine wpList_stA 57 (.tmp 2) (.tmp 8) rfl rfl (ringC key n2) ring0 (by rw [ringC_length key hk]; rfl) (ringC_one key n2) rfl rfl (hb1.later (below_plus _ _ _)) (szRing key hk n2) ?_; intro w2 hb2 hg2))
 refine bodyPost_agg Tryz.results65 rfl hb2.range v1 v2 (szRing key hk n2) rfl (RetV.mk ?_)
 exact (belowP (((Below.refl _ _).alloc (Nat.le_refl _) _).alloc (by simp) _) bs1 d1).trans (below_of_grown hg2 (by simp [size_plus]; omega) (fun k hk => by injection hk with hk; omega))
def key0 : List UInt8 := List.replicate 16 0
end

section
open Go.RowKit
theorem Bk.apart {w : World} {a b : Nat} {t u : TypeId} {cs ds : List Value} (h : Bk w a t cs) (k : Bk w b u ds) (hn : t ≠ u) : a ≠ b := by
 rintro rfl
 unfold Bk at h k
 rw [h] at k
 injection k with k
 injection k with _ k _
 exact hn k
theorem Bk.same {w : World} {a : Nat} {t u : TypeId} {cs ds : List Value} (h : Bk w a t cs) (k : Bk w a u ds) : cs = ds := by
 unfold Bk at h k
 rw [h] at k
 injection k with k
 injection k with k _ _
 simpa using k
structure VE where
 A : Option Addr
 n : Nat
 c : Nat
 T : Nat
abbrev Ve := Vp × VE
def veC (x : Ve) : List Value := [.bool x.1.ad.1, .int .u64 (x.1.ad.2.1 : Int), .int .u64 (x.1.ad.2.2 : Int), .int .u16 (x.1.pt : Int), .int .u8 (x.1.pr : Int), .int .i64 x.1.wy, .slice x.2.A x.2.n x.2.c, .pointer (some ⟨x.2.T, 0, none⟩)]
theorem veC_len (x : Ve) : (veC x).length = 8 := rfl
theorem veC_one (x : Ve) : ∀ u ∈ veC x, u.oneCell' = true := by simp [veC, Value.oneCell']
theorem szVe (x : Ve) : (Tryz.prog.info? 96).map (·.size) = some (veC x).length := by kernel_rfl
theorem rowVe : ∃ d, Tryz.prog.underlying 96 = some d ∧ d.isRow = true := ⟨_, Tryz.underlying96, rfl⟩
theorem etVe : ET Tryz.prog 61 96 (.agg #[.bool false, .int .u64 0, .int .u64 0, .int .u16 0, .int .u8 0, .int .i64 0, .slice none 0 0, .pointer none]) 8 72 := ⟨Tryz.underlying61, by kernel_rfl, rfl, by decide, by decide⟩
def z0 : Adr := (false, 0, 0)
def bkC (x : Option Adr) : List Value := [.bool (x.getD z0).1, .int .u64 ((x.getD z0).2.1 : Int), .int .u64 ((x.getD z0).2.2 : Int), .bool x.isSome]
theorem bkC_len (x : Option Adr) : (bkC x).length = 4 := rfl
theorem bkC_one (x : Option Adr) : ∀ u ∈ bkC x, u.oneCell' = true := by simp [bkC, Value.oneCell']
def stC (C : Cf) (A : Option Addr) (n c : Nat) : List Value := .int .u64 (C.num : Int) :: (ringC C.key C.now ++ (C.bk.flatMap bkC ++ [.slice A n c]))
theorem stC_len (C : Cf) (hk : C.key.length = 16) (hb : C.bk.length = 65) (A : Option Addr) (n c : Nat) : (stC C A n c).length = 279 := by
 simp [stC, ringC, bcs_length, hk, flat_len bkC 4 bkC_len, hb]
theorem stC_vips (C : Cf) (hk : C.key.length = 16) (hb : C.bk.length = 65) (A : Option Addr) (n c : Nat) : (stC C A n c)[278]? = some (.slice A n c) := by
 unfold stC
 rw [List.getElem?_cons_succ, List.getElem?_append_right (by simp [ringC, bcs_length, hk]), List.getElem?_append_right (by simp [ringC, bcs_length, hk, flat_len bkC 4 bkC_len, hb])]
 simp [ringC, bcs_length, hk, flat_len bkC 4 bkC_len, hb]
theorem stC_setVips (C : Cf) (hk : C.key.length = 16) (hb : C.bk.length = 65) (A : Option Addr) (n c : Nat) (A' : Option Addr) (n' c' : Nat) (L : List Vp) : (stC C A n c).set 278 (.slice A' n' c') = stC { C with vs := L } A' n' c' := by
 unfold stC
 rw [List.set_cons_succ, List.set_append_right _ _ (by simp [ringC, bcs_length, hk]), List.set_append_right _ _ (by simp [ringC, bcs_length, hk, flat_len bkC 4 bkC_len, hb])]
 simp [ringC, bcs_length, hk, flat_len bkC 4 bkC_len, hb]
theorem stC_num (C : Cf) (A : Option Addr) (n c : Nat) : (stC C A n c)[0]? = some (.int .u64 (C.num : Int)) := rfl
theorem stC_setNum (C : Cf) (A : Option Addr) (n c m : Nat) : (stC C A n c).set 0 (.int .u64 (m : Int)) = stC { C with num := m } A n c := rfl
theorem stC_ring (C : Cf) (hk : C.key.length = 16) (A : Option Addr) (n c : Nat) : ((stC C A n c).drop 1).take (ringC C.key C.now).length = ringC C.key C.now := by
 unfold stC
 rw [List.drop_succ_cons, List.drop_zero, List.take_left]
theorem stC_setRing (C : Cf) (hk : C.key.length = 16) (A : Option Addr) (n c m : Nat) : splice (stC C A n c) 1 (ringC C.key m) = stC { C with now := m } A n c := by
 unfold stC
 have e := splice_cons (.int .u64 (C.num : Int)) (ringC C.key C.now ++ (C.bk.flatMap bkC ++ [.slice A n c])) (ringC C.key m) 0
 rw [Nat.add_zero] at e
 rw [e]
 congr 1
 have h1 : (ringC C.key C.now).length = (ringC C.key m).length := by simp [ringC]
 unfold splice
 rw [List.take_zero, List.nil_append, Nat.zero_add, ← h1, List.drop_left]
theorem stC_bkAt (C : Cf) (hk : C.key.length = 16) (hb : C.bk.length = 65) (A : Option Addr) (n c : Nat) (i : Nat) (hi : i < 65) (k : Nat) (u : Value) (h : (bkC (C.bk.getD i none))[k]? = some u) : (stC C A n c)[18 + i * 4 + k]? = some u := by
 have hib : i < C.bk.length := by omega
 have e : C.bk.getD i none = C.bk[i] := by simp [List.getD_eq_getElem?_getD, hib]
 rw [e] at h
 have h4 := flat_at bkC 4 bkC_len C.bk i hib k u h
 have hlt := (List.getElem?_eq_some_iff.1 h4).1
 unfold stC
 rw [show 18 + i * 4 + k = (17 + (i * 4 + k)) + 1 by omega, List.getElem?_cons_succ, List.getElem?_append_right (by simp [ringC, bcs_length, hk]),
  show 17 + (i * 4 + k) - (ringC C.key C.now).length = i * 4 + k by simp [ringC, bcs_length, hk], List.getElem?_append_left hlt]
 exact h4
theorem stC_setBk (C : Cf) (hk : C.key.length = 16) (hb : C.bk.length = 65) (A : Option Addr) (n c : Nat) (i : Nat) (hi : i < 65) (x : Option Adr) : splice (stC C A n c) (18 + i * 4) (bkC x) = stC { C with bk := C.bk.set i x } A n c := by
 unfold stC
 rw [show 18 + i * 4 = 1 + (17 + i * 4) by omega, splice_cons]
 congr 1
 have hr : (ringC C.key C.now).length = 17 := by simp [ringC, bcs_length, hk]
 have hf := flat_len bkC 4 bkC_len C.bk
 have e : splice (ringC C.key C.now ++ (C.bk.flatMap bkC ++ [.slice A n c])) (17 + i * 4) (bkC x) = ringC C.key C.now ++ splice (C.bk.flatMap bkC ++ [.slice A n c]) (i * 4) (bkC x) := by
  unfold splice
  rw [← hr, List.take_length_add_append, List.append_assoc]
  congr 3
  rw [Nat.add_assoc, List.drop_length_add_append]
 rw [e, splice_app _ _ _ _ (by rw [bkC_len, hf]; omega), flat_splice bkC 4 bkC_len _ _ (by omega)]
structure CfX (G D : Nat → Prop) (w : World) (g : Nat) (C : Cf) (A : Option Addr) (n c : Nat) (E : List Ve) : Prop where
 vs : E.map (·.1) = C.vs
 st : Bk w g 63 (stC C A n c)
 row : Os 96 8 w 0 A n c (E.flatMap veC)
 dr : ∀ k, (Value.slice A n c).ownBlock = some k → D k
 dg : D g
 tb : ∀ x ∈ E, Bk w x.2.T 209 (stkC x.1.S)
 dt : ∀ x ∈ E, D x.2.T
 mm : ∀ x ∈ E, Rs 2 w x.2.A x.2.n x.2.c (prs .i64 x.1.ms)
 mo : ∀ x ∈ E, Off G w x.2.A
 nd : (E.map (·.2.T)).Nodup
 sub : ∀ b, D b → G b
 lt : ∀ b, G b → b < w.heap.size
def CfM (G D : Nat → Prop) (w : World) (g : Nat) (C : Cf) : Prop := ∃ A n c E, CfX G D w g C A n c E
section
variable {G D : Nat → Prop} {w w' : World} {g : Nat} {C : Cf} {A : Option Addr} {n c : Nat} {E : List Ve}
theorem CfX.len (h : CfX G D w g C A n c E) : E.length = C.vs.length := by rw [← h.vs]; simp
theorem CfX.n_ (h : CfX G D w g C A n c E) : n = C.vs.length := by
 have := h.row.rs.1
 rw [flat_len veC 8 veC_len] at this
 have := h.len
 omega
theorem CfX.later (h : CfX G D w g C A n c E) (hb : Below w.heap.size w w') : CfX G D w' g C A n c E :=
 ⟨h.vs, h.st.later hb, h.row.later hb, h.dr, h.dg, fun x hx => (h.tb x hx).later hb, h.dt, fun x hx => (h.mm x hx).later hb, fun x hx => (h.mo x hx).size hb.size, h.nd, h.sub, fun b hG => Nat.lt_of_lt_of_le (h.lt b hG) hb.size⟩
theorem CfX.chg {D' : Nat → Prop} (h : CfX G D w g C A n c E) (hc : Chg D' w w') (hd : ∀ b, D' b → G b) (hn : ∀ b, D' b → ¬ D b) : CfX G D w' g C A n c E :=
 ⟨h.vs, h.st.chg hc (fun k => hn _ k h.dg), h.row.chg hc (fun k hk hD => hn k hD (h.dr k hk)), h.dr, h.dg, fun x hx => (h.tb x hx).chg hc (fun k => hn _ k (h.dt x hx)), h.dt,
  fun x hx => (h.mm x hx).chg hc (fun a ha hD => (h.mo x hx a ha).2 (hd _ hD)), fun x hx => (h.mo x hx).size hc.size, h.nd, h.sub, fun b hG => Nat.lt_of_lt_of_le (h.lt b hG) hc.size⟩
theorem CfX.more {G' : Nat → Prop} (h : CfX G D w g C A n c E) (h1 : ∀ b, G b → G' b) (h2 : ∀ b, G' b → b < w.heap.size) (h3 : ∀ x ∈ E, Off G' w x.2.A) : CfX G' D w g C A n c E :=
 ⟨h.vs, h.st, h.row, h.dr, h.dg, h.tb, h.dt, h.mm, h3, h.nd, fun b hb => h1 b (h.sub b hb), h2⟩
theorem CfX.ne_st (h : CfX G D w g C A n c E) {x : Ve} (hx : x ∈ E) : x.2.T ≠ g := (h.tb x hx).apart h.st (by decide)
theorem Os.bk {e : TypeId} {s : Nat} {w : World} {base : Nat} {A : Option Addr} {n c : Nat} {cs : List Value} (h : Os e s w base A n c cs) (hn : 0 < n) : ∃ b cur, A = some ⟨b, 0, none⟩ ∧ (Value.slice A n c).ownBlock = some b ∧ Bk w b e cur ∧ cur.length = c * s ∧ cur.take (n * s) = cs ∧ n ≤ c ∧ c ≤ maxLen := by
 rcases h.2 with ⟨hv, h0⟩ | ⟨b, cap, cur, hv, _, hr, hnc, hm, hs, ht⟩
 ·omega
 ·injection hv with h1 h2 h3
  subst h1 h3
  exact ⟨b, cur.toList, rfl, rfl, hr, by simpa using hs, ht, hnc, hm⟩
theorem Os.of_bk {e : TypeId} {s : Nat} {w : World} {b n c : Nat} {cur cs : List Value} (h : Bk w b e cur) (hl : cur.length = c * s) (ht : cur.take (n * s) = cs) (hn : n ≤ c) (hc : c ≤ maxLen) (hcs : cs.length = n * s) : Os e s w 0 (some ⟨b, 0, none⟩) n c cs :=
 ⟨hcs, .inr ⟨b, c, cur.toArray, rfl, Nat.zero_le _, h, hn, hc, by simpa using hl, by simpa using ht⟩⟩
theorem CfX.ne_row (h : CfX G D w g C A n c E) {x : Ve} (hx : x ∈ E) : ∀ k, (Value.slice A n c).ownBlock = some k → k ≠ x.2.T := by
 intro k hk
 have hn : 0 < n := by
  have := h.len
  have := h.n_
  have := List.length_pos_of_mem hx
  omega
 obtain ⟨b, cur, _, hb, hB, _⟩ := h.row.bk hn
 rw [hb] at hk
 injection hk with hk
 subst hk
 exact hB.apart (h.tb x hx) (by decide)
theorem nodup_at {l : List Ve} (h : (l.map (·.2.T)).Nodup) {i j : Nat} (hi : i < l.length) (hj : j < l.length) (he : l[i].2.T = l[j].2.T) : i = j :=
 (List.getElem_inj (h₀ := by simpa using hi) (h₁ := by simpa using hj) h).1 (by simpa using he)
theorem CfX.setStk (h : CfX G D w g C A n c E) {i : Nat} {x : Ve} (hi : E[i]? = some x) {S' : Stk} (hb : Bk w' x.2.T 209 (stkC S')) (hc : Chg (fun b => b = x.2.T) w w') : CfX G D w' g { C with vs := C.vs.set i { x.1 with S := S' } } A n c (E.set i ({ x.1 with S := S' }, x.2)) := by
 have hx := List.mem_of_getElem? hi
 have hT := h.dt x hx
 have hil := (List.getElem?_eq_some_iff.1 hi).1
 have hxi : E[i] = x := (List.getElem?_eq_some_iff.1 hi).2
 have hG := h.sub _ hT
 have hfl : (E.set i ({ x.1 with S := S' }, x.2)).flatMap veC = E.flatMap veC := by
  rw [← flat_set veC 8 veC_len E i hil ({ x.1 with S := S' }, x.2) 0 (.bool x.1.ad.1) (by decide) (by rw [hxi]; rfl)]
  apply List.ext_getElem?
  intro j
  by_cases hj : i * 8 + 0 = j
  ·subst hj
   have := flat_at veC 8 veC_len E i hil 0 (.bool x.1.ad.1) (by rw [hxi]; rfl)
   rw [this, List.getElem?_set_self (List.getElem?_eq_some_iff.1 this).1]
  ·rw [List.getElem?_set_ne hj]
 have mem : ∀ y ∈ E.set i ({ x.1 with S := S' }, x.2), (y = ({ x.1 with S := S' }, x.2)) ∨ (∃ j, ∃ hj : j < E.length, j ≠ i ∧ y = E[j]) := by
  intro y hy
  obtain ⟨j, hj, rfl⟩ := List.mem_iff_getElem.1 hy
  rw [List.length_set] at hj
  rw [List.getElem_set]
  split
  ·exact .inl rfl
  ·rename_i hne
   exact .inr ⟨j, hj, fun e => hne e.symm, rfl⟩
 refine ⟨?_, ?_, ?_, h.dr, h.dg, ?_, ?_, ?_, ?_, ?_, h.sub, fun b hb' => Nat.lt_of_lt_of_le (h.lt b hb') hc.size⟩
 ·show _ = C.vs.set i _
  rw [List.map_set, h.vs]
 ·exact h.st.chg hc (fun e => h.ne_st hx e.symm)
 ·rw [hfl]
  exact h.row.chg hc (fun k hk e => h.ne_row hx k hk e)
 ·intro y hy
  rcases mem y hy with rfl | ⟨j, hj, hne, rfl⟩
  ·exact hb
  ·exact (h.tb _ (List.getElem_mem hj)).chg hc (fun e => hne (nodup_at h.nd hj hil (by rw [hxi]; exact e)))
 ·intro y hy
  rcases mem y hy with rfl | ⟨j, hj, _, rfl⟩
  ·exact hT
  ·exact h.dt _ (List.getElem_mem hj)
 ·intro y hy
  have hk : ∀ z ∈ E, Rs 2 w' z.2.A z.2.n z.2.c (prs .i64 z.1.ms) := fun z hz => (h.mm z hz).chg hc (fun a ha e => (h.mo z hz a ha).2 (by rw [e]; exact hG))
  rcases mem y hy with rfl | ⟨j, hj, _, rfl⟩
  ·exact hk x hx
  ·exact hk _ (List.getElem_mem hj)
 ·intro y hy
  rcases mem y hy with rfl | ⟨j, hj, _, rfl⟩
  ·exact (h.mo x hx).size hc.size
  ·exact (h.mo _ (List.getElem_mem hj)).size hc.size
 ·rw [List.map_set]
  have : (E.map (·.2.T)).set i x.2.T = E.map (·.2.T) := by
   apply List.ext_getElem
   ·simp
   ·intro j h1 h2
    rw [List.getElem_set]
    split
    ·rename_i e; subst e; simp [hxi]
    ·rfl
  rw [this]
  exact h.nd
theorem CfX.setSt (h : CfX G D w g C A n c E) {C' : Cf} (hv : C'.vs = C.vs) (hb : Bk w' g 63 (stC C' A n c)) (hg : w.grownBy w' (some g)) : CfX G D w' g C' A n c E := by
 have hc : Chg (fun b => b = g) w w' := Chg.one hg rfl
 refine ⟨h.vs.trans hv.symm, hb, ?_, h.dr, h.dg, fun x hx => (h.tb x hx).chg hc (fun e => h.ne_st hx e), h.dt, fun x hx => (h.mm x hx).chg hc (fun a ha e => (h.mo x hx a ha).2 (by rw [e]; exact h.sub _ h.dg)), fun x hx => (h.mo x hx).size hc.size, h.nd, h.sub, fun b hb' => Nat.lt_of_lt_of_le (h.lt b hb') hc.size⟩
 refine h.row.chg hc (fun k hk e => ?_)
 have e : k = g := e
 subst e
 rcases Nat.eq_zero_or_pos n with h0 | h0
 ·rcases h.row.2 with ⟨hv, _⟩ | ⟨b, cap, cur, hv, _, hr, _⟩
  ·injection hv with h1 _ _; subst h1; cases hk
  ·injection hv with h1 _ _
   subst h1
   injection hk with hk
   subst hk
   have := h.st
   unfold Bk at this
   rw [hr] at this
   injection this with this
   injection this with _ this _
   revert this
   decide
 ·obtain ⟨b, cur, _, hb', hB, _⟩ := h.row.bk h0
  rw [hb'] at hk
  injection hk with hk
  subst hk
  exact hB.apart h.st (by decide) rfl
end
end

section
open Go.RowKit
attribute [local go_sem ↓] sliced_cut
attribute [local go_sem] cutA_zero
theorem rowAdC : ∃ d, Tryz.prog.underlying 32 = some d ∧ d.isRow = true := ⟨_, Tryz.underlying32, rfl⟩
def bkA (C : Cf) (m : Int) : Adr := if 1 ≤ m ∧ m ≤ 64 then (C.bk.getD m.toNat none).getD z0 else z0
theorem polRight_any (n : Int) (w : World) : Calls Tryz.prog 112 #[.int .i64 n] w fun e w' => e = .returned (.bool (wyB n)) ∧ w = w' := by
 by_cases h1 : 1 ≤ n
 ·by_cases h2 : n ≤ 64 - 60
  ·have h2 : n ≤ 4 := by omega
   have hh := Lib.hid (show wyB n = true by simp [wyB, h1, h2])
   go_enter Tryz.func112, Tryz.ntmps112
   go_wp2
   go_ret
   exact ⟨by rw [hh.out]; rfl, rfl⟩
  ·have h2 : ¬ n ≤ 4 := by omega
   have hh := Lib.hid (show wyB n = false by simp [wyB, h2])
   go_enter Tryz.func112, Tryz.ntmps112
   go_wp2
   go_ret
   exact ⟨by rw [hh.out]; rfl, rfl⟩
 ·have hh := Lib.hid (show wyB n = false by simp [wyB, h1])
  go_enter Tryz.func112, Tryz.ntmps112
  go_wp2
  go_ret
  exact ⟨by rw [hh.out]; rfl, rfl⟩
theorem cfgLen_any (C : Cf) (hk : C.key.length = 16) (hb : C.bk.length = 65) (A : Option Addr) (n c : Nat) (g : Nat) (w : World) (hS : Bk w g 63 (stC C A n c)) : Calls Tryz.prog 28 #[.pointer (some ⟨g, 0, none⟩)] w fun e w' => e = .returned (.int .i64 (n : Nat)) ∧ w = w' := by
 have q0 : w.cell? ⟨g, 278, none⟩ = some (.slice A n c) := (hS.cell _).trans (stC_vips C hk hb A n c)
 go_enter Tryz.func28, Tryz.ntmps28
 go_wp2
 go_ret
 exact ⟨rfl, rfl⟩
set_option maxHeartbeats 4000000 in
set_option maxRecDepth 100000 in
theorem backend_any (C : Cf) (hk : C.key.length = 16) (hb : C.bk.length = 65) (A : Option Addr) (n c : Nat) (g : Nat) (m : Int) (w : World) (hS : Bk w g 63 (stC C A n c)) : Calls Tryz.prog 26 #[.pointer (some ⟨g, 0, none⟩), .int .i64 m] w (RetV w (.tuple #[.agg (adC (bkA C m).1 (bkA C m).2.1 (bkA C m).2.2).toArray, .bool (knC C m)])) := by
 obtain ⟨da1, va1, va2⟩ := rowAdC
 have be : Below w.heap.size w (w.alloc (.cells #[.bool false, .int .u64 0, .int .u64 0] 32)) := Below.allocS (Below.refl _ _) _
 have b2 : Bk (w.alloc (.cells #[.bool false, .int .u64 0, .int .u64 0] 32)) w.heap.size 32 (adC false 0 0) := Bk.new w 32 #[.bool false, .int .u64 0, .int .u64 0]
 replace hS := hS.later be
 have zV : w.heap.size + 1 ≤ (w.alloc (.cells #[.bool false, .int .u64 0, .int .u64 0] 32)).heap.size := by simp
 by_cases h1 : m < 1
 ·have e1 : bkA C m = z0 := if_neg (by omega)
  have e2 : knC C m = false := by unfold knC; rw [decide_eq_false (by omega)]; rfl
  rw [e1, e2]
  clear e1 e2
  go_enter Tryz.func26, Tryz.ntmps26
  go_upto_region 2 with (fail)
  generalize w.alloc (.cells #[.bool false, .int .u64 0, .int .u64 0] 32) = V at *
  refine wp_region_lit ?_
  refine wpList_plain rfl (fun K hK => ?_); go_simp; with_reducible refine hK _ _ ?_; clear hK K
  refine wpList_stA (t := 32) 32 (.tmp 4) (.tmp 16) rfl rfl (adC false 0 0) (adC false 0 0) rfl (by simp [adC, Value.oneCell']) rfl rfl b2 (szAd _ _ _) ?_
  intro W4 h4 g4
  refine wpList_plain rfl (fun K hK => ?_); go_simp; with_reducible refine hK _ _ ?_; clear hK K
  go_wp2
  refine bodyPost_agg2 Tryz.results26 rfl rfl h4.range va1 va2 (szAd _ _ _) rfl (RetV.is_ (by first | rfl | (simp only [*]; rfl)) (below_grown be g4 (by omega)))
 ·by_cases h2 : 64 < m
  ·have e1 : bkA C m = z0 := if_neg (by omega)
   have e2 : knC C m = false := by unfold knC; rw [decide_eq_false (show ¬ m ≤ 64 by omega)]; simp
   rw [e1, e2]
   clear e1 e2
   go_enter Tryz.func26, Tryz.ntmps26
   go_upto_region 2 with (fail)
   generalize w.alloc (.cells #[.bool false, .int .u64 0, .int .u64 0] 32) = V at *
   refine wp_region_lit ?_
   refine wpList_plain rfl (fun K hK => ?_); go_simp; with_reducible refine hK _ _ ?_; clear hK K
   refine wpList_stA (t := 32) 32 (.tmp 4) (.tmp 16) rfl rfl (adC false 0 0) (adC false 0 0) rfl (by simp [adC, Value.oneCell']) rfl rfl b2 (szAd _ _ _) ?_
   intro W4 h4 g4
   refine wpList_plain rfl (fun K hK => ?_); go_simp; with_reducible refine hK _ _ ?_; clear hK K
   go_wp2
   refine bodyPost_agg2 Tryz.results26 rfl rfl h4.range va1 va2 (szAd _ _ _) rfl (RetV.is_ (by first | rfl | (simp only [*]; rfl)) (below_grown be g4 (by omega)))
  ·obtain ⟨i, rfl⟩ : ∃ i : Nat, m = i := ⟨m.toNat, by omega⟩
   have i65 : (i : Int) < 65 := by omega
   have e1 : bkA C i = (C.bk.getD i none).getD z0 := if_pos ⟨by omega, by omega⟩
   have e2 : knC C i = (C.bk.getD i none).isSome := by unfold knC; rw [decide_eq_true (by omega), decide_eq_true (by omega)]; rfl
   have hpa : ((stC C A n c).drop (18 + i * 4)).take (adC (bkA C i).1 (bkA C i).2.1 (bkA C i).2.2).length = adC (bkA C i).1 (bkA C i).2.1 (bkA C i).2.2 := part_ofS (fun k u h => stC_bkAt C hk hb A n c i (by omega) k u (by
    rw [e1] at h
    have hk3 := (List.getElem?_eq_some_iff.1 h).1
    rw [← h]
    match k, hk3 with
    | 0, _ => rfl
    | 1, _ => rfl
    | 2, _ => rfl))
   have hpb : (stC C A n c)[18 + i * 4 + 3]? = some (.bool (knC C i)) := stC_bkAt C hk hb A n c i (by omega) 3 _ (by rw [e2]; rfl)
   clear e1 e2
   go_enter Tryz.func26, Tryz.ntmps26
   go_upto_region 3 with (fail)
   generalize w.alloc (.cells #[.bool false, .int .u64 0, .int .u64 0] 32) = V at *
   have zg : ¬ g = w.heap.size := by have := b2.apart hS (by decide); omega
   refine wp_suS (fun b => b = w.heap.size) 16 31 2 [14] rfl (by kernel_rfl) (by kernel_rfl) (fun k w' => Bk w' w.heap.size 32 (if k = 0 then adC false 0 0 else (adC (bkA C i).1 (bkA C i).2.1 (bkA C i).2.2))) (fun k _ _ h hx => h.later hx.below) (b2) ?_
   apply StepsC.one (MC.eq _) 1 rfl (by decide)
   ·intro o ho FA w' hC hO hD K hK
    obtain rfl := qoi ho
    have e0 := hO 0 (by kernel_rfl)
    simp only [eval_tmp, qgT, qgS, qgZ, qoS] at e0
    have ev0 := Lib.hid ((eval_tmp FA 0).trans e0)
    clear hO hD ho
    go_simp
    exact hK.out _ _ (Ex.refl _) rfl
   apply StepsC.one (MC.eq _) 2 rfl (by decide)
   ·intro o ho FA w' hC hO hD K hK
    obtain rfl := qoi ho
    have e1 := hO 1 (by kernel_rfl)
    simp only [eval_tmp, qgT, qgS, qgZ, qoS] at e1
    have ev1 := Lib.hid ((eval_tmp FA 1).trans e1)
    clear hO hD ho
    go_simp
    exact hK.out _ _ (Ex.refl _) rfl
   apply StepsC.one (MC.eq _) 3 rfl (by decide)
   ·intro o ho FA w' hC hO hD K hK
    obtain rfl := qoi ho
    obtain ⟨e17, ev17⟩ := qE (hD 0 17 (by kernel_rfl))
    clear hO hD ho
    go_simp
    exact hK.out _ _ (Ex.refl _) rfl
   apply StepsC.one (MC.eq _) 4 rfl (by decide)
   ·intro o ho FA w' hC hO hD K hK
    obtain rfl := qoi ho
    obtain ⟨e19, ev19⟩ := qE (hD 2 19 (by kernel_rfl))
    clear hO hD ho
    go_simp
    exact hK.out _ _ (Ex.refl _) rfl
   apply StepsC.one (MC.eq _) 5 rfl (by decide)
   ·intro o ho FA w' hC hO hD K hK
    obtain rfl := qoi ho
    obtain ⟨e20, ev20⟩ := qE (hD 3 20 (by kernel_rfl))
    obtain ⟨e18, ev18⟩ := qE (hD 1 18 (by kernel_rfl))
    clear hO hD ho
    go_simp
    exact hK.out _ _ (Ex.refl _) rfl
   apply StepsC.one (MC.eq _) 6 rfl (by decide)
   ·intro o ho FA w' hC hO hD K hK
    obtain rfl := qoi ho
    obtain ⟨e21, ev21⟩ := qE (hD 4 21 (by kernel_rfl))
    clear hO hD ho
    go_simp
    exact hK.out _ _ (Ex.refl _) rfl
   apply StepsC.one (MC.eq _) 7 rfl (by decide)
   ·intro o ho FA w' hC hO hD K hK
    obtain rfl := qoi ho
    obtain ⟨e22, ev22⟩ := qE (hD 5 22 (by kernel_rfl))
    clear hO hD ho
    refine wanted_if rfl ?_
    refine wp_ldA 32 (.tmp 22) rfl (adC (bkA C i).1 (bkA C i).2.1 (bkA C i).2.2) ev22.out (hS.chg hC zg) hpa va1 va2 (szAd _ _ _) ?_
    exact hK.out _ _ (Ex.refl _) rfl
   apply StepsC.one (MC.eq _) 8 rfl (by decide)
   ·intro o ho FA w' hC hO hD K hK
    obtain rfl := qoi ho
    have e0 := hO 0 (by kernel_rfl)
    simp only [eval_tmp, qgT, qgS, qgZ, qoS] at e0
    have ev0 := Lib.hid ((eval_tmp FA 0).trans e0)
    clear hO hD ho
    go_simp
    exact hK.out _ _ (Ex.refl _) rfl
   apply StepsC.one (MC.eq _) 9 rfl (by decide)
   ·intro o ho FA w' hC hO hD K hK
    obtain rfl := qoi ho
    have e1 := hO 1 (by kernel_rfl)
    simp only [eval_tmp, qgT, qgS, qgZ, qoS] at e1
    have ev1 := Lib.hid ((eval_tmp FA 1).trans e1)
    clear hO hD ho
    go_simp
    exact hK.out _ _ (Ex.refl _) rfl
   apply StepsC.one (MC.eq _) 10 rfl (by decide)
   ·intro o ho FA w' hC hO hD K hK
    obtain rfl := qoi ho
    obtain ⟨e24, ev24⟩ := qE (hD 7 24 (by kernel_rfl))
    clear hO hD ho
    go_simp
    exact hK.out _ _ (Ex.refl _) rfl
   apply StepsC.one (MC.eq _) 11 rfl (by decide)
   ·intro o ho FA w' hC hO hD K hK
    obtain rfl := qoi ho
    obtain ⟨e26, ev26⟩ := qE (hD 9 26 (by kernel_rfl))
    clear hO hD ho
    go_simp
    exact hK.out _ _ (Ex.refl _) rfl
   apply StepsC.one (MC.eq _) 12 rfl (by decide)
   ·intro o ho FA w' hC hO hD K hK
    obtain rfl := qoi ho
    obtain ⟨e27, ev27⟩ := qE (hD 10 27 (by kernel_rfl))
    obtain ⟨e25, ev25⟩ := qE (hD 8 25 (by kernel_rfl))
    clear hO hD ho
    go_simp
    exact hK.out _ _ (Ex.refl _) rfl
   apply StepsC.one (MC.eq _) 13 rfl (by decide)
   ·intro o ho FA w' hC hO hD K hK
    obtain rfl := qoi ho
    obtain ⟨e28, ev28⟩ := qE (hD 11 28 (by kernel_rfl))
    clear hO hD ho
    go_simp
    exact hK.out _ _ (Ex.refl _) rfl
   apply StepsC.one (MC.eq _) 14 rfl (by decide)
   ·intro o ho FA w' hC hO hD K hK
    obtain rfl := qoi ho
    obtain ⟨e29, ev29⟩ := qE (hD 12 29 (by kernel_rfl))
    clear hO hD ho
    refine wanted_if rfl ?_
    refine wp_ld1 4 (.tmp 29) rfl ev29.out (hS.chg hC zg) hpb Tryz.underlying4 rfl ?_
    exact hK.out _ _ (Ex.refl _) rfl
   apply StepsC.mov (MC.any) 15 0 rfl rfl rfl
   ·intro o ho FA w' hC hO hD hS K hK
    obtain rfl := qoi ho
    have e4 := hO 4 (by kernel_rfl)
    simp only [eval_tmp, qgT, qgS, qgZ, qoS] at e4
    have ev4 := Lib.hid ((eval_tmp FA 4).trans e4)
    obtain ⟨e23, ev23⟩ := qE (hD 6 23 (by kernel_rfl))
    clear hO hD ho
    refine wanted_if rfl ?_
    refine wp_stA 32 (.tmp 4) (.tmp 23) rfl (adC (bkA C i).1 (bkA C i).2.1 (bkA C i).2.2) (adC false 0 0) rfl (by simp [adC, Value.oneCell']) ev4.out ev23.out hS (szAd _ _ _) ?_
    intro w'' hn hg
    exact hK.out undef _ (Chg.one hg rfl) hn trivial
   apply StepsC.one (MC.eq _) 16 rfl (by decide)
   ·intro o ho FA w' hC hO hD K hK
    obtain rfl := qoi ho
    obtain ⟨e30, ev30⟩ := qE (hD 13 30 (by kernel_rfl))
    clear hO hD ho
    go_simp
    exact hK.out _ _ (Ex.refl _) rfl
   refine StepsC.fin_ (fun vs w' hC hS hp => ?_)
   have p0 : vs 0 = _ := hp 0 (by omega) rfl
   have p1 : vs 1 = _ := hp 1 (by omega) rfl
   have p2 : vs 2 = _ := hp 2 (by omega) rfl
   have p3 : vs 3 = _ := hp 3 (by omega) rfl
   have p4 : vs 4 = _ := hp 4 (by omega) rfl
   have p5 : vs 5 = _ := hp 5 (by omega) rfl
   have p6 : vs 6 = _ := hp 6 (by omega) rfl
   have p7 : vs 7 = _ := hp 7 (by omega) rfl
   have p8 : vs 8 = _ := hp 8 (by omega) rfl
   have p9 : vs 9 = _ := hp 9 (by omega) rfl
   have p10 : vs 10 = _ := hp 10 (by omega) rfl
   have p11 : vs 11 = _ := hp 11 (by omega) rfl
   have p12 : vs 12 = _ := hp 12 (by omega) rfl
   have p13 : vs 13 = _ := hp 13 (by omega) rfl
   have p15 : vs 15 = _ := hp 15 (by omega) rfl
   clear hp
   simp only [List.take_succ_cons, List.take_zero, List.drop_succ_cons, List.drop_zero, putAll, Nat.zero_add, Nat.reduceAdd, Act.put, qsT, qsZ, qsS, p0, p1, p2, p3, p4, p5, p6, p7, p8, p9, p10, p11, p12, p13, p15]
   clear p0 p1 p2 p3 p4 p5 p6 p7 p8 p9 p10 p11 p12 p13 p15
   clear vs
   go_wp2
   refine bodyPost_agg2 Tryz.results26 rfl rfl (Bk.range hS) va1 va2 (szAd _ _ _) rfl (RetV.is_ rfl ((be.trans (hC.below (fun b hb => by have hb : b = w.heap.size := hb; omega) (by omega)))))
theorem eqI_ad (w : World) (a b : Adr) : (Op.equalIn 10000 32 (.agg #[.bool a.1, .int .u64 (a.2.1 : Int), .int .u64 (a.2.2 : Int)]) (.agg #[.bool b.1, .int .u64 (b.2.1 : Int), .int .u64 (b.2.2 : Int)])).run Tryz.prog w = .ok (decide (a = b)) w := by
 have hS : Tryz.prog.underlying 32 = some (.struct (Tryz.prog.fieldsOf 32)) := by kernel_rfl
 have hp : Tryz.prog.stoodInHeld 32 = false := by kernel_rfl
 obtain ⟨a1, a2, a3⟩ := a
 obtain ⟨b1, b2, b3⟩ := b
 rw [run_equalIn_agg w _ 32 _ _ hS hp]
 simp only [Program.fieldsOf, Tryz.underlying32]
 go_simp
 repeat' split
 all_goals (simp_all <;> omega)
def eqAd (a : Bool) (b c : Nat) (d : Bool) (e f : Nat) : Bool := decide ((a, b, c) = (d, e, f))
theorem eqC_ad (w : World) (a : Bool) (b c : Nat) (d : Bool) (e f : Nat) : (Op.equalIn 10000 32 (.agg (adC a b c).toArray) (.agg (adC d e f).toArray)).run Tryz.prog w = .ok (eqAd a b c d e f) w := eqI_ad w (a, b, c) (d, e, f)
theorem rng_ad {w : World} {b o : Nat} {x : Ve} (h : w.rangeAt b o (veC x)) : w.rangeAt b o (adC x.1.ad.1 x.1.ad.2.1 x.1.ad.2.2) ∧ w.cell? ⟨b, o + 3, none⟩ = some (.int .u16 (x.1.pt : Int)) ∧ w.cell? ⟨b, o + 4, none⟩ = some (.int .u8 (x.1.pr : Int)) :=
 ⟨fun i u hu => h i u (by
  have hk3 := (List.getElem?_eq_some_iff.1 hu).1
  rw [← hu]
  match i, hk3 with
  | 0, _ => rfl
  | 1, _ => rfl
  | 2, _ => rfl), h 3 _ rfl, h 4 _ rfl⟩
def fdI (C : Cf) (a : Adr) (pt pr : Nat) : Int := if fdC C a pt pr < C.vs.length then (fdC C a pt pr : Int) else -1
theorem fdC_step (C : Cf) (a : Adr) (pt pr : Nat) (i : Nat) (hi : i ≤ fdC C a pt pr) (h : i < C.vs.length) : (eqV a pt pr C.vs[i] = true → fdC C a pt pr = i) ∧ (eqV a pt pr C.vs[i] = false → i + 1 ≤ fdC C a pt pr) := by
 unfold fdC at *
 constructor
 ·intro he
  rcases Nat.lt_or_ge i (C.vs.findIdx (eqV a pt pr)) with h' | h'
  ·have := List.not_of_lt_findIdx h'
   rw [he] at this
   cases this
  ·omega
 ·intro he
  rcases Nat.lt_or_ge i (C.vs.findIdx (eqV a pt pr)) with h' | h'
  ·exact h'
  ·exfalso
   have e : i = C.vs.findIdx (eqV a pt pr) := by omega
   have := List.findIdx_getElem (p := eqV a pt pr) (xs := C.vs) (w := by rw [← e]; exact h)
   simp only [← e] at this
   rw [he] at this
   cases this
section
attribute [local go_sem ↓] eqC_ad
set_option maxHeartbeats 4000000 in
set_option maxRecDepth 100000 in
theorem cfgFind_any (C : Cf) (hk : C.key.length = 16) (hb : C.bk.length = 65) (A : Option Addr) (n c : Nat) (E : List Ve) (hE0 : E.map (·.1) = C.vs) (g : Nat) (a : Adr) (pt pr : Nat) (w : World) (hS : Bk w g 63 (stC C A n c)) (hr : Os 96 8 w 0 A n c (E.flatMap veC)) (hn : n ≤ 1000) : Calls Tryz.prog 113 #[.pointer (some ⟨g, 0, none⟩), .agg (adC a.1 a.2.1 a.2.2).toArray, .int .u16 (pt : Int), .int .u8 (pr : Int)] w (RetV w (.int .i64 (fdI C a pt pr))) := by
 obtain ⟨da1, va1, va2⟩ := rowAdC
 obtain ⟨six, ah, al⟩ := a
 have hlE : E.length = C.vs.length := by rw [← hE0]; simp
 have hln : E.length = n := by have := hr.rs.1; rw [flat_len veC 8 veC_len] at this; omega
 have ba : Bk (w.alloc (.cells (adC six ah al).toArray 32)) w.heap.size 32 (adC six ah al) := Bk.new w 32 (adC six ah al).toArray
 have be : Below w.heap.size w (w.alloc (.cells (adC six ah al).toArray 32)) := Below.allocS (Below.refl _ _) _
 have q0 : (w.alloc (.cells (adC six ah al).toArray 32)).cell? ⟨g, 278, none⟩ = some (.slice A n c) := ((hS.later be).cell _).trans (stC_vips C hk hb A n c)
 have HS := Lib.hid (hS.later be)
 have zV : w.heap.size + 1 ≤ (w.alloc (.cells (adC six ah al).toArray 32)).heap.size := by simp
 go_enter Tryz.func113, Tryz.ntmps113
 go_upto_region 1 with (fail)
 generalize w.alloc (.cells (adC six ah al).toArray 32) = V at *
 have HL := Lib.hid (fun w h => cfgLen_any C hk hb A n c g w h)
 go_upto_region 2 with (go_at_call 28; refine (HL.out _ HS.out).mono ?_; rintro e w1 ⟨rfl, rfl⟩)
 clear q0
 have HF := Lib.hid ba
 have HB := Lib.hid be
 have hlt0 : fdC C (six, ah, al) pt pr ≤ C.vs.length := List.findIdx_le_length
 clear ba be
 go_loopw [13] (fun I wr => ∃ i : Nat, i ≤ n ∧ i ≤ fdC C (six, ah, al) pt pr ∧ I = .int .i64 (i : Int) ∧ Below w.heap.size w wr ∧ Bk wr w.heap.size 32 (adC six ah al)) (fun I _ => n - (intOf I).toNat)
 case atStart => exact ⟨0, Nat.zero_le _, Nat.zero_le _, rfl, HB.out, HF.out⟩
 case round =>
  clear HF HB
  obtain ⟨i, hi, hif, rfl, hE, ba⟩ := hrel
  by_cases hlt : i < n
  ·have ii : (i : Int) < (n : Int) := by omega
   obtain ⟨b, cur, rfl, -, hB, -⟩ := hr.bk (by omega)
   have hst := fdC_step C (six, ah, al) pt pr i hif (by omega)
   have hrg : ∀ W, Below w.heap.size w W → W.rangeAt b (i * 8) (veC E[i]) := fun W h => by
    have := (hr.rs.later h).rangeE veC_len i (by omega)
    rwa [Nat.zero_add] at this
   have hCi : C.vs[i]'(by omega) = E[i].1 := by simp [← hE0]
   rw [hCi] at hst
   have q0 : wr.cell? ⟨g, 278, none⟩ = some (.slice (some ⟨b, 0, none⟩) n c) := ((hS.later hE).cell _).trans (stC_vips C hk hb _ n c)
   have HQ := Lib.hid (fun W h => rng_ad (hrg W h))
   clear hrg hCi
   generalize E[i].1 = v at *
   have hcase : (eqAd v.ad.1 v.ad.2.1 v.ad.2.2 six ah al = true ∧ decide (v.ad = (six, ah, al)) = true ∧ ((v.pt : Int) == (pt : Int)) = true ∧ ((v.pr : Int) == (pr : Int)) = true ∧ Hid (fdI C (six, ah, al) pt pr = (i : Int))) ∨
     (eqAd v.ad.1 v.ad.2.1 v.ad.2.2 six ah al = true ∧ decide (v.ad = (six, ah, al)) = true ∧ ((v.pt : Int) == (pt : Int)) = true ∧ ((v.pr : Int) == (pr : Int)) = false ∧ i + 1 ≤ fdC C (six, ah, al) pt pr) ∨
     (eqAd v.ad.1 v.ad.2.1 v.ad.2.2 six ah al = true ∧ decide (v.ad = (six, ah, al)) = true ∧ ((v.pt : Int) == (pt : Int)) = false ∧ i + 1 ≤ fdC C (six, ah, al) pt pr) ∨
     (eqAd v.ad.1 v.ad.2.1 v.ad.2.2 six ah al = false ∧ decide (v.ad = (six, ah, al)) = false ∧ i + 1 ≤ fdC C (six, ah, al) pt pr) := by
    by_cases h1 : v.ad = (six, ah, al)
    ·by_cases h2 : v.pt = pt
     ·by_cases h3 : v.pr = pr
      ·have he := hst.1 (decide_eq_true ⟨h1, h2, h3⟩)
       exact .inl ⟨decide_eq_true h1, decide_eq_true h1, by simp [h2], by simp [h3], Lib.hid (by unfold fdI; rw [he, if_pos (by omega)])⟩
      ·exact .inr (.inl ⟨decide_eq_true h1, decide_eq_true h1, by simp [h2], by simp; omega, hst.2 (decide_eq_false (fun h => h3 h.2.2))⟩)
     ·exact .inr (.inr (.inl ⟨decide_eq_true h1, decide_eq_true h1, by simp; omega, hst.2 (decide_eq_false (fun h => h2 h.2.1))⟩))
    ·exact .inr (.inr (.inr ⟨decide_eq_false h1, decide_eq_false h1, hst.2 (decide_eq_false (fun h => h1 h.1))⟩))
   clear hst
   rcases hcase with ⟨hc1, hc1', hc2, hc3, HV⟩ | ⟨hc1, hc1', hc2, hc3, he⟩ | ⟨hc1, hc1', hc2, he⟩ | ⟨hc1, hc1', he⟩
   all_goals
    go_upto_region 5 with (fail)
    refine wp_relS 22 46 rfl (by kernel_rfl) (by kernel_rfl) ?_
    apply Steps.o1 (MP.eq _) 1 rfl rfl
    ·intro FA x hO hD K hK
     have e10 := hO 10 (by kernel_rfl)
     simp only [eval_tmp, qgT, qgS, qgZ, qoS] at e10
     have ev10 := Lib.hid ((eval_tmp FA 10).trans e10)
     clear hO hD
     go_simp
     exact hK.out _ _ (Ex.refl _) rfl
    apply Steps.o1 (MP.eq _) 2 rfl rfl
    ·intro FA x hO hD K hK
     obtain ⟨e22, ev22⟩ := qE (hD 0 22 (by kernel_rfl))
     clear hO hD
     go_simp
     exact hK.out _ _ (Ex.refl _) rfl
    apply Steps.o1 (MP.eq _) 3 rfl rfl
    ·intro FA x hO hD K hK
     obtain ⟨e23, ev23⟩ := qE (hD 1 23 (by kernel_rfl))
     clear hO hD
     go_simp
     exact hK.out _ _ (Ex.refl _) rfl
    apply Steps.o1 (MP.eq _) 4 rfl rfl
    ·intro FA x hO hD K hK
     obtain ⟨e24, ev24⟩ := qE (hD 2 24 (by kernel_rfl))
     clear hO hD
     refine wanted_if rfl ?_
     refine wp_load_mid 32 (.tmp 24) rfl b (i * 8) ev24.out (adC v.ad.1 v.ad.2.1 v.ad.2.2) _ (HQ.out _ (belowP hE x.bs x.d)).1 va1 va2 (szAd _ _ _) ?_
     exact hK.out _ _ (Ex.refl _) rfl
    apply Steps.o1 (MP.eq _) 5 rfl rfl
    ·intro FA x hO hD K hK
     have e5 := hO 5 (by kernel_rfl)
     simp only [eval_tmp, qgT, qgS, qgZ, qoS] at e5
     have ev5 := Lib.hid ((eval_tmp FA 5).trans e5)
     clear hO hD
     refine wanted_if rfl ?_
     refine wp_ldA 32 (.tmp 5) rfl (adC six ah al) ev5.out (ba.later (below_plus _ _ _)) rfl va1 va2 (szAd _ _ _) ?_
     exact hK.out _ _ (Ex.refl _) rfl
    apply Steps.o1 (MP.eq _) 6 rfl rfl
    ·intro FA x hO hD K hK
     obtain ⟨e25, ev25⟩ := qE (hD 3 25 (by kernel_rfl))
     obtain ⟨e26, ev26⟩ := qE (hD 4 26 (by kernel_rfl))
     clear hO hD
     go_simp
     exact hK.out _ _ (Ex.refl _) rfl
    apply Steps.o1 (MP.eq _) 7 rfl rfl
    ·intro FA x hO hD K hK
     obtain ⟨e27, ev27⟩ := qE (hD 5 27 (by kernel_rfl))
     clear hO hD
     go_simp
     exact hK.out _ _ (Ex.refl _) rfl
    apply Steps.o1 (MP.eq _) 8 rfl rfl
    ·intro FA x hO hD K hK
     have e10 := hO 10 (by kernel_rfl)
     simp only [eval_tmp, qgT, qgS, qgZ, qoS] at e10
     have ev10 := Lib.hid ((eval_tmp FA 10).trans e10)
     obtain ⟨e28, ev28⟩ := qE (hD 6 28 (by kernel_rfl))
     first | have ge28 := slot_of e28 | have ge28 := slot_un e28
     clear hO hD
     first | (go_simp; exact hK.out _ _ (Ex.refl _) rfl) | (rcases ge28 with ge28 | ge28 <;> (go_simp; exact hK.out _ _ (Ex.refl _) rfl))
    apply Steps.o1 (MP.eq _) 9 rfl rfl
    ·intro FA x hO hD K hK
     obtain ⟨e29, ev29⟩ := qE (hD 7 29 (by kernel_rfl))
     obtain ⟨e28, ev28⟩ := qE (hD 6 28 (by kernel_rfl))
     first | have ge28 := slot_of e28 | have ge28 := slot_un e28
     clear hO hD
     first | (go_simp; exact hK.out _ _ (Ex.refl _) rfl) | (rcases ge28 with ge28 | ge28 <;> (go_simp; exact hK.out _ _ (Ex.refl _) rfl))
    apply Steps.o1 (MP.eq _) 10 rfl rfl
    ·intro FA x hO hD K hK
     obtain ⟨e30, ev30⟩ := qE (hD 8 30 (by kernel_rfl))
     obtain ⟨e28, ev28⟩ := qE (hD 6 28 (by kernel_rfl))
     first | have ge28 := slot_of e28 | have ge28 := slot_un e28
     clear hO hD
     first | (go_simp; exact hK.out _ _ (Ex.refl _) rfl) | (rcases ge28 with ge28 | ge28 <;> (go_simp; exact hK.out _ _ (Ex.refl _) rfl))
    apply Steps.o1 (MP.eq _) 11 rfl rfl
    ·intro FA x hO hD K hK
     obtain ⟨e31, ev31⟩ := qE (hD 9 31 (by kernel_rfl))
     obtain ⟨e28, ev28⟩ := qE (hD 6 28 (by kernel_rfl))
     first | have ge28 := slot_of e28 | have ge28 := slot_un e28
     clear hO hD
     first | (have hq := (HQ.out (plus wr x.bs x.d) (belowP hE x.bs x.d)).2; go_simp; exact hK.out _ _ (Ex.refl _) rfl) | (go_simp; exact hK.out _ _ (Ex.refl _) rfl) | (rcases ge28 with ge28 | ge28 <;> (go_simp; exact hK.out _ _ (Ex.refl _) rfl))
    apply Steps.o1 (MP.eq _) 12 rfl rfl
    ·intro FA x hO hD K hK
     have e2 := hO 2 (by kernel_rfl)
     simp only [eval_tmp, qgT, qgS, qgZ, qoS] at e2
     have ev2 := Lib.hid ((eval_tmp FA 2).trans e2)
     obtain ⟨e28, ev28⟩ := qE (hD 6 28 (by kernel_rfl))
     first | have ge28 := slot_of e28 | have ge28 := slot_un e28
     clear hO hD
     first | (go_simp; exact hK.out _ _ (Ex.refl _) rfl) | (rcases ge28 with ge28 | ge28 <;> (go_simp; exact hK.out _ _ (Ex.refl _) rfl))
    apply Steps.o1 (MP.eq _) 13 rfl rfl
    ·intro FA x hO hD K hK
     obtain ⟨e32, ev32⟩ := qE (hD 10 32 (by kernel_rfl))
     obtain ⟨e33, ev33⟩ := qE (hD 11 33 (by kernel_rfl))
     obtain ⟨e28, ev28⟩ := qE (hD 6 28 (by kernel_rfl))
     first | have ge28 := slot_of e28 | have ge28 := slot_un e28
     clear hO hD
     first | (go_simp; exact hK.out _ _ (Ex.refl _) rfl) | (rcases ge28 with ge28 | ge28 <;> (go_simp; exact hK.out _ _ (Ex.refl _) rfl))
    apply Steps.o1 (MP.eq _) 14 rfl rfl
    ·intro FA x hO hD K hK
     obtain ⟨e28, ev28⟩ := qE (hD 6 28 (by kernel_rfl))
     obtain ⟨e34, ev34⟩ := qE (hD 12 34 (by kernel_rfl))
     clear hO hD
     go_simp
     exact hK.out _ _ (Ex.refl _) rfl
    apply Steps.o1 (MP.eq _) 15 rfl rfl
    ·intro FA x hO hD K hK
     obtain ⟨e35, ev35⟩ := qE (hD 13 35 (by kernel_rfl))
     clear hO hD
     go_simp
     exact hK.out _ _ (Ex.refl _) rfl
    apply Steps.o1 (MP.eq _) 16 rfl rfl
    ·intro FA x hO hD K hK
     have e10 := hO 10 (by kernel_rfl)
     simp only [eval_tmp, qgT, qgS, qgZ, qoS] at e10
     have ev10 := Lib.hid ((eval_tmp FA 10).trans e10)
     obtain ⟨e36, ev36⟩ := qE (hD 14 36 (by kernel_rfl))
     first | have ge36 := slot_of e36 | have ge36 := slot_un e36
     clear hO hD
     first | (go_simp; exact hK.out _ _ (Ex.refl _) rfl) | (rcases ge36 with ge36 | ge36 <;> (go_simp; exact hK.out _ _ (Ex.refl _) rfl))
    apply Steps.o1 (MP.eq _) 17 rfl rfl
    ·intro FA x hO hD K hK
     obtain ⟨e37, ev37⟩ := qE (hD 15 37 (by kernel_rfl))
     obtain ⟨e36, ev36⟩ := qE (hD 14 36 (by kernel_rfl))
     first | have ge36 := slot_of e36 | have ge36 := slot_un e36
     clear hO hD
     first | (go_simp; exact hK.out _ _ (Ex.refl _) rfl) | (rcases ge36 with ge36 | ge36 <;> (go_simp; exact hK.out _ _ (Ex.refl _) rfl))
    apply Steps.o1 (MP.eq _) 18 rfl rfl
    ·intro FA x hO hD K hK
     obtain ⟨e38, ev38⟩ := qE (hD 16 38 (by kernel_rfl))
     obtain ⟨e36, ev36⟩ := qE (hD 14 36 (by kernel_rfl))
     first | have ge36 := slot_of e36 | have ge36 := slot_un e36
     clear hO hD
     first | (go_simp; exact hK.out _ _ (Ex.refl _) rfl) | (rcases ge36 with ge36 | ge36 <;> (go_simp; exact hK.out _ _ (Ex.refl _) rfl))
    apply Steps.o1 (MP.eq _) 19 rfl rfl
    ·intro FA x hO hD K hK
     obtain ⟨e39, ev39⟩ := qE (hD 17 39 (by kernel_rfl))
     obtain ⟨e36, ev36⟩ := qE (hD 14 36 (by kernel_rfl))
     first | have ge36 := slot_of e36 | have ge36 := slot_un e36
     clear hO hD
     first | (have hq := (HQ.out (plus wr x.bs x.d) (belowP hE x.bs x.d)).2; go_simp; exact hK.out _ _ (Ex.refl _) rfl) | (go_simp; exact hK.out _ _ (Ex.refl _) rfl) | (rcases ge36 with ge36 | ge36 <;> (go_simp; exact hK.out _ _ (Ex.refl _) rfl))
    apply Steps.o1 (MP.eq _) 20 rfl rfl
    ·intro FA x hO hD K hK
     have e3 := hO 3 (by kernel_rfl)
     simp only [eval_tmp, qgT, qgS, qgZ, qoS] at e3
     have ev3 := Lib.hid ((eval_tmp FA 3).trans e3)
     obtain ⟨e36, ev36⟩ := qE (hD 14 36 (by kernel_rfl))
     first | have ge36 := slot_of e36 | have ge36 := slot_un e36
     clear hO hD
     first | (go_simp; exact hK.out _ _ (Ex.refl _) rfl) | (rcases ge36 with ge36 | ge36 <;> (go_simp; exact hK.out _ _ (Ex.refl _) rfl))
    apply Steps.o1 (MP.eq _) 21 rfl rfl
    ·intro FA x hO hD K hK
     obtain ⟨e40, ev40⟩ := qE (hD 18 40 (by kernel_rfl))
     obtain ⟨e41, ev41⟩ := qE (hD 19 41 (by kernel_rfl))
     obtain ⟨e36, ev36⟩ := qE (hD 14 36 (by kernel_rfl))
     first | have ge36 := slot_of e36 | have ge36 := slot_un e36
     clear hO hD
     first | (go_simp; exact hK.out _ _ (Ex.refl _) rfl) | (rcases ge36 with ge36 | ge36 <;> (go_simp; exact hK.out _ _ (Ex.refl _) rfl))
    apply Steps.o1 (MP.eq _) 22 rfl rfl
    ·intro FA x hO hD K hK
     obtain ⟨e36, ev36⟩ := qE (hD 14 36 (by kernel_rfl))
     obtain ⟨e42, ev42⟩ := qE (hD 20 42 (by kernel_rfl))
     clear hO hD
     go_simp
     exact hK.out _ _ (Ex.refl _) rfl
    refine Steps.fin_ (fun vs x hp => ?_)
    have p0 : vs 0 = _ := hp 0 (by omega)
    have p1 : vs 1 = _ := hp 1 (by omega)
    have p2 : vs 2 = _ := hp 2 (by omega)
    have p3 : vs 3 = _ := hp 3 (by omega)
    have p4 : vs 4 = _ := hp 4 (by omega)
    have p5 : vs 5 = _ := hp 5 (by omega)
    have p6 : vs 6 = _ := hp 6 (by omega)
    have p7 : vs 7 = _ := hp 7 (by omega)
    have p8 : vs 8 = _ := hp 8 (by omega)
    have p9 : vs 9 = _ := hp 9 (by omega)
    have p10 : vs 10 = _ := hp 10 (by omega)
    have p11 : vs 11 = _ := hp 11 (by omega)
    have p12 : vs 12 = _ := hp 12 (by omega)
    have p13 : vs 13 = _ := hp 13 (by omega)
    have p14 : vs 14 = _ := hp 14 (by omega)
    have p15 : vs 15 = _ := hp 15 (by omega)
    have p16 : vs 16 = _ := hp 16 (by omega)
    have p17 : vs 17 = _ := hp 17 (by omega)
    have p18 : vs 18 = _ := hp 18 (by omega)
    have p19 : vs 19 = _ := hp 19 (by omega)
    have p20 : vs 20 = _ := hp 20 (by omega)
    have p21 : vs 21 = _ := hp 21 (by omega)
    clear hp
    simp only [List.take_succ_cons, List.take_zero, List.drop_succ_cons, List.drop_zero, putAll, Nat.zero_add, Nat.reduceAdd, Act.put, qsT, qsZ, qsS, p0, p1, p2, p3, p4, p5, p6, p7, p8, p9, p10, p11, p12, p13, p14, p15, p16, p17, p18, p19, p20, p21]
    clear p0 p1 p2 p3 p4 p5 p6 p7 p8 p9 p10 p11 p12 p13 p14 p15 p16 p17 p18 p19 p20 p21
    clear vs
    go_wp2
   ·go_ret
    rw [HV.out]
    exact RetV.is_ rfl (belowP hE _ _)
   ·exact ⟨⟨i + 1, by omega, by omega, by go_num, belowP hE _ _, ba.later (below_plus _ _ _)⟩, by simp [intOf]; omega⟩
   ·exact ⟨⟨i + 1, by omega, by omega, by go_num, belowP hE _ _, ba.later (below_plus _ _ _)⟩, by simp [intOf]; omega⟩
   ·exact ⟨⟨i + 1, by omega, by omega, by go_num, belowP hE _ _, ba.later (below_plus _ _ _)⟩, by simp [intOf]; omega⟩
  ·have HV := Lib.hid (show fdI C (six, ah, al) pt pr = -1 from if_neg (by omega))
   have ii : ¬ (i : Int) < (n : Int) := by omega
   clear hif hlt0
   go_wp2
   go_ret
   rw [HV.out]
   exact RetV.is_ rfl hE
end
end

section
open Go.RowKit
attribute [local go_sem ↓] sliced_cut
attribute [local go_sem] cutA_zero
structure Grow (G D G' D' : Nat → Prop) (w : World) : Prop where
 gg : ∀ b, G b → G' b
 gn : ∀ b, G' b → G b ∨ w.heap.size ≤ b
 dn : ∀ b, D' b → D b ∨ w.heap.size ≤ b
theorem Grow.refl (G D : Nat → Prop) (w : World) : Grow G D G D w := ⟨fun _ h => h, fun _ h => .inl h, fun _ h => .inl h⟩
theorem Grow.trans {G D G1 D1 G2 D2 : Nat → Prop} {w w1 : World} (h : Grow G D G1 D1 w) (k : Grow G1 D1 G2 D2 w1) (hs : w.heap.size ≤ w1.heap.size) : Grow G D G2 D2 w :=
 ⟨fun b hb => k.gg b (h.gg b hb), fun b hb => (k.gn b hb).elim (h.gn b) (fun h' => .inr (Nat.le_trans hs h')), fun b hb => (k.dn b hb).elim (h.dn b) (fun h' => .inr (Nat.le_trans hs h'))⟩
theorem Grow.early {G D G1 D1 : Nat → Prop} {w w1 : World} (k : Grow G D G1 D1 w1) (hs : w.heap.size ≤ w1.heap.size) : Grow G D G1 D1 w := (Grow.refl G D w).trans k hs
def RetCf (G D : Nat → Prop) (w : World) (g : Nat) (C' : Cf) (v : Value) (e : Ending) (w' : World) : Prop := e = .returned v ∧ ∃ G' D', CfM G' D' w' g C' ∧ Grow G D G' D' w ∧ Chg D w w'
theorem run_buildKn (six : Bool) (ah al : Nat) (w : World) : (Instr.build 59 #[(0, .agg (adC six ah al).toArray), (1, .bool true)]).run Tryz.prog w = .ok (.agg (bkC (some (six, ah, al))).toArray) w := by kernel_rfl
set_option maxHeartbeats 4000000
set_option maxRecDepth 100000
theorem addBackend_any {G D : Nat → Prop} (k v b e : Int) (six : Bool) (ah al pt pr : Nat) (wy : Int) (ms : List (Int × Int)) (B : Option Addr) (m d : Nat) (C : Cf) (hC : CfOk C) (g : Nat) (A : Option Addr) (n c : Nat) (E : List Ve) (w : World) (hX : CfX G D w g C A n c E) (hal : al < 18446744073709551616) : Calls Tryz.prog 62 #[.pointer (some ⟨g, 0, none⟩), .agg (opC k v b e six ah al pt pr wy B m d).toArray] w (RetCf G D w g (bif (numB b && adG six ah al) then { C with bk := C.bk.set b.toNat (some (six, ah, al)) } else C) (.int .i64 (bif (numB b && adG six ah al) then 0 else 1))) := by
 obtain ⟨da1, va1, va2⟩ := rowAdC
 obtain ⟨do1, vo1, vo2⟩ := rowOpC
 have hk := hC.key
 have hb := hC.bl
 have HA := Lib.hid (fun w => adrRightC six ah al w hal)
 by_cases h1 : b < 1
 ·have hq : (numB b && adG six ah al) = false := by unfold numB; rw [decide_eq_false (by omega)]; rfl
  rw [hq]
  obtain ⟨bo, be, zV⟩ := box1 w 43 (opC k v b e six ah al pt pr wy B m d)
  go_enter Tryz.func62, Tryz.ntmps62
  go_upto_region 1 with (fail)
  generalize w.alloc (.cells (opC k v b e six ah al pt pr wy B m d).toArray 43) = V at *
  replace hX := hX.later be
  refine wp_region_lit ?_
  refine wpList_plain rfl (fun K hK => ?_); go_simp; with_reducible refine hK _ _ ?_; clear hK K
  refine wpList_ld1 (t := 43) (cs := opC k v b e six ah al pt pr wy B m d) 3 (.tmp 5) rfl (by rfl) rfl (bo) rfl Tryz.underlying3 rfl ?_
  iterate 2 (refine wpList_plain rfl (fun K hK => ?_); go_simp; with_reducible refine hK _ _ ?_; clear hK K)
  iterate 3 ((with_reducible refine wpList_skip ?_ ?_); (· first | (go_simp; done) | (go_simp; intro h; cases h)); simp only [Act.put, qsT, qsZ, qsS])
  iterate 2 (refine wpList_plain rfl (fun K hK => ?_); go_simp; with_reducible refine hK _ _ ?_; clear hK K)
  iterate 4 ((with_reducible refine wpList_skip ?_ ?_); (· first | (go_simp; done) | (go_simp; intro h; cases h)); simp only [Act.put, qsT, qsZ, qsS])
  refine wpList_plain rfl (fun K hK => ?_); go_simp; with_reducible refine hK _ _ ?_; clear hK K
  go_wp2
  go_ret
  exact ⟨rfl, G, D, ⟨A, n, c, E, hX⟩, Grow.refl _ _ _, Chg.of_below be⟩
 ·by_cases h2 : 64 < b
  ·have hq : (numB b && adG six ah al) = false := by unfold numB; rw [decide_eq_false (show ¬ b ≤ 64 by omega)]; simp
   rw [hq]
   obtain ⟨bo, be, zV⟩ := box1 w 43 (opC k v b e six ah al pt pr wy B m d)
   go_enter Tryz.func62, Tryz.ntmps62
   go_upto_region 1 with (fail)
   generalize w.alloc (.cells (opC k v b e six ah al pt pr wy B m d).toArray 43) = V at *
   replace hX := hX.later be
   refine wp_region_lit ?_
   refine wpList_plain rfl (fun K hK => ?_); go_simp; with_reducible refine hK _ _ ?_; clear hK K
   refine wpList_ld1 (t := 43) (cs := opC k v b e six ah al pt pr wy B m d) 3 (.tmp 5) rfl (by rfl) rfl (bo) rfl Tryz.underlying3 rfl ?_
   iterate 2 (refine wpList_plain rfl (fun K hK => ?_); go_simp; with_reducible refine hK _ _ ?_; clear hK K)
   refine wpList_step (fun K hK => ?_); go_simp; with_reducible refine hK _ _ ?_; clear hK K
   refine wpList_ld1 (t := 43) (cs := opC k v b e six ah al pt pr wy B m d) 3 (.tmp 9) rfl (by go_simp) rfl (bo) rfl Tryz.underlying3 rfl ?_
   refine wpList_step (fun K hK => ?_); go_simp; with_reducible refine hK _ _ ?_; clear hK K
   iterate 2 (refine wpList_plain rfl (fun K hK => ?_); go_simp; with_reducible refine hK _ _ ?_; clear hK K)
   iterate 4 ((with_reducible refine wpList_skip ?_ ?_); (· first | (go_simp; done) | (go_simp; intro h; cases h)); simp only [Act.put, qsT, qsZ, qsS])
   refine wpList_plain rfl (fun K hK => ?_); go_simp; with_reducible refine hK _ _ ?_; clear hK K
   go_wp2
   go_ret
   exact ⟨rfl, G, D, ⟨A, n, c, E, hX⟩, Grow.refl _ _ _, Chg.of_below be⟩
  ·have hnb : numB b = true := by unfold numB; rw [decide_eq_true (by omega), decide_eq_true (by omega)]; rfl
   rw [hnb, Bool.true_and]
   obtain ⟨i, rfl⟩ : ∃ i : Nat, b = i := ⟨b.toNat, by omega⟩
   have i65 : (i : Int) < 65 := by omega
   clear hnb
   cases hg : adG six ah al
   ·rw [hg] at HA
    clear hg
    obtain ⟨bo, be, zV⟩ := box1 w 43 (opC k v (i : Int) e six ah al pt pr wy B m d)
    go_enter Tryz.func62, Tryz.ntmps62
    go_upto_region 1 with (fail)
    generalize w.alloc (.cells (opC k v (i : Int) e six ah al pt pr wy B m d).toArray 43) = V at *
    replace hX := hX.later be
    refine wp_region_lit ?_
    refine wpList_plain rfl (fun K hK => ?_); go_simp; with_reducible refine hK _ _ ?_; clear hK K
    refine wpList_ld1 (t := 43) (cs := opC k v (i : Int) e six ah al pt pr wy B m d) 3 (.tmp 5) rfl (by rfl) rfl (bo) rfl Tryz.underlying3 rfl ?_
    iterate 2 (refine wpList_plain rfl (fun K hK => ?_); go_simp; with_reducible refine hK _ _ ?_; clear hK K)
    refine wpList_step (fun K hK => ?_); go_simp; with_reducible refine hK _ _ ?_; clear hK K
    refine wpList_ld1 (t := 43) (cs := opC k v (i : Int) e six ah al pt pr wy B m d) 3 (.tmp 9) rfl (by go_simp) rfl (bo) rfl Tryz.underlying3 rfl ?_
    refine wpList_step (fun K hK => ?_); go_simp; with_reducible refine hK _ _ ?_; clear hK K
    iterate 2 (refine wpList_plain rfl (fun K hK => ?_); go_simp; with_reducible refine hK _ _ ?_; clear hK K)
    refine wpList_step (fun K hK => ?_); go_simp; with_reducible refine hK _ _ ?_; clear hK K
    refine wpList_ldG (t := 43) (cs := opC k v (i : Int) e six ah al pt pr wy B m d) 32 (.tmp 14) rfl (by go_simp) (adC six ah al) rfl (bo) rfl va1 va2 (szAd _ _ _) ?_
    refine wpList_step (fun K hK => ?_)
    go_simp
    refine (HA.out _).mono ?_
    rintro e w1 ⟨bs1, d1, rfl, rfl⟩
    with_reducible refine hK _ _ ?_
    clear hK K
    have hb1 := below_plus V bs1 d1
    replace hX := hX.later hb1
    replace bo := bo.later hb1
    replace be := be.trans (hb1.mono be.size)
    clear hb1
    generalize plus V bs1 d1 = V1 at *
    refine wpList_step (fun K hK => ?_); go_simp; with_reducible refine hK _ _ ?_; clear hK K
    refine wpList_plain rfl (fun K hK => ?_); go_simp; with_reducible refine hK _ _ ?_; clear hK K
    go_wp2
    go_ret
    exact ⟨rfl, G, D, ⟨A, n, c, E, hX⟩, Grow.refl _ _ _, Chg.of_below be⟩
   ·rw [hg] at HA
    clear hg
    obtain ⟨bo, be, zV⟩ := box1 w 43 (opC k v (i : Int) e six ah al pt pr wy B m d)
    go_enter Tryz.func62, Tryz.ntmps62
    go_upto_region 1 with (fail)
    generalize w.alloc (.cells (opC k v (i : Int) e six ah al pt pr wy B m d).toArray 43) = V at *
    replace hX := hX.later be
    refine wp_region_lit ?_
    refine wpList_plain rfl (fun K hK => ?_); go_simp; with_reducible refine hK _ _ ?_; clear hK K
    refine wpList_ld1 (t := 43) (cs := opC k v (i : Int) e six ah al pt pr wy B m d) 3 (.tmp 5) rfl (by rfl) rfl (bo) rfl Tryz.underlying3 rfl ?_
    iterate 2 (refine wpList_plain rfl (fun K hK => ?_); go_simp; with_reducible refine hK _ _ ?_; clear hK K)
    refine wpList_step (fun K hK => ?_); go_simp; with_reducible refine hK _ _ ?_; clear hK K
    refine wpList_ld1 (t := 43) (cs := opC k v (i : Int) e six ah al pt pr wy B m d) 3 (.tmp 9) rfl (by go_simp) rfl (bo) rfl Tryz.underlying3 rfl ?_
    refine wpList_step (fun K hK => ?_); go_simp; with_reducible refine hK _ _ ?_; clear hK K
    iterate 2 (refine wpList_plain rfl (fun K hK => ?_); go_simp; with_reducible refine hK _ _ ?_; clear hK K)
    refine wpList_step (fun K hK => ?_); go_simp; with_reducible refine hK _ _ ?_; clear hK K
    refine wpList_ldG (t := 43) (cs := opC k v (i : Int) e six ah al pt pr wy B m d) 32 (.tmp 14) rfl (by go_simp) (adC six ah al) rfl (bo) rfl va1 va2 (szAd _ _ _) ?_
    refine wpList_step (fun K hK => ?_)
    go_simp
    refine (HA.out _).mono ?_
    rintro e w1 ⟨bs1, d1, rfl, rfl⟩
    with_reducible refine hK _ _ ?_
    clear hK K
    have hb1 := below_plus V bs1 d1
    replace hX := hX.later hb1
    replace bo := bo.later hb1
    replace be := be.trans (hb1.mono be.size)
    clear hb1
    generalize plus V bs1 d1 = V1 at *
    refine wpList_step (fun K hK => ?_); go_simp; with_reducible refine hK _ _ ?_; clear hK K
    refine wpList_plain rfl (fun K hK => ?_); go_simp; with_reducible refine hK _ _ ?_; clear hK K
    go_upto_region 3 with (fail)
    refine wp_relS 9 28 rfl (by kernel_rfl) (by kernel_rfl) ?_
    apply Steps.o1 (MP.eq _) 1 rfl rfl
    ·intro FA x hO hD K hK
     have e0 := hO 0 (by kernel_rfl)
     simp only [eval_tmp, qgT, qgS, qgZ, qoS] at e0
     have ev0 := Lib.hid ((eval_tmp FA 0).trans e0)
     clear hO hD
     go_simp
     exact hK.out _ _ (Ex.refl _) rfl
    apply Steps.o1 (MP.eq _) 2 rfl rfl
    ·intro FA x hO hD K hK
     have e3 := hO 3 (by kernel_rfl)
     simp only [eval_tmp, qgT, qgS, qgZ, qoS] at e3
     have ev3 := Lib.hid ((eval_tmp FA 3).trans e3)
     clear hO hD
     go_simp
     exact hK.out _ _ (Ex.refl _) rfl
    apply Steps.o1 (MP.eq _) 3 rfl rfl
    ·intro FA x hO hD K hK
     obtain ⟨e20, ev20⟩ := qE (hD 1 20 (by kernel_rfl))
     clear hO hD
     refine wanted_if rfl ?_
     refine wp_ld1 3 (.tmp 20) rfl ev20.out (bo.later (below_plus _ _ _)) rfl Tryz.underlying3 rfl ?_
     exact hK.out _ _ (Ex.refl _) rfl
    apply Steps.o1 (MP.eq _) 4 rfl rfl
    ·intro FA x hO hD K hK
     have e3 := hO 3 (by kernel_rfl)
     simp only [eval_tmp, qgT, qgS, qgZ, qoS] at e3
     have ev3 := Lib.hid ((eval_tmp FA 3).trans e3)
     clear hO hD
     go_simp
     exact hK.out _ _ (Ex.refl _) rfl
    apply Steps.o1 (MP.eq _) 5 rfl rfl
    ·intro FA x hO hD K hK
     obtain ⟨e22, ev22⟩ := qE (hD 3 22 (by kernel_rfl))
     clear hO hD
     refine wanted_if rfl ?_
     refine wp_ldA 32 (.tmp 22) rfl (adC six ah al) ev22.out (bo.later (below_plus _ _ _)) rfl va1 va2 (szAd _ _ _) ?_
     exact hK.out _ _ (Ex.refl _) rfl
    apply Steps.o1 (MP.eq _) 6 rfl rfl
    ·intro FA x hO hD K hK
     obtain ⟨e23, ev23⟩ := qE (hD 4 23 (by kernel_rfl))
     clear hO hD
     refine wanted_if rfl ?_
     refine wp_buildV 59 [(0, .tmp 23), (1, .const (.bool true))] rfl (.agg (bkC (some (six, ah, al))).toArray) (by simp only [List.map_cons, List.map_nil, ev23.out]; exact run_buildKn six ah al _) ?_
     exact hK.out _ _ (Ex.refl _) rfl
    apply Steps.o1 (MP.eq _) 7 rfl rfl
    ·intro FA x hO hD K hK
     obtain ⟨e19, ev19⟩ := qE (hD 0 19 (by kernel_rfl))
     clear hO hD
     go_simp
     exact hK.out _ _ (Ex.refl _) rfl
    apply Steps.o1 (MP.eq _) 8 rfl rfl
    ·intro FA x hO hD K hK
     obtain ⟨e25, ev25⟩ := qE (hD 6 25 (by kernel_rfl))
     clear hO hD
     go_simp
     exact hK.out _ _ (Ex.refl _) rfl
    apply Steps.o1 (MP.eq _) 9 rfl rfl
    ·intro FA x hO hD K hK
     obtain ⟨e26, ev26⟩ := qE (hD 7 26 (by kernel_rfl))
     obtain ⟨e21, ev21⟩ := qE (hD 2 21 (by kernel_rfl))
     clear hO hD
     go_simp
     exact hK.out _ _ (Ex.refl _) rfl
    refine Steps.fin_ (fun vs x hp => ?_)
    have p0 : vs 0 = _ := hp 0 (by omega)
    have p1 : vs 1 = _ := hp 1 (by omega)
    have p2 : vs 2 = _ := hp 2 (by omega)
    have p3 : vs 3 = _ := hp 3 (by omega)
    have p4 : vs 4 = _ := hp 4 (by omega)
    have p5 : vs 5 = _ := hp 5 (by omega)
    have p6 : vs 6 = _ := hp 6 (by omega)
    have p7 : vs 7 = _ := hp 7 (by omega)
    have p8 : vs 8 = _ := hp 8 (by omega)
    clear hp
    simp only [List.take_succ_cons, List.take_zero, List.drop_succ_cons, List.drop_zero, putAll, Nat.zero_add, Nat.reduceAdd, Act.put, qsT, qsZ, qsS, p0, p1, p2, p3, p4, p5, p6, p7, p8]
    clear p0 p1 p2 p3 p4 p5 p6 p7 p8
    clear vs
    have hb3 := below_plus V1 x.bs x.d
    replace hX := hX.later hb3
    replace be := be.trans (hb3.mono be.size)
    clear hb3
    generalize plus V1 x.bs x.d = V2 at *
    refine wpList_stM (t := 63) (off := 18 + i * 4) 59 (.tmp 27) (.tmp 24) rfl rfl (bkC (some (six, ah, al))) (stC C A n c) (by rw [stC_len C hk hb, bkC_len]; omega) (bkC_one _) rfl rfl hX.st (by kernel_rfl) ?_
    intro W4 h4 g4
    simp only [Act.put, qsT, qsZ, qsS]
    replace hX := hX.setSt (C' := { C with bk := C.bk.set i (some (six, ah, al)) }) rfl (by rw [← stC_setBk C hk hb A n c i (by omega)]; exact h4) g4
    go_wp2
    go_ret
    exact ⟨rfl, G, D, ⟨A, n, c, E, hX⟩, Grow.refl _ _ _, (Chg.of_below be).trans (Chg.one g4 hX.dg)⟩
def senC (q : List Int) : List Value := (List.range 65).map fun k : Nat => .bool (decide ((k : Int) ∈ q))
theorem senC_len (q : List Int) : (senC q).length = 65 := by simp [senC]
theorem senC_at (q : List Int) (k : Nat) (h : k < 65) : (senC q)[k]? = some (.bool (decide ((k : Int) ∈ q))) := by simp [senC, h]
theorem senC_set (q : List Int) (k : Nat) (h : k < 65) : (senC q).set k (.bool true) = senC (q ++ [(k : Int)]) := by
 apply List.ext_getElem?
 intro i
 by_cases hi : i < 65
 ·rw [senC_at _ _ hi, List.getElem?_set]
  split
  ·next e => subst e; rw [if_pos (by rw [senC_len]; exact hi)]; simp
  ·next e =>
   rw [senC_at _ _ hi]
   have : (i : Int) ≠ (k : Int) := by omega
   simp [this]
 ·rw [List.getElem?_eq_none (by rw [List.length_set, senC_len]; omega), List.getElem?_eq_none (by rw [senC_len]; omega)]
theorem okM_snoc (C : Cf) (l : List (Int × Int)) (p : Int × Int) : okM C (l ++ [p]) = (okM C l && (knC C p.1 && (!decide (p.1 ∈ l.map (·.1)) && wtB p.2))) := by
 rw [Bool.eq_iff_iff]
 simp only [okM, Bool.and_eq_true, decide_eq_true_eq, List.all_append, List.all_cons, List.all_nil, List.map_append, List.map_cons, List.map_nil, List.nodup_append, Bool.not_eq_true', decide_eq_false_iff_not]
 constructor
 ·rintro ⟨⟨h1, h2, _⟩, h3, h4, h5⟩
  exact ⟨⟨h1, h3⟩, h2.1, fun hm => h5 _ hm _ (by simp) rfl, h2.2⟩
 ·rintro ⟨⟨h1, h3⟩, h2, h5, h6⟩
  refine ⟨⟨h1, ⟨h2, h6⟩, trivial⟩, h3, by simp, fun a ha b hb e => ?_⟩
  simp at hb
  subst hb e
  exact h5 ha
theorem okM_take {C : Cf} {l : List (Int × Int)} (h : okM C l = true) (j : Nat) : okM C (l.take j) = true := by
 simp only [okM, Bool.and_eq_true, List.all_eq_true, decide_eq_true_eq] at h ⊢
 refine ⟨fun p hp => h.1 p (List.mem_of_mem_take hp), ?_⟩
 rw [List.map_take]
 exact h.2.sublist (List.take_sublist _ _)
theorem okM_bad {C : Cf} {l : List (Int × Int)} {j : Nat} (h : okM C (l.take j) = false) : okM C l = false := by
 cases hl : okM C l
 ·rfl
 ·rw [okM_take hl] at h; cases h
theorem szMb (x y : Int) : (Tryz.prog.info? 87).map (·.size) = some ([Value.int .i64 x, .int .i64 y]).length := by kernel_rfl
theorem rowMb : ∃ d, Tryz.prog.underlying 87 = some d ∧ d.isRow = true := ⟨_, Tryz.underlying87, rfl⟩
theorem fit_any (ms : List (Int × Int)) (B : Option Addr) (m d : Nat) (C : Cf) (hC : CfOk C) (g : Nat) (A : Option Addr) (n c : Nat) (w : World) (hS : Bk w g 63 (stC C A n c)) (hr : Rs 2 w B m d (prs .i64 ms)) (hm : m ≤ 1000000) : Calls Tryz.prog 117 #[.pointer (some ⟨g, 0, none⟩), .slice B m d] w (RetV w (.bool (okM C ms))) := by
 obtain ⟨dm, m1, m2⟩ := rowMb
 have hml : ms.length = m := by have := hr.1; rw [prs_length] at this; omega
 have HB := Lib.hid (fun x w h => backend_any C hC.key hC.bl A n c g x w h)
 by_cases h64 : 64 < m
 ·have i64 : (64 : Int) < (m : Int) := by omega
  have HBAD := Lib.hid (show okM C ms = false by
   cases hl : okM C ms
   ·rfl
   ·have := okM_len hl; omega)
  go_enter Tryz.func117, Tryz.ntmps117
  go_wp2
  go_ret
  exact RetV.is_ (by rw [HBAD.out]; rfl) (Below.refl _ _)
 ·have i64 : ¬ (64 : Int) < (m : Int) := by omega
  have hzv : ∀ w, (zeroValue 34).run Tryz.prog w = .ok (.agg (senC []).toArray) w := fun _ => by kernel_rfl
  go_enter Tryz.func117, Tryz.ntmps117
  go_upto_region 4 with (fail)
  have hk : Bk (w.alloc (.cells (senC []).toArray 34)) w.heap.size 34 (senC []) := Bk.new _ _ _
  have be : Below w.heap.size w (w.alloc (.cells (senC []).toArray 34)) := Below.allocS (Below.refl _ _) _
  generalize w.alloc (.cells (senC []).toArray 34) = V at *
  clear hzv
  go_upto_region 5 with (fail)
  have HK := Lib.hid hk
  have HE := Lib.hid be
  clear hk be
  go_loopw [15] (fun I wr => ∃ j : Nat, I = .int .i64 (j : Int) ∧ j ≤ m ∧ okM C (ms.take j) = true ∧ Bk wr w.heap.size 34 (senC ((ms.take j).map (·.1))) ∧ Below w.heap.size w wr) (fun I _ => m - (intOf I).toNat)
  case atStart => exact ⟨0, rfl, Nat.zero_le _, rfl, HK.out, HE.out⟩
  case round =>
   clear HE HK
   obtain ⟨j, rfl, hj, hok, hk, hE⟩ := hrel
   have HOK := Lib.hid hok
   clear hok
   by_cases hlt : j < m
   ·have ij : (j : Int) < (m : Int) := by omega
    have hjL : j < ms.length := by omega
    obtain ⟨bl, ol, rfl, hbl, -⟩ := (hr.later hE).at_ (by omega) (by decide)
    have hg7 := rng_pr ((hr.later hE).range2 j hjL)
    have hsn : ms.take (j + 1) = ms.take j ++ [ms[j]] := by simp
    generalize ms[j] = p at *
    obtain ⟨x, y⟩ := p
    have HSN := Lib.hid hsn
    have HO2 := Lib.hid ((congrArg (okM C) hsn).trans (okM_snoc C (ms.take j) (x, y)))
    clear hsn
    go_upto_region 7 with (first
     | (refine at_op (.load 87 (.tmp 17)) rfl ?_; refine wpList_load_mid rfl 87 (.tmp 17) rfl bl (ol + j * 2) rfl [.int .i64 x, .int .i64 y] _ hg7 m1 m2 (szMb _ _) ?_)
     | (refine at_op (.store 87 (.tmp 7) (.tmp 18)) rfl ?_; refine wpList_stA (t := 87) 87 (.tmp 7) (.tmp 18) rfl rfl [.int .i64 x, .int .i64 y] [.int .i64 0, .int .i64 0] rfl (by simp [Value.oneCell']) rfl rfl (Bk.new _ _ _) (szMb _ _) ?_; intro W4 h4 g4))
    have be4 : Below wr.heap.size wr W4 := below_grown (Below.allocS (Below.refl _ _) _) g4 (Nat.le_refl _)
    have q0 : W4.cell? ⟨wr.heap.size, 0, none⟩ = some (.int .i64 x) := h4.cell 0
    have q1 : W4.cell? ⟨wr.heap.size, 1, none⟩ = some (.int .i64 y) := h4.cell 1
    have hgm : wr.heap.size < W4.heap.size := h4.lt
    have hwg : w.heap.size ≤ wr.heap.size := hE.size
    replace hE := hE.trans (be4.mono hE.size)
    replace hk := hk.later be4
    have hS4 := hS.later hE
    clear be4 h4 g4 hg7
    generalize wr.heap.size = gm at *
    refine wp_region_lit ?_
    iterate 3 (refine wpList_plain rfl (fun K hK => ?_); go_simp; with_reducible refine hK _ _ ?_; clear hK K)
    refine wpList_plain rfl (fun K hK => ?_)
    go_simp
    refine (HB.out x _ hS4).mono ?_
    rintro e w1 ⟨bs1, d1, rfl, rfl⟩
    with_reducible refine hK _ _ ?_
    clear hK K
    have hb1 := below_plus W4 bs1 d1
    replace hk := hk.later hb1
    replace hE := hE.trans (hb1.mono hE.size)
    have q0 := (hb1.cell (p := ⟨gm, 0, none⟩) hgm).trans q0
    have q1 := (hb1.cell (p := ⟨gm, 1, none⟩) hgm).trans q1
    have zgm := Nat.lt_of_lt_of_le hgm hb1.size
    clear hb1
    generalize plus W4 bs1 d1 = W5 at *
    iterate 4 (refine wpList_plain rfl (fun K hK => ?_); go_simp; with_reducible refine hK _ _ ?_; clear hK K)
    refine wpList_stA (t := 32) 32 (.tmp 8) (.tmp 24) rfl rfl (adC (bkA C x).1 (bkA C x).2.1 (bkA C x).2.2) (adC false 0 0) rfl (by simp [adC, Value.oneCell']) rfl rfl (Bk.new _ _ _) (szAd _ _ _) ?_
    intro W6 h6 g6
    refine wpList_plain rfl (fun K hK => ?_); go_simp; with_reducible refine hK _ _ ?_; clear hK K
    have be6 : Below W5.heap.size W5 W6 := below_grown (Below.allocS (Below.refl _ _) _) g6 (Nat.le_refl _)
    replace q0 := (be6.cell (p := ⟨gm, 0, none⟩) zgm).trans q0
    replace q1 := (be6.cell (p := ⟨gm, 1, none⟩) zgm).trans q1
    replace hE := hE.trans (be6.mono hE.size)
    replace hk := hk.later be6
    have hW := Lib.hid hE
    clear be6 h6 g6 hS4
    cases hkn : knC C x with
    | false =>
     have HBAD := Lib.hid (okM_bad (j := j + 1) (by rw [HO2.out]; simp [hkn]))
     replace hW := hW.out
     clear HOK hkn
     go_wp2
     go_ret
     exact RetV.is_ (by rw [HBAD.out]; rfl) hW
    | true =>
     have hrg := knC_rg hkn
     obtain ⟨i, rfl⟩ : ∃ i : Nat, x = i := ⟨x.toNat, by omega⟩
     have i65 : (i : Int) < 65 := by omega
     have hseen := (hk.cell i).trans (senC_at _ i (by omega))
     have hfz := hk.frozen i
     cases hq : decide ((i : Int) ∈ (ms.take j).map (·.1)) with
     | true =>
      rw [hq] at hseen
      have HBAD := Lib.hid (okM_bad (j := j + 1) (by rw [HO2.out]; simp only [hq]; simp))
      replace hW := hW.out
      clear HOK hkn hq
      go_wp2
      go_ret
      exact RetV.is_ (by rw [HBAD.out]; rfl) hW
     | false =>
      rw [hq] at hseen
      by_cases h0 : y < 0
      ·have HBAD := Lib.hid (okM_bad (j := j + 1) (by rw [HO2.out]; unfold wtB; simp only [decide_eq_false (show ¬ 0 ≤ y by omega)]; simp))
       replace hW := hW.out
       clear HOK hkn hq
       go_wp2
       go_ret
       exact RetV.is_ (by rw [HBAD.out]; rfl) hW
      ·by_cases h100 : 100 < y
       ·have HBAD := Lib.hid (okM_bad (j := j + 1) (by rw [HO2.out]; unfold wtB; simp only [decide_eq_false (show ¬ y ≤ 100 by omega)]; simp))
        replace hW := hW.out
        clear HOK hkn hq
        go_wp2
        go_ret
        exact RetV.is_ (by rw [HBAD.out]; rfl) hW
       ·have HK2 := Lib.hid (show okM C (ms.take (j + 1)) = true by rw [HO2.out, HOK.out, hkn]; simp only [hq]; unfold wtB; simp only [decide_eq_true (show 0 ≤ y by omega), decide_eq_true (show y ≤ 100 by omega)]; rfl)
        have e := hk.set_ i (.bool true)
        rw [senC_set _ i (by omega)] at e
        have HS2 := Lib.hid (show Bk (W6.setCell ⟨w.heap.size, i, none⟩ (.bool true)) w.heap.size 34 (senC ((ms.take (j + 1)).map (·.1))) by rw [HSN.out, List.map_append]; exact e)
        have hb2 : w.heap.size ≤ w.heap.size := Nat.le_refl _
        have hne : gm ≠ w.heap.size ∨ True := Or.inr trivial
        replace hW := hW.out
        clear e hkn hq
        go_wp2
        exact ⟨⟨j + 1, by go_num, by omega, HK2.out, HS2.out, hW.setCell hb2 _⟩, by simp [intOf]; omega⟩
   ·obtain rfl : j = m := by omega
    have ij : ¬ (j : Int) < (j : Int) := by omega
    have HGOOD := Lib.hid (show okM C ms = true by have := HOK.out; rwa [List.take_of_length_le (by omega)] at this)
    clear HOK
    go_wp2
    go_ret
    exact RetV.is_ (by rw [HGOOD.out]; rfl) hE
end

section
open Go.RowKit
theorem mod_bit (x k : Nat) : x % 2 ^ (k + 1) = if x.testBit k then x % 2 ^ k ||| 2 ^ k else x % 2 ^ k := by
 apply Nat.eq_of_testBit_eq
 intro i
 rw [Nat.testBit_mod_two_pow]
 by_cases h : x.testBit k = true
 ·rw [if_pos h, Nat.testBit_or, Nat.testBit_mod_two_pow, Nat.testBit_two_pow]
  by_cases hi : i = k
  ·subst hi; simp [h]
  ·have h2 : decide (k = i) = false := decide_eq_false (fun e => hi e.symm)
   rw [h2, Bool.or_false]
   by_cases hl : i < k
   ·rw [decide_eq_true hl, decide_eq_true (by omega)]
   ·rw [decide_eq_false hl, decide_eq_false (by omega)]
 ·rw [if_neg h, Nat.testBit_mod_two_pow]
  by_cases hi : i = k
  ·subst hi
   simp only [Bool.not_eq_true] at h
   simp [h]
  ·by_cases hl : i < k
   ·rw [decide_eq_true hl, decide_eq_true (by omega)]
   ·rw [decide_eq_false hl, decide_eq_false (by omega)]
def stE (ev k : Nat) : Stk := ⟨[], ev % 2 ^ k, 0⟩
theorem stE_0 (ev : Nat) : stE ev 0 = stk0 := by simp [stE, stk0, Nat.mod_one]
theorem stE_64 (ev : Nat) (h : ev < 18446744073709551616) : stE ev 64 = ⟨[], ev, 0⟩ := by
 unfold stE
 rw [Nat.mod_eq_of_lt (by simpa using h)]
theorem stE_ok (ev k : Nat) (hk : k ≤ 64) : StkOk (stE ev k) := by
 refine ⟨by simp [stE], by simp [stE], ?_, by simp [stE], by simp [stE]⟩
 show ev % 2 ^ k < 18446744073709551616
 have h1 := Nat.mod_lt ev (Nat.two_pow_pos k)
 have h2 : 2 ^ k ≤ 2 ^ 64 := Nat.pow_le_pow_right (by decide) hk
 have : (2 : Nat) ^ 64 = 18446744073709551616 := by decide
 omega
theorem hasB_bit (ev k : Nat) (hk : k < 64) : hasB ev ((k + 1 : Nat) : Int) 1 64 = ev.testBit k := by
 unfold hasB
 rw [decide_eq_true (by omega), decide_eq_true (by omega), show (((k + 1 : Nat) : Int) - ((1 : Nat) : Int)).toNat = k by omega]
 rfl
theorem stE_yes (ev k : Nat) (hk : k < 64) (h : hasB ev ((k + 1 : Nat) : Int) 1 64 = true) : eviS (stE ev k) ((k + 1 : Nat) : Int) = stE ev (k + 1) := by
 rw [hasB_bit ev k hk] at h
 have hd : deadS (stE ev k) ((k + 1 : Nat) : Int) = false := by
  show hasB (ev % 2 ^ k) _ 1 64 = false
  rw [hasB_bit _ k hk, Nat.testBit_mod_two_pow]
  simp
 have hn : numB ((k + 1 : Nat) : Int) = true := by unfold numB; rw [decide_eq_true (by omega), decide_eq_true (by omega)]; rfl
 unfold eviS
 rw [hd, hn, if_pos (by rfl)]
 unfold stE
 rw [mod_bit ev k, if_pos h]
 rfl
theorem stE_no (ev k : Nat) (hk : k < 64) (h : hasB ev ((k + 1 : Nat) : Int) 1 64 = false) : stE ev k = stE ev (k + 1) := by
 rw [hasB_bit ev k hk] at h
 unfold stE
 rw [mod_bit ev k, h]
 rfl
theorem stE_yes' (ev m : Nat) (h1 : 1 ≤ m) (h2 : m ≤ 64) (h : hasB ev (m : Int) 1 64 = true) : eviS (stE ev (m - 1)) (m : Int) = stE ev m := by
 obtain ⟨k, rfl⟩ : ∃ k, m = k + 1 := ⟨m - 1, by omega⟩
 exact stE_yes ev k (by omega) h
theorem stE_no' (ev m : Nat) (h1 : 1 ≤ m) (h2 : m ≤ 64) (h : hasB ev (m : Int) 1 64 = false) : stE ev (m - 1) = stE ev m := by
 obtain ⟨k, rfl⟩ : ∃ k, m = k + 1 := ⟨m - 1, by omega⟩
 exact stE_no ev k (by omega) h
theorem CfX.add {G D : Nat → Prop} {w : World} {g : Nat} {C : Cf} {A : Option Addr} {n c : Nat} {E : List Ve} (h : CfX G D w g C A n c E) {T : Nat} {S0 : Stk}
  (hT : Bk w T 209 (stkC S0)) (hTG : G T) (hTD : ¬ D T) {w5 : World} {A' : Option Addr} {n' c' : Nat} {v0 : Vp} (hS0 : v0.S = S0) (hms : v0.ms = [])
  (hO : Os 96 8 w5 0 A' n' c' (E.flatMap veC ++ veC (v0, ⟨none, 0, 0, T⟩))) (hg5 : w.grownBy w5 (Value.slice A n c).ownBlock) (hob : ∀ b, (Value.slice A' n' c').ownBlock = some b → (Value.slice A n c).ownBlock = some b ∨ w.heap.size ≤ b)
  {w6 : World} {C' : Cf} (hst : Bk w6 g 63 (stC C' A' n' c')) (hg6 : w5.grownBy w6 (some g)) (hC' : C'.vs = C.vs ++ [v0]) :
  CfX (fun b => G b ∨ (Value.slice A' n' c').ownBlock = some b) (fun b => D b ∨ b = T ∨ (Value.slice A' n' c').ownBlock = some b) w6 g C' A' n' c' (E ++ [(v0, ⟨none, 0, 0, T⟩)]) := by
 have hn' : 0 < n' := by
  have := hO.1
  rw [List.length_append] at this
  simp [veC] at this
  omega
 have hgr : (Value.slice A n c).ownBlock ≠ some g := fun e => by
  have hgD := h.dr g e
  rcases Nat.eq_zero_or_pos n with h0 | h0
  ·rcases h.row.2 with ⟨hv, _⟩ | ⟨b, cap, cur, hv, _, hr, _⟩
   ·injection hv with h1 _ _; subst h1; cases e
   ·injection hv with h1 _ _
    subst h1
    injection e with e
    subst e
    have := h.st
    unfold Bk at this
    rw [hr] at this
    injection this with this
    injection this with _ this _
    revert this
    decide
  ·obtain ⟨b, cur, _, hb', hB, _⟩ := h.row.bk h0
   rw [hb'] at e
   injection e with e
   subst e
   exact hB.apart h.st (by decide) rfl
 have hst5 : Bk w5 g 63 (stC C A n c) := h.st.grown hg5 hgr
 have hrow_g : ∀ k, (Value.slice A' n' c').ownBlock = some k → some g ≠ some k := fun k hk e => by
  injection e with e
  subst e
  obtain ⟨b, cur, _, hb', hB, _⟩ := hO.bk hn'
  rw [hb'] at hk
  injection hk with hk
  subst hk
  exact hB.apart hst5 (by decide) rfl
 have hTr : (Value.slice A n c).ownBlock ≠ some T := fun e => hTD (h.dr T e)
 have hTg : T ≠ g := fun e => hTD (e ▸ h.dg)
 have mem : ∀ y ∈ E ++ [(v0, (⟨none, 0, 0, T⟩ : VE))], y ∈ E ∨ y = (v0, ⟨none, 0, 0, T⟩) := fun y hy => by simpa using hy
 have sz : w.heap.size ≤ w6.heap.size := Nat.le_trans hg5.size hg6.size
 refine ⟨by rw [List.map_append, h.vs, hC']; rfl, hst, ?_, fun k hk => .inr (.inr hk), .inl h.dg, ?_, ?_, ?_, ?_, ?_, ?_, ?_⟩
 ·rw [List.flatMap_append]
  have : List.flatMap veC [(v0, (⟨none, 0, 0, T⟩ : VE))] = veC (v0, ⟨none, 0, 0, T⟩) := by simp
  rw [this]
  exact hO.grown hg6 hrow_g
 ·intro y hy
  rcases mem y hy with hy | rfl
  ·exact ((h.tb y hy).grown hg5 (fun e => h.ne_row hy _ e rfl)).grown hg6 (fun e => h.ne_st hy (by injection e with e; exact e.symm))
  ·show Bk w6 T _ (stkC v0.S)
   rw [hS0]
   exact (hT.grown hg5 hTr).grown hg6 (fun e => hTg (by injection e with e; exact e.symm))
 ·intro y hy
  rcases mem y hy with hy | rfl
  ·exact .inl (h.dt y hy)
  ·exact .inr (.inl rfl)
 ·intro y hy
  rcases mem y hy with hy | rfl
  ·refine ((h.mm y hy).grown hg5 (fun a ha e => ?_)).grown hg6 (fun a ha e => (h.mo y hy a ha).2 ?_)
   ·exact (h.mo y hy a ha).2 (h.sub _ (h.dr _ e.symm))
   ·injection e with e; rw [e]; exact h.sub _ h.dg
  ·show Rs 2 w6 none 0 0 (prs .i64 v0.ms)
   rw [hms]
   exact Rs.nil_
 ·intro y hy
  rcases mem y hy with hy | rfl
  ·intro a ha
   refine ⟨Nat.lt_of_lt_of_le (h.mo y hy a ha).1 sz, ?_⟩
   have h1 := (h.mo y hy a ha).1
   rintro (k | k)
   ·exact (h.mo y hy a ha).2 k
   ·rcases hob _ k with k | k
    ·exact (h.mo y hy a ha).2 (h.sub _ (h.dr _ k))
    ·omega
  ·exact Off.none_
 ·rw [List.map_append, List.nodup_append]
  refine ⟨h.nd, by simp, fun a ha b hb e => ?_⟩
  simp at hb
  subst hb e
  obtain ⟨y, hy, e⟩ := List.mem_map.1 ha
  exact hTD (e ▸ h.dt y hy)
 ·rintro b (k | k | k)
  ·exact .inl (h.sub b k)
  ·subst k; exact .inl hTG
  ·exact .inr k
 ·rintro b (k | k)
  ·exact Nat.lt_of_lt_of_le (h.lt b k) sz
  ·exact Nat.lt_of_lt_of_le (hO.blk b k).2 hg6.size
end

end Go.Proofs.YtljlflmkmjcnnaaGreatDoor
