/- Texts of the law ConfigRestores, part 5. -/
import Derived.Test.YtkecgdnmehgpjaaDoorZConfigRestores4
set_option linter.unusedVariables false
set_option linter.unusedSimpArgs false
namespace Go.Proofs.YtkecgdnmehgpjaaDoor
section
open Go.RowKit
attribute [local go_sem ↓] sliced_cut
attribute [local go_sem] cutA_zero
theorem do_1 (C : Cf) (o : OpR) (h : o.k = 1) : doC C o = (bif (numB o.b && adG o.six o.ah o.al) then { C with bk := C.bk.set o.b.toNat (some (o.six, o.ah, o.al)) } else C) ∧ ((chE C o : Nat) : Int) = (bif (numB o.b && adG o.six o.ah o.al) then 0 else 1) := by
 unfold doC chC chE
 rw [if_pos h, if_pos h]
 cases (numB o.b && adG o.six o.ah o.al) <;> simp
theorem do_2 (C : Cf) (o : OpR) (h : o.k = 2) : doC C o = addS C o ∧ chE C o = addE C o := by
 unfold doC chC chE addS
 rw [h]
 simp
theorem do_67 (C : Cf) (o : OpR) (h : o.k = 6 ∨ o.k = 7) : doC C o = markS C o.k o.b ∧ chE C o = markE C o.k o.b := by
 unfold doC chC chE markS
 have h1 : ¬ o.k = 1 := by omega
 have h2 : ¬ o.k = 2 := by omega
 simp only [if_neg h1, if_neg h2, if_pos h]
 exact ⟨trivial, trivial⟩
theorem do_8 (C : Cf) (o : OpR) (h : o.k = 8) : doC C o = { C with now := (C.now + 1) % 18446744073709551616 } ∧ chE C o = 0 := by
 unfold doC chC chE
 rw [h]
 simp
theorem do_no (C : Cf) (o : OpR) (h1 : ¬ o.k = 1) (h2 : ¬ o.k = 2) (h6 : ¬ o.k = 6) (h7 : ¬ o.k = 7) (h8 : ¬ o.k = 8) (hv : vAt C o.v = none) : doC C o = C ∧ chE C o = 6 := by
 have h67 : ¬ (o.k = 6 ∨ o.k = 7) := by omega
 have e : chE C o = 6 := by unfold chE; simp only [if_neg h1, if_neg h2, if_neg h67, if_neg h8, hv]
 exact ⟨by unfold doC; rw [if_neg (by rw [e]; decide)], e⟩
theorem do_v (C : Cf) (o : OpR) (h1 : ¬ o.k = 1) (h2 : ¬ o.k = 2) (h6 : ¬ o.k = 6) (h7 : ¬ o.k = 7) (h8 : ¬ o.k = 8) {v : Vp} (hv : vAt C o.v = some v) : doC C o = (if vipE C o v = 0 then { C with vs := C.vs.set o.v.toNat (vipV o v) } else C) ∧ chE C o = vipE C o v := by
 have h67 : ¬ (o.k = 6 ∨ o.k = 7) := by omega
 unfold doC chC chE
 simp only [if_neg h1, if_neg h2, if_neg h67, if_neg h8, hv]
 exact ⟨trivial, trivial⟩
theorem vAt_some {C : Cf} {i : Nat} {v : Vp} (h : C.vs[i]? = some v) : vAt C (i : Int) = some v := by unfold vAt; rw [if_pos (by omega)]; exact h
theorem set_same {C : Cf} {i : Nat} {v : Vp} (h : C.vs[i]? = some v) : ({ C with vs := C.vs.set i v } : Cf) = C := by
 obtain ⟨h4, h5⟩ := List.getElem?_eq_some_iff.1 h
 rw [← h5, List.set_getElem_self]
theorem do_3 (C : Cf) (o : OpR) (h : o.k = 3) {i : Nat} {v : Vp} (hi : o.v = i) (hv : C.vs[i]? = some v) : doC C o = setS C i v o.ms ∧ chE C o = setE C v o.ms := by
 obtain ⟨h1, h2⟩ := do_v C o (by omega) (by omega) (by omega) (by omega) (by omega) (by rw [hi]; exact vAt_some hv)
 have e1 : vipE C o v = setE C v o.ms := by unfold vipE; rw [if_pos h]
 have e2 : vipV o v = setV v o.ms := by unfold vipV; rw [if_pos h]
 rw [h1, h2, e1, e2, hi]
 exact ⟨rfl, rfl⟩
theorem retE_ne {S : Stk} {v : Int} (h : ¬ retE S v = 0) : retS S v = S := by
 unfold retE at h
 unfold retS
 split at h
 ·exact absurd rfl h
 ·rename_i h1; rw [if_neg h1]
theorem rlsE_ne {S : Stk} {v : Int} (h : ¬ rlsE S v = 0) : rlsS S v = S := by
 unfold rlsE at h
 unfold rlsS
 split at h
 ·exact absurd rfl h
 ·rename_i h1; rw [if_neg h1]
theorem do_4 (C : Cf) (o : OpR) (h : o.k = 4) {i : Nat} {v : Vp} (hi : o.v = i) (hv : C.vs[i]? = some v) : doC C o = { C with vs := C.vs.set i { v with S := retS v.S o.e } } ∧ chE C o = retE v.S o.e := by
 obtain ⟨h1, h2⟩ := do_v C o (by omega) (by omega) (by omega) (by omega) (by omega) (by rw [hi]; exact vAt_some hv)
 have e1 : vipE C o v = retE v.S o.e := by unfold vipE; rw [if_neg (by omega), if_pos h]
 have e2 : vipV o v = { v with S := retS v.S o.e } := by unfold vipV; rw [if_neg (by omega), if_pos h]
 rw [h1, h2, e1, e2, hi]
 refine ⟨?_, rfl⟩
 by_cases h0 : retE v.S o.e = 0
 ·rw [if_pos h0]; rfl
 ·rw [if_neg h0, retE_ne h0]; exact (set_same hv).symm
theorem do_5 (C : Cf) (o : OpR) (h : o.k = 5) {i : Nat} {v : Vp} (hi : o.v = i) (hv : C.vs[i]? = some v) : doC C o = { C with vs := C.vs.set i { v with S := rlsS v.S o.e } } ∧ chE C o = rlsE v.S o.e := by
 obtain ⟨h1, h2⟩ := do_v C o (by omega) (by omega) (by omega) (by omega) (by omega) (by rw [hi]; exact vAt_some hv)
 have e1 : vipE C o v = rlsE v.S o.e := by unfold vipE; rw [if_neg (by omega), if_neg (by omega), if_pos h]
 have e2 : vipV o v = { v with S := rlsS v.S o.e } := by unfold vipV; rw [if_neg (by omega), if_neg (by omega)]
 rw [h1, h2, e1, e2, hi]
 refine ⟨?_, rfl⟩
 by_cases h0 : rlsE v.S o.e = 0
 ·rw [if_pos h0]; rfl
 ·rw [if_neg h0, rlsE_ne h0]; exact (set_same hv).symm
theorem do_x (C : Cf) (o : OpR) (h1 : ¬ o.k = 1) (h2 : ¬ o.k = 2) (h6 : ¬ o.k = 6) (h7 : ¬ o.k = 7) (h8 : ¬ o.k = 8) (h3 : ¬ o.k = 3) (h4 : ¬ o.k = 4) (h5 : ¬ o.k = 5) {i : Nat} {v : Vp} (hi : o.v = i) (hv : C.vs[i]? = some v) : doC C o = C ∧ chE C o = 1 := by
 obtain ⟨k1, k2⟩ := do_v C o h1 h2 h6 h7 h8 (by rw [hi]; exact vAt_some hv)
 have e1 : vipE C o v = 1 := by unfold vipE; rw [if_neg h3, if_neg h4, if_neg h5]
 rw [k1, k2, e1]
 exact ⟨by rw [if_neg (by decide)], rfl⟩
set_option maxHeartbeats 4000000
set_option maxRecDepth 100000
theorem change_any {G D : Nat → Prop} (k v b e : Int) (six : Bool) (ah al pt pr : Nat) (wy : Int) (ms : List (Int × Int)) (B : Option Addr) (m d : Nat) (C : Cf) (hC : CfOk C) (g : Nat) (A : Option Addr) (n c : Nat) (E : List Ve) (w : World) (hX : CfX G D w g C A n c E) (ho : OpOk (⟨k, v, b, e, six, ah, al, pt, pr, wy, ms⟩ : OpR)) (hr : Rs 2 w B m d (prs .i64 ms)) (hB0 : Off G w B) (hm : m ≤ 1000000) : Calls Tryd.prog 17 #[.pointer (some ⟨g, 0, none⟩), .agg (opC k v b e six ah al pt pr wy B m d).toArray] w (RetCf G D w g (doC C (⟨k, v, b, e, six, ah, al, pt, pr, wy, ms⟩ : OpR)) (.int .i64 (chE C (⟨k, v, b, e, six, ah, al, pt, pr, wy, ms⟩ : OpR) : Nat))) := by
 obtain ⟨da, va1, va2⟩ := rowAdC
 obtain ⟨do1, vo1, vo2⟩ := rowOpC
 obtain ⟨dr1, vr1, vr2⟩ : ∃ d, Tryd.prog.underlying 79 = some d ∧ d.isRow = true := ⟨_, Tryd.underlying79, rfl⟩
 have hk := hC.key
 have hb := hC.bl
 have hal := ho.al
 have hpr := ho.pr
 have hb63 := ho.b.2
 have he63 := ho.e.2
 simp only at hal hpr hb63 he63
 have hn16 : n ≤ 16 := by have := hX.n_; have := hC.vl; omega
 by_cases k1 : k = 1
 ·have i1 : (k == 1) = true := by simp [k1]
  have hdo := do_1 C (⟨k, v, b, e, six, ah, al, pt, pr, wy, ms⟩ : OpR) k1
  have hcs := Lib.hid hdo.1
  have he := Lib.hid hdo.2
  clear hdo
  clear k1
  obtain ⟨bo, be, zV⟩ := box1 w 45 (opC k v b e six ah al pt pr wy B m d)
  go_enter Tryd.func17, Tryd.ntmps17
  go_upto_region 1 with (fail)
  generalize w.alloc (.cells (opC k v b e six ah al pt pr wy B m d).toArray 45) = V at *
  replace hX := hX.later be
  replace hr := hr.later be
  replace hB0 := hB0.size be.size
  have qk : V.cell? ⟨w.heap.size, 0, none⟩ = some (.int .i64 k) := bo.cell 0
  have HA := Lib.hid (fun w (h : CfX G D w g C A n c E) => addBackend_any k v b e six ah al pt pr wy ms B m d C hC g A n c E w h hal)
  go_upto_region 3 with (fail)
  refine wp_region_lit ?_
  refine wpList_plain rfl (fun K hK => ?_); go_simp; with_reducible refine hK _ _ ?_; clear hK K
  refine wpList_ldA (t := 45) 45 (.tmp 3) rfl rfl (opC k v b e six ah al pt pr wy B m d) rfl (bo) (whole_ _) vo1 vo2 (szOp k v b e six ah al pt pr wy B m d) ?_
  refine wpList_plain rfl (fun K hK => ?_)
  go_simp
  refine (HA.out _ hX).mono ?_
  rintro e w1 ⟨rfl, G2, D2, hM, hgr, hc⟩
  with_reducible refine hK _ _ ?_
  clear hK K
  refine wpList_plain rfl (fun K hK => ?_); go_simp; with_reducible refine hK _ _ ?_; clear hK K
  go_wp2
  go_ret
  rw [hcs.out]
  exact ⟨by rw [he.out]; rfl, G2, D2, hM, hgr.early be.size, (Chg.of_below be).trans hc⟩
 have i1 : (k == 1) = false := by simpa using k1
 by_cases k2 : k = 2
 ·have i2 : (k == 2) = true := by simp [k2]
  have hdo := do_2 C (⟨k, v, b, e, six, ah, al, pt, pr, wy, ms⟩ : OpR) k2
  have hcs := Lib.hid hdo.1
  have he := Lib.hid hdo.2
  clear hdo
  clear k1 k2
  obtain ⟨bo, be, zV⟩ := box1 w 45 (opC k v b e six ah al pt pr wy B m d)
  go_enter Tryd.func17, Tryd.ntmps17
  go_upto_region 1 with (fail)
  generalize w.alloc (.cells (opC k v b e six ah al pt pr wy B m d).toArray 45) = V at *
  replace hX := hX.later be
  replace hr := hr.later be
  replace hB0 := hB0.size be.size
  have qk : V.cell? ⟨w.heap.size, 0, none⟩ = some (.int .i64 k) := bo.cell 0
  have HA := Lib.hid (fun w (h : CfX G D w g C A n c E) => addVip_any k v b e six ah al pt pr wy ms B m d C hC g A n c E w h hal hpr)
  go_upto_region 5 with (fail)
  refine wp_region_lit ?_
  refine wpList_plain rfl (fun K hK => ?_); go_simp; with_reducible refine hK _ _ ?_; clear hK K
  refine wpList_ldA (t := 45) 45 (.tmp 3) rfl rfl (opC k v b e six ah al pt pr wy B m d) rfl (bo) (whole_ _) vo1 vo2 (szOp k v b e six ah al pt pr wy B m d) ?_
  refine wpList_plain rfl (fun K hK => ?_)
  go_simp
  refine (HA.out _ hX).mono ?_
  rintro e w1 ⟨rfl, G2, D2, hM, hgr, hc⟩
  with_reducible refine hK _ _ ?_
  clear hK K
  refine wpList_plain rfl (fun K hK => ?_); go_simp; with_reducible refine hK _ _ ?_; clear hK K
  go_wp2
  go_ret
  rw [hcs.out]
  exact ⟨by rw [he.out]; rfl, G2, D2, hM, hgr.early be.size, (Chg.of_below be).trans hc⟩
 have i2 : (k == 2) = false := by simpa using k2
 by_cases k67 : k = 6 ∨ k = 7
 ·have HA := Lib.hid (fun w (h : CfX G D w g C A n c E) => mark_any k v b e six ah al pt pr wy ms B m d C hC g A n c E w h hb63)
  have hdo := do_67 C (⟨k, v, b, e, six, ah, al, pt, pr, wy, ms⟩ : OpR) k67
  have hcs := Lib.hid hdo.1
  have he := Lib.hid hdo.2
  clear hdo
  clear k1 k2
  rcases k67 with k6 | k7
  ·have i6 : (k == 6) = true := by simp [k6]
   clear k6
   obtain ⟨bo, be, zV⟩ := box1 w 45 (opC k v b e six ah al pt pr wy B m d)
   go_enter Tryd.func17, Tryd.ntmps17
   go_upto_region 1 with (fail)
   generalize w.alloc (.cells (opC k v b e six ah al pt pr wy B m d).toArray 45) = V at *
   replace hX := hX.later be
   replace hr := hr.later be
   replace hB0 := hB0.size be.size
   have qk : V.cell? ⟨w.heap.size, 0, none⟩ = some (.int .i64 k) := bo.cell 0
   go_upto_region 8 with (fail)
   refine wp_region_lit ?_
   refine wpList_plain rfl (fun K hK => ?_); go_simp; with_reducible refine hK _ _ ?_; clear hK K
   refine wpList_ldA (t := 45) 45 (.tmp 3) rfl rfl (opC k v b e six ah al pt pr wy B m d) rfl (bo) (whole_ _) vo1 vo2 (szOp k v b e six ah al pt pr wy B m d) ?_
   refine wpList_plain rfl (fun K hK => ?_)
   go_simp
   refine (HA.out _ hX).mono ?_
   rintro e w1 ⟨rfl, G2, D2, hM, hgr, hc⟩
   with_reducible refine hK _ _ ?_
   clear hK K
   refine wpList_plain rfl (fun K hK => ?_); go_simp; with_reducible refine hK _ _ ?_; clear hK K
   go_wp2
   go_ret
   rw [hcs.out]
   exact ⟨by rw [he.out]; rfl, G2, D2, hM, hgr.early be.size, (Chg.of_below be).trans hc⟩
  ·have i6 : (k == 6) = false := by simp [k7]
   have i7 : (k == 7) = true := by simp [k7]
   clear k7
   obtain ⟨bo, be, zV⟩ := box1 w 45 (opC k v b e six ah al pt pr wy B m d)
   go_enter Tryd.func17, Tryd.ntmps17
   go_upto_region 1 with (fail)
   generalize w.alloc (.cells (opC k v b e six ah al pt pr wy B m d).toArray 45) = V at *
   replace hX := hX.later be
   replace hr := hr.later be
   replace hB0 := hB0.size be.size
   have qk : V.cell? ⟨w.heap.size, 0, none⟩ = some (.int .i64 k) := bo.cell 0
   go_upto_region 8 with (fail)
   refine wp_region_lit ?_
   refine wpList_plain rfl (fun K hK => ?_); go_simp; with_reducible refine hK _ _ ?_; clear hK K
   refine wpList_ldA (t := 45) 45 (.tmp 3) rfl rfl (opC k v b e six ah al pt pr wy B m d) rfl (bo) (whole_ _) vo1 vo2 (szOp k v b e six ah al pt pr wy B m d) ?_
   refine wpList_plain rfl (fun K hK => ?_)
   go_simp
   refine (HA.out _ hX).mono ?_
   rintro e w1 ⟨rfl, G2, D2, hM, hgr, hc⟩
   with_reducible refine hK _ _ ?_
   clear hK K
   refine wpList_plain rfl (fun K hK => ?_); go_simp; with_reducible refine hK _ _ ?_; clear hK K
   go_wp2
   go_ret
   rw [hcs.out]
   exact ⟨by rw [he.out]; rfl, G2, D2, hM, hgr.early be.size, (Chg.of_below be).trans hc⟩
 have k6 : ¬ k = 6 := fun h => k67 (.inl h)
 have k7 : ¬ k = 7 := fun h => k67 (.inr h)
 have i6 : (k == 6) = false := by simpa using k6
 have i7 : (k == 7) = false := by simpa using k7
 by_cases k8 : k = 8
 ·have i8 : (k == 8) = true := by simp [k8]
  have hdo := do_8 C (⟨k, v, b, e, six, ah, al, pt, pr, wy, ms⟩ : OpR) k8
  have hcs := Lib.hid hdo.1
  have he := Lib.hid hdo.2
  clear hdo
  clear k1 k2 k67 k6 k7 k8
  have HR := Lib.hid (fun w => ringNext_any C.key hk C.now w hC.now)
  obtain ⟨bo, be, zV⟩ := box1 w 45 (opC k v b e six ah al pt pr wy B m d)
  go_enter Tryd.func17, Tryd.ntmps17
  go_upto_region 1 with (fail)
  generalize w.alloc (.cells (opC k v b e six ah al pt pr wy B m d).toArray 45) = V at *
  replace hX := hX.later be
  replace hr := hr.later be
  replace hB0 := hB0.size be.size
  have qk : V.cell? ⟨w.heap.size, 0, none⟩ = some (.int .i64 k) := bo.cell 0
  go_upto_region 10 with (fail)
  refine wp_region_lit ?_
  iterate 4 (refine wpList_plain rfl (fun K hK => ?_); go_simp; with_reducible refine hK _ _ ?_; clear hK K)
  refine wpList_ldA (t := 85) (off := 1) (cs := stC C A n c) 79 (.tmp 29) rfl rfl (ringC C.key C.now) rfl hX.st (stC_ring C hk A n c) vr1 vr2 (szRing C.key hk _) ?_
  refine wpList_plain rfl (fun K hK => ?_)
  go_simp
  refine (HR.out _).mono ?_
  rintro e w1 ⟨bs1, d1, rfl, rfl⟩
  with_reducible refine hK _ _ ?_
  clear hK K
  have hb1 := below_plus V bs1 d1
  replace hX := hX.later hb1
  replace be := be.trans (hb1.mono be.size)
  clear hb1
  generalize plus V bs1 d1 = V1 at *
  iterate 2 (refine wpList_plain rfl (fun K hK => ?_); go_simp; with_reducible refine hK _ _ ?_; clear hK K)
  refine wpList_stM (t := 85) (off := 1) 79 (.tmp 33) (.tmp 31) rfl rfl (ringC C.key ((C.now + 1) % 18446744073709551616)) (stC C A n c) (by rw [stC_len C hk hb]; simp [ringC, bcs_length, hk]) (ringC_one _ _) rfl rfl hX.st (szRing C.key hk _) ?_
  intro W4 h4 g4
  simp only [Act.put, qsT, qsZ, qsS]
  replace hX := hX.setSt (C' := { C with now := (C.now + 1) % 18446744073709551616 }) rfl (by rw [← stC_setRing C hk A n c]; exact h4) g4
  have hch : Chg D w W4 := (Chg.of_below be).trans (Chg.one g4 hX.dg)
  go_wp2
  go_ret
  rw [hcs.out]
  exact ⟨by rw [he.out]; rfl, G, D, ⟨_, _, _, _, hX⟩, Grow.refl _ _ _, hch⟩
 have i8 : (k == 8) = false := by simpa using k8
 have HK := Lib.hid (And.intro k1 (And.intro k2 (And.intro k6 (And.intro k7 k8))))
 clear k1 k2 k67 k6 k7 k8
 have hEn : E.length = n := by have := hX.len; have := hX.n_; omega
 have hnv := Lib.hid hX.n_
 by_cases hvv : v < 0 ∨ (¬ v < 0 ∧ (n : Int) ≤ v)
 ·have hno : vAt C v = none := by
   unfold vAt
   split
   ·rw [List.getElem?_eq_none (by have := hnv.out; omega)]
   ·rfl
  have hdo := do_no C (⟨k, v, b, e, six, ah, al, pt, pr, wy, ms⟩ : OpR) HK.out.1 HK.out.2.1 HK.out.2.2.1 HK.out.2.2.2.1 HK.out.2.2.2.2 hno
  have hcs := Lib.hid hdo.1
  have he := Lib.hid hdo.2
  clear hdo
  clear hno
  rcases hvv with hv0 | ⟨hv0, hvn⟩
  all_goals
   obtain ⟨bo, be, zV⟩ := box1 w 45 (opC k v b e six ah al pt pr wy B m d)
   go_enter Tryd.func17, Tryd.ntmps17
   go_upto_region 1 with (fail)
   generalize w.alloc (.cells (opC k v b e six ah al pt pr wy B m d).toArray 45) = V at *
   replace hX := hX.later be
   replace hr := hr.later be
   replace hB0 := hB0.size be.size
   have qk : V.cell? ⟨w.heap.size, 0, none⟩ = some (.int .i64 k) := bo.cell 0
   go_upto_region 12 with (fail)
   clear qk
   refine wp_relS 13 81 rfl (by kernel_rfl) (by kernel_rfl) ?_
   apply Steps.o1 (MP.eq _) 1 rfl rfl
   ·intro FA x hO hD K hK
    have e3 := hO 3 (by kernel_rfl)
    simp only [eval_tmp, qgT, qgS, qgZ, qoS] at e3
    have ev3 := Lib.hid ((eval_tmp FA 3).trans e3)
    clear hO hD
    go_simp
    exact hK.out _ _ (Ex.refl _) rfl
   apply Steps.o1 (MP.eq _) 2 rfl rfl
   ·intro FA x hO hD K hK
    obtain ⟨e34, ev34⟩ := qE (hD 0 34 (by kernel_rfl))
    clear hO hD
    refine wanted_if rfl ?_
    refine wp_ld1 3 (.tmp 34) rfl ev34.out (bo.later (below_plus _ _ _)) rfl Tryd.underlying3 rfl ?_
    exact hK.out _ _ (Ex.refl _) rfl
   apply Steps.o1 (MP.eq _) 3 rfl rfl
   ·intro FA x hO hD K hK
    obtain ⟨e35, ev35⟩ := qE (hD 1 35 (by kernel_rfl))
    clear hO hD
    go_simp
    exact hK.out _ _ (Ex.refl _) rfl
   apply Steps.o1 (MP.eq _) 4 rfl rfl
   ·intro FA x hO hD K hK
    obtain ⟨e36, ev36⟩ := qE (hD 2 36 (by kernel_rfl))
    clear hO hD
    go_simp
    exact hK.out _ _ (Ex.refl _) rfl
   apply Steps.o1 (MP.eq _) 5 rfl rfl
   ·intro FA x hO hD K hK
    have e3 := hO 3 (by kernel_rfl)
    simp only [eval_tmp, qgT, qgS, qgZ, qoS] at e3
    have ev3 := Lib.hid ((eval_tmp FA 3).trans e3)
    obtain ⟨e37, ev37⟩ := qE (hD 3 37 (by kernel_rfl))
    first | have ge37 := slot_of e37 | have ge37 := slot_un e37
    clear hO hD
    first | (go_simp; exact hK.out _ _ (Ex.refl _) rfl) | (rcases ge37 with ge37 | ge37 <;> (go_simp; exact hK.out _ _ (Ex.refl _) rfl))
   apply Steps.o1 (MP.eq _) 6 rfl rfl
   ·intro FA x hO hD K hK
    obtain ⟨e38, ev38⟩ := qE (hD 4 38 (by kernel_rfl))
    obtain ⟨e37, ev37⟩ := qE (hD 3 37 (by kernel_rfl))
    first | have ge37 := slot_of e37 | have ge37 := slot_un e37
    clear hO hD
    first | (refine wanted_ifG ?_ ?_; (· go_simp); refine wp_ld1 3 (.tmp 38) rfl ev38.out (bo.later (below_plus _ _ _)) rfl Tryd.underlying3 rfl ?_; exact hK.out _ _ (Ex.refl _) rfl) | (go_simp; exact hK.out _ _ (Ex.refl _) rfl) | (rcases ge37 with ge37 | ge37 <;> (go_simp; exact hK.out _ _ (Ex.refl _) rfl))
   apply Steps.o1 (MP.eq _) 7 rfl rfl
   ·intro FA x hO hD K hK
    have e0 := hO 0 (by kernel_rfl)
    simp only [eval_tmp, qgT, qgS, qgZ, qoS] at e0
    have ev0 := Lib.hid ((eval_tmp FA 0).trans e0)
    obtain ⟨e37, ev37⟩ := qE (hD 3 37 (by kernel_rfl))
    first | have ge37 := slot_of e37 | have ge37 := slot_un e37
    clear hO hD
    first | (go_simp; exact hK.out _ _ (Ex.refl _) rfl) | (rcases ge37 with ge37 | ge37 <;> (go_simp; exact hK.out _ _ (Ex.refl _) rfl))
   apply Steps.o1 (MP.eq _) 8 rfl rfl
   ·intro FA x hO hD K hK
    obtain ⟨e40, ev40⟩ := qE (hD 6 40 (by kernel_rfl))
    obtain ⟨e37, ev37⟩ := qE (hD 3 37 (by kernel_rfl))
    first | have ge37 := slot_of e37 | have ge37 := slot_un e37
    clear hO hD
    first | (go_simp; exact hK.out _ _ (Ex.refl _) rfl) | (rcases ge37 with ge37 | ge37 <;> (go_simp; exact hK.out _ _ (Ex.refl _) rfl))
   apply Steps.o1 (MP.eq _) 9 rfl rfl
   ·intro FA x hO hD K hK
    obtain ⟨e41, ev41⟩ := qE (hD 7 41 (by kernel_rfl))
    obtain ⟨e37, ev37⟩ := qE (hD 3 37 (by kernel_rfl))
    first | have ge37 := slot_of e37 | have ge37 := slot_un e37
    clear hO hD
    first | (go_simp; exact hK.out _ _ (Ex.refl _) rfl) | (rcases ge37 with ge37 | ge37 <;> (go_simp; exact hK.out _ _ (Ex.refl _) rfl))
   apply Steps.o1 (MP.eq _) 10 rfl rfl
   ·intro FA x hO hD K hK
    obtain ⟨e42, ev42⟩ := qE (hD 8 42 (by kernel_rfl))
    obtain ⟨e37, ev37⟩ := qE (hD 3 37 (by kernel_rfl))
    first | have ge37 := slot_of e37 | have ge37 := slot_un e37
    clear hO hD
    first | (refine wanted_ifG ?_ ?_; (· go_simp); refine wp_ld1 83 (.tmp 42) rfl ev42.out (hX.st.later (below_plus _ _ _)) (stC_vips C hk hb _ n c) Tryd.underlying83 rfl ?_; exact hK.out _ _ (Ex.refl _) rfl) | (go_simp; exact hK.out _ _ (Ex.refl _) rfl) | (rcases ge37 with ge37 | ge37 <;> (go_simp; exact hK.out _ _ (Ex.refl _) rfl))
   apply Steps.o1 (MP.eq _) 11 rfl rfl
   ·intro FA x hO hD K hK
    obtain ⟨e43, ev43⟩ := qE (hD 9 43 (by kernel_rfl))
    obtain ⟨e37, ev37⟩ := qE (hD 3 37 (by kernel_rfl))
    first | have ge37 := slot_of e37 | have ge37 := slot_un e37
    clear hO hD
    first | (go_simp; exact hK.out _ _ (Ex.refl _) rfl) | (rcases ge37 with ge37 | ge37 <;> (go_simp; exact hK.out _ _ (Ex.refl _) rfl))
   apply Steps.o1 (MP.eq _) 12 rfl rfl
   ·intro FA x hO hD K hK
    obtain ⟨e39, ev39⟩ := qE (hD 5 39 (by kernel_rfl))
    obtain ⟨e44, ev44⟩ := qE (hD 10 44 (by kernel_rfl))
    obtain ⟨e37, ev37⟩ := qE (hD 3 37 (by kernel_rfl))
    first | have ge37 := slot_of e37 | have ge37 := slot_un e37
    clear hO hD
    first | (go_simp; exact hK.out _ _ (Ex.refl _) rfl) | (rcases ge37 with ge37 | ge37 <;> (go_simp; exact hK.out _ _ (Ex.refl _) rfl))
   apply Steps.o1 (MP.eq _) 13 rfl rfl
   ·intro FA x hO hD K hK
    obtain ⟨e37, ev37⟩ := qE (hD 3 37 (by kernel_rfl))
    obtain ⟨e45, ev45⟩ := qE (hD 11 45 (by kernel_rfl))
    clear hO hD
    go_simp
    exact hK.out _ _ (Ex.refl _) rfl
   refine Steps.fin_ (fun vs x hp => ?_)
   have p0 : vs 0 = _ := hp 0 (by omega)
   have p1 : vs 1 = _ := hp 1 (by omega)
   have p2 : vs 2 = _ := hp 2 (by omega)
   have p3 : vs 3 = _ := hp 3 (by omega)
   have p4 : vs 4 = _ := hp 4 (by omega)
   have p5 : vs 5 = _ := hp 5 (by omega)
   have p6 : vs 6 = _ := hp 6 (by omega)
   have p7 : vs 7 = _ := hp 7 (by omega)
   have p8 : vs 8 = _ := hp 8 (by omega)
   have p9 : vs 9 = _ := hp 9 (by omega)
   have p10 : vs 10 = _ := hp 10 (by omega)
   have p11 : vs 11 = _ := hp 11 (by omega)
   have p12 : vs 12 = _ := hp 12 (by omega)
   clear hp
   simp only [List.take_succ_cons, List.take_zero, List.drop_succ_cons, List.drop_zero, putAll, Nat.zero_add, Nat.reduceAdd, Act.put, qsT, qsZ, qsS, p0, p1, p2, p3, p4, p5, p6, p7, p8, p9, p10, p11, p12]
   clear p0 p1 p2 p3 p4 p5 p6 p7 p8 p9 p10 p11 p12
   clear vs
   have hb9 := below_plus V x.bs x.d
   replace hX := hX.later hb9
   replace bo := bo.later hb9
   replace hr := hr.later hb9
   replace hB0 := hB0.size hb9.size
   replace be := be.trans (hb9.mono be.size)
   clear hb9
   generalize plus V x.bs x.d = V2 at *
   go_wp2
   go_ret
   rw [hcs.out]
   exact ⟨by rw [he.out]; rfl, G, D, ⟨_, _, _, _, hX⟩, Grow.refl _ _ _, Chg.of_below be⟩
 obtain ⟨i, rfl⟩ : ∃ i : Nat, v = i := ⟨v.toNat, by omega⟩
 have hin : i < n := by omega
 have hii : (i : Int) < (n : Int) := by omega
 have hn0 : 0 < n := by omega
 obtain ⟨bb, cur, rfl, hob, -⟩ := hX.row.bk hn0
 have hmem : E[i]'(by omega) ∈ E := List.getElem_mem _
 have hi0 : E[i]? = some (E[i]'(by omega)) := List.getElem?_eq_getElem _
 have hvi : C.vs[i]? = some (E[i]'(by omega)).1 := by rw [← hX.vs, List.getElem?_map, hi0]; rfl
 have hok := (hC.vs _ (List.mem_of_getElem? hvi)).st
 have hq7 : ∀ W0 W, CfX G D W0 g C (some ⟨bb, 0, none⟩) n c E → Below W0.heap.size W0 W → W.cell? ⟨bb, i * 8 + 7, none⟩ = some (.pointer (some ⟨(E[i]'(by omega)).2.T, 0, none⟩)) := fun W0 W hX h => by
  have := (hX.row.rs.later h).rangeE veC_len i (by omega)
  rw [Nat.zero_add] at this
  exact this 7 _ rfl
 have HQ0 := Lib.hid hq7
 generalize E[i]'(by omega) = x0 at *
 have HI0 := Lib.hid hi0
 have HVI := Lib.hid hvi
 clear hq7 hi0 hvi hn0 hob hEn
 obtain ⟨bo, be, zV⟩ := box1 w 45 (opC k (i : Int) b e six ah al pt pr wy B m d)
 go_enter Tryd.func17, Tryd.ntmps17
 go_upto_region 1 with (fail)
 generalize w.alloc (.cells (opC k (i : Int) b e six ah al pt pr wy B m d).toArray 45) = V at *
 replace hX := hX.later be
 replace hr := hr.later be
 replace hB0 := hB0.size be.size
 have qk : V.cell? ⟨w.heap.size, 0, none⟩ = some (.int .i64 k) := bo.cell 0
 go_upto_region 12 with (fail)
 clear qk
 refine wp_relS 13 81 rfl (by kernel_rfl) (by kernel_rfl) ?_
 apply Steps.o1 (MP.eq _) 1 rfl rfl
 ·intro FA x hO hD K hK
  have e3 := hO 3 (by kernel_rfl)
  simp only [eval_tmp, qgT, qgS, qgZ, qoS] at e3
  have ev3 := Lib.hid ((eval_tmp FA 3).trans e3)
  clear hO hD
  go_simp
  exact hK.out _ _ (Ex.refl _) rfl
 apply Steps.o1 (MP.eq _) 2 rfl rfl
 ·intro FA x hO hD K hK
  obtain ⟨e34, ev34⟩ := qE (hD 0 34 (by kernel_rfl))
  clear hO hD
  refine wanted_if rfl ?_
  refine wp_ld1 3 (.tmp 34) rfl ev34.out (bo.later (below_plus _ _ _)) rfl Tryd.underlying3 rfl ?_
  exact hK.out _ _ (Ex.refl _) rfl
 apply Steps.o1 (MP.eq _) 3 rfl rfl
 ·intro FA x hO hD K hK
  obtain ⟨e35, ev35⟩ := qE (hD 1 35 (by kernel_rfl))
  clear hO hD
  go_simp
  exact hK.out _ _ (Ex.refl _) rfl
 apply Steps.o1 (MP.eq _) 4 rfl rfl
 ·intro FA x hO hD K hK
  obtain ⟨e36, ev36⟩ := qE (hD 2 36 (by kernel_rfl))
  clear hO hD
  go_simp
  exact hK.out _ _ (Ex.refl _) rfl
 apply Steps.o1 (MP.eq _) 5 rfl rfl
 ·intro FA x hO hD K hK
  have e3 := hO 3 (by kernel_rfl)
  simp only [eval_tmp, qgT, qgS, qgZ, qoS] at e3
  have ev3 := Lib.hid ((eval_tmp FA 3).trans e3)
  obtain ⟨e37, ev37⟩ := qE (hD 3 37 (by kernel_rfl))
  first | have ge37 := slot_of e37 | have ge37 := slot_un e37
  clear hO hD
  first | (go_simp; exact hK.out _ _ (Ex.refl _) rfl) | (rcases ge37 with ge37 | ge37 <;> (go_simp; exact hK.out _ _ (Ex.refl _) rfl))
 apply Steps.o1 (MP.eq _) 6 rfl rfl
 ·intro FA x hO hD K hK
  obtain ⟨e38, ev38⟩ := qE (hD 4 38 (by kernel_rfl))
  obtain ⟨e37, ev37⟩ := qE (hD 3 37 (by kernel_rfl))
  first | have ge37 := slot_of e37 | have ge37 := slot_un e37
  clear hO hD
  first | (refine wanted_ifG ?_ ?_; (· go_simp); refine wp_ld1 3 (.tmp 38) rfl ev38.out (bo.later (below_plus _ _ _)) rfl Tryd.underlying3 rfl ?_; exact hK.out _ _ (Ex.refl _) rfl) | (go_simp; exact hK.out _ _ (Ex.refl _) rfl) | (rcases ge37 with ge37 | ge37 <;> (go_simp; exact hK.out _ _ (Ex.refl _) rfl))
 apply Steps.o1 (MP.eq _) 7 rfl rfl
 ·intro FA x hO hD K hK
  have e0 := hO 0 (by kernel_rfl)
  simp only [eval_tmp, qgT, qgS, qgZ, qoS] at e0
  have ev0 := Lib.hid ((eval_tmp FA 0).trans e0)
  obtain ⟨e37, ev37⟩ := qE (hD 3 37 (by kernel_rfl))
  first | have ge37 := slot_of e37 | have ge37 := slot_un e37
  clear hO hD
  first | (go_simp; exact hK.out _ _ (Ex.refl _) rfl) | (rcases ge37 with ge37 | ge37 <;> (go_simp; exact hK.out _ _ (Ex.refl _) rfl))
 apply Steps.o1 (MP.eq _) 8 rfl rfl
 ·intro FA x hO hD K hK
  obtain ⟨e40, ev40⟩ := qE (hD 6 40 (by kernel_rfl))
  obtain ⟨e37, ev37⟩ := qE (hD 3 37 (by kernel_rfl))
  first | have ge37 := slot_of e37 | have ge37 := slot_un e37
  clear hO hD
  first | (go_simp; exact hK.out _ _ (Ex.refl _) rfl) | (rcases ge37 with ge37 | ge37 <;> (go_simp; exact hK.out _ _ (Ex.refl _) rfl))
 apply Steps.o1 (MP.eq _) 9 rfl rfl
 ·intro FA x hO hD K hK
  obtain ⟨e41, ev41⟩ := qE (hD 7 41 (by kernel_rfl))
  obtain ⟨e37, ev37⟩ := qE (hD 3 37 (by kernel_rfl))
  first | have ge37 := slot_of e37 | have ge37 := slot_un e37
  clear hO hD
  first | (go_simp; exact hK.out _ _ (Ex.refl _) rfl) | (rcases ge37 with ge37 | ge37 <;> (go_simp; exact hK.out _ _ (Ex.refl _) rfl))
 apply Steps.o1 (MP.eq _) 10 rfl rfl
 ·intro FA x hO hD K hK
  obtain ⟨e42, ev42⟩ := qE (hD 8 42 (by kernel_rfl))
  obtain ⟨e37, ev37⟩ := qE (hD 3 37 (by kernel_rfl))
  first | have ge37 := slot_of e37 | have ge37 := slot_un e37
  clear hO hD
  first | (refine wanted_ifG ?_ ?_; (· go_simp); refine wp_ld1 83 (.tmp 42) rfl ev42.out (hX.st.later (below_plus _ _ _)) (stC_vips C hk hb _ n c) Tryd.underlying83 rfl ?_; exact hK.out _ _ (Ex.refl _) rfl) | (go_simp; exact hK.out _ _ (Ex.refl _) rfl) | (rcases ge37 with ge37 | ge37 <;> (go_simp; exact hK.out _ _ (Ex.refl _) rfl))
 apply Steps.o1 (MP.eq _) 11 rfl rfl
 ·intro FA x hO hD K hK
  obtain ⟨e43, ev43⟩ := qE (hD 9 43 (by kernel_rfl))
  obtain ⟨e37, ev37⟩ := qE (hD 3 37 (by kernel_rfl))
  first | have ge37 := slot_of e37 | have ge37 := slot_un e37
  clear hO hD
  first | (go_simp; exact hK.out _ _ (Ex.refl _) rfl) | (rcases ge37 with ge37 | ge37 <;> (go_simp; exact hK.out _ _ (Ex.refl _) rfl))
 apply Steps.o1 (MP.eq _) 12 rfl rfl
 ·intro FA x hO hD K hK
  obtain ⟨e39, ev39⟩ := qE (hD 5 39 (by kernel_rfl))
  obtain ⟨e44, ev44⟩ := qE (hD 10 44 (by kernel_rfl))
  obtain ⟨e37, ev37⟩ := qE (hD 3 37 (by kernel_rfl))
  first | have ge37 := slot_of e37 | have ge37 := slot_un e37
  clear hO hD
  first | (go_simp; exact hK.out _ _ (Ex.refl _) rfl) | (rcases ge37 with ge37 | ge37 <;> (go_simp; exact hK.out _ _ (Ex.refl _) rfl))
 apply Steps.o1 (MP.eq _) 13 rfl rfl
 ·intro FA x hO hD K hK
  obtain ⟨e37, ev37⟩ := qE (hD 3 37 (by kernel_rfl))
  obtain ⟨e45, ev45⟩ := qE (hD 11 45 (by kernel_rfl))
  clear hO hD
  go_simp
  exact hK.out _ _ (Ex.refl _) rfl
 refine Steps.fin_ (fun vs x hp => ?_)
 have p0 : vs 0 = _ := hp 0 (by omega)
 have p1 : vs 1 = _ := hp 1 (by omega)
 have p2 : vs 2 = _ := hp 2 (by omega)
 have p3 : vs 3 = _ := hp 3 (by omega)
 have p4 : vs 4 = _ := hp 4 (by omega)
 have p5 : vs 5 = _ := hp 5 (by omega)
 have p6 : vs 6 = _ := hp 6 (by omega)
 have p7 : vs 7 = _ := hp 7 (by omega)
 have p8 : vs 8 = _ := hp 8 (by omega)
 have p9 : vs 9 = _ := hp 9 (by omega)
 have p10 : vs 10 = _ := hp 10 (by omega)
 have p11 : vs 11 = _ := hp 11 (by omega)
 have p12 : vs 12 = _ := hp 12 (by omega)
 clear hp
 simp only [List.take_succ_cons, List.take_zero, List.drop_succ_cons, List.drop_zero, putAll, Nat.zero_add, Nat.reduceAdd, Act.put, qsT, qsZ, qsS, p0, p1, p2, p3, p4, p5, p6, p7, p8, p9, p10, p11, p12]
 clear p0 p1 p2 p3 p4 p5 p6 p7 p8 p9 p10 p11 p12
 clear vs
 have hb9 := below_plus V x.bs x.d
 replace hX := hX.later hb9
 replace bo := bo.later hb9
 replace hr := hr.later hb9
 replace hB0 := hB0.size hb9.size
 replace be := be.trans (hb9.mono be.size)
 clear hb9
 generalize plus V x.bs x.d = V2 at *
 go_upto_region 14 with (fail)
 refine wp_relS 7 81 rfl (by kernel_rfl) (by kernel_rfl) ?_
 apply Steps.o1 (MP.eq _) 1 rfl rfl
 ·intro FA x hO hD K hK
  have e0 := hO 0 (by kernel_rfl)
  simp only [eval_tmp, qgT, qgS, qgZ, qoS] at e0
  have ev0 := Lib.hid ((eval_tmp FA 0).trans e0)
  clear hO hD
  go_simp
  exact hK.out _ _ (Ex.refl _) rfl
 apply Steps.o1 (MP.eq _) 2 rfl rfl
 ·intro FA x hO hD K hK
  obtain ⟨e47, ev47⟩ := qE (hD 0 47 (by kernel_rfl))
  clear hO hD
  go_simp
  exact hK.out _ _ (Ex.refl _) rfl
 apply Steps.o1 (MP.eq _) 3 rfl rfl
 ·intro FA x hO hD K hK
  obtain ⟨e48, ev48⟩ := qE (hD 1 48 (by kernel_rfl))
  clear hO hD
  go_simp
  exact hK.out _ _ (Ex.refl _) rfl
 apply Steps.o1 (MP.eq _) 4 rfl rfl
 ·intro FA x hO hD K hK
  obtain ⟨e49, ev49⟩ := qE (hD 2 49 (by kernel_rfl))
  clear hO hD
  refine wanted_if rfl ?_
  refine wp_ld1 83 (.tmp 49) rfl ev49.out (hX.st.later (below_plus _ _ _)) (stC_vips C hk hb _ n c) Tryd.underlying83 rfl ?_
  exact hK.out _ _ (Ex.refl _) rfl
 apply Steps.o1 (MP.eq _) 5 rfl rfl
 ·intro FA x hO hD K hK
  have e3 := hO 3 (by kernel_rfl)
  simp only [eval_tmp, qgT, qgS, qgZ, qoS] at e3
  have ev3 := Lib.hid ((eval_tmp FA 3).trans e3)
  clear hO hD
  go_simp
  exact hK.out _ _ (Ex.refl _) rfl
 apply Steps.o1 (MP.eq _) 6 rfl rfl
 ·intro FA x hO hD K hK
  obtain ⟨e51, ev51⟩ := qE (hD 4 51 (by kernel_rfl))
  clear hO hD
  refine wanted_if rfl ?_
  refine wp_ld1 3 (.tmp 51) rfl ev51.out (bo.later (below_plus _ _ _)) rfl Tryd.underlying3 rfl ?_
  exact hK.out _ _ (Ex.refl _) rfl
 apply Steps.o1 (MP.eq _) 7 rfl rfl
 ·intro FA x hO hD K hK
  obtain ⟨e50, ev50⟩ := qE (hD 3 50 (by kernel_rfl))
  obtain ⟨e52, ev52⟩ := qE (hD 5 52 (by kernel_rfl))
  clear hO hD
  go_simp
  exact hK.out _ _ (Ex.refl _) rfl
 refine Steps.fin_ (fun vs x hp => ?_)
 have p0 : vs 0 = _ := hp 0 (by omega)
 have p1 : vs 1 = _ := hp 1 (by omega)
 have p2 : vs 2 = _ := hp 2 (by omega)
 have p3 : vs 3 = _ := hp 3 (by omega)
 have p4 : vs 4 = _ := hp 4 (by omega)
 have p5 : vs 5 = _ := hp 5 (by omega)
 have p6 : vs 6 = _ := hp 6 (by omega)
 clear hp
 simp only [List.take_succ_cons, List.take_zero, List.drop_succ_cons, List.drop_zero, putAll, Nat.zero_add, Nat.reduceAdd, Act.put, qsT, qsZ, qsS, p0, p1, p2, p3, p4, p5, p6]
 clear p0 p1 p2 p3 p4 p5 p6
 clear vs
 have hb9 := below_plus V2 x.bs x.d
 replace hX := hX.later hb9
 replace bo := bo.later hb9
 replace hr := hr.later hb9
 replace hB0 := hB0.size hb9.size
 replace be := be.trans (hb9.mono be.size)
 clear hb9
 generalize plus V2 x.bs x.d = V3 at *
 have qk : V3.cell? ⟨w.heap.size, 0, none⟩ = some (.int .i64 k) := bo.cell 0
 by_cases k3 : k = 3
 ·have i3 : (k == 3) = true := by simp [k3]
  have hdo := do_3 C (⟨k, (i : Int), b, e, six, ah, al, pt, pr, wy, ms⟩ : OpR) k3 rfl HVI.out
  have hcs := Lib.hid hdo.1
  have he := Lib.hid hdo.2
  clear hdo
  clear k3
  have HS := Lib.hid (fun w (h : CfX G D w g C (some ⟨bb, 0, none⟩) n c E) h1 h2 => setMembers_any ms B m d C hC g (some ⟨bb, 0, none⟩) n c E w h h1 h2 hm i bb x0 HI0.out rfl)
  go_upto_region 17 with (fail)
  clear qk
  refine wp_region_lit ?_
  iterate 3 (refine wpList_plain rfl (fun K hK => ?_); go_simp; with_reducible refine hK _ _ ?_; clear hK K)
  refine wpList_ld1 (t := 45) (cs := opC k (i : Int) b e six ah al pt pr wy B m d) 43 (.tmp 60) rfl (by rfl) rfl (bo) rfl Tryd.underlying43 rfl ?_
  refine wpList_plain rfl (fun K hK => ?_)
  go_simp
  refine (HS.out _ hX hr hB0).mono ?_
  rintro e w1 ⟨rfl, G2, D2, hM, hgr, hc⟩
  with_reducible refine hK _ _ ?_
  clear hK K
  refine wpList_plain rfl (fun K hK => ?_); go_simp; with_reducible refine hK _ _ ?_; clear hK K
  go_wp2
  go_ret
  rw [hcs.out]
  exact ⟨by rw [he.out]; rfl, G2, D2, hM, hgr.early be.size, (Chg.of_below be).trans hc⟩
 have i3 : (k == 3) = false := by simpa using k3
 by_cases k4 : k = 4
 ·have i4 : (k == 4) = true := by simp [k4]
  have hdo := do_4 C (⟨k, (i : Int), b, e, six, ah, al, pt, pr, wy, ms⟩ : OpR) k4 rfl HVI.out
  have hcs := Lib.hid hdo.1
  have he := Lib.hid hdo.2
  clear hdo
  clear k3 k4
  have HRT := Lib.hid (fun w h => retire_any x0.1.S hok x0.2.T e he63 w h)
  have HQ := Lib.hid (fun W h => HQ0.out V3 W hX h)
  go_upto_region 19 with (fail)
  clear qk
  refine wp_relS 6 81 rfl (by kernel_rfl) (by kernel_rfl) ?_
  apply Steps.o1 (MP.eq _) 1 rfl rfl
  ·intro FA x hO hD K hK
   have e5 := hO 5 (by kernel_rfl)
   simp only [eval_tmp, qgT, qgS, qgZ, qoS] at e5
   have ev5 := Lib.hid ((eval_tmp FA 5).trans e5)
   clear hO hD
   go_simp
   exact hK.out _ _ (Ex.refl _) rfl
  apply Steps.o1 (MP.eq _) 2 rfl rfl
  ·intro FA x hO hD K hK
   obtain ⟨e65, ev65⟩ := qE (hD 0 65 (by kernel_rfl))
   clear hO hD
   go_simp
   exact hK.out _ _ (Ex.refl _) rfl
  apply Steps.o1 (MP.eq _) 3 rfl rfl
  ·intro FA x hO hD K hK
   obtain ⟨e66, ev66⟩ := qE (hD 1 66 (by kernel_rfl))
   clear hO hD
   go_simp
   exact hK.out _ _ (Ex.refl _) rfl
  apply Steps.o1 (MP.eq _) 4 rfl rfl
  ·intro FA x hO hD K hK
   obtain ⟨e67, ev67⟩ := qE (hD 2 67 (by kernel_rfl))
   clear hO hD
   have hq := HQ.out _ (below_plus V3 x.bs x.d)
   go_simp
   exact hK.out _ _ (Ex.refl _) rfl
  apply Steps.o1 (MP.eq _) 5 rfl rfl
  ·intro FA x hO hD K hK
   have e3 := hO 3 (by kernel_rfl)
   simp only [eval_tmp, qgT, qgS, qgZ, qoS] at e3
   have ev3 := Lib.hid ((eval_tmp FA 3).trans e3)
   clear hO hD
   go_simp
   exact hK.out _ _ (Ex.refl _) rfl
  apply Steps.o1 (MP.eq _) 6 rfl rfl
  ·intro FA x hO hD K hK
   obtain ⟨e69, ev69⟩ := qE (hD 4 69 (by kernel_rfl))
   clear hO hD
   refine wanted_if rfl ?_
   refine wp_ld1 3 (.tmp 69) rfl ev69.out (bo.later (below_plus _ _ _)) rfl Tryd.underlying3 rfl ?_
   exact hK.out _ _ (Ex.refl _) rfl
  refine Steps.fin_ (fun vs x hp => ?_)
  have p0 : vs 0 = _ := hp 0 (by omega)
  have p1 : vs 1 = _ := hp 1 (by omega)
  have p2 : vs 2 = _ := hp 2 (by omega)
  have p3 : vs 3 = _ := hp 3 (by omega)
  have p4 : vs 4 = _ := hp 4 (by omega)
  have p5 : vs 5 = _ := hp 5 (by omega)
  clear hp
  simp only [List.take_succ_cons, List.take_zero, List.drop_succ_cons, List.drop_zero, putAll, Nat.zero_add, Nat.reduceAdd, Act.put, qsT, qsZ, qsS, p0, p1, p2, p3, p4, p5]
  clear p0 p1 p2 p3 p4 p5
  clear vs
  have hb9 := below_plus V3 x.bs x.d
  replace hX := hX.later hb9
  replace be := be.trans (hb9.mono be.size)
  clear hb9 HQ hr hB0 bo
  generalize plus V3 x.bs x.d = V5 at *
  refine wpList_plain rfl (fun K hK => ?_)
  go_simp
  refine (HRT.out _ (hX.tb x0 hmem)).mono ?_
  rintro en w1 ⟨rfl, hS2, hc2⟩
  with_reducible refine hK _ _ ?_
  clear hK K
  refine wpList_plain rfl (fun K hK => ?_); go_simp; with_reducible refine hK _ _ ?_; clear hK K
  have X1 := hX.setStk HI0.out hS2 hc2
  have hch : Chg D w w1 := (Chg.of_below be).trans (hc2.wid (fun z hz => by rw [show z = x0.2.T from hz]; exact hX.dt x0 hmem))
  clear hX hS2 hc2 be
  go_wp2
  go_ret
  rw [hcs.out]
  exact ⟨by rw [he.out]; rfl, G, D, ⟨_, _, _, _, X1⟩, Grow.refl _ _ _, hch⟩
 have i4 : (k == 4) = false := by simpa using k4
 by_cases k5 : k = 5
 ·have i5 : (k == 5) = true := by simp [k5]
  have hdo := do_5 C (⟨k, (i : Int), b, e, six, ah, al, pt, pr, wy, ms⟩ : OpR) k5 rfl HVI.out
  have hcs := Lib.hid hdo.1
  have he := Lib.hid hdo.2
  clear hdo
  clear k3 k4 k5
  have HRT := Lib.hid (fun w h => release_any x0.1.S hok x0.2.T e he63 w h)
  have HQ := Lib.hid (fun W h => HQ0.out V3 W hX h)
  go_upto_region 21 with (fail)
  clear qk
  refine wp_relS 6 81 rfl (by kernel_rfl) (by kernel_rfl) ?_
  apply Steps.o1 (MP.eq _) 1 rfl rfl
  ·intro FA x hO hD K hK
   have e5 := hO 5 (by kernel_rfl)
   simp only [eval_tmp, qgT, qgS, qgZ, qoS] at e5
   have ev5 := Lib.hid ((eval_tmp FA 5).trans e5)
   clear hO hD
   go_simp
   exact hK.out _ _ (Ex.refl _) rfl
  apply Steps.o1 (MP.eq _) 2 rfl rfl
  ·intro FA x hO hD K hK
   obtain ⟨e74, ev74⟩ := qE (hD 0 74 (by kernel_rfl))
   clear hO hD
   go_simp
   exact hK.out _ _ (Ex.refl _) rfl
  apply Steps.o1 (MP.eq _) 3 rfl rfl
  ·intro FA x hO hD K hK
   obtain ⟨e75, ev75⟩ := qE (hD 1 75 (by kernel_rfl))
   clear hO hD
   go_simp
   exact hK.out _ _ (Ex.refl _) rfl
  apply Steps.o1 (MP.eq _) 4 rfl rfl
  ·intro FA x hO hD K hK
   obtain ⟨e76, ev76⟩ := qE (hD 2 76 (by kernel_rfl))
   clear hO hD
   have hq := HQ.out _ (below_plus V3 x.bs x.d)
   go_simp
   exact hK.out _ _ (Ex.refl _) rfl
  apply Steps.o1 (MP.eq _) 5 rfl rfl
  ·intro FA x hO hD K hK
   have e3 := hO 3 (by kernel_rfl)
   simp only [eval_tmp, qgT, qgS, qgZ, qoS] at e3
   have ev3 := Lib.hid ((eval_tmp FA 3).trans e3)
   clear hO hD
   go_simp
   exact hK.out _ _ (Ex.refl _) rfl
  apply Steps.o1 (MP.eq _) 6 rfl rfl
  ·intro FA x hO hD K hK
   obtain ⟨e78, ev78⟩ := qE (hD 4 78 (by kernel_rfl))
   clear hO hD
   refine wanted_if rfl ?_
   refine wp_ld1 3 (.tmp 78) rfl ev78.out (bo.later (below_plus _ _ _)) rfl Tryd.underlying3 rfl ?_
   exact hK.out _ _ (Ex.refl _) rfl
  refine Steps.fin_ (fun vs x hp => ?_)
  have p0 : vs 0 = _ := hp 0 (by omega)
  have p1 : vs 1 = _ := hp 1 (by omega)
  have p2 : vs 2 = _ := hp 2 (by omega)
  have p3 : vs 3 = _ := hp 3 (by omega)
  have p4 : vs 4 = _ := hp 4 (by omega)
  have p5 : vs 5 = _ := hp 5 (by omega)
  clear hp
  simp only [List.take_succ_cons, List.take_zero, List.drop_succ_cons, List.drop_zero, putAll, Nat.zero_add, Nat.reduceAdd, Act.put, qsT, qsZ, qsS, p0, p1, p2, p3, p4, p5]
  clear p0 p1 p2 p3 p4 p5
  clear vs
  have hb9 := below_plus V3 x.bs x.d
  replace hX := hX.later hb9
  replace be := be.trans (hb9.mono be.size)
  clear hb9 HQ hr hB0 bo
  generalize plus V3 x.bs x.d = V5 at *
  refine wpList_plain rfl (fun K hK => ?_)
  go_simp
  refine (HRT.out _ (hX.tb x0 hmem)).mono ?_
  rintro en w1 ⟨rfl, hS2, hc2⟩
  with_reducible refine hK _ _ ?_
  clear hK K
  refine wpList_plain rfl (fun K hK => ?_); go_simp; with_reducible refine hK _ _ ?_; clear hK K
  have X1 := hX.setStk HI0.out hS2 hc2
  have hch : Chg D w w1 := (Chg.of_below be).trans (hc2.wid (fun z hz => by rw [show z = x0.2.T from hz]; exact hX.dt x0 hmem))
  clear hX hS2 hc2 be
  go_wp2
  go_ret
  rw [hcs.out]
  exact ⟨by rw [he.out]; rfl, G, D, ⟨_, _, _, _, X1⟩, Grow.refl _ _ _, hch⟩
 have i5 : (k == 5) = false := by simpa using k5
 have hdo := do_x C (⟨k, (i : Int), b, e, six, ah, al, pt, pr, wy, ms⟩ : OpR) HK.out.1 HK.out.2.1 HK.out.2.2.1 HK.out.2.2.2.1 HK.out.2.2.2.2 k3 k4 k5 rfl HVI.out
 have hcs := Lib.hid hdo.1
 have he := Lib.hid hdo.2
 clear hdo
 clear k3 k4 k5
 go_wp2
 go_ret
 rw [hcs.out]
 exact ⟨by rw [he.out]; rfl, G, D, ⟨_, _, _, _, hX⟩, Grow.refl _ _ _, Chg.of_below be⟩
theorem apply_any {G D : Nat → Prop} (k v b e : Int) (six : Bool) (ah al pt pr : Nat) (wy : Int) (ms : List (Int × Int)) (B : Option Addr) (m d : Nat) (C : Cf) (hC : CfOk C) (g : Nat) (A : Option Addr) (n c : Nat) (E : List Ve) (w : World) (hX : CfX G D w g C A n c E) (ho : OpOk (⟨k, v, b, e, six, ah, al, pt, pr, wy, ms⟩ : OpR)) (hr : Rs 2 w B m d (prs .i64 ms)) (hB0 : Off G w B) (hm : m ≤ 1000000) : Calls Tryd.prog 7 #[.pointer (some ⟨g, 0, none⟩), .agg (opC k v b e six ah al pt pr wy B m d).toArray] w (RetCf G D w g (apC C (⟨k, v, b, e, six, ah, al, pt, pr, wy, ms⟩ : OpR)) (.int .i64 (chE C (⟨k, v, b, e, six, ah, al, pt, pr, wy, ms⟩ : OpR) : Nat))) := by
 obtain ⟨da, va1, va2⟩ := rowAdC
 obtain ⟨do1, vo1, vo2⟩ := rowOpC
 have HC := Lib.hid (fun w (h : CfX G D w g C A n c E) h1 h2 => change_any k v b e six ah al pt pr wy ms B m d C hC g A n c E w h ho h1 h2 hm)
 have HDG := Lib.hid hX.dg
 have had := Lib.hid (apC_do C (⟨k, v, b, e, six, ah, al, pt, pr, wy, ms⟩ : OpR))
 have hdo := doC_ok hC ho
 obtain ⟨bo, be, zV⟩ := box1 w 45 (opC k v b e six ah al pt pr wy B m d)
 go_enter Tryd.func7, Tryd.ntmps7
 go_upto_region 1 with (fail)
 generalize w.alloc (.cells (opC k v b e six ah al pt pr wy B m d).toArray 45) = V at *
 replace hX := hX.later be
 replace hr := hr.later be
 replace hB0 := hB0.size be.size
 go_upto_region 3 with (fail)
 refine wp_region_lit ?_
 refine wpList_plain rfl (fun K hK => ?_); go_simp; with_reducible refine hK _ _ ?_; clear hK K
 refine wpList_ldA (t := 45) 45 (.tmp 3) rfl rfl (opC k v b e six ah al pt pr wy B m d) rfl (bo) (whole_ _) vo1 vo2 (szOp k v b e six ah al pt pr wy B m d) ?_
 refine wpList_plain rfl (fun K hK => ?_)
 go_simp
 refine (HC.out _ hX hr hB0).mono ?_
 rintro e w1 ⟨rfl, G2, D2, hM, hgr, hc⟩
 with_reducible refine hK _ _ ?_
 clear hK K
 refine wpList_plain rfl (fun K hK => ?_); go_simp; with_reducible refine hK _ _ ?_; clear hK K
 obtain ⟨A2, n2, c2, E2, hX2⟩ := hM
 have hk := hdo.key
 have hb := hdo.bl
 generalize doC C (⟨k, v, b, e, six, ah, al, pt, pr, wy, ms⟩ : OpR) = C2 at *
 have hch : Chg D w w1 := (Chg.of_below be).trans hc
 have hgr2 := hgr.early be.size
 have HX := Lib.hid hX2
 have hnum : C2.num < 18446744073709551616 := hdo.num
 have hq0 : w1.cell? ⟨g, 0, none⟩ = some (.int .u64 (C2.num : Int)) := hX2.st.cell 0
 obtain ⟨ec, hec⟩ : ∃ ec, chE C (⟨k, v, b, e, six, ah, al, pt, pr, wy, ms⟩ : OpR) = ec := ⟨_, rfl⟩
 rw [hec] at had ⊢
 have HEC := Lib.hid hec
 clear hec hX hr hB0 bo hc hgr be hX2
 by_cases h0 : ec = 0
 ·have ha : apC C (⟨k, v, b, e, six, ah, al, pt, pr, wy, ms⟩ : OpR) = upN C2 := by rw [had.out, if_pos h0]
  have HA := Lib.hid ha
  subst h0
  have hw : IntKind.u64.wrap ((C2.num : Int) + 1) = (((C2.num + 1) % 18446744073709551616 : Nat) : Int) := by rw [IntKind.wrap_u64]; omega
  clear ha had
  go_upto_region 5 with (fail)
  refine wp_region_lit ?_
  iterate 7 (refine wpList_plain rfl (fun K hK => ?_); go_simp; with_reducible refine hK _ _ ?_; clear hK K)
  refine wpList_st1 (t := 85) (off := 0) 27 (.tmp 19) (.tmp 17) rfl rfl rfl rfl HX.out.st (by rw [stC_len C2 hk hb]; omega) rfl (by kernel_rfl) ?_
  intro W4 h4 g4
  simp only [Act.put, qsT, qsZ, qsS]
  have hX3 := HX.out.setSt (C' := upN C2) rfl h4 g4
  have hch2 := hch.trans (Chg.one g4 (D := D) HDG.out)
  go_wp2
  go_ret
  rw [HA.out]
  exact ⟨by rw [HEC.out]; rfl, G2, D2, ⟨_, _, _, _, hX3⟩, hgr2, hch2⟩
 ·have ha : apC C (⟨k, v, b, e, six, ah, al, pt, pr, wy, ms⟩ : OpR) = C2 := by rw [had.out, if_neg h0]
  have HA := Lib.hid ha
  have h0i : ((ec : Int) == 0) = false := by simp [h0]
  clear ha had h0
  go_wp2
  go_ret
  rw [HA.out]
  exact ⟨by rw [HEC.out]; rfl, G2, D2, ⟨_, _, _, _, HX.out⟩, hgr2, hch⟩
end

section
open Go.RowKit
attribute [local go_sem ↓] sliced_cut
attribute [local go_sem] cutA_zero
set_option maxHeartbeats 4000000 in
set_option maxRecDepth 100000 in
theorem run_buildSt (key : List UInt8) (hk : key.length = 16) (w : World) : (Instr.build 85 #[(1, .agg (ringC key 0).toArray)]).run Tryd.prog w = .ok (.agg (stC (cf0 key) none 0 0).toArray) w := by
 refine run_build_struct (fields := Tryd.prog.fieldsOf 85) (zero := stC (cf0 (List.replicate 16 0)) none 0 0) (places := #[(0, 1), (1, 17), (18, 260), (278, 1)]) (parts := [(1, .agg (ringC key 0).toArray)]) (by kernel_rfl) (by kernel_rfl) (by kernel_rfl) ?_
 have hl : (ringC key 0).length = 17 := by simp [ringC, bcs_length, hk]
 rw [fill_cons _ _ 1 _ _ 1 17 (ringC key 0) rfl rfl hl (by rw [stC_len _ (by simp [cf0]) (by simp [cf0])]; omega), fill_nil]
 congr 2
 have e : stC (cf0 (List.replicate 16 0)) none 0 0 = .int .u64 0 :: (ringC (List.replicate 16 0) 0 ++ ((List.replicate 65 none).flatMap bkC ++ [.slice none 0 0])) := rfl
 have e2 : stC (cf0 key) none 0 0 = .int .u64 0 :: (ringC key 0 ++ ((List.replicate 65 none).flatMap bkC ++ [.slice none 0 0])) := rfl
 rw [e, e2]
 have hl0 : (ringC (List.replicate 16 0) 0).length = 17 := by simp [ringC, bcs_length]
 generalize ringC (List.replicate 16 0) 0 = R0 at *
 generalize ((List.replicate 65 none).flatMap bkC ++ [Value.slice none 0 0]) = T0
 have h1 := splice_cons (.int .u64 0) (R0 ++ T0) (ringC key 0) 0
 rw [Nat.add_zero] at h1
 rw [h1]
 congr 1
 unfold splice
 rw [List.take_zero, List.nil_append, Nat.zero_add, hl, ← hl0, List.drop_left]
set_option maxHeartbeats 4000000 in
set_option maxRecDepth 100000 in
theorem new_any (key : List UInt8) (hk : key.length = 16) (w : World) : Calls Tryd.prog 14 #[.agg (bcs key).toArray] w fun e w' => ∃ g, e = .returned (.pointer (some ⟨g, 0, none⟩)) ∧ w.heap.size ≤ g ∧ Below w.heap.size w w' ∧ Bk w' g 85 (stC (cf0 key) none 0 0) := by
 obtain ⟨dk, u1, u2, u3⟩ := rowKey
 have HR := Lib.hid (fun w => ringNew_any key hk 0 w)
 have bk : Bk (w.alloc (.cells (bcs key).toArray 77)) w.heap.size 77 (bcs key) := Bk.new w 77 (bcs key).toArray
 have be : Below w.heap.size w (w.alloc (.cells (bcs key).toArray 77)) := Below.allocS (Below.refl _ _) _
 go_enter Tryd.func14, Tryd.ntmps14
 go_upto_region 1 with (fail)
 generalize w.alloc (.cells (bcs key).toArray 77) = V at *
 refine wp_region_lit ?_
 refine wpList_ldA (t := 77) 77 (.tmp 1) rfl rfl (bcs key) rfl bk (bcs_whole key) u1 u2 (szKey key hk) ?_
 refine wpList_plain rfl (fun K hK => ?_)
 go_simp
 refine (HR.out _).mono ?_
 rintro en w1 ⟨bs1, d1, rfl, rfl⟩
 with_reducible refine hK _ _ ?_
 clear hK K
 replace be := be.trans ((below_plus V bs1 d1).mono be.size)
 generalize plus V bs1 d1 = V1 at *
 refine wpList_build 85 [(1, .tmp 4)] rfl rfl (.agg (stC (cf0 key) none 0 0).toArray) (run_buildSt key hk _) ?_
 iterate 2 (refine wpList_plain rfl (fun K hK => ?_); go_simp; with_reducible refine hK _ _ ?_; clear hK K)
 go_wp2
 go_ret
 exact ⟨V1.heap.size, rfl, be.size, Below.allocS be _, Bk.new _ _ _⟩
theorem cf0_X {G : Nat → Prop} {w : World} {g : Nat} {key : List UInt8} (h : Bk w g 85 (stC (cf0 key) none 0 0)) (hG : ∀ b, G b → b < w.heap.size) : CfX (fun b => G b ∨ b = g) (fun b => b = g) w g (cf0 key) none 0 0 [] :=
 ⟨rfl, h, Os.nil_, (fun k hk => by cases hk), rfl, (fun x hx => by cases hx), (fun x hx => by cases hx), (fun x hx => by cases hx), (fun x hx => by cases hx), List.nodup_nil, (fun b hb => Or.inr hb), (fun b hb => hb.elim (hG b) (fun e => by rw [e]; exact h.lt))⟩
def clV (x : Ve) : Ve := (x.1, ⟨x.2.A, x.2.n, x.2.n, x.2.T⟩)
def veZ : List Value := [.bool false, .int .u64 0, .int .u64 0, .int .u16 0, .int .u8 0, .int .i64 0, .slice none 0 0, .pointer none]
theorem veZ_one : ∀ u ∈ veZ, u.oneCell' = true := by simp [veZ, Value.oneCell']
theorem clip_any (A : Option Addr) (n c : Nat) (w : World) (h : n ≤ c) : Calls Tryd.prog 20 #[.slice A n c] w fun e w' => e = .returned (.slice A n n) ∧ w = w' := by
 go_enter Tryd.func20, Tryd.ntmps20
 go_wp2
 go_ret
 simp
set_option maxHeartbeats 4000000 in
set_option maxRecDepth 100000 in
theorem vip_any {G D : Nat → Prop} (C : Cf) (hk : C.key.length = 16) (hb : C.bk.length = 65) (g : Nat) (A : Option Addr) (n c : Nat) (E : List Ve) (i : Nat) (x0 : Ve) (w : World) (hX : CfX G D w g C A n c E) (hi : E[i]? = some x0) : Calls Tryd.prog 10 #[.pointer (some ⟨g, 0, none⟩), .int .i64 (i : Int)] w (RetV w (.tuple #[.agg (veC (clV x0)).toArray, .bool true])) := by
 obtain ⟨dv1, vv1, vv2⟩ := rowVe
 have hil := (List.getElem?_eq_some_iff.1 hi).1
 have hxi : E[i] = x0 := (List.getElem?_eq_some_iff.1 hi).2
 have hin : i < n := by have := hX.len; have := hX.n_; omega
 have hii : ¬ (i : Int) < 0 := by omega
 have hii2 : ¬ (n : Int) ≤ (i : Int) := by omega
 have hii3 : (i : Int) < (n : Int) := by omega
 have hx0n := (hX.mm x0 (List.mem_of_getElem? hi)).2.1
 have be : Below w.heap.size w (w.alloc (.cells #[.bool false, .int .u64 0, .int .u64 0, .int .u16 0, .int .u8 0, .int .i64 0, .slice none 0 0, .pointer none] 53)) := Below.allocS (Below.refl _ _) _
 have b2 : Bk (w.alloc (.cells #[.bool false, .int .u64 0, .int .u64 0, .int .u16 0, .int .u8 0, .int .i64 0, .slice none 0 0, .pointer none] 53)) w.heap.size 53 veZ := Bk.new w 53 #[.bool false, .int .u64 0, .int .u64 0, .int .u16 0, .int .u8 0, .int .i64 0, .slice none 0 0, .pointer none]
 replace hX := hX.later be
 have zV : w.heap.size + 1 ≤ (w.alloc (.cells #[.bool false, .int .u64 0, .int .u64 0, .int .u16 0, .int .u8 0, .int .i64 0, .slice none 0 0, .pointer none] 53)).heap.size := by simp
 have q0 : (w.alloc (.cells #[.bool false, .int .u64 0, .int .u64 0, .int .u16 0, .int .u8 0, .int .i64 0, .slice none 0 0, .pointer none] 53)).cell? ⟨g, 278, none⟩ = some (.slice A n c) := (hX.st.cell 278).trans (stC_vips C hk hb A n c)
 have HL := Lib.hid (fun w h => cfgLen_any C hk hb A n c g w h)
 obtain ⟨bb, cur, rfl, hob, -⟩ := hX.row.bk (show 0 < n by omega)
 have hrg : (w.alloc (.cells #[.bool false, .int .u64 0, .int .u64 0, .int .u16 0, .int .u8 0, .int .i64 0, .slice none 0 0, .pointer none] 53)).rangeAt bb (i * 8) (veC x0) := by
  have := hX.row.rs.rangeE veC_len i hil
  rwa [Nat.zero_add, hxi] at this
 clear hi hil hxi hin hob
 go_enter Tryd.func10, Tryd.ntmps10
 go_upto_region 3 with (go_at_call 19; refine (HL.out _ hX.st).mono ?_; rintro e w1 ⟨rfl, rfl⟩)
 generalize w.alloc (.cells #[.bool false, .int .u64 0, .int .u64 0, .int .u16 0, .int .u8 0, .int .i64 0, .slice none 0 0, .pointer none] 53) = V at *
 refine wp_region_lit ?_
 iterate 6 (refine wpList_plain rfl (fun K hK => ?_); go_simp; with_reducible refine hK _ _ ?_; clear hK K)
 refine wpList_load_mid rfl 53 (.tmp 21) rfl bb (i * 8) rfl (veC x0) _ hrg vv1 vv2 (szVe _) ?_
 refine wpList_plain rfl (fun K hK => ?_); go_simp; with_reducible refine hK _ _ ?_; clear hK K
 refine wpList_stA (t := 53) 53 (.tmp 6) (.tmp 22) rfl rfl (veC x0) veZ rfl (veC_one _) rfl rfl (Bk.new _ _ _) (szVe _) ?_
 intro W4 h4 g4
 simp only [Act.put, qsT, qsZ, qsS]
 have b4 : Below V.heap.size V W4 := below_grown (Below.allocS (Below.refl _ _) _) g4 (Nat.le_refl _)
 replace b2 := b2.later b4
 replace be := be.trans (b4.mono be.size)
 replace h4 : Bk W4 V.heap.size 53 (veC x0) := h4
 have q6 : W4.cell? ⟨V.heap.size, 6, none⟩ = some (.slice x0.2.A x0.2.n x0.2.c) := h4.cell 6
 have hzv : w.heap.size < V.heap.size := by omega
 clear b4 g4 hX q0 HL hrg
 generalize V.heap.size = gv at *
 go_upto_region 4 with (fail)
 refine wp_region_lit ?_
 iterate 2 (refine wpList_plain rfl (fun K hK => ?_); go_simp; with_reducible refine hK _ _ ?_; clear hK K)
 refine wpList_plain rfl (fun K hK => ?_)
 go_simp
 refine (clip_any _ _ _ _ hx0n).mono ?_
 rintro e w1 ⟨rfl, rfl⟩
 with_reducible refine hK _ _ ?_
 clear hK K
 refine wpList_plain rfl (fun K hK => ?_); go_simp; with_reducible refine hK _ _ ?_; clear hK K
 refine wpList_st1 (t := 53) (cs := veC x0) (off := 6) (v := .slice x0.2.A x0.2.n x0.2.n) 43 (.tmp 26) (.tmp 25) rfl rfl rfl rfl h4 (by rw [veC_len]; decide) rfl (by kernel_rfl) ?_
 intro W5 h5 g5
 simp only [Act.put, qsT, qsZ, qsS]
 replace h5 : Bk W5 gv 53 (veC (clV x0)) := h5
 replace b2 := b2.grown g5 (fun e => by injection e with e; omega)
 replace be := below_grown be g5 (by omega)
 clear h4 g5 q6
 go_upto_region 5 with (fail)
 refine wp_region_lit ?_
 refine wpList_ldA (t := 53) 53 (.tmp 6) rfl rfl (veC (clV x0)) rfl h5 rfl vv1 vv2 (szVe _) ?_
 simp only [Act.put, qsT, qsZ, qsS]
 refine wpList_stA (t := 53) 53 (.tmp 4) (.tmp 27) rfl rfl (veC (clV x0)) veZ rfl (veC_one _) rfl rfl b2 (szVe _) ?_
 intro W6 h6 g6
 refine wpList_plain rfl (fun K hK => ?_); go_simp; with_reducible refine hK _ _ ?_; clear hK K
 go_wp2
 refine bodyPost_agg2 Tryd.results10 rfl rfl h6.range vv1 vv2 (szVe _) rfl (RetV.mk ?_)
 exact below_grown be g6 (by omega)
set_option maxHeartbeats 4000000 in
set_option maxRecDepth 100000 in
theorem vip_no {G D : Nat → Prop} (C : Cf) (hk : C.key.length = 16) (hb : C.bk.length = 65) (g : Nat) (A : Option Addr) (n c : Nat) (E : List Ve) (i : Nat) (w : World) (hX : CfX G D w g C A n c E) (hi : n ≤ i) : Calls Tryd.prog 10 #[.pointer (some ⟨g, 0, none⟩), .int .i64 (i : Int)] w (RetV w (.tuple #[.agg veZ.toArray, .bool false])) := by
 obtain ⟨dv1, vv1, vv2⟩ := rowVe
 have hii : ¬ (i : Int) < 0 := by omega
 have hii2 : (n : Int) ≤ (i : Int) := by omega
 have be : Below w.heap.size w (w.alloc (.cells #[.bool false, .int .u64 0, .int .u64 0, .int .u16 0, .int .u8 0, .int .i64 0, .slice none 0 0, .pointer none] 53)) := Below.allocS (Below.refl _ _) _
 have b2 : Bk (w.alloc (.cells #[.bool false, .int .u64 0, .int .u64 0, .int .u16 0, .int .u8 0, .int .i64 0, .slice none 0 0, .pointer none] 53)) w.heap.size 53 veZ := Bk.new w 53 #[.bool false, .int .u64 0, .int .u64 0, .int .u16 0, .int .u8 0, .int .i64 0, .slice none 0 0, .pointer none]
 replace hX := hX.later be
 have zV : w.heap.size + 1 ≤ (w.alloc (.cells #[.bool false, .int .u64 0, .int .u64 0, .int .u16 0, .int .u8 0, .int .i64 0, .slice none 0 0, .pointer none] 53)).heap.size := by simp
 have q0 : (w.alloc (.cells #[.bool false, .int .u64 0, .int .u64 0, .int .u16 0, .int .u8 0, .int .i64 0, .slice none 0 0, .pointer none] 53)).cell? ⟨g, 278, none⟩ = some (.slice A n c) := (hX.st.cell 278).trans (stC_vips C hk hb A n c)
 have HL := Lib.hid (fun w h => cfgLen_any C hk hb A n c g w h)
 go_enter Tryd.func10, Tryd.ntmps10
 go_upto_region 2 with (go_at_call 19; refine (HL.out _ hX.st).mono ?_; rintro e w1 ⟨rfl, rfl⟩)
 generalize w.alloc (.cells #[.bool false, .int .u64 0, .int .u64 0, .int .u16 0, .int .u8 0, .int .i64 0, .slice none 0 0, .pointer none] 53) = V at *
 refine wp_region_lit ?_
 refine wpList_build 53 [] rfl rfl (.agg veZ.toArray) (by kernel_rfl) ?_
 simp only [Act.put, qsT, qsZ, qsS]
 refine wpList_stA (t := 53) 53 (.tmp 4) (.tmp 15) rfl rfl veZ veZ rfl veZ_one rfl rfl b2 (by kernel_rfl) ?_
 intro W4 h4 g4
 refine wpList_plain rfl (fun K hK => ?_); go_simp; with_reducible refine hK _ _ ?_; clear hK K
 go_wp2
 refine bodyPost_agg2 Tryd.results10 rfl rfl h4.range vv1 vv2 (by kernel_rfl) rfl (RetV.mk ?_)
 exact below_grown be g4 (by omega)
set_option maxHeartbeats 4000000 in
set_option maxRecDepth 100000 in
theorem copy_any (S : Stk) (T : Nat) (w : World) (hS : Bk w T 102 (stkC S)) : Calls Tryd.prog 24 #[.pointer (some ⟨T, 0, none⟩)] w fun e w' => ∃ T2, e = .returned (.pointer (some ⟨T2, 0, none⟩)) ∧ w.heap.size ≤ T2 ∧ Below w.heap.size w w' ∧ Bk w' T2 102 (stkC S) := by
 obtain ⟨dk, vk1, vk2⟩ := rowStk
 have hzs : ∀ w, (zeroValue 102).run Tryd.prog w = .ok (.agg (stkC stk0).toArray) w := fun _ => by kernel_rfl
 go_enter Tryd.func24, Tryd.ntmps24
 go_upto_region 3 with (fail)
 refine wp_region_lit ?_
 iterate 2 (refine wpList_plain rfl (fun K hK => ?_); go_simp; with_reducible refine hK _ _ ?_; clear hK K)
 refine wpList_ldA (t := 102) 102 (.tmp 7) rfl rfl (stkC S) rfl hS (whole_ _) vk1 vk2 (szStk S) ?_
 refine wpList_plain rfl (fun K hK => ?_); go_simp; with_reducible refine hK _ _ ?_; clear hK K
 refine wpList_stA (t := 102) 102 (.tmp 3) (.tmp 8) rfl rfl (stkC S) (stkC stk0) (by rw [stkC_len, stkC_len]) (stkC_one S) rfl rfl (Bk.new _ _ _) (szStk S) ?_
 intro W4 h4 g4
 simp only [Act.put, qsT, qsZ, qsS]
 go_wp2
 go_ret
 exact ⟨w.heap.size, rfl, Nat.le_refl _, below_grown (Below.allocS (Below.refl _ _) _) g4 (Nat.le_refl _), h4⟩
section
variable {G D : Nat → Prop} {w w' : World} {g : Nat} {C : Cf} {A : Option Addr} {n c : Nat} {E : List Ve}
theorem CfX.setRowT (h : CfX G D w g C A n c E) {i : Nat} {x : Ve} (hi : E[i]? = some x) {b0 : Nat} {cur : List Value} (hA : A = some ⟨b0, 0, none⟩) (hB : Bk w b0 53 cur) {T : Nat} {S : Stk} (hT : Bk w T 102 (stkC S)) (hTG : G T) (hTD : ¬ D T)
  (hg : w.grownBy w' (some b0)) (hb : Bk w' b0 53 (cur.set (i * 8 + 7) (.pointer (some ⟨T, 0, none⟩)))) : CfX G (fun b => D b ∨ b = T) w' g { C with vs := C.vs.set i { x.1 with S := S } } A n c (E.set i ({ x.1 with S := S }, { x.2 with T := T })) := by
 have hx := List.mem_of_getElem? hi
 have hil := (List.getElem?_eq_some_iff.1 hi).1
 have hxi : E[i] = x := (List.getElem?_eq_some_iff.1 hi).2
 have hn0 : 0 < n := by have := h.len; have := h.n_; omega
 obtain ⟨b1, cur1, hA1, hob, hB1, hl, ht, hnc, hcm⟩ := h.row.bk hn0
 have e1 : b1 = b0 := by rw [hA] at hA1; injection hA1 with hA1; injection hA1 with hA1; exact hA1.symm
 subst e1
 obtain rfl := hB1.same hB
 have hD := h.dr _ hob
 have hG := h.sub _ hD
 have hc : Chg (fun b => b = b1) w w' := Chg.one hg rfl
 have mem : ∀ z ∈ E.set i (({ x.1 with S := S } : Vp), { x.2 with T := T }), z = ({ x.1 with S := S }, { x.2 with T := T }) ∨ (∃ j, ∃ hj : j < E.length, j ≠ i ∧ z = E[j]) := by
  intro z hz
  obtain ⟨k, hk, rfl⟩ := List.mem_iff_getElem.1 hz
  rw [List.length_set] at hk
  rw [List.getElem_set]
  split
  ·exact .inl rfl
  ·rename_i hne
   exact .inr ⟨k, hk, fun e => hne e.symm, rfl⟩
 refine ⟨?_, h.st.chg hc (fun e => hB1.apart h.st (by decide) e.symm), ?_, fun k hk => .inl (h.dr k hk), .inl h.dg, ?_, ?_, ?_, ?_, ?_, ?_, fun b hb' => Nat.lt_of_lt_of_le (h.lt b hb') hc.size⟩
 ·show _ = C.vs.set i _
  rw [List.map_set, h.vs]
 ·subst hA
  refine Os.of_bk hb (by rw [List.length_set]; exact hl) ?_ hnc hcm (by rw [flat_len veC 8 veC_len, List.length_set]; have := h.len; have := h.n_; omega)
  rw [List.take_set, ht, flat_set veC 8 veC_len E i hil ({ x.1 with S := S }, { x.2 with T := T }) 7 (.pointer (some ⟨T, 0, none⟩)) (by decide) (by rw [hxi]; rfl)]
 ·intro z hz
  rcases mem z hz with rfl | ⟨k, hk, _, rfl⟩
  ·exact hT.chg hc (fun e => hB1.apart hT (by decide) e.symm)
  ·exact (h.tb _ (List.getElem_mem hk)).chg hc (fun e => hB1.apart (h.tb _ (List.getElem_mem hk)) (by decide) e.symm)
 ·intro z hz
  rcases mem z hz with rfl | ⟨k, hk, _, rfl⟩
  ·exact .inr rfl
  ·exact .inl (h.dt _ (List.getElem_mem hk))
 ·intro z hz
  have hk : ∀ z ∈ E, Rs 2 w' z.2.A z.2.n z.2.c (prs .i64 z.1.ms) := fun z hz => (h.mm z hz).chg hc (fun a ha e => (h.mo z hz a ha).2 (by rw [e]; exact hG))
  rcases mem z hz with rfl | ⟨k, hk2, _, rfl⟩
  ·exact hk x hx
  ·exact hk _ (List.getElem_mem hk2)
 ·intro z hz
  rcases mem z hz with rfl | ⟨k, hk, _, rfl⟩
  ·exact (h.mo x hx).size hc.size
  ·exact (h.mo _ (List.getElem_mem hk)).size hc.size
 ·rw [List.map_set, List.nodup_iff_pairwise_ne, List.pairwise_iff_getElem]
  intro a b ha hb hab
  simp only [List.length_set, List.length_map] at ha hb
  rw [List.getElem_set, List.getElem_set]
  have hne : ∀ (j : Nat) (hj : j < E.length), E[j].2.T ≠ T := fun j hj e => hTD (e ▸ h.dt _ (List.getElem_mem hj))
  split
  ·rw [if_neg (by omega), List.getElem_map]
   exact fun e => hne b hb e.symm
  ·split
   ·rw [List.getElem_map]
    exact hne a ha
   ·rw [List.getElem_map, List.getElem_map]
    exact fun e => by have := nodup_at h.nd ha hb e; omega
 ·rintro b (k | k)
  ·exact h.sub b k
  ·subst k; exact hTG
end
theorem restoreNo_any (l : Option Addr) (m d : Nat) (t : Option Addr) (w : World) : Calls Tryd.prog 11 #[.pointer none, .slice l m d, .pointer t] w fun e w' => e = .returned (.int .i64 6) ∧ w = w' := by
 have HL := Lib.hid cfgLenNil_any
 go_enter Tryd.func11, Tryd.ntmps11
 go_wp2_with (go_at_call 19; refine (HL.out _).mono ?_; rintro e w1 ⟨rfl, rfl⟩)
 go_ret
 exact ⟨rfl, rfl⟩
theorem restoreNil_any {G D : Nat → Prop} (C : Cf) (hC : CfOk C) (g : Nat) (A : Option Addr) (n c : Nat) (E : List Ve) (B : Option Addr) (m d : Nat) (w : World) (hX : CfX G D w g C A n c E) : Calls Tryd.prog 11 #[.pointer (some ⟨g, 0, none⟩), .slice B m d, .pointer none] w fun e w' => e = .returned (.int .i64 (if C.vs.length = 0 then 6 else 1)) ∧ w = w' := by
 have HL := Lib.hid (fun w h => cfgLen_any C hC.key hC.bl A n c g w h)
 have hn := hX.n_
 by_cases h0 : C.vs.length = 0
 ·rw [if_pos h0]
  have hn0 : n = 0 := by omega
  subst hn0
  clear hn h0
  go_enter Tryd.func11, Tryd.ntmps11
  go_wp2_with (go_at_call 19; refine (HL.out _ hX.st).mono ?_; rintro e w1 ⟨rfl, rfl⟩)
  go_ret
  exact ⟨rfl, rfl⟩
 ·rw [if_neg h0]
  have hn0 : ((n : Int) == 0) = false := by simp; omega
  clear hn h0
  go_enter Tryd.func11, Tryd.ntmps11
  go_wp2_with (go_at_call 19; refine (HL.out _ hX.st).mono ?_; rintro e w1 ⟨rfl, rfl⟩)
  go_ret
  exact ⟨rfl, rfl⟩
def resK (C : Cf) (S : Stk) (i : Nat) : Bool := (!deadS S ((i + 1 : Nat) : Int) || knC C ((i + 1 : Nat) : Int)) && (decide (C.vs.length ≤ 1) || (deadS S ((i + 1 : Nat) : Int) == hasB (ev0 C) ((i + 1 : Nat) : Int) 1 64))
theorem resE_some (C : Cf) (ms : List (Int × Int)) (S : Stk) (h : ¬ C.vs.length = 0) : resE C ms (some S) = if okM C ms && (List.range 64).all (resK C S) then 0 else 1 := by
 unfold resE
 rw [if_neg h]
 rfl
theorem resK_m (C : Cf) (S : Stk) (m : Nat) (h1 : 1 ≤ m) : resK C S (m - 1) = ((!deadS S (m : Int) || knC C (m : Int)) && (decide (C.vs.length ≤ 1) || (deadS S (m : Int) == hasB (ev0 C) (m : Int) 1 64))) := by
 obtain ⟨k, rfl⟩ : ∃ k, m = k + 1 := ⟨m - 1, by omega⟩
 rfl
def rsvS (C : Cf) (ms : List (Int × Int)) (S : Stk) : Cf := if resE C ms (some S) = 0 then resC C ms S else C
set_option maxHeartbeats 4000000 in
set_option maxRecDepth 100000 in
theorem restore_any {G D : Nat → Prop} (ms : List (Int × Int)) (B : Option Addr) (m d : Nat) (S : Stk) (hSo : StkOk S) (T : Nat) (C : Cf) (hC : CfOk C) (g : Nat) (A : Option Addr) (n c : Nat) (E : List Ve) (w : World) (hX : CfX G D w g C A n c E) (hr : Rs 2 w B m d (prs .i64 ms)) (hm : m ≤ 1000000) (hT : Bk w T 102 (stkC S)) : Calls Tryd.prog 11 #[.pointer (some ⟨g, 0, none⟩), .slice B m d, .pointer (some ⟨T, 0, none⟩)] w (RetCf G D w g (rsvS C ms S) (.int .i64 (resE C ms (some S) : Nat))) := by
 have hml : ms.length = m := by have := hr.1; rw [prs_length] at this; omega
 have HML := Lib.hid hml
 have hk := hC.key
 have hb := hC.bl
 have HL := Lib.hid (fun w h => cfgLen_any C hk hb A n c g w h)
 have HFT := Lib.hid (fun w h h2 => fit_any ms B m d C hC g A n c w h h2 hm)
 have HNV := Lib.hid hX.n_
 have HGL := Lib.hid hX.lt
 have be := Below.refl w.heap.size w
 clear hml
 rcases Nat.eq_zero_or_pos n with h0 | h0
 ·have h0v : C.vs.length = 0 := by have := HNV.out; omega
  have he := Lib.hid (show resE C ms (some S) = 6 from if_pos h0v)
  have hcs : rsvS C ms S = C := if_neg (by rw [he.out]; decide)
  rw [hcs]
  have h0i : ((n : Int) == 0) = true := by simp [h0]
  clear h0 h0v hcs
  go_enter Tryd.func11, Tryd.ntmps11
  go_upto_region 2 with (go_at_call 19; refine (HL.out _ hX.st).mono ?_; rintro e w1 ⟨rfl, rfl⟩)
  go_wp2
  go_ret
  exact ⟨by rw [he.out]; rfl, G, D, ⟨_, n, c, E, hX⟩, Grow.refl _ _ _, Chg.of_below be⟩
 ·have h0v : ¬ C.vs.length = 0 := by have := HNV.out; omega
  have hre := resE_some C ms S h0v
  have h0i : ((n : Int) == 0) = false := by simp; omega
  cases hfit : okM C ms
  ·rw [hfit] at HFT hre
   have he := Lib.hid (show resE C ms (some S) = 1 from hre)
   have hcs : rsvS C ms S = C := if_neg (by rw [he.out]; decide)
   rw [hcs]
   clear h0v hre hcs
   go_enter Tryd.func11, Tryd.ntmps11
   go_upto_region 4 with (first | (go_at_call 19; refine (HL.out _ hX.st).mono ?_; rintro e w1 ⟨rfl, rfl⟩) | (go_at_call 21; refine (HFT.out _ hX.st hr).mono ?_; rintro e w1 ⟨bs1, d1, rfl, rfl⟩))
   replace hX := hX.later (below_plus w bs1 d1)
   replace be := belowP be bs1 d1
   go_wp2
   go_ret
   exact ⟨by rw [he.out]; rfl, G, D, ⟨_, n, c, E, hX⟩, Grow.refl _ _ _, Chg.of_below be⟩
  ·rw [hfit, Bool.true_and] at hre
   rw [hfit] at HFT
   have HRE := Lib.hid hre
   have hbad : ∀ j, j < 64 → resK C S j = false → resE C ms (some S) = 1 := fun j hj h => by
    rw [HRE.out, if_neg]
    rw [Bool.not_eq_true, List.all_eq_false]
    exact ⟨j, List.mem_range.2 hj, by rw [h]; simp⟩
   have hbads : ∀ j, j < 64 → resK C S j = false → rsvS C ms S = C := fun j hj h => if_neg (by rw [hbad j hj h]; decide)
   have HBD := Lib.hid (fun j hj h => And.intro (hbad j hj h) (hbads j hj h))
   clear hfit hre hbad hbads
   go_enter Tryd.func11, Tryd.ntmps11
   go_upto_region 5 with (first | (go_at_call 19; refine (HL.out _ hX.st).mono ?_; rintro e w1 ⟨rfl, rfl⟩) | (go_at_call 21; refine (HFT.out _ hX.st hr).mono ?_; rintro e w1 ⟨bs1, d1, rfl, rfl⟩))
   have hb1 := below_plus w bs1 d1
   replace hX := hX.later hb1
   replace hr := hr.later hb1
   replace hT := hT.later hb1
   replace be := be.trans (hb1.mono be.size)
   clear hb1 HFT HL
   generalize plus w bs1 d1 = V at *
   go_upto_region 6 with (fail)
   have HST := Lib.hid (And.intro hX (And.intro hT (And.intro hr be)))
   clear hX hT hr be
   go_loopw [7] (fun I wr => ∃ q : Nat, I = .int .i64 (q : Int) ∧ 1 ≤ q ∧ q ≤ 65 ∧ (List.range (q - 1)).all (resK C S) = true ∧ CfX G D wr g C A n c E ∧ Bk wr T 102 (stkC S) ∧ Rs 2 wr B m d (prs .i64 ms) ∧ Below w.heap.size w wr) (fun I _ => 65 - (intOf I).toNat)
   case atStart => exact ⟨1, rfl, Nat.le_refl _, by omega, rfl, HST.out.1, HST.out.2.1, HST.out.2.2.1, HST.out.2.2.2⟩
   case round =>
    clear HST
    obtain ⟨q, rfl, hq1, hq65, hall, hX, hT, hr, hE⟩ := hrel
    have HALL := Lib.hid hall
    clear hall
    have q0 : wr.cell? ⟨g, 278, none⟩ = some (.slice A n c) := (hX.st.cell 278).trans (stC_vips C hk hb A n c)
    by_cases h64 : q ≤ 64
    ·have i64 : (q : Int) ≤ 64 := by omega
     have i65 : (q : Int) < 65 := by omega
     have HKM := Lib.hid (resK_m C S q hq1)
     have HE1 := Lib.hid (fun w h => evicted_any S hSo.ev T (q : Int) (by omega) w h)
     go_upto_region 8 with (fail)
     refine wp_region_lit ?_
     iterate 2 (refine wpList_plain rfl (fun K hK => ?_); go_simp; with_reducible refine hK _ _ ?_; clear hK K)
     refine wpList_plain rfl (fun K hK => ?_)
     go_simp
     refine (HE1.out _ hT).mono ?_
     rintro e w1 ⟨bs1, d1, rfl, rfl⟩
     with_reducible refine hK _ _ ?_
     clear hK K
     have hb1 := below_plus wr bs1 d1
     replace hX := hX.later hb1
     replace hT := hT.later hb1
     replace hr := hr.later hb1
     replace hE := hE.trans (hb1.mono hE.size)
     clear hb1 q0 HE1
     generalize plus wr bs1 d1 = W at *
     refine wpList_plain rfl (fun K hK => ?_); go_simp; with_reducible refine hK _ _ ?_; clear hK K
     have hcell : W.cell? ⟨g, 18 + q * 4 + 3, none⟩ = some (.bool (knC C (q : Int))) := (hX.st.cell _).trans (stC_bkAt C hk hb A n c q (by omega) 3 _ (by
      have : knC C (q : Int) = (C.bk.getD q none).isSome := by unfold knC; rw [decide_eq_true (show (1 : Int) ≤ (q : Int) by omega), decide_eq_true i64]; rfl
      rw [this]; rfl))
     obtain ⟨dd, hdd⟩ : ∃ dd, deadS S (q : Int) = dd := ⟨_, rfl⟩
     obtain ⟨kk, hkk⟩ : ∃ kk, knC C (q : Int) = kk := ⟨_, rfl⟩
     rw [hdd]
     rw [hkk] at hcell
     rw [hdd, hkk] at HKM
     clear hdd hkk
     have Q9 := hcell
     by_cases hbk : dd = true ∧ kk = false
     ·obtain ⟨rfl, rfl⟩ := hbk
      have HBADb := HBD.out (q - 1) (by omega) (by rw [HKM.out]; simp)
      have HBAD := Lib.hid HBADb.1
      have HBADS := Lib.hid HBADb.2
      clear HBADb HKM
      go_upto_region 9 with (fail)
      clear Q9
      refine wp_region_lit ?_
      iterate 2 (refine wpList_plain rfl (fun K hK => ?_); go_simp; with_reducible refine hK _ _ ?_; clear hK K)
      iterate 8 (refine wpList_step (fun K hK => ?_); go_simp; with_reducible refine hK _ _ ?_; clear hK K)
      refine wpList_plain rfl (fun K hK => ?_); go_simp; with_reducible refine hK _ _ ?_; clear hK K
      go_wp2
      go_ret
      exact ⟨by rw [HBAD.out]; rfl, G, D, ⟨_, n, c, E, by rw [HBADS.out]; exact hX⟩, Grow.refl _ _ _, Chg.of_below hE⟩
     ·have hcont : ∀ (P : Prop), (dd = false → P) → (dd = true → kk = true → P) → P := fun P h1 h2 => by cases dd <;> cases kk <;> simp_all
      have HL1 := Lib.hid HNV.out
      by_cases hn1 : n ≤ 1
      ·have in1 : ¬ (1 : Int) < (n : Int) := by omega
       have in1n : ¬ 1 < n := by omega
       have HNX := Lib.hid (show (List.range q).all (resK C S) = true by
        have e : List.range q = List.range (q - 1) ++ [q - 1] := by
         obtain ⟨k, rfl⟩ : ∃ k, q = k + 1 := ⟨q - 1, by omega⟩
         rw [List.range_succ]; rfl
        have hl : decide (C.vs.length ≤ 1) = true := decide_eq_true (by have := HL1.out; omega)
        rw [e, List.all_append, HALL.out, List.all_cons, List.all_nil, HKM.out, hl]
        cases dd <;> cases kk <;> simp_all)
       have HH := Lib.hid (And.intro hX (And.intro hT (And.intro hr hE)))
       clear hbk HKM hX hT hr hE
       have q0 : W.cell? ⟨g, 278, none⟩ = some (.slice A n c) := (HH.out.1.st.cell 278).trans (stC_vips C hk hb A n c)
       cases dd
       ·go_upto_region 9 with (fail)
        clear Q9 hcell
        refine wp_region_lit ?_
        iterate 2 (refine wpList_plain rfl (fun K hK => ?_); go_simp; with_reducible refine hK _ _ ?_; clear hK K)
        iterate 8 ((with_reducible refine wpList_skip ?_ ?_); (· first | (go_simp; done) | (go_simp; intro h; cases h)); simp only [Act.put, qsT, qsZ, qsS])
        refine wpList_plain rfl (fun K hK => ?_); go_simp; with_reducible refine hK _ _ ?_; clear hK K
        go_upto_region 11 with (fail)
        refine wp_region_lit ?_
        iterate 7 (refine wpList_plain rfl (fun K hK => ?_); go_simp; with_reducible refine hK _ _ ?_; clear hK K)
        iterate 11 ((with_reducible refine wpList_skip ?_ ?_); (· first | (go_simp; done) | (go_simp; intro h; cases h)); simp only [Act.put, qsT, qsZ, qsS])
        refine wpList_plain rfl (fun K hK => ?_); go_simp; with_reducible refine hK _ _ ?_; clear hK K
        go_wp2
        exact ⟨⟨q + 1, by go_num, by omega, by omega, by simpa using HNX.out, HH.out.1, HH.out.2.1, HH.out.2.2.1, HH.out.2.2.2⟩, by simp [intOf]; omega⟩
       ·obtain rfl : kk = true := by
         refine hcont _ (fun h => by cases h) (fun _ h => h)
        go_upto_region 9 with (fail)
        refine wp_region_lit ?_
        iterate 2 (refine wpList_plain rfl (fun K hK => ?_); go_simp; with_reducible refine hK _ _ ?_; clear hK K)
        iterate 8 (refine wpList_step (fun K hK => ?_); go_simp; with_reducible refine hK _ _ ?_; clear hK K)
        refine wpList_plain rfl (fun K hK => ?_); go_simp; with_reducible refine hK _ _ ?_; clear hK K
        clear Q9 hcell
        go_upto_region 11 with (fail)
        refine wp_region_lit ?_
        iterate 7 (refine wpList_plain rfl (fun K hK => ?_); go_simp; with_reducible refine hK _ _ ?_; clear hK K)
        iterate 11 ((with_reducible refine wpList_skip ?_ ?_); (· first | (go_simp; done) | (go_simp; intro h; cases h)); simp only [Act.put, qsT, qsZ, qsS])
        refine wpList_plain rfl (fun K hK => ?_); go_simp; with_reducible refine hK _ _ ?_; clear hK K
        go_wp2
        exact ⟨⟨q + 1, by go_num, by omega, by omega, by simpa using HNX.out, HH.out.1, HH.out.2.1, HH.out.2.2.1, HH.out.2.2.2⟩, by simp [intOf]; omega⟩
      ·have in1 : (1 : Int) < (n : Int) := by omega
       have in1n : 1 < n := by omega
       have hlE := hX.len
       have hnv := hX.n_
       obtain ⟨bb, cur, rfl, -, hB, -⟩ := hX.row.bk h0
       have hrg : W.rangeAt bb (0 * 8) (veC (E[0]'(by omega))) := by
        have := hX.row.rs.rangeE veC_len 0 (by omega)
        rwa [Nat.zero_add] at this
       rw [Nat.zero_mul] at hrg
       have q7 : W.cell? ⟨bb, 7, none⟩ = some (.pointer (some ⟨(E[0]'(by omega)).2.T, 0, none⟩)) := by simpa using hrg 7 _ rfl
       have hmem : E[0]'(by omega) ∈ E := List.getElem_mem _
       have hvm : (E[0]'(by omega)).1 ∈ C.vs := by rw [← hX.vs]; exact List.mem_map.2 ⟨_, hmem, rfl⟩
       have hvo := hC.vs _ hvm
       have hev : ∀ i : Int, deadS (E[0]'(by omega)).1.S i = hasB (ev0 C) i 1 64 := fun i => by rw [hasB_dead, hvo.ev]
       generalize E[0]'(by omega) = x0 at *
       have HEV := Lib.hid (fun w (h : CfX G D w g C (some ⟨bb, 0, none⟩) n c E) => evicted_any x0.1.S hvo.st.ev x0.2.T (q : Int) (by omega) w (h.tb x0 hmem))
       rw [hev] at HEV
       have q0 : W.cell? ⟨g, 278, none⟩ = some (.slice (some ⟨bb, 0, none⟩) n c) := (hX.st.cell 278).trans (stC_vips C hk hb _ n c)
       obtain ⟨ee, hee⟩ : ∃ ee, hasB (ev0 C) (q : Int) 1 64 = ee := ⟨_, rfl⟩
       rw [hee] at HEV HKM
       clear hrg hvm hvo hev hB hee hlE hnv
       have HHN : Hid (ee = dd → (List.range q).all (resK C S) = true) := Lib.hid (fun hed => by
        have e : List.range q = List.range (q - 1) ++ [q - 1] := by
         obtain ⟨k, rfl⟩ : ∃ k, q = k + 1 := ⟨q - 1, by omega⟩
         rw [List.range_succ]; rfl
        rw [e, List.all_append, HALL.out, List.all_cons, List.all_nil, HKM.out]
        subst hed
        cases ee <;> cases kk <;> simp_all)
       have HHB : Hid (¬ ee = dd → resK C S (q - 1) = false) := Lib.hid (fun hed => by
        rw [HKM.out]
        have hl : decide (C.vs.length ≤ 1) = false := decide_eq_false (by have := HL1.out; omega)
        rw [hl]
        cases ee <;> cases dd <;> simp_all)
       clear hbk HKM
       cases dd
       ·go_upto_region 9 with (fail)
        clear Q9 hcell
        refine wp_region_lit ?_
        iterate 2 (refine wpList_plain rfl (fun K hK => ?_); go_simp; with_reducible refine hK _ _ ?_; clear hK K)
        iterate 8 ((with_reducible refine wpList_skip ?_ ?_); (· first | (go_simp; done) | (go_simp; intro h; cases h)); simp only [Act.put, qsT, qsZ, qsS])
        refine wpList_plain rfl (fun K hK => ?_); go_simp; with_reducible refine hK _ _ ?_; clear hK K
        go_upto_region 11 with (fail)
        refine wp_region_lit ?_
        iterate 7 (refine wpList_plain rfl (fun K hK => ?_); go_simp; with_reducible refine hK _ _ ?_; clear hK K)
        iterate 9 (refine wpList_step (fun K hK => ?_); go_simp; with_reducible refine hK _ _ ?_; clear hK K)
        refine wpList_step (fun K hK => ?_)
        go_simp
        refine (HEV.out _ hX).mono ?_
        rintro e w1 ⟨bs1, d1, rfl, rfl⟩
        with_reducible refine hK _ _ ?_
        clear hK K
        have hb1 := below_plus W bs1 d1
        replace hX := hX.later hb1
        replace hT := hT.later hb1
        replace hr := hr.later hb1
        replace hE := hE.trans (hb1.mono hE.size)
        clear hb1 HEV
        generalize plus W bs1 d1 = W2 at *
        refine wpList_step (fun K hK => ?_); go_simp; with_reducible refine hK _ _ ?_; clear hK K
        refine wpList_plain rfl (fun K hK => ?_); go_simp; with_reducible refine hK _ _ ?_; clear hK K
        clear q0 q7
        cases ee
        ·have HNX := Lib.hid (HHN.out rfl)
         have HH := Lib.hid (And.intro hX (And.intro hT (And.intro hr hE)))
         clear hX hT hr hE HHN HHB
         go_wp2
         exact ⟨⟨q + 1, by go_num, by omega, by omega, by simpa using HNX.out, HH.out.1, HH.out.2.1, HH.out.2.2.1, HH.out.2.2.2⟩, by simp [intOf]; omega⟩
        ·have HBADb := HBD.out (q - 1) (by omega) (HHB.out (by decide))
         have HBAD := Lib.hid HBADb.1
         have HBADS := Lib.hid HBADb.2
         clear HBADb
         go_wp2
         go_ret
         exact ⟨by rw [HBAD.out]; rfl, G, D, ⟨_, n, c, E, by rw [HBADS.out]; exact hX⟩, Grow.refl _ _ _, Chg.of_below hE⟩
       ·obtain rfl : kk = true := by
         refine hcont _ (fun h => by cases h) (fun _ h => h)
        go_upto_region 9 with (fail)
        refine wp_region_lit ?_
        iterate 2 (refine wpList_plain rfl (fun K hK => ?_); go_simp; with_reducible refine hK _ _ ?_; clear hK K)
        iterate 8 (refine wpList_step (fun K hK => ?_); go_simp; with_reducible refine hK _ _ ?_; clear hK K)
        refine wpList_plain rfl (fun K hK => ?_); go_simp; with_reducible refine hK _ _ ?_; clear hK K
        clear Q9 hcell
        go_upto_region 11 with (fail)
        refine wp_region_lit ?_
        iterate 7 (refine wpList_plain rfl (fun K hK => ?_); go_simp; with_reducible refine hK _ _ ?_; clear hK K)
        iterate 9 (refine wpList_step (fun K hK => ?_); go_simp; with_reducible refine hK _ _ ?_; clear hK K)
        refine wpList_step (fun K hK => ?_)
        go_simp
        refine (HEV.out _ hX).mono ?_
        rintro e w1 ⟨bs1, d1, rfl, rfl⟩
        with_reducible refine hK _ _ ?_
        clear hK K
        have hb1 := below_plus W bs1 d1
        replace hX := hX.later hb1
        replace hT := hT.later hb1
        replace hr := hr.later hb1
        replace hE := hE.trans (hb1.mono hE.size)
        clear hb1 HEV
        generalize plus W bs1 d1 = W2 at *
        refine wpList_step (fun K hK => ?_); go_simp; with_reducible refine hK _ _ ?_; clear hK K
        refine wpList_plain rfl (fun K hK => ?_); go_simp; with_reducible refine hK _ _ ?_; clear hK K
        clear q0 q7
        cases ee
        ·have HBADb := HBD.out (q - 1) (by omega) (HHB.out (by decide))
         have HBAD := Lib.hid HBADb.1
         have HBADS := Lib.hid HBADb.2
         clear HBADb
         go_wp2
         go_ret
         exact ⟨by rw [HBAD.out]; rfl, G, D, ⟨_, n, c, E, by rw [HBADS.out]; exact hX⟩, Grow.refl _ _ _, Chg.of_below hE⟩
        ·have HNX := Lib.hid (HHN.out rfl)
         have HH := Lib.hid (And.intro hX (And.intro hT (And.intro hr hE)))
         clear hX hT hr hE HHN HHB
         go_wp2
         exact ⟨⟨q + 1, by go_num, by omega, by omega, by simpa using HNX.out, HH.out.1, HH.out.2.1, HH.out.2.2.1, HH.out.2.2.2⟩, by simp [intOf]; omega⟩
    ·have i64 : ¬ (q : Int) ≤ 64 := by omega
     obtain rfl : q = 65 := by omega
     have he := Lib.hid (show resE C ms (some S) = 0 by rw [HRE.out, if_pos]; exact HALL.out)
     have hcs := Lib.hid (show rsvS C ms S = resC C ms S from if_pos he.out)
     obtain ⟨iL, rfl⟩ : ∃ iL, n = iL + 1 := ⟨n - 1, by omega⟩
     obtain ⟨bb, cur, rfl, hob, hBr, hcl, -, hnc, -⟩ := hX.row.bk h0
     have hlE := hX.len
     have hnv := hX.n_
     have hiL : E[iL]? = some (E[iL]'(by omega)) := List.getElem?_eq_getElem _
     generalize E[iL]'(by omega) = x0 at *
     have HIL := Lib.hid hiL
     have HLE := Lib.hid hlE
     have HCL := Lib.hid (fun w h => mclone_any ms B m d w h hm)
     have HCP := Lib.hid (fun w h => copy_any S T w h)
     have l1 : IntKind.i64.wrap (((iL + 1 : Nat) : Int) - 1) = (iL : Int) := by rw [IntWalk.i64_in _ (by have := hC.vl; omega)]; omega
     have l2 : IntKind.i64.wrap ((iL : Int) + 1 - 1) = (iL : Int) := by rw [IntWalk.i64_in _ (by have := hC.vl; omega)]; omega
     have l3 : IntKind.i64.wrap (iL : Int) = (iL : Int) := IntWalk.i64_in _ (by have := hC.vl; omega)
     have l4 : (iL : Int) < ((iL + 1 : Nat) : Int) := by omega
     have l5 : (iL : Int) < (iL : Int) + 1 := by omega
     have l6 : (iL : Int) + 1 - 1 = (iL : Int) := by omega
     clear hiL hlE hnv q0 hq1 hq65 h64
     go_upto_region 13 with (fail)
     refine wp_relS 11 79 rfl (by kernel_rfl) (by kernel_rfl) ?_
     apply Steps.o1 (MP.eq _) 1 rfl rfl
     ·intro FA x hO hD K hK
      have e0 := hO 0 (by kernel_rfl)
      simp only [eval_tmp, qgT, qgS, qgZ, qoS] at e0
      have ev0 := Lib.hid ((eval_tmp FA 0).trans e0)
      clear hO hD
      go_simp
      exact hK.out _ _ (Ex.refl _) rfl
     apply Steps.o1 (MP.eq _) 2 rfl rfl
     ·intro FA x hO hD K hK
      obtain ⟨e58, ev58⟩ := qE (hD 0 58 (by kernel_rfl))
      clear hO hD
      go_simp
      exact hK.out _ _ (Ex.refl _) rfl
     apply Steps.o1 (MP.eq _) 3 rfl rfl
     ·intro FA x hO hD K hK
      obtain ⟨e59, ev59⟩ := qE (hD 1 59 (by kernel_rfl))
      clear hO hD
      go_simp
      exact hK.out _ _ (Ex.refl _) rfl
     apply Steps.o1 (MP.eq _) 4 rfl rfl
     ·intro FA x hO hD K hK
      obtain ⟨e60, ev60⟩ := qE (hD 2 60 (by kernel_rfl))
      clear hO hD
      refine wanted_if rfl ?_
      refine wp_ld1 83 (.tmp 60) rfl ev60.out (hX.st.later (below_plus _ _ _)) (stC_vips C hk hb _ _ _) Tryd.underlying83 rfl ?_
      exact hK.out _ _ (Ex.refl _) rfl
     apply Steps.o1 (MP.eq _) 5 rfl rfl
     ·intro FA x hO hD K hK
      have e0 := hO 0 (by kernel_rfl)
      simp only [eval_tmp, qgT, qgS, qgZ, qoS] at e0
      have ev0 := Lib.hid ((eval_tmp FA 0).trans e0)
      clear hO hD
      go_simp
      exact hK.out _ _ (Ex.refl _) rfl
     apply Steps.o1 (MP.eq _) 6 rfl rfl
     ·intro FA x hO hD K hK
      obtain ⟨e62, ev62⟩ := qE (hD 4 62 (by kernel_rfl))
      clear hO hD
      go_simp
      exact hK.out _ _ (Ex.refl _) rfl
     apply Steps.o1 (MP.eq _) 7 rfl rfl
     ·intro FA x hO hD K hK
      obtain ⟨e63, ev63⟩ := qE (hD 5 63 (by kernel_rfl))
      clear hO hD
      go_simp
      exact hK.out _ _ (Ex.refl _) rfl
     apply Steps.o1 (MP.eq _) 8 rfl rfl
     ·intro FA x hO hD K hK
      obtain ⟨e64, ev64⟩ := qE (hD 6 64 (by kernel_rfl))
      clear hO hD
      refine wanted_if rfl ?_
      refine wp_ld1 83 (.tmp 64) rfl ev64.out (hX.st.later (below_plus _ _ _)) (stC_vips C hk hb _ _ _) Tryd.underlying83 rfl ?_
      exact hK.out _ _ (Ex.refl _) rfl
     apply Steps.o1 (MP.eq _) 9 rfl rfl
     ·intro FA x hO hD K hK
      obtain ⟨e65, ev65⟩ := qE (hD 7 65 (by kernel_rfl))
      clear hO hD
      go_simp
      exact hK.out _ _ (Ex.refl _) rfl
     apply Steps.o1 (MP.eq _) 10 rfl rfl
     ·intro FA x hO hD K hK
      obtain ⟨e66, ev66⟩ := qE (hD 8 66 (by kernel_rfl))
      clear hO hD
      go_simp
      exact hK.out _ _ (Ex.refl _) rfl
     apply Steps.o1 (MP.eq _) 11 rfl rfl
     ·intro FA x hO hD K hK
      obtain ⟨e61, ev61⟩ := qE (hD 3 61 (by kernel_rfl))
      obtain ⟨e67, ev67⟩ := qE (hD 9 67 (by kernel_rfl))
      clear hO hD
      go_simp
      exact hK.out _ _ (Ex.refl _) rfl
     refine Steps.fin_ (fun vs x hp => ?_)
     have p0 : vs 0 = _ := hp 0 (by omega)
     have p1 : vs 1 = _ := hp 1 (by omega)
     have p2 : vs 2 = _ := hp 2 (by omega)
     have p3 : vs 3 = _ := hp 3 (by omega)
     have p4 : vs 4 = _ := hp 4 (by omega)
     have p5 : vs 5 = _ := hp 5 (by omega)
     have p6 : vs 6 = _ := hp 6 (by omega)
     have p7 : vs 7 = _ := hp 7 (by omega)
     have p8 : vs 8 = _ := hp 8 (by omega)
     have p9 : vs 9 = _ := hp 9 (by omega)
     have p10 : vs 10 = _ := hp 10 (by omega)
     clear hp
     simp only [List.take_succ_cons, List.take_zero, List.drop_succ_cons, List.drop_zero, putAll, Nat.zero_add, Nat.reduceAdd, Act.put, qsT, qsZ, qsS, p0, p1, p2, p3, p4, p5, p6, p7, p8, p9, p10]
     clear p0 p1 p2 p3 p4 p5 p6 p7 p8 p9 p10
     clear vs
     have hb9 := below_plus wr x.bs x.d
     replace hX := hX.later hb9
     replace hT := hT.later hb9
     replace hr := hr.later hb9
     have hB2 := hBr.later hb9
     replace hE := hE.trans (hb9.mono hE.size)
     have HGL := Lib.hid hX.lt
     have HBZ := Lib.hid hB2.lt
     have hwZ := hE.size
     clear hb9 hBr
     generalize plus wr x.bs x.d = Z at *
     go_upto_region 14 with (fail)
     refine wp_region_lit ?_
     iterate 3 (refine wpList_plain rfl (fun K hK => ?_); go_simp; with_reducible refine hK _ _ ?_; clear hK K)
     refine wpList_plain rfl (fun K hK => ?_)
     go_simp
     refine (HCL.out _ hr).mono ?_
     rintro e w1 ⟨A9, n9, c9, bs1, d1, rfl, rfl, ho9⟩
     with_reducible refine hK _ _ ?_
     clear hK K
     have hb1 := below_plus Z bs1 d1
     replace hX := hX.later hb1
     replace hT := hT.later hb1
     replace hB2 := hB2.later hb1
     replace hE := hE.trans (hb1.mono hE.size)
     have hn9 : n9 = m := by have := ho9.1; rw [prs_length] at this; have := HML.out; omega
     subst hn9
     have ho9g : ∀ b, G b → b < Z.heap.size := fun b hb => HGL.out b hb
     have ho9lt := fun k hk => (ho9.blk k hk)
     have hb1s := hb1.size
     clear hb1
     generalize plus Z bs1 d1 = Z1 at *
     refine wpList_plain rfl (fun K hK => ?_); go_simp; with_reducible refine hK _ _ ?_; clear hK K
     refine wpList_plain rfl (fun K hK => ?_)
     go_simp
     refine (HCP.out _ hT).mono ?_
     rintro e w1 ⟨T9, rfl, hz9, hb2, hT9⟩
     with_reducible refine hK _ _ ?_
     clear hK K
     have hX2 := (hX.later hb2).more (G' := fun b => G b ∨ b = T9) (fun b hb => Or.inl hb) (fun b hb => hb.elim ((hX.later hb2).lt b) (fun e => by rw [e]; exact hT9.lt)) (fun x hx => (Off.more (D' := fun b => G b ∨ b = T9) (hX.mo x hx) (fun b hb => hb.elim Or.inl (fun e => Or.inr (by rw [e]; exact hz9)))).size hb2.size)
     have hTD : ¬ D T9 := fun h => by have := hX.lt _ (hX.sub _ h); omega
     have hBb := hB2.lt
     clear hX
     replace hB2 := hB2.later hb2
     replace ho9 := ho9.later hb2
     replace hE := hE.trans (hb2.mono hE.size)
     iterate 2 (refine wpList_plain rfl (fun K hK => ?_); go_simp; with_reducible refine hK _ _ ?_; clear hK K)
     refine wpList_st1 (v := .slice A9 n9 c9) (t := 53) (cs := cur) (off := iL * 8 + 6) 43 (.tmp 76) (.tmp 72) rfl rfl rfl rfl hB2 (by omega) rfl (by kernel_rfl) ?_
     intro W8 h8 g8
     iterate 2 (refine wpList_plain rfl (fun K hK => ?_); go_simp; with_reducible refine hK _ _ ?_; clear hK K)
     refine wpList_st1 (v := .pointer (some ⟨T9, 0, none⟩)) (t := 53) (cs := cur.set (iL * 8 + 6) (.slice A9 n9 c9)) (off := iL * 8 + 7) 51 (.tmp 78) (.tmp 74) rfl rfl rfl rfl h8 (by rw [List.length_set]; omega) rfl (by kernel_rfl) ?_
     intro W9 h9 g9
     simp only [Act.put, qsT, qsZ, qsS]
     have hbT : bb ≠ T9 := by omega
     have hoA : ∀ a, A9 = some a → Z.heap.size ≤ a.block ∧ a.block < Z1.heap.size := fun a ha => ho9lt a.block (by rw [ha]; rfl)
     have hbz : bb < Z.heap.size := HBZ.out
     have X3 := hX2.setRow (i := iL) (x := x0) HIL.out rfl hB2 (j := 6) (u := .slice A9 n9 c9) (by decide) (y := ({ x0.1 with ms := ms }, { x0.2 with A := A9, n := n9, c := c9 })) rfl rfl rfl g8 h8 (ho9.rs.chg (Chg.one (D := fun b => b = bb) g8 rfl) (fun a ha e => by
      have := hoA a ha
      have e : a.block = bb := e
      omega)) (fun a ha => ⟨by have := hoA a ha; have := hb2.size; have := g8.size; omega, fun h => by
      have h1 := hoA a ha
      rcases h with h | h
      ·have := ho9g _ h; omega
      ·have h : a.block = T9 := h; omega⟩)
     have X4 := X3.setRowT (i := iL) (x := ({ x0.1 with ms := ms }, { x0.2 with A := A9, n := n9, c := c9 })) (by rw [List.getElem?_set_self (List.getElem?_eq_some_iff.1 HIL.out).1]) rfl h8 (T := T9) (S := S) (hT9.grown g8 (fun e => hbT (by injection e))) (Or.inr rfl) hTD g9 h9
     have hDb := hX2.dr _ hob
     have hch : Chg D w W9 := ((Chg.of_below hE).trans (Chg.one g8 hDb)).trans (Chg.one g9 hDb)
     have hrc : resC C ms S = { C with vs := (C.vs.set iL { x0.1 with ms := ms }).set iL { x0.1 with ms := ms, S := S } } := by
      have hl : C.vs.length - 1 = iL := by have := HNV.out; omega
      have hv : C.vs[iL]? = some x0.1 := by rw [← hX2.vs, List.getElem?_map, HIL.out]; rfl
      unfold resC
      rw [hl, hv, List.set_set]
     have hwT : w.heap.size ≤ T9 := Nat.le_trans hwZ (Nat.le_trans hb1s hz9)
     have HRC := Lib.hid hrc
     clear hX2 hrc hob
     go_wp2
     go_ret
     rw [hcs.out, HRC.out]
     exact ⟨by rw [he.out]; rfl, (fun b => G b ∨ b = T9), (fun b => D b ∨ b = T9), ⟨_, _, _, _, X4⟩, ⟨fun b hb => Or.inl hb, fun b hb => hb.elim Or.inl (fun e => Or.inr (by rw [e]; exact hwT)), fun b hb => hb.elim Or.inl (fun e => Or.inr (by rw [e]; exact hwT))⟩, hch⟩
end

section
open Go.RowKit Go.ChangeShapes Go.WideShapes Go.Deep
theorem prs_fn (F : Nat → Int × Int) : ∀ (n i : Nat) (u : Value), (prs .i64 ((List.range n).map F))[i]? = some u → i < n * 2 ∧ (i % 2 = 0 ∧ u = .int .i64 (F (i / 2)).1 ∨ i % 2 = 1 ∧ u = .int .i64 (F (i / 2)).2) := by
 intro n i u hu
 have hi : i < (prs .i64 ((List.range n).map F)).length := (List.getElem?_eq_some_iff.1 hu).1
 rw [prs_length, List.length_map, List.length_range] at hi
 have hk : i / 2 < ((List.range n).map F).length := by rw [List.length_map, List.length_range]; omega
 have h := prs_at .i64 ((List.range n).map F) (i / 2) hk
 simp only [List.getElem_map, List.getElem_range] at h
 refine ⟨hi, ?_⟩
 rcases Nat.mod_two_eq_zero_or_one i with h0 | h0
 ·rw [show 2 * (i / 2) = i by omega] at h
  exact .inl ⟨h0, (Option.some.inj (hu.symm.trans h.1))⟩
 ·rw [show 2 * (i / 2) + 1 = i by omega] at h
  exact .inr ⟨h0, (Option.some.inj (hu.symm.trans h.2))⟩
theorem open_prs {H : Type} {enc : TypeId × Value → H} {P : Program} {W : World} {base : Nat} {t e : TypeId} {f0 f1 : Field} {v : Value} {d : DataW H} {p : List MemPlace}
  (ht : P.underlying t = some (.slice e)) (he : P.underlying e = some (.struct #[f0, f1])) (ce : P.cellsOf e = 2) (o0 : f0.offset = 0) (o1 : f1.offset = 1) (c0 : P.cellsOf f0.type = 1) (c1 : P.cellsOf f1.type = 1)
  (k0 : P.underlying f0.type = some (.int .i64)) (k1 : P.underlying f1.type = some (.int .i64)) (hv : Value.okWide P W .any base t v)
  (h : DataW.Trod enc P W 0 (fun _ => true) true t v d p) :
  ∃ A c, ∃ L : List (Int × Int), v = .slice A L.length c ∧ L.length ≤ c ∧ c ≤ maxLen ∧ Rd W W.heap.size A (prs .i64 L) ∧ ∀ q ∈ L, (Lit.int .i64 q.1).wf = true ∧ (Lit.int .i64 q.2).wf = true := by
 obtain ⟨a0, len, cap, rfl⟩ := okWide_slice ht hv
 obtain ⟨fuel, hf⟩ := h
 rcases open_slice_pairs ht he ce o0 o1 c0 c1 hf with ⟨hcs, _⟩ | ⟨a, l', c', m, n, V0, V1, D0, D1, P0, P1, hcs, _, hl, hm, hmm, _, hx⟩
 ·simp [Value.cells] at hcs
  obtain ⟨rfl, rfl, rfl⟩ := hcs
  exact ⟨none, 0, [], rfl, by simp, by simp, .inl rfl, fun q hq => by simp at hq⟩
 ·simp [Value.cells] at hcs
  obtain ⟨rfl, rfl, rfl⟩ := hcs
  have hlm : len ≤ m := by rw [hmm]; split <;> omega
  have each : ∀ i, i < len → ∃ q : Int × Int, W.cell? (a.add (i * 2)) = some (.int .i64 q.1) ∧ W.cell? (a.add (i * 2 + 1)) = some (.int .i64 q.2) ∧ (Lit.int .i64 q.1).wf = true ∧ (Lit.int .i64 q.2).wf = true := by
   intro i hi
   obtain ⟨h0, h1, t0, t1⟩ := hx i (by omega)
   obtain ⟨n0, e0, _, w0⟩ := DataW.trod_int k0 t0
   obtain ⟨n1, e1, _, w1⟩ := DataW.trod_int k1 t1
   injection e0 with e0
   injection e1 with e1
   exact ⟨(n0, n1), by rw [← e0]; exact h0, by rw [← e1]; exact h1, w0, w1⟩
  obtain ⟨F, hF⟩ := choose_lt each
  refine ⟨some a, cap, (List.range len).map F, by simp, by simpa using hl, hm, ?_, ?_⟩
  ·rcases Nat.eq_zero_or_pos len with h0 | h0
   ·exact .inl (by simp [h0, prs])
   ·have hc0 := (hF 0 h0).1
    obtain ⟨b, off, spot⟩ := a
    have hspot : spot = none := by simpa [Addr.add] using World.cell?_spot hc0
    subst hspot
    refine .inr ⟨b, off, rfl, lt_of_cell hc0, fun i u hu => ?_⟩
    obtain ⟨hi, h⟩ := prs_fn F len i u hu
    have hF' := hF (i / 2) (by omega)
    rw [add_plain, add_plain] at hF'
    rcases h with ⟨hm2, rfl⟩ | ⟨hm2, rfl⟩
    ·rw [show off + i = off + i / 2 * 2 by omega]; exact hF'.1
    ·rw [show off + i = off + (i / 2 * 2 + 1) by omega]; exact hF'.2.1
  ·intro q hq
   obtain ⟨i, hi, rfl⟩ := List.mem_map.1 hq
   exact ⟨(hF i (List.mem_range.1 hi)).2.2.1, (hF i (List.mem_range.1 hi)).2.2.2⟩
end

section
open Go.RowKit Go.ChangeShapes Go.WideShapes
theorem listN9 {α : Type} {l : List α} (h : l.length = 9) : ∃ a0 a1 a2 a3 a4 a5 a6 a7 a8, l = [a0, a1, a2, a3, a4, a5, a6, a7, a8] := by
 match l, h with
 | [a0, a1, a2, a3, a4, a5, a6, a7, a8], _ => exact ⟨a0, a1, a2, a3, a4, a5, a6, a7, a8, rfl⟩
theorem listN11 {α : Type} {l : List α} (h : l.length = 11) : ∃ a0 a1 a2 a3 a4 a5 a6 a7 a8 a9 a10, l = [a0, a1, a2, a3, a4, a5, a6, a7, a8, a9, a10] := by
 match l, h with
 | [a0, a1, a2, a3, a4, a5, a6, a7, a8, a9, a10], _ => exact ⟨a0, a1, a2, a3, a4, a5, a6, a7, a8, a9, a10, rfl⟩
theorem list3 {α : Type} {l : List α} (h : l.length = 3) : ∃ a b c, l = [a, b, c] := by
 match l, h with
 | [a, b, c], _ => exact ⟨a, b, c, rfl⟩
set_option maxRecDepth 100000 in
theorem open_adr_cells {H : Type} {enc : TypeId × Value → H} {W : World} {m : Nat} {cs : List Value} {y : DataW H × List MemPlace}
  (hf : DataW.trod enc Tryd.prog W 0 (fun _ => true) true m 32 cs = some y) : ∃ six, ∃ ah al : Nat, cs = [.bool six, .int .u64 ah, .int .u64 al] ∧ ah < 18446744073709551616 ∧ al < 18446744073709551616 := by
 obtain ⟨xs, n, _, _, hl, hlen, hg⟩ := DataW.trod_struct Tryd.underlying32 hf
 have hC0 : Tryd.prog.cellsOf 4 = 1 := by kernel_rfl
 have hC1 : Tryd.prog.cellsOf 27 = 1 := by kernel_rfl
 have hCR : Tryd.prog.cellsOf 32 = 3 := by kernel_rfl
 rw [hCR] at hl
 obtain ⟨c0, c1, c2, rfl⟩ := list3 hl
 have hx : xs.length = 3 := by rw [hlen]; rfl
 obtain ⟨x0, x1, x2, rfl⟩ := list3 hx
 have h0 := hg 0 _ rfl
 have h1 := hg 1 _ rfl
 have h2 := hg 2 _ rfl
 simp only [List.getElem_toArray, List.getElem_cons_zero, List.getElem_cons_succ, hC0, hC1, List.drop_zero, List.drop_succ_cons, List.take_succ_cons, List.take_zero, List.getElem?_cons_zero, List.getElem?_cons_succ] at h0 h1 h2
 obtain ⟨b, hb, _⟩ := DataW.trod_bool Tryd.underlying4 h0
 obtain ⟨z1, hz1, _, hw1⟩ := DataW.trod_int Tryd.underlying27 h1
 obtain ⟨z2, hz2, _, hw2⟩ := DataW.trod_int Tryd.underlying27 h2
 have b1 := bounds_u64 hw1
 have b2 := bounds_u64 hw2
 simp only [List.cons.injEq, and_true] at hb hz1 hz2
 subst hb hz1 hz2
 exact ⟨b, z1.toNat, z2.toNat, by simp; omega, by omega, by omega⟩
end

section
open Go.RowKit Go.ChangeShapes Go.WideShapes Go.Deep
theorem open_rows {X : Type} [Inhabited X] (encX : X → List Value) (ok : X → Prop) (c : Nat) (hlen : ∀ x, (encX x).length = c) (hpos : 0 < c) {H : Type} {enc : TypeId × Value → H} {P : Program} {W : World} {base : Nat} {t e : TypeId} {v : Value} {d : DataW H} {p : List MemPlace}
  (ht : P.underlying t = some (.slice e)) (ce : P.cellsOf e = c) (each : ∀ m cs y, DataW.trod enc P W 0 (fun _ => true) true m e cs = some y → ∃ x, cs = encX x ∧ ok x) (hv : Value.okWide P W .any base t v)
  (h : DataW.Trod enc P W 0 (fun _ => true) true t v d p) :
  ∃ A k, ∃ L : List X, v = .slice A L.length k ∧ L.length ≤ k ∧ k ≤ maxLen ∧ Rd W W.heap.size A (L.flatMap encX) ∧ ∀ x ∈ L, ok x := by
 obtain ⟨a0, len, cap, rfl⟩ := okWide_slice ht hv
 obtain ⟨fuel, hf⟩ := h
 rcases open_slice ht hf with ⟨hcs, _⟩ | ⟨a, l', c', m, n, D, Pl, hcs, _, hl, hm, hmm, _, hx⟩
 ·simp [Value.cells] at hcs
  obtain ⟨rfl, rfl, rfl⟩ := hcs
  exact ⟨none, 0, [], rfl, by simp, by simp, .inl rfl, fun q hq => by simp at hq⟩
 ·simp [Value.cells] at hcs
  obtain ⟨rfl, rfl, rfl⟩ := hcs
  have hlm : len ≤ m := by rw [hmm]; split <;> omega
  have each2 : ∀ i, i < len → ∃ q : X, ok q ∧ ∀ j, j < c → W.cell? ((a.add (i * c)).add j) = (encX q)[j]? := by
   intro i hi
   obtain ⟨cs', h1, h2⟩ := hx i (by omega)
   rw [ce] at h1
   obtain ⟨_, hlen', hcell⟩ := World.cells?_some h1
   obtain ⟨q, rfl, hq⟩ := each _ _ _ h2
   exact ⟨q, hq, hcell⟩
  obtain ⟨F, hF⟩ := choose_lt each2
  have hFl : ∀ (n i : Nat) (u : Value), (((List.range n).map F).flatMap encX)[i]? = some u → i / c < n ∧ (encX (F (i / c)))[i % c]? = some u := by
   intro n
   induction n with
   | zero => intro i u hu; simp at hu
   | succ n ih =>
    intro i u hu
    rw [List.range_succ, List.map_append, List.flatMap_append] at hu
    have hln : (((List.range n).map F).flatMap encX).length = n * c := by
     clear hu ih
     induction n with
     | zero => simp
     | succ n ih => rw [List.range_succ, List.map_append, List.flatMap_append, List.length_append, ih]; simp [hlen, Nat.add_mul]
    by_cases hi : i < n * c
    ·rw [List.getElem?_append_left (by rw [hln]; exact hi)] at hu
     have := ih i u hu
     exact ⟨by omega, this.2⟩
    ·rw [List.getElem?_append_right (by rw [hln]; omega), hln] at hu
     simp only [List.map_cons, List.map_nil, List.flatMap_cons, List.flatMap_nil, List.append_nil] at hu
     have h3 := (List.getElem?_eq_some_iff.1 hu).1
     rw [hlen] at h3
     obtain ⟨r, rfl⟩ : ∃ r, i = n * c + r := ⟨i - n * c, by omega⟩
     have e0 : n * c + r - n * c = r := by omega
     rw [e0] at hu h3
     have e1 : (n * c + r) / c = n := by
      rw [Nat.add_comm, Nat.add_mul_div_right _ _ hpos, Nat.div_eq_of_lt h3]; omega
     have e2 : (n * c + r) % c = r := by rw [Nat.add_comm, Nat.add_mul_mod_self_right, Nat.mod_eq_of_lt h3]
     rw [e1, e2]
     exact ⟨by omega, hu⟩
  refine ⟨some a, cap, (List.range len).map F, by simp, by simpa using hl, hm, ?_, ?_⟩
  ·rcases Nat.eq_zero_or_pos len with h0 | h0
   ·exact .inl (by simp [h0])
   ·have hc0 := (hF 0 h0).2 0 hpos
    obtain ⟨b, off, spot⟩ := a
    have h1 : 0 < (encX (F 0)).length := by rw [hlen]; exact hpos
    rw [List.getElem?_eq_getElem h1] at hc0
    have hspot : spot = none := by simpa [Addr.add] using World.cell?_spot hc0
    subst hspot
    refine .inr ⟨b, off, rfl, by have := lt_of_cell hc0; simpa [Addr.add] using this, fun i u hu => ?_⟩
    obtain ⟨hi, h⟩ := hFl len i u hu
    have hF' := (hF (i / c) hi).2 (i % c) (Nat.mod_lt _ hpos)
    rw [add_plain, add_plain, h] at hF'
    rw [← hF']
    congr 2
    have := Nat.div_add_mod i c
    rw [Nat.mul_comm] at this
    omega
  ·intro q hq
   obtain ⟨i, hi, rfl⟩ := List.mem_map.1 hq
   exact (hF i (List.mem_range.1 hi)).1
end

section
open Go.RowKit Go.ChangeShapes Go.WideShapes Go.Deep
theorem open_prs_cell {H : Type} {enc : TypeId × Value → H} {P : Program} {W : World} {t e : TypeId} {mm : Nat} {f0 f1 : Field} {v : Value} {y : DataW H × List MemPlace}
  (ht : P.underlying t = some (.slice e)) (he : P.underlying e = some (.struct #[f0, f1])) (ce : P.cellsOf e = 2) (o0 : f0.offset = 0) (o1 : f1.offset = 1) (c0 : P.cellsOf f0.type = 1) (c1 : P.cellsOf f1.type = 1)
  (k0 : P.underlying f0.type = some (.int .i64)) (k1 : P.underlying f1.type = some (.int .i64))
  (hf : DataW.trod enc P W 0 (fun _ => true) true mm t [v] = some y) :
  ∃ A c, ∃ L : List (Int × Int), v = .slice A L.length c ∧ L.length ≤ c ∧ c ≤ maxLen ∧ Rd W W.heap.size A (prs .i64 L) ∧ ∀ q ∈ L, (Lit.int .i64 q.1).wf = true ∧ (Lit.int .i64 q.2).wf = true := by
 rcases open_slice_pairs ht he ce o0 o1 c0 c1 hf with ⟨hcs, _⟩ | ⟨a, l', c', m, n, V0, V1, D0, D1, P0, P1, hcs, _, hl, hm, hmm, _, hx⟩
 ·simp at hcs
  exact ⟨none, 0, [], hcs, by simp, by simp, .inl rfl, fun q hq => by simp at hq⟩
 ·simp at hcs
  have hlm : l' ≤ m := by rw [hmm]; split <;> omega
  have each : ∀ i, i < l' → ∃ q : Int × Int, W.cell? (a.add (i * 2)) = some (.int .i64 q.1) ∧ W.cell? (a.add (i * 2 + 1)) = some (.int .i64 q.2) ∧ (Lit.int .i64 q.1).wf = true ∧ (Lit.int .i64 q.2).wf = true := by
   intro i hi
   obtain ⟨h0, h1, t0, t1⟩ := hx i (by omega)
   obtain ⟨n0, e0, _, w0⟩ := DataW.trod_int k0 t0
   obtain ⟨n1, e1, _, w1⟩ := DataW.trod_int k1 t1
   injection e0 with e0
   injection e1 with e1
   exact ⟨(n0, n1), by rw [← e0]; exact h0, by rw [← e1]; exact h1, w0, w1⟩
  obtain ⟨F, hF⟩ := choose_lt each
  refine ⟨some a, c', (List.range l').map F, by simpa using hcs, by simpa using hl, hm, ?_, ?_⟩
  ·rcases Nat.eq_zero_or_pos l' with h0 | h0
   ·exact .inl (by simp [h0, prs])
   ·have hc0 := (hF 0 h0).1
    obtain ⟨b, off, spot⟩ := a
    have hspot : spot = none := by simpa [Addr.add] using World.cell?_spot hc0
    subst hspot
    refine .inr ⟨b, off, rfl, lt_of_cell hc0, fun i u hu => ?_⟩
    obtain ⟨hi, h⟩ := prs_fn F l' i u hu
    have hF' := hF (i / 2) (by omega)
    rw [add_plain, add_plain] at hF'
    rcases h with ⟨hm2, rfl⟩ | ⟨hm2, rfl⟩
    ·rw [show off + i = off + i / 2 * 2 by omega]; exact hF'.1
    ·rw [show off + i = off + (i / 2 * 2 + 1) by omega]; exact hF'.2.1
  ·intro q hq
   obtain ⟨i, hi, rfl⟩ := List.mem_map.1 hq
   exact ⟨(hF i (List.mem_range.1 hi)).2.2.1, (hF i (List.mem_range.1 hi)).2.2.2⟩
structure OpX where
 k : Int
 v : Int
 b : Int
 e : Int
 six : Bool
 ah : Nat
 al : Nat
 pt : Nat
 pr : Nat
 wy : Int
 ms : List (Int × Int)
 A : Option Addr
 n : Nat
 c : Nat
instance : Inhabited OpX := ⟨⟨0, 0, 0, 0, false, 0, 0, 0, 0, 0, [], none, 0, 0⟩⟩
def OpX.cs (x : OpX) : List Value := opC x.k x.v x.b x.e x.six x.ah x.al x.pt x.pr x.wy x.A x.n x.c
theorem OpX.cs_len (x : OpX) : x.cs.length = 11 := rfl
def OpX.ok (W : World) (x : OpX) : Prop := ((-9223372036854775808 ≤ x.k ∧ x.k ≤ 9223372036854775807) ∧ (-9223372036854775808 ≤ x.v ∧ x.v ≤ 9223372036854775807) ∧ (-9223372036854775808 ≤ x.b ∧ x.b ≤ 9223372036854775807) ∧ (-9223372036854775808 ≤ x.e ∧ x.e ≤ 9223372036854775807) ∧ (-9223372036854775808 ≤ x.wy ∧ x.wy ≤ 9223372036854775807)) ∧ x.ah < 18446744073709551616 ∧ x.al < 18446744073709551616 ∧ x.pt < 65536 ∧ x.pr < 256 ∧ Rs 2 W x.A x.n x.c (prs .i64 x.ms) ∧ x.c ≤ maxLen ∧ ∀ q ∈ x.ms, (Lit.int .i64 q.1).wf = true ∧ (Lit.int .i64 q.2).wf = true
set_option maxRecDepth 100000 in
theorem open_opx {H : Type} {enc : TypeId × Value → H} {W : World} {m : Nat} {cs : List Value} {y : DataW H × List MemPlace}
  (hf : DataW.trod enc Tryd.prog W 0 (fun _ => true) true m 48 cs = some y) : ∃ x : OpX, cs = x.cs ∧ x.ok W := by
 obtain ⟨xs, nn, _, _, hl, hlen, hg⟩ := DataW.trod_struct Tryd.underlying48 hf
 have hCadr : Tryd.prog.cellsOf 32 = 3 := by kernel_rfl
 have hCint : Tryd.prog.cellsOf 3 = 1 := by kernel_rfl
 have hCu16 : Tryd.prog.cellsOf 42 = 1 := by kernel_rfl
 have hCu8 : Tryd.prog.cellsOf 5 = 1 := by kernel_rfl
 have hCsl : Tryd.prog.cellsOf 23 = 1 := by kernel_rfl
 have hCR : Tryd.prog.cellsOf 48 = 11 := by kernel_rfl
 rw [hCR] at hl
 obtain ⟨c0, c1, c2, c3, c4, c5, c6, c7, c8, c9, c10, rfl⟩ := listN11 hl
 have hx : xs.length = 9 := by rw [hlen]; rfl
 obtain ⟨x0, x1, x2, x3, x4, x5, x6, x7, x8, rfl⟩ := listN9 hx
 have h0 := hg 0 _ rfl
 have h1 := hg 1 _ rfl
 have h2 := hg 2 _ rfl
 have h3 := hg 3 _ rfl
 have h4 := hg 4 _ rfl
 have h5 := hg 5 _ rfl
 have h6 := hg 6 _ rfl
 have h7 := hg 7 _ rfl
 have h8 := hg 8 _ rfl
 simp only [List.getElem_toArray, List.getElem_cons_zero, List.getElem_cons_succ, hCadr, hCint, hCu16, hCu8, hCsl, List.drop_zero, List.drop_succ_cons, List.take_succ_cons, List.take_zero, List.getElem?_cons_zero, List.getElem?_cons_succ] at h0 h1 h2 h3 h4 h5 h6 h7 h8
 obtain ⟨k, e0, -, w0⟩ := DataW.trod_int Tryd.underlying3 h0
 have b0 := bounds_i64 w0
 obtain ⟨v, e1, -, w1⟩ := DataW.trod_int Tryd.underlying3 h1
 have b1 := bounds_i64 w1
 obtain ⟨b, e2, -, w2⟩ := DataW.trod_int Tryd.underlying3 h2
 have b2 := bounds_i64 w2
 obtain ⟨e, e3, -, w3⟩ := DataW.trod_int Tryd.underlying3 h3
 have b3 := bounds_i64 w3
 obtain ⟨a6, ah, al, e4, p4, q4⟩ := open_adr_cells h4
 obtain ⟨zpt, e5, -, w5⟩ := DataW.trod_int Tryd.underlying42 h5
 have b5 := bounds_u16 w5
 obtain ⟨zpr, e6, -, w6⟩ := DataW.trod_int Tryd.underlying5 h6
 have b6 := bounds_u8 w6
 obtain ⟨wy, e7, -, w7⟩ := DataW.trod_int Tryd.underlying3 h7
 have b7 := bounds_i64 w7
 obtain ⟨A, c, ms, rfl, hlm, hcm, hrd, hwf⟩ := open_prs_cell Tryd.underlying23 Tryd.underlying86 (by kernel_rfl) rfl rfl (by kernel_rfl) (by kernel_rfl) Tryd.underlying3 Tryd.underlying3 h8
 simp only [List.cons.injEq, and_true] at e0 e1 e2 e3 e4 e5 e6 e7
 subst e0
 subst e1
 subst e2
 subst e3
 obtain ⟨rfl, rfl, rfl⟩ := e4
 subst e5
 subst e6
 subst e7
 refine ⟨⟨k, v, b, e, a6, ah, al, zpt.toNat, zpr.toNat, wy, ms, A, ms.length, c⟩, ?_, ?_⟩
 rotate_left
 ·show ((-9223372036854775808 ≤ k ∧ k ≤ 9223372036854775807) ∧ (-9223372036854775808 ≤ v ∧ v ≤ 9223372036854775807) ∧ (-9223372036854775808 ≤ b ∧ b ≤ 9223372036854775807) ∧ (-9223372036854775808 ≤ e ∧ e ≤ 9223372036854775807) ∧ (-9223372036854775808 ≤ wy ∧ wy ≤ 9223372036854775807)) ∧ ah < 18446744073709551616 ∧ al < 18446744073709551616 ∧ zpt.toNat < 65536 ∧ zpr.toNat < 256 ∧ Rs 2 W A ms.length c (prs .i64 ms) ∧ c ≤ maxLen ∧ _
  exact ⟨⟨by omega, by omega, by omega, by omega, by omega⟩, p4, q4, by omega, by omega, ⟨by simp only [prs_length], hlm, hrd⟩, hcm, hwf⟩
 simp only [OpX.cs, opC]
 rw [Int.toNat_of_nonneg (show 0 ≤ zpt by omega), Int.toNat_of_nonneg (show 0 ≤ zpr by omega)]
set_option maxRecDepth 100000 in
theorem open_ops {H : Type} {enc : TypeId × Value → H} {W : World} {base : Nat} {v : Value} {dt : DataW H} {p : List MemPlace} (hv : Value.okWide Tryd.prog W .any base 22 v) (h : DataW.Trod enc Tryd.prog W 0 (fun _ => true) true 22 v dt p) :
  ∃ A k, ∃ L : List OpX, v = .slice A L.length k ∧ L.length ≤ k ∧ k ≤ maxLen ∧ Rd W W.heap.size A (L.flatMap OpX.cs) ∧ ∀ x ∈ L, x.ok W :=
 open_rows OpX.cs (OpX.ok W) 11 OpX.cs_len (by decide) Tryd.underlying22 (by kernel_rfl) (fun m cs y hy => open_opx hy) hv h
end

section
open Go.Lib
open Go.RowKit
attribute [local go_sem ↓] sliced_cut
attribute [local go_sem] cutA_zero
def OpX.o (x : OpX) : OpR := ⟨x.k, x.v, x.b, x.e, x.six, x.ah, x.al, x.pt, x.pr, x.wy, x.ms⟩
theorem OpX.ok_o {W : World} {x : OpX} (h : x.ok W) : OpOk x.o := by
 obtain ⟨⟨h1, h2, h3, h4, h5⟩, h6, h7, h8, h9, -, -, h10⟩ := h
 exact ⟨h1, h2, h3, h4, h6, h7, h8, h9, h5, fun p hp => ⟨by have := bounds_i64 (h10 p hp).1; omega, by have := bounds_i64 (h10 p hp).2; omega⟩⟩
theorem OpX.rs {W : World} {x : OpX} (h : x.ok W) : Rs 2 W x.A x.n x.c (prs .i64 x.ms) := h.2.2.2.2.2.1
def ltC (L : List OpX) : Bool := (L.take 40).all (fun x => decide (x.n ≤ 70)) && decide (L.length ≤ 40)
theorem ltC_use {L : List OpX} (h : ltC L = true) : L.length ≤ 40 ∧ ∀ x ∈ L, x.n ≤ 70 := by
 unfold ltC at h
 simp only [Bool.and_eq_true, List.all_eq_true, decide_eq_true_eq] at h
 rw [List.take_of_length_le h.2] at h
 exact ⟨h.2, h.1⟩
set_option maxHeartbeats 4000000
set_option maxRecDepth 100000
theorem light22_any (L : List OpX) (A : Option Addr) (n c : Nat) (w : World) (hr : Rs 11 w A n c (L.flatMap OpX.cs)) (hn : n ≤ 9223372036854775807) : Calls Tryd.prog 5 #[.slice A n c] w fun en w' => en = .returned (.bool (ltC L)) ∧ w = w' := by
 have hL : L.length = n := by have := hr.1; rw [flat_len OpX.cs 11 OpX.cs_len] at this; omega
 go_enter Tryd.func5, Tryd.ntmps5
 go_upto_region 2 with (fail)
 go_loop [3] (fun I => ∃ i : Nat, I = .int .i64 (i : Int) ∧ i ≤ n ∧ i ≤ 40 ∧ (L.take i).all (fun x => decide (x.n ≤ 70)) = true) (fun I => n - (intOf I).toNat)
 case atStart => exact ⟨0, rfl, by omega, by omega, by simp⟩
 case round =>
  obtain ⟨i, rfl, hi, h40, hp⟩ := hrel
  by_cases h1 : i < n
  ·have i1 : (i : Int) < (n : Int) := by omega
   by_cases h2 : i < 40
   ·have i2 : (i : Int) < 40 := by omega
    obtain ⟨b, off, rfl, hbl, -⟩ := hr.at_ (by omega) (by decide)
    have q : w.cell? ⟨b, off + i * 11 + 10, none⟩ = some (.slice (L[i]'(by omega)).A (L[i]'(by omega)).n (L[i]'(by omega)).c) := (hr.rangeE OpX.cs_len i (by omega)) 10 _ rfl
    have hsn : L.take (i + 1) = L.take i ++ [L[i]'(by omega)] := by simp
    have hmem : (L[i]'(by omega)) ∈ L.take 40 := List.mem_iff_getElem.2 ⟨i, by rw [List.length_take]; omega, by simp⟩
    have HS := Lib.hid hsn
    have HM := Lib.hid hmem
    clear hsn hmem
    generalize (L[i]'(by omega)) = x at *
    by_cases h3 : x.n ≤ 70
    ·have i3 : ¬ (70 : Int) < (x.n : Int) := by omega
     have hp2 : (L.take (i + 1)).all (fun x => decide (x.n ≤ 70)) = true := by
      rw [HS.out, List.all_append, hp]
      simp [h3]
     have HP := Lib.hid hp2
     clear hp hp2
     go_wp2
     go_round
     case rel => exact ⟨i + 1, by go_num, by omega, by omega, HP.out⟩
     case measure => simp [intOf]; omega
    ·have i3 : (70 : Int) < (x.n : Int) := by omega
     have hz : Hid (ltC L = false) := Lib.hid (by
      unfold ltC
      rw [Bool.and_eq_false_iff]
      left
      rw [List.all_eq_false]
      exact ⟨x, HM.out, by simpa using h3⟩)
     clear hp
     go_wp2
     go_ret
     exact ⟨by rw [hz.out]; rfl, rfl⟩
   ·have i2 : ¬ (i : Int) < 40 := by omega
    have i4 : ¬ (n : Int) ≤ 40 := by omega
    have hz : Hid (ltC L = false) := Lib.hid (by
     unfold ltC
     rw [decide_eq_false (by omega), Bool.and_false])
    clear hp
    go_wp2
    go_ret
    exact ⟨by rw [hz.out]; rfl, rfl⟩
  ·have i1 : ¬ (i : Int) < (n : Int) := by omega
   have hin : i = n := by omega
   have i4 : (n : Int) ≤ 40 := by omega
   have hz : Hid (ltC L = true) := Lib.hid (by
    unfold ltC
    rw [List.take_of_length_le (by omega)] at hp ⊢
    rw [hp, decide_eq_true (by omega)]
    rfl)
   clear hp
   go_wp2
   go_ret
   exact ⟨by rw [hz.out]; rfl, rfl⟩
theorem szK16 (key : List UInt8) (hk : key.length = 16) : (Tryd.prog.info? 28).map (·.size) = some (bcs key).length := by rw [bcs_length, hk]; kernel_rfl
theorem rowK16 : ∃ d, Tryd.prog.underlying 28 = some d ∧ d.isRow = true := ⟨_, Tryd.underlying28, rfl⟩
def k16o : List UInt8 := List.replicate 16 0
theorem run_buildSt0 (w : World) : (Instr.build 37 #[]).run Tryd.prog w = .ok (.agg (rcC (cf0 k16o) none 0 0).toArray) w := by kernel_rfl
theorem rc_setKey (key : List UInt8) (hk : key.length = 16) : splice (rcC (cf0 k16o) none 0 0) 1 (bcs key) = rcC (cf0 key) none 0 0 := by
 have e1 : rcC (cf0 k16o) none 0 0 = .int .u64 0 :: (bcs k16o ++ (.int .u64 0 :: (((List.replicate 65 none).map adZ).flatMap adF ++ (((List.replicate 65 (none : Option Adr)).map Option.isSome).map Value.bool ++ [.slice none 0 0])))) := by
  unfold rcC rcL ringC cf0
  simp only [List.append_assoc, List.cons_append, List.nil_append]
  rfl
 have e2 : rcC (cf0 key) none 0 0 = .int .u64 0 :: (bcs key ++ (.int .u64 0 :: (((List.replicate 65 none).map adZ).flatMap adF ++ (((List.replicate 65 (none : Option Adr)).map Option.isSome).map Value.bool ++ [.slice none 0 0])))) := by
  unfold rcC rcL ringC cf0
  simp only [List.append_assoc, List.cons_append, List.nil_append]
  rfl
 rw [e1, e2]
 generalize (.int .u64 0 :: (((List.replicate 65 none).map adZ).flatMap adF ++ (((List.replicate 65 (none : Option Adr)).map Option.isSome).map Value.bool ++ [.slice none 0 0])) : List Value) = T
 have h1 : (bcs k16o).length = (bcs key).length := by simp [bcs_length, hk, k16o]
 unfold splice
 simp only [List.take_succ_cons, List.take_zero, List.cons_append, List.nil_append]
 rw [show 1 + (bcs key).length = (bcs k16o).length + 1 by omega, List.drop_succ_cons, List.drop_left]
theorem rc0_X {G : Nat → Prop} {w : World} (key : List UInt8) : RcX G w (cf0 key) none 0 0 [] := ⟨rfl, Rs.nil_, Off.none_, (fun x h => by cases h), (fun x h => by cases h), (fun x h => by cases h)⟩
def MC.cfg {D : Nat → Prop} (base : Nat) (hd : ∀ b, D b → b < base) (key : List UInt8) : MC D := ⟨fun v w => ∃ g, v = .pointer (some ⟨g, 0, none⟩) ∧ base ≤ g ∧ Bk w g 85 (stC (cf0 key) none 0 0), fun _ _ _ ⟨g, h1, h2, h3⟩ h => ⟨g, h1, h2, h3.chg h (fun hD => by have := hd _ hD; omega)⟩⟩
theorem bodyPost_agg2' {P : Program} {fn : Func} {R : Ending → World → Prop} {a : Act} {w : World} {slot slot2 ty g : Nat} {d : TypeDesc} {cs : List Value} {u : Value} (hfr : fn.results = #[.tmp slot2, .cell slot ty]) (hs : a.tmps.getD slot undef = .pointer (some ⟨g, 0, none⟩)) (hs2 : a.tmps.getD slot2 undef = u)
  (hb : w.rangeAt g 0 cs) (hu : P.underlying ty = some d) (hd : d.isRow = true) (hi : (P.info? ty).map (·.size) = some cs.length) (hdf : a.defers = []) (hR : R (.returned (.tuple #[u, .agg cs.toArray])) w) : bodyPost P fn R .ret a w := by
 refine bodyPost_ret (v := .tuple #[u, .agg cs.toArray]) ?_ hdf hR
 have h1 := run_loadVar_mid (P := P) w g 0 ty cs d hb hu hd hi
 have hs' : a.tmps[slot]?.getD undef = .pointer (some ⟨g, 0, none⟩) := by simpa using hs
 have hs2' : a.tmps[slot2]?.getD undef = u := by simpa using hs2
 simp [results, hfr, hs', hs2', asAddr, h1]
theorem begun_any (key : List UInt8) (hk16 : key.length = 16) (w : World) : Calls Tryd.prog 6 #[.agg (bcs key).toArray] w fun e w' => ∃ g, e = .returned (.tuple #[.pointer (some ⟨g, 0, none⟩), .agg (rcC (cf0 key) none 0 0).toArray]) ∧ w.heap.size ≤ g ∧ Below w.heap.size w w' ∧ Bk w' g 85 (stC (cf0 key) none 0 0) := by
 obtain ⟨dvk, vk1, vk2⟩ := rowK16
 obtain ⟨dvs, vs1, vs2⟩ := rowRcS
 have HZL := Lib.hid (show (Tryd.zeroCells37).toList.length = 279 by kernel_rfl)
 have kb : Bk (w.alloc (.cells (bcs key).toArray 28)) w.heap.size 28 (bcs key) := Bk.new w 28 (bcs key).toArray
 have be : Below w.heap.size w (w.alloc (.cells (bcs key).toArray 28)) := Below.allocS (Below.refl _ _) _
 go_enter Tryd.func6, Tryd.ntmps6
 go_upto_region 1 with (fail)
 have HVe := Lib.hid (show (w.alloc (.cells (bcs key).toArray 28)).heap.size = w.heap.size + 1 by simp)
 generalize w.alloc (.cells (bcs key).toArray 28) = V at *
 have hz := Bk.newK 37 (Tryd.zeroCells37) _ HVe.out.symm rfl
 have hzl := HZL.out
 have hbz : Below V.heap.size V (V.alloc (.cells (Tryd.zeroCells37) 37)) := Below.allocS (Below.refl _ _) _
 go_upto_region 1 with (fail)
 generalize hV2 : V.alloc (.cells (Tryd.zeroCells37) 37) = V2 at *
 clear hV2
 generalize hzc : (Tryd.zeroCells37).toList = zl0 at hz hzl
 clear hzc
 have kb2 := kb.later hbz
 have be2 := be.trans (hbz.mono be.size)
 clear hbz kb be
 refine wp_region_lit ?_
 refine wpList_build 37 [] rfl rfl (.agg (rcC (cf0 k16o) none 0 0).toArray) (run_buildSt0 _) ?_
 refine wpList_plain rfl (fun K hK => ?_); go_simp; with_reducible refine hK _ _ ?_; clear hK K
 refine wpList_stA (t := 37) 37 (.tmp 4) (.tmp 5) rfl rfl (rcC (cf0 k16o) none 0 0) (Tryd.zeroCells37).toList (by rw [rcC_len _ rfl (by simp [cf0])]; exact HZL.out.symm) (rcL_one _ _ _ _ _ _ _ _) rfl rfl (Bk.new _ _ _) (szRcS _ rfl (by simp [cf0]) _ _ _) ?_
 intro W3 h3 g3
 simp only [Act.put, qsT, qsZ, qsS]
 have hr2 := hz.lt
 have kb3 := (kb2.later (Below.allocS (Below.refl V2.heap.size V2) (.cells (Tryd.zeroCells37) 37))).grown g3 (fun e => by injection e with e; omega)
 have hz3 := (hz.later (Below.allocS (Below.refl V2.heap.size V2) (.cells (Tryd.zeroCells37) 37))).grown g3 (fun e => by injection e with e; omega)
 have be3 : Below w.heap.size w W3 := below_grown (Below.allocS be2 _) g3 (by have := be2.size; omega)
 clear kb2 hz be2 g3
 generalize V2.heap.size = r at *
 go_upto_region 2 with (fail)
 refine wp_region_lit ?_
 refine wpList_ldA (t := 28) 28 (.tmp 1) rfl rfl (bcs key) rfl (kb3) (whole_ _) vk1 vk2 (szK16 key hk16) ?_
 iterate 2 (refine wpList_plain rfl (fun K hK => ?_); go_simp; with_reducible refine hK _ _ ?_; clear hK K)
 refine wpList_stM (t := 37) (off := 1) 28 (.tmp 8) (.tmp 6) rfl rfl (bcs key) (rcC (cf0 k16o) none 0 0) (by rw [rcC_len _ rfl (by simp [cf0]), bcs_length, hk16]; decide) (bcs_one key) rfl rfl h3 (szK16 key hk16) ?_
 intro W4 h4 g4
 simp only [Act.put, qsT, qsZ, qsS]
 rw [rc_setKey key hk16] at h4
 have kb4 := kb3.grown g4 (fun e => by injection e with e; omega)
 have hz4 : Bk W4 (w.heap.size + 1) 37 (if (0 : Nat) = 0 then zl0 else rcC (cf0 key) none 0 0) := hz3.grown g4 (fun e => by injection e with e; omega)
 have be4 := below_grown be3 g4 (by omega)
 have hr4 := h4.lt
 have hDB : ∀ b, b = w.heap.size + 1 → b < W4.heap.size := fun b h => by omega
 clear kb3 hz3 be3 g4
 go_upto_region 3 with (fail)
 refine wp_suS (fun b => b = w.heap.size + 1) 5 12 2 [4] rfl (by kernel_rfl) (by kernel_rfl) (fun k w' => Bk w' (w.heap.size + 1) 37 (if k = 0 then zl0 else rcC (cf0 key) none 0 0)) (fun k _ _ h hx => h.later hx.below) (hz4) ?_
 apply StepsC.one (MC.eq _) 1 rfl (by decide)
 ·intro o ho FA w' hC hO hD K hK
  obtain rfl := qoi ho
  have e1 := hO 1 (by kernel_rfl)
  simp only [eval_tmp, qgT, qgS, qgZ, qoS] at e1
  have ev1 := Lib.hid ((eval_tmp FA 1).trans e1)
  clear hO hD ho
  refine wanted_if rfl ?_
  refine wp_ldA 28 (.tmp 1) rfl (bcs key) ev1.out (kb4.chg hC (by omega)) (whole_ _) vk1 vk2 (szK16 key hk16) ?_
  exact hK.out _ _ (Ex.refl _) rfl
 apply StepsC.one (MC.cfg W4.heap.size hDB key) 2 rfl (by decide)
 ·intro o ho FA w' hC hO hD K hK
  obtain rfl := qoi ho
  obtain ⟨e9, ev9⟩ := qE (hD 0 9 (by kernel_rfl))
  clear hO hD ho
  go_simp
  refine (new_any key hk16 _).mono ?_
  rintro e w2 ⟨g, rfl, hg0, hbN, hst⟩
  exact hK.out _ _ (Ex.of hbN) ⟨g, rfl, Nat.le_trans hC.size hg0, hst⟩
 apply StepsC.one (MC.eq _) 3 rfl (by decide)
 ·intro o ho FA w' hC hO hD K hK
  obtain rfl := qoi ho
  have e4 := hO 4 (by kernel_rfl)
  simp only [eval_tmp, qgT, qgS, qgZ, qoS] at e4
  have ev4 := Lib.hid ((eval_tmp FA 4).trans e4)
  clear hO hD ho
  refine wanted_if rfl ?_
  refine wp_ldA 37 (.tmp 4) rfl (rcC (cf0 key) none 0 0) ev4.out (h4.chg hC (by omega)) (whole_ _) vs1 vs2 (szRcS _ hk16 (by simp [cf0]) _ _ _) ?_
  exact hK.out _ _ (Ex.refl _) rfl
 apply StepsC.one (MC.cfg W4.heap.size hDB key) 4 rfl (by decide)
 ·intro o ho FA w' hC hO hD K hK
  obtain rfl := qoi ho
  obtain ⟨u10, f10, e10, ev10⟩ := qC (hD 1 10 (by kernel_rfl))
  clear hO hD ho
  go_simp
  exact hK.out _ _ (Ex.refl _) f10
 apply StepsC.mov (MC.any) 5 0 rfl rfl rfl
 ·intro o ho FA w' hC hO hD hS K hK
  obtain rfl := qoi ho
  have e3 := hO 3 (by kernel_rfl)
  simp only [eval_tmp, qgT, qgS, qgZ, qoS] at e3
  have ev3 := Lib.hid ((eval_tmp FA 3).trans e3)
  obtain ⟨e11, ev11⟩ := qE (hD 2 11 (by kernel_rfl))
  clear hO hD ho
  refine wanted_if rfl ?_
  refine wp_stA 37 (.tmp 3) (.tmp 11) rfl (rcC (cf0 key) none 0 0) zl0 (by rw [rcC_len _ hk16 (by simp [cf0])]; exact hzl.symm) (rcL_one _ _ _ _ _ _ _ _) ev3.out ev11.out hS (szRcS _ hk16 (by simp [cf0]) _ _ _) ?_
  intro w'' hn hgr
  exact hK.out undef _ (Chg.one hgr rfl) hn trivial
 refine StepsC.fin_ (fun vs w' hC hS hp => ?_)
 have p0 : vs 0 = _ := hp 0 (by omega) rfl
 have p1 := hp 1 (by omega) rfl
 have p2 : vs 2 = _ := hp 2 (by omega) rfl
 have p3 := hp 3 (by omega) rfl
 clear hp
 simp only [List.take_succ_cons, List.take_zero, List.drop_succ_cons, List.drop_zero, putAll, Nat.zero_add, Nat.reduceAdd, Act.put, qsT, qsZ, qsS, p0, p2]
 clear p0 p2
 generalize vs 1 = y1 at *
 generalize vs 3 = y3 at *
 clear vs
 obtain ⟨g, hg, hg0, hst⟩ := p3
 have hSf : Bk w' (w.heap.size + 1) 37 (rcC (cf0 key) none 0 0) := hS
 rw [hg]
 have beW := be4.trans (hC.below (B := w.heap.size) (fun b h => by omega) be4.size)
 go_wp2
 refine bodyPost_agg2' Tryd.results6 rfl rfl hSf.range vs1 vs2 (szRcS _ hk16 (by simp [cf0]) _ _ _) rfl ?_
 exact ⟨g, rfl, by have := be4.size; omega, beW, hst⟩
end

section
open Go.Lib
open Go.RowKit
attribute [local go_sem ↓] sliced_cut
attribute [local go_sem] cutA_zero
def k16a : List UInt8 := 1 :: List.replicate 15 0
def oA1 : OpR := ⟨1, 0, 1, 0, false, 0, 0, 0, 0, 0, []⟩
def oA2 : OpR := ⟨2, 0, 0, 0, false, 0, 0, 0, 6, 1, []⟩
def oA3 : OpR := ⟨3, 0, 0, 0, false, 0, 0, 0, 0, 0, [(1, 1)]⟩
def cA1 : Cf := apC (cf0 k16a) oA1
def cA2 : Cf := apC cA1 oA2
def cA3 : Cf := apC cA2 oA3
theorem oA_ok : OpOk oA1 ∧ OpOk oA2 ∧ OpOk oA3 := by
 refine ⟨⟨?_, ?_, ?_, ?_, ?_, ?_, ?_, ?_, ?_, ?_⟩, ⟨?_, ?_, ?_, ?_, ?_, ?_, ?_, ?_, ?_, ?_⟩, ⟨?_, ?_, ?_, ?_, ?_, ?_, ?_, ?_, ?_, ?_⟩⟩ <;> simp [oA1, oA2, oA3]
theorem run_bK16 (w : World) : (Instr.build 28 #[(0, .int .u8 1)]).run Tryd.prog w = .ok (.agg (bcs k16a).toArray) w := by kernel_rfl
theorem run_bO1 (w : World) : (Instr.build 45 #[(0, .int .i64 1), (2, .int .i64 1)]).run Tryd.prog w = .ok (.agg (opC 1 0 1 0 false 0 0 0 0 0 none 0 0).toArray) w := by kernel_rfl
theorem run_bO2 (w : World) : (Instr.build 45 #[(0, .int .i64 2), (6, .int .u8 6), (7, .int .i64 1)]).run Tryd.prog w = .ok (.agg (opC 2 0 0 0 false 0 0 0 6 1 none 0 0).toArray) w := by kernel_rfl
theorem run_bO3 (A : Option Addr) (w : World) : (Instr.build 45 #[(0, .int .i64 3), (8, .slice A 1 1)]).run Tryd.prog w = .ok (.agg (opC 3 0 0 0 false 0 0 0 0 0 A 1 1).toArray) w := by kernel_rfl
theorem run_bM1 (w : World) : (Instr.build 68 #[(0, .int .i64 1), (1, .int .i64 1)]).run Tryd.prog w = .ok (.agg #[.int .i64 1, .int .i64 1]) w := by kernel_rfl
def OneS (B0 : Nat) (W : World) (g : Nat) (C : Cf) : Prop := ∃ G D, CfM G D W g C ∧ ∀ b, G b → B0 ≤ b
theorem OneS.ap {B0 : Nat} {W W1 : World} {g : Nat} {C : Cf} (h : OneS B0 W g C) (hC : CfOk C) (hb : Below W.heap.size W W1) (h0 : B0 ≤ W.heap.size) (k v b e : Int) (six : Bool) (ah al pt pr : Nat) (wy : Int) (ms : List (Int × Int)) (ho : OpOk ⟨k, v, b, e, six, ah, al, pt, pr, wy, ms⟩) {B : Option Addr} {m d : Nat} (hr : Os 68 2 W1 W.heap.size B m d (prs .i64 ms)) (hm : m ≤ 1000000) :
  Calls Tryd.prog 7 #[.pointer (some ⟨g, 0, none⟩), .agg (opC k v b e six ah al pt pr wy B m d).toArray] W1 fun en w' => en = .returned (.int .i64 (chE C ⟨k, v, b, e, six, ah, al, pt, pr, wy, ms⟩ : Nat)) ∧ OneS B0 w' g (apC C ⟨k, v, b, e, six, ah, al, pt, pr, wy, ms⟩) ∧ Below B0 W1 w' := by
 obtain ⟨G, D, ⟨A, n, c, E, hX⟩, h1⟩ := h
 have hX1 := hX.later hb
 refine (apply_any k v b e six ah al pt pr wy ms B m d C hC g A n c E W1 hX1 ho hr.rs (Off.own hr (fun b hg => hX.lt b hg)) hm).mono ?_
 rintro en w' ⟨rfl, G2, D2, hM, hgr, hc⟩
 have hs := hb.size
 exact ⟨rfl, ⟨G2, D2, hM, fun b hb2 => (hgr.gn b hb2).elim (h1 b) (fun h => by omega)⟩, hc.below (fun b hD => h1 b (hX.sub b hD)) (by omega)⟩
set_option maxHeartbeats 4000000 in
set_option maxRecDepth 100000 in
theorem awake22 (w : World) : Calls Tryd.prog 4 #[] w (RetV w (.bool true)) := by
 obtain ⟨dvv, vv1, vv2⟩ := rowVe
 obtain ⟨dvt, vt1, vt2⟩ := rowTab
 have c0 := cf0_ok k16a rfl
 have c1 : CfOk cA1 := apC_ok c0 oA_ok.1
 have c2 : CfOk cA2 := apC_ok c1 oA_ok.2.1
 have c3 : CfOk cA3 := apC_ok c2 oA_ok.2.2
 have v1 : chE (cf0 k16a) oA1 = 0 := by decide +kernel
 have v2 : chE cA1 oA2 = 0 := by decide +kernel
 have v3 : chE cA2 oA3 = 0 := by decide +kernel
 have HNU := Lib.hid (show cA3.num = 3 by decide +kernel)
 have hvs : (cA3.vs[0]?).map (fun v => (v.S.lv[v.S.lv.length - 1]?).map (fun l => atT l.2 0)) = some (some 1) := by decide +kernel
 have HNEW := Lib.hid (fun W => new_any k16a rfl W)
 have HA1 := Lib.hid (fun W g (h : OneS w.heap.size W g (cf0 k16a)) (W1 : World) (hb : Below W.heap.size W W1) (h0 : w.heap.size ≤ W.heap.size) => by
  have := h.ap c0 hb h0 1 0 1 0 false 0 0 0 0 0 [] oA_ok.1 (B := none) (m := 0) (d := 0) Os.nil_ (by omega)
  rw [show chE (cf0 k16a) ⟨1, 0, 1, 0, false, 0, 0, 0, 0, 0, []⟩ = 0 from v1, show apC (cf0 k16a) ⟨1, 0, 1, 0, false, 0, 0, 0, 0, 0, []⟩ = cA1 from rfl] at this
  exact this)
 have HA2 := Lib.hid (fun W g (h : OneS w.heap.size W g cA1) (W1 : World) (hb : Below W.heap.size W W1) (h0 : w.heap.size ≤ W.heap.size) => by
  have := h.ap c1 hb h0 2 0 0 0 false 0 0 0 6 1 [] oA_ok.2.1 (B := none) (m := 0) (d := 0) Os.nil_ (by omega)
  rw [show chE cA1 ⟨2, 0, 0, 0, false, 0, 0, 0, 6, 1, []⟩ = 0 from v2, show apC cA1 ⟨2, 0, 0, 0, false, 0, 0, 0, 6, 1, []⟩ = cA2 from rfl] at this
  exact this)
 have HA3 := Lib.hid (fun W g (h : OneS w.heap.size W g cA2) (W1 : World) (hb : Below W.heap.size W W1) (h0 : w.heap.size ≤ W.heap.size) (B : Option Addr) (m d : Nat) (hm : m ≤ 1000000) (hr : Os 68 2 W1 W.heap.size B m d (prs .i64 [(1, 1)])) => by
  have := h.ap c2 hb h0 3 0 0 0 false 0 0 0 0 0 [(1, 1)] oA_ok.2.2 hr hm
  rw [show chE cA2 ⟨3, 0, 0, 0, false, 0, 0, 0, 0, 0, [(1, 1)]⟩ = 0 from v3, show apC cA2 ⟨3, 0, 0, 0, false, 0, 0, 0, 0, 0, [(1, 1)]⟩ = cA3 from rfl] at this
  exact this)
 obtain ⟨v, n0, T, hv, hgl, hat⟩ : ∃ v n0 T, cA3.vs[0]? = some v ∧ v.S.lv[v.S.lv.length - 1]? = some (n0, T) ∧ atT T 0 = 1 := by
  cases hc : cA3.vs[0]? with
  | none => rw [hc] at hvs; simp at hvs
  | some v =>
   rw [hc] at hvs
   simp only [Option.map_some, Option.some.injEq] at hvs
   cases hq : v.S.lv[v.S.lv.length - 1]? with
   | none => rw [hq] at hvs; simp at hvs
   | some l =>
    rw [hq] at hvs
    exact ⟨v, l.1, l.2, rfl, hq, by simpa using hvs⟩
 obtain ⟨hlt, hge⟩ := List.getElem?_eq_some_iff.1 hgl
 have hl1 : 0 < v.S.lv.length := by omega
 have hok := (c3.vs v (List.mem_of_getElem? hv)).st
 have hTo := (hok.rg _ (List.getElem_mem hlt)).2
 have HNW := Lib.hid (fun P W (h : Bk W P 102 (stkC v.S)) => by
  have := newest_yes v.S hok.len hl1 P W h
  rw [hge] at this
  exact this)
 rw [hge] at hTo
 have hTo2 : TabOk T := hTo
 have HTO := Lib.hid hTo2
 have HAT := Lib.hid (fun W => at_any T hTo2 0 W)
 rw [hat] at HAT
 clear hat hTo hTo2 hge hgl hlt hl1
 have hk3 := c3.key
 have hb3 := c3.bl
 have HV := Lib.hid hv
 clear hvs v1 v2 v3 c0 c1 c2 c3 hok hv
 generalize cA3 = C3 at *
 generalize cA2 = C2 at *
 generalize cA1 = C1 at *
 have be := Below.refl w.heap.size w
 go_enter Tryd.func4, Tryd.ntmps4
 go_upto_region 1 with (fail)
 refine wp_region_lit ?_
 refine wpList_build 28 [(0, .const (.int .u8 1))] rfl rfl (.agg (bcs k16a).toArray) (run_bK16 _) ?_
 refine wpList_plain rfl (fun K hK => ?_)
 go_simp
 refine (HNEW.out _).mono ?_
 rintro e w1 ⟨g, rfl, hg0, hb, hst⟩
 with_reducible refine hK _ _ ?_
 clear hK K
 refine wpList_plain rfl (fun K hK => ?_); go_simp; with_reducible refine hK _ _ ?_; clear hK K
 have hS : OneS w.heap.size w1 g (cf0 k16a) := ⟨_, _, ⟨_, _, _, _, cf0_X (G := fun _ => False) hst (fun b hb => hb.elim)⟩, fun b hb => hb.elim False.elim (fun e => by rw [e]; exact Nat.le_trans be.size hg0)⟩
 replace be := be.trans (hb.mono be.size)
 clear hb hst hg0
 go_upto_region 4 with (fail)
 refine wp_region_lit ?_
 refine wpList_plain rfl (fun K hK => ?_); go_simp; with_reducible refine hK _ _ ?_; clear hK K
 refine wpList_build 45 [(0, .const (.int .i64 1)), (2, .const (.int .i64 1))] rfl rfl (.agg (opC 1 0 1 0 false 0 0 0 0 0 none 0 0).toArray) (run_bO1 _) ?_
 refine wpList_plain rfl (fun K hK => ?_)
 go_simp
 refine (HA1.out _ g hS _ (Below.refl _ _) be.size).mono ?_
 rintro e w1 ⟨rfl, hS2, hb⟩
 with_reducible refine hK _ _ ?_
 clear hK K
 refine wpList_plain rfl (fun K hK => ?_); go_simp; with_reducible refine hK _ _ ?_; clear hK K
 replace be := be.trans hb
 clear hb hS
 go_upto_region 5 with (fail)
 refine wp_region_lit ?_
 refine wpList_plain rfl (fun K hK => ?_); go_simp; with_reducible refine hK _ _ ?_; clear hK K
 refine wpList_build 45 [(0, .const (.int .i64 2)), (6, .const (.int .u8 6)), (7, .const (.int .i64 1))] rfl rfl (.agg (opC 2 0 0 0 false 0 0 0 6 1 none 0 0).toArray) (run_bO2 _) ?_
 refine wpList_plain rfl (fun K hK => ?_)
 go_simp
 refine (HA2.out _ g hS2 _ (Below.refl _ _) be.size).mono ?_
 rintro e w1 ⟨rfl, hS3, hb⟩
 with_reducible refine hK _ _ ?_
 clear hK K
 refine wpList_plain rfl (fun K hK => ?_); go_simp; with_reducible refine hK _ _ ?_; clear hK K
 replace be := be.trans hb
 clear hb hS2
 go_upto_region 6 with (fail)
 generalize hW3 : w1 = W3 at *
 refine wp_region_lit ?_
 refine wpList_plain rfl (fun K hK => ?_); go_simp; with_reducible refine hK _ _ ?_; clear hK K
 refine wpList_build 68 [(0, .const (.int .i64 1)), (1, .const (.int .i64 1))] rfl rfl (.agg #[.int .i64 1, .int .i64 1]) (run_bM1 _) ?_
 refine wpList_plain rfl (fun K hK => ?_)
 refine wp_bs1 etCm (.tmp 21) rfl [.int .i64 1, .int .i64 1] rfl (by decide) rfl ?_
 with_reducible refine hK _ _ ?_
 clear hK K
 simp only [Act.put, qsT, qsZ, qsS]
 refine wpList_build 45 [(0, .const (.int .i64 3)), (8, .tmp 22)] rfl rfl (.agg (opC 3 0 0 0 false 0 0 0 0 0 (some ⟨W3.heap.size, 0, none⟩) 1 1).toArray) (run_bO3 _ _) ?_
 refine wpList_plain rfl (fun K hK => ?_)
 go_simp
 refine (HA3.out W3 g hS3 (W3.alloc (.cells #[.int .i64 1, .int .i64 1] 68)) (Below.allocS (Below.refl _ _) _) be.size _ _ _ (by omega) (Os.lit (s := 2) (e := 68) W3 (Nat.le_refl _) #[.int .i64 1, .int .i64 1] 1 rfl (by simp [maxLen]))).mono ?_
 rintro e w1 ⟨rfl, hS4, hb⟩
 with_reducible refine hK _ _ ?_
 clear hK K
 refine wpList_plain rfl (fun K hK => ?_); go_simp; with_reducible refine hK _ _ ?_; clear hK K
 replace be := (be.trans (Below.allocS (Below.refl _ _) (.cells #[.int .i64 1, .int .i64 1] 68) |>.mono be.size)).trans hb
 clear hb hS3
 obtain ⟨G, D, ⟨A, n, c, E, hX⟩, hG1⟩ := hS4
 obtain ⟨x0, hx0, hx1⟩ := E_at hX HV.out
 have HVP := Lib.hid (fun W (h : CfX G D W g C3 A n c E) => vip_any C3 hk3 hb3 g A n c E 0 x0 W h hx0)
 have HTB := Lib.hid (hx1 ▸ hX.tb x0 (List.mem_of_getElem? hx0) : Bk w1 x0.2.T 102 (stkC v.S))
 have HQ := Lib.hid (show Bk w1 g 85 (stC C3 A n c) from hX.st)
 generalize hW4 : w1 = W4 at *
 clear hW4
 go_upto_region 7 with (fail)
 refine wp_region_lit ?_
 refine wpList_plain rfl (fun K hK => ?_); go_simp; with_reducible refine hK _ _ ?_; clear hK K
 refine wpList_plain rfl (fun K hK => ?_)
 go_simp
 refine (HVP.out _ hX).mono ?_
 rintro e w1 ⟨bs1, d1, rfl, rfl⟩
 with_reducible refine hK _ _ ?_
 clear hK K
 iterate 4 (refine wpList_plain rfl (fun K hK => ?_); go_simp; with_reducible refine hK _ _ ?_; clear hK K)
 refine wpList_stA (t := 53) 53 (.tmp 5) (.tmp 28) rfl rfl (veC (clV x0)) veZ rfl (veC_one _) rfl rfl (Bk.newK _ _ _ (by simp [size_plus]) rfl) (szVe _) ?_
 intro W5 h5 g5
 refine wpList_plain rfl (fun K hK => ?_); go_simp; with_reducible refine hK _ _ ?_; clear hK K
 have hb5 : Below W4.heap.size W4 W5 := below_grown (Below.allocS (below_plus W4 bs1 d1) _) g5 (by simp [size_plus])
 replace be := be.trans (hb5.mono be.size)
 have ht5 := HTB.out.later hb5
 replace HQ := Lib.hid (HQ.out.later hb5)
 generalize W4.heap.size + bs1.length = gv at *
 clear hb5 g5 hX hx0 hx1 HVP HTB
 go_upto_region 8 with (fail)
 refine wp_region_lit ?_
 refine wpList_plain rfl (fun K hK => ?_); go_simp; with_reducible refine hK _ _ ?_; clear hK K
 refine wpList_ld1 (t := 53) (cs := veC (clV x0)) 51 (.tmp 31) rfl (by rfl) rfl (h5) rfl Tryd.underlying51 rfl ?_
 refine wpList_plain rfl (fun K hK => ?_)
 go_simp
 refine (HNW.out _ _ ht5).mono ?_
 rintro e w1 ⟨bs1, d1, rfl, rfl⟩
 with_reducible refine hK _ _ ?_
 clear hK K
 iterate 6 (refine wpList_plain rfl (fun K hK => ?_); go_simp; with_reducible refine hK _ _ ?_; clear hK K)
 refine wpList_stA (t := 73) 73 (.tmp 8) (.tmp 35) rfl rfl (tabC T) (Tryd.zeroCells73).toList (by rw [tabC_len0]; kernel_rfl) (tabC_one T) rfl rfl (Bk.newK _ _ _ (by simp [size_plus]) rfl) (szTab T HTO.out.len) ?_
 intro W7 h7 g7
 refine wpList_plain rfl (fun K hK => ?_); go_simp; with_reducible refine hK _ _ ?_; clear hK K
 have hb7 : Below W5.heap.size W5 W7 := below_grown (Below.allocS (below_plus W5 bs1 d1) _) g7 (by simp [size_plus])
 replace be := be.trans (hb7.mono be.size)
 have HQ7 := Lib.hid (fun W (h : Below W7.heap.size W7 W) => show W.cell? ⟨g, 0, none⟩ = some (.int .u64 3) by
  have := (((HQ.out.later hb7).later h).cell 0)
  rw [this]
  show some (Value.int .u64 (C3.num : Int)) = _
  rw [HNU.out]
  rfl)
 generalize W5.heap.size + bs1.length = gt at *
 clear hb7 g7 HQ ht5 h5
 go_upto_region 9 with (fail)
 refine wp_region_lit ?_
 iterate 3 (refine wpList_plain rfl (fun K hK => ?_); go_simp; with_reducible refine hK _ _ ?_; clear hK K)
 iterate 2 (refine wpList_step (fun K hK => ?_); go_simp; with_reducible refine hK _ _ ?_; clear hK K)
 iterate 2 (refine wpList_plain rfl (fun K hK => ?_); go_simp; with_reducible refine hK _ _ ?_; clear hK K)
 iterate 2 (refine wpList_step (fun K hK => ?_); go_simp; with_reducible refine hK _ _ ?_; clear hK K)
 iterate 2 (refine wpList_plain rfl (fun K hK => ?_); go_simp; with_reducible refine hK _ _ ?_; clear hK K)
 refine wpList_step (fun K hK => ?_); go_simp; with_reducible refine hK _ _ ?_; clear hK K
 iterate 2 (refine wpList_plain rfl (fun K hK => ?_); go_simp; with_reducible refine hK _ _ ?_; clear hK K)
 refine wpList_step (fun K hK => ?_); go_simp; with_reducible refine hK _ _ ?_; clear hK K
 iterate 2 (refine wpList_plain rfl (fun K hK => ?_); go_simp; with_reducible refine hK _ _ ?_; clear hK K)
 refine wpList_ldG (t := 73) 73 (.tmp 8) rfl (by go_simp) (tabC T) rfl (h7) (whole_ _) vt1 vt2 (szTab T HTO.out.len) ?_
 refine wpList_step (fun K hK => ?_)
 go_simp
 refine (HAT.out _).mono ?_
 rintro e w1 ⟨bs1, d1, rfl, rfl⟩
 with_reducible refine hK _ _ ?_
 clear hK K
 have q8 := HQ7.out _ (below_plus W7 bs1 d1)
 refine wpList_step (fun K hK => ?_); go_simp; with_reducible refine hK _ _ ?_; clear hK K
 iterate 2 (refine wpList_plain rfl (fun K hK => ?_); go_simp; with_reducible refine hK _ _ ?_; clear hK K)
 iterate 5 (refine wpList_step (fun K hK => ?_); go_simp; with_reducible refine hK _ _ ?_; clear hK K)
 iterate 2 (refine wpList_plain rfl (fun K hK => ?_); go_simp; with_reducible refine hK _ _ ?_; clear hK K)
 go_wp2
 go_ret
 exact RetV.is_ rfl (be.trans ((below_plus W7 bs1 d1).mono be.size))
end

section
open Go.RowKit
attribute [local go_sem ↓] sliced_cut
attribute [local go_sem] cutA_zero
set_option maxRecDepth 100000 in
theorem run_buildTo (k v b e : Int) (six : Bool) (ah al pt pr : Nat) (wy : Int) (w : World) : (Instr.build 45 #[(0, .int .i64 k), (1, .int .i64 v), (2, .int .i64 b), (3, .int .i64 e), (4, .agg (adC six ah al).toArray), (5, .int .u16 (pt : Int)), (6, .int .u8 (pr : Int)), (7, .int .i64 wy)]).run Tryd.prog w = .ok (.agg (opC k v b e six ah al pt pr wy none 0 0).toArray) w := by kernel_rfl
set_option maxHeartbeats 4000000 in
set_option maxRecDepth 100000 in
theorem to22_own (k v b e : Int) (six : Bool) (ah al pt pr : Nat) (wy : Int) (ms : List (Int × Int)) (A : Option Addr) (n c : Nat) (w : World) (hr : Rs 2 w A n c (prs .i64 ms)) (hn : n ≤ 1000000) : Calls Tryd.prog 8 #[.agg (opC k v b e six ah al pt pr wy A n c).toArray] w fun en w' => ∃ B d bs d0, en = .returned (.agg (opC k v b e six ah al pt pr wy B n d).toArray) ∧ w' = plus w bs d0 ∧ Os 68 2 (plus w bs d0) w.heap.size B n d (prs .i64 ms) := by
 obtain ⟨da, a1, a2⟩ : ∃ d, Tryd.prog.underlying 32 = some d ∧ d.isRow = true := ⟨_, Tryd.underlying32, rfl⟩
 have hml : ms.length = n := by have := hr.1; rw [prs_length] at this; omega
 have hr0 := hr
 obtain ⟨dv1, v1, v2⟩ := rowRo
 obtain ⟨dw1, w1, w2⟩ := rowOpC
 have b1 : Bk ((w.alloc (.cells (opC k v b e six ah al pt pr wy A n c).toArray 48)).alloc (.cells #[.int .i64 0, .int .i64 0, .int .i64 0, .int .i64 0, .bool false, .int .u64 0, .int .u64 0, .int .u16 0, .int .u8 0, .int .i64 0, .slice none 0 0] 45)) w.heap.size 48 (opC k v b e six ah al pt pr wy A n c) := (Bk.new w 48 (opC k v b e six ah al pt pr wy A n c).toArray).alloc _
 have b2 : Bk ((w.alloc (.cells (opC k v b e six ah al pt pr wy A n c).toArray 48)).alloc (.cells #[.int .i64 0, .int .i64 0, .int .i64 0, .int .i64 0, .bool false, .int .u64 0, .int .u64 0, .int .u16 0, .int .u8 0, .int .i64 0, .slice none 0 0] 45)) (w.heap.size + 1) 45 (opC 0 0 0 0 false 0 0 0 0 0 none 0 0) := Bk.newK _ _ _ (by simp) rfl
 have be : Below w.heap.size w ((w.alloc (.cells (opC k v b e six ah al pt pr wy A n c).toArray 48)).alloc (.cells #[.int .i64 0, .int .i64 0, .int .i64 0, .int .i64 0, .bool false, .int .u64 0, .int .u64 0, .int .u16 0, .int .u8 0, .int .i64 0, .slice none 0 0] 45)) := Below.allocS (Below.allocS (Below.refl _ _) _) _
 have zV : w.heap.size + 2 ≤ ((w.alloc (.cells (opC k v b e six ah al pt pr wy A n c).toArray 48)).alloc (.cells #[.int .i64 0, .int .i64 0, .int .i64 0, .int .i64 0, .bool false, .int .u64 0, .int .u64 0, .int .u16 0, .int .u8 0, .int .i64 0, .slice none 0 0] 45)).heap.size := by simp
 go_enter Tryd.func8, Tryd.ntmps8
 go_upto_region 1 with (fail)
 generalize (w.alloc (.cells (opC k v b e six ah al pt pr wy A n c).toArray 48)).alloc (.cells #[.int .i64 0, .int .i64 0, .int .i64 0, .int .i64 0, .bool false, .int .u64 0, .int .u64 0, .int .u16 0, .int .u8 0, .int .i64 0, .slice none 0 0] 45) = V at *
 refine wp_region_lit ?_
 refine wpList_plain rfl (fun K hK => ?_); go_simp; with_reducible refine hK _ _ ?_; clear hK K
 refine wpList_ld1 (t := 48) (cs := opC k v b e six ah al pt pr wy A n c) 3 (.tmp 5) rfl (by rfl) rfl (b1) rfl Tryd.underlying3 rfl ?_
 refine wpList_plain rfl (fun K hK => ?_); go_simp; with_reducible refine hK _ _ ?_; clear hK K
 refine wpList_ld1 (t := 48) (cs := opC k v b e six ah al pt pr wy A n c) 3 (.tmp 7) rfl (by rfl) rfl (b1) rfl Tryd.underlying3 rfl ?_
 refine wpList_plain rfl (fun K hK => ?_); go_simp; with_reducible refine hK _ _ ?_; clear hK K
 refine wpList_ld1 (t := 48) (cs := opC k v b e six ah al pt pr wy A n c) 3 (.tmp 9) rfl (by rfl) rfl (b1) rfl Tryd.underlying3 rfl ?_
 refine wpList_plain rfl (fun K hK => ?_); go_simp; with_reducible refine hK _ _ ?_; clear hK K
 refine wpList_ld1 (t := 48) (cs := opC k v b e six ah al pt pr wy A n c) 3 (.tmp 11) rfl (by rfl) rfl (b1) rfl Tryd.underlying3 rfl ?_
 refine wpList_plain rfl (fun K hK => ?_); go_simp; with_reducible refine hK _ _ ?_; clear hK K
 refine wpList_ldA (t := 48) (cs := opC k v b e six ah al pt pr wy A n c) 32 (.tmp 13) rfl rfl (adC six ah al) rfl (b1) rfl a1 a2 (szAd _ _ _) ?_
 refine wpList_plain rfl (fun K hK => ?_); go_simp; with_reducible refine hK _ _ ?_; clear hK K
 refine wpList_ld1 (t := 48) (cs := opC k v b e six ah al pt pr wy A n c) 42 (.tmp 15) rfl (by rfl) rfl (b1) rfl Tryd.underlying42 rfl ?_
 refine wpList_plain rfl (fun K hK => ?_); go_simp; with_reducible refine hK _ _ ?_; clear hK K
 refine wpList_ld1 (t := 48) (cs := opC k v b e six ah al pt pr wy A n c) 5 (.tmp 17) rfl (by rfl) rfl (b1) rfl Tryd.underlying5 rfl ?_
 refine wpList_plain rfl (fun K hK => ?_); go_simp; with_reducible refine hK _ _ ?_; clear hK K
 refine wpList_ld1 (t := 48) (cs := opC k v b e six ah al pt pr wy A n c) 3 (.tmp 19) rfl (by rfl) rfl (b1) rfl Tryd.underlying3 rfl ?_
 simp only [Act.put, qsT, qsZ, qsS]
 refine wpList_build 45 [(0, .tmp 6), (1, .tmp 8), (2, .tmp 10), (3, .tmp 12), (4, .tmp 14), (5, .tmp 16), (6, .tmp 18), (7, .tmp 20)] rfl rfl (.agg (opC k v b e six ah al pt pr wy none 0 0).toArray) ?_ ?_
 ·exact run_buildTo k v b e six ah al pt pr wy _
 refine wpList_plain rfl (fun K hK => ?_); go_simp; with_reducible refine hK _ _ ?_; clear hK K
 refine wpList_stA (t := 45) 45 (.tmp 3) (.tmp 21) rfl rfl (opC k v b e six ah al pt pr wy none 0 0) (opC 0 0 0 0 false 0 0 0 0 0 none 0 0) rfl (opC_one _ _ _ _ _ _ _ _ _ _ _ _ _) rfl rfl (Bk.new V 45 #[.int .i64 0, .int .i64 0, .int .i64 0, .int .i64 0, .bool false, .int .u64 0, .int .u64 0, .int .u16 0, .int .u8 0, .int .i64 0, .slice none 0 0]) (szOp _ _ _ _ _ _ _ _ _ _ _ _ _) ?_; intro W4 h4 g4
 simp only [Act.put, qsT, qsZ, qsS]
 have be4 : Below V.heap.size V W4 := below_grown (Below.allocS (Below.refl _ _) _) g4 (Nat.le_refl _)
 have b3 : Bk W4 V.heap.size 45 (opC k v b e six ah al pt pr wy none 0 0) := h4
 have z3 : w.heap.size + 2 ≤ V.heap.size := zV
 replace b1 := b1.later be4
 replace b2 := b2.later be4
 replace be := be.trans (be4.mono be.size)
 have zW := b3.lt
 have hO0 : Os 68 2 W4 (V.heap.size + 1) none 0 0 (prs .i64 (ms.take 0)) := Os.nil_
 clear be4 h4 g4
 generalize V.heap.size = g3 at *
 go_upto_region 3 with (fail)
 go_loopw [4] (fun I wr => ∃ i : Nat, I = .int .i64 (i : Int) ∧ i ≤ n ∧ ∃ B d, Bk wr g3 45 (opC k v b e six ah al pt pr wy B i d) ∧ Os 68 2 wr (g3 + 1) B i d (prs .i64 (ms.take i)) ∧ Bk wr w.heap.size 48 (opC k v b e six ah al pt pr wy A n c) ∧ Bk wr (w.heap.size + 1) 45 (opC 0 0 0 0 false 0 0 0 0 0 none 0 0) ∧ Below w.heap.size w wr) (fun I _ => n - (intOf I).toNat)
 case atStart => exact ⟨0, rfl, Nat.zero_le _, none, 0, b3, hO0, b1, b2, be⟩
 case round =>
  clear b1 b2 b3 be hO0 zW
  obtain ⟨i, rfl, hi, B, d, b3, hO, b1, b2, be⟩ := hrel
  have q10 : wr.cell? ⟨w.heap.size, 10, none⟩ = some (.slice A n c) := b1.cell 10
  have zW := b3.lt
  by_cases hlt : i < n
  ·have ii : (i : Int) < (n : Int) := by omega
   have hjL : i < ms.length := by omega
   obtain ⟨bl, ol, rfl, hbl, -⟩ := (hr0.later be).at_ (by omega) (by decide)
   have HC := Lib.hid (fun (W : World) (h : Below wr.heap.size wr W) => (hr0.later (be.trans (h.mono be.size))).range2 i hjL)
   have HT := Lib.hid (show ms.take (i + 1) = ms.take i ++ [ms[i]] from (List.take_succ_eq_append_getElem hjL))
   generalize ms[i] = p at *
   obtain ⟨px, py⟩ := p
   simp only [] at HC
   go_upto_region 5 with (fail)
   refine wp_relS 16 48 rfl (by kernel_rfl) (by kernel_rfl) ?_
   apply Steps.o1 (MP.eq _) 1 rfl rfl
   ·intro FA x hO hD K hK
    have e3 := hO 3 (by kernel_rfl)
    simp only [eval_tmp, qgT, qgS, qgZ, qoS] at e3
    have ev3 := Lib.hid ((eval_tmp FA 3).trans e3)
    clear hO hD
    go_simp
    exact hK.out _ _ (Ex.refl _) rfl
   apply Steps.o1 (MP.eq _) 2 rfl rfl
   ·intro FA x hO hD K hK
    obtain ⟨e29, ev29⟩ := qE (hD 0 29 (by kernel_rfl))
    clear hO hD
    refine wanted_if rfl ?_
    refine wp_ld1 43 (.tmp 29) rfl ev29.out (b3.later (below_plus _ _ _)) rfl Tryd.underlying43 rfl ?_
    exact hK.out _ _ (Ex.refl _) rfl
   apply Steps.o1 (MP.eq _) 3 rfl rfl
   ·intro FA x hO hD K hK
    have e1 := hO 1 (by kernel_rfl)
    simp only [eval_tmp, qgT, qgS, qgZ, qoS] at e1
    have ev1 := Lib.hid ((eval_tmp FA 1).trans e1)
    clear hO hD
    go_simp
    exact hK.out _ _ (Ex.refl _) rfl
   apply Steps.o1 (MP.eq _) 4 rfl rfl
   ·intro FA x hO hD K hK
    obtain ⟨e31, ev31⟩ := qE (hD 2 31 (by kernel_rfl))
    clear hO hD
    refine wanted_if rfl ?_
    refine wp_ld1 23 (.tmp 31) rfl ev31.out (b1.later (below_plus _ _ _)) rfl Tryd.underlying23 rfl ?_
    exact hK.out _ _ (Ex.refl _) rfl
   apply Steps.o1 (MP.eq _) 5 rfl rfl
   ·intro FA x hO hD K hK
    have e4 := hO 4 (by kernel_rfl)
    simp only [eval_tmp, qgT, qgS, qgZ, qoS] at e4
    have ev4 := Lib.hid ((eval_tmp FA 4).trans e4)
    clear hO hD
    go_simp
    exact hK.out _ _ (Ex.refl _) rfl
   apply Steps.o1 (MP.eq _) 6 rfl rfl
   ·intro FA x hO hD K hK
    obtain ⟨e32, ev32⟩ := qE (hD 3 32 (by kernel_rfl))
    obtain ⟨e33, ev33⟩ := qE (hD 4 33 (by kernel_rfl))
    clear hO hD
    go_simp
    exact hK.out _ _ (Ex.refl _) rfl
   apply Steps.o1 (MP.eq _) 7 rfl rfl
   ·intro FA x hO hD K hK
    obtain ⟨e34, ev34⟩ := qE (hD 5 34 (by kernel_rfl))
    clear hO hD
    go_simp
    exact hK.out _ _ (Ex.refl _) rfl
   apply Steps.o1 (MP.eq _) 8 rfl rfl
   ·intro FA x hO hD K hK
    obtain ⟨e35, ev35⟩ := qE (hD 6 35 (by kernel_rfl))
    clear hO hD
    have q9 := (HC.out (plus wr x.bs x.d) (below_plus _ _ _)).1
    go_simp
    exact hK.out _ _ (Ex.refl _) rfl
   apply Steps.o1 (MP.eq _) 9 rfl rfl
   ·intro FA x hO hD K hK
    have e1 := hO 1 (by kernel_rfl)
    simp only [eval_tmp, qgT, qgS, qgZ, qoS] at e1
    have ev1 := Lib.hid ((eval_tmp FA 1).trans e1)
    clear hO hD
    go_simp
    exact hK.out _ _ (Ex.refl _) rfl
   apply Steps.o1 (MP.eq _) 10 rfl rfl
   ·intro FA x hO hD K hK
    obtain ⟨e37, ev37⟩ := qE (hD 8 37 (by kernel_rfl))
    clear hO hD
    refine wanted_if rfl ?_
    refine wp_ld1 23 (.tmp 37) rfl ev37.out (b1.later (below_plus _ _ _)) rfl Tryd.underlying23 rfl ?_
    exact hK.out _ _ (Ex.refl _) rfl
   apply Steps.o1 (MP.eq _) 11 rfl rfl
   ·intro FA x hO hD K hK
    have e4 := hO 4 (by kernel_rfl)
    simp only [eval_tmp, qgT, qgS, qgZ, qoS] at e4
    have ev4 := Lib.hid ((eval_tmp FA 4).trans e4)
    clear hO hD
    go_simp
    exact hK.out _ _ (Ex.refl _) rfl
   apply Steps.o1 (MP.eq _) 12 rfl rfl
   ·intro FA x hO hD K hK
    obtain ⟨e38, ev38⟩ := qE (hD 9 38 (by kernel_rfl))
    obtain ⟨e39, ev39⟩ := qE (hD 10 39 (by kernel_rfl))
    clear hO hD
    go_simp
    exact hK.out _ _ (Ex.refl _) rfl
   apply Steps.o1 (MP.eq _) 13 rfl rfl
   ·intro FA x hO hD K hK
    obtain ⟨e40, ev40⟩ := qE (hD 11 40 (by kernel_rfl))
    clear hO hD
    go_simp
    exact hK.out _ _ (Ex.refl _) rfl
   apply Steps.o1 (MP.eq _) 14 rfl rfl
   ·intro FA x hO hD K hK
    obtain ⟨e41, ev41⟩ := qE (hD 12 41 (by kernel_rfl))
    clear hO hD
    have q9 := (HC.out (plus wr x.bs x.d) (below_plus _ _ _)).2
    go_simp
    exact hK.out _ _ (Ex.refl _) rfl
   apply Steps.o1 (MP.eq _) 15 rfl rfl
   ·intro FA x hO hD K hK
    obtain ⟨e36, ev36⟩ := qE (hD 7 36 (by kernel_rfl))
    obtain ⟨e42, ev42⟩ := qE (hD 13 42 (by kernel_rfl))
    clear hO hD
    go_simp
    exact hK.out _ _ (Ex.refl _) rfl
   apply Steps.o1 (MP.rs 2 [.int .i64 px, .int .i64 py]) 16 rfl rfl
   ·intro FA x hO hD K hK
    obtain ⟨e43, ev43⟩ := qE (hD 14 43 (by kernel_rfl))
    clear hO hD
    go_simp
    refine hK.out _ _ (Ex.alloc _ _) ⟨_, _, _, rfl, ?_⟩
    exact Rs.of_bk (n := 1) (c := 1) (Bk.newK _ _ _ (by simp [size_plus]) rfl) rfl (Nat.le_refl _)
   refine Steps.fin_ (fun vs x hp => ?_)
   have p0 : vs 0 = _ := hp 0 (by omega)
   have p1 : vs 1 = _ := hp 1 (by omega)
   have p2 : vs 2 = _ := hp 2 (by omega)
   have p3 : vs 3 = _ := hp 3 (by omega)
   have p4 : vs 4 = _ := hp 4 (by omega)
   have p5 : vs 5 = _ := hp 5 (by omega)
   have p6 : vs 6 = _ := hp 6 (by omega)
   have p7 : vs 7 = _ := hp 7 (by omega)
   have p8 : vs 8 = _ := hp 8 (by omega)
   have p9 : vs 9 = _ := hp 9 (by omega)
   have p10 : vs 10 = _ := hp 10 (by omega)
   have p11 : vs 11 = _ := hp 11 (by omega)
   have p12 : vs 12 = _ := hp 12 (by omega)
   have p13 : vs 13 = _ := hp 13 (by omega)
   have p14 : vs 14 = _ := hp 14 (by omega)
   have p15 := hp 15 (by omega)
   clear hp
   simp only [List.take_succ_cons, List.take_zero, List.drop_succ_cons, List.drop_zero, putAll, Nat.zero_add, Nat.reduceAdd, Act.put, qsT, qsZ, qsS, p0, p1, p2, p3, p4, p5, p6, p7, p8, p9, p10, p11, p12, p13, p14]
   clear p0 p1 p2 p3 p4 p5 p6 p7 p8 p9 p10 p11 p12 p13 p14
   generalize vs 15 = y15 at *
   clear vs
   obtain ⟨A5, n5, c5, rfl, h5⟩ := p15
   obtain rfl : n5 = 1 := by have := h5.1; simp at this; omega
   have b4 := below_plus wr x.bs x.d
   replace hO := hO.later b4
   replace b1 := b1.later b4
   replace b2 := b2.later b4
   replace b3 := b3.later b4
   replace be := be.trans (b4.mono be.size)
   clear b4 HC q10
   generalize plus wr x.bs x.d = W at *
   have zW2 := b3.lt
   refine wpList_appS etCm rfl (.tmp 30) (.tmp 44) rfl rfl hO rfl h5 (by simp [Value.oneCell']) (by omega) (by omega) ?_
   intro A2 n2 c2 w4 hn2 hO4 hb4 hg4
   subst hn2
   simp only [Act.put, qsT, qsZ, qsS]
   have hbl3 : ∀ k, (Value.slice B i d).ownBlock = some k → g3 + 1 ≤ k := fun k hk => (hO.blk k hk).1
   have b4 : Below (g3 + 1) W w4 := hb4
   have b1' := b1.below b4 (by omega)
   have b2' := b2.below b4 (by omega)
   have b3' := b3.below b4 (by omega)
   have be' := be.trans (b4.mono (by omega))
   clear b1 b2 b3 be b4 hO h5 zW zW2
   refine wpList_plain rfl (fun K hK => ?_); go_simp; with_reducible refine hK _ _ ?_; clear hK K
   refine wpList_st1 43 (.tmp 46) (.tmp 45) rfl rfl (by rfl) (by rfl) b3' (by simp [opC]) rfl (by kernel_rfl) ?_
   intro W5 h5s g5s
   simp only [Act.put, qsT, qsZ, qsS]
   have q5 : Bk W5 g3 45 (opC k v b e six ah al pt pr wy A2 (i + 1) c2) := h5s
   have hO5 : Os 68 2 W5 (g3 + 1) A2 (i + 1) c2 (prs .i64 (ms.take (i + 1))) := by
    rw [HT.out, prs_append]
    exact hO4.grown g5s (fun k hk e => by have := (hO4.blk k hk).1; injection e with e; omega)
   have b1'' := b1'.grown g5s (fun e => by injection e with e; omega)
   have b2'' := b2'.grown g5s (fun e => by injection e with e; omega)
   have be'' : Below w.heap.size w W5 := below_grown be' g5s (by omega)
   clear h5s g5s b1' b2' b3' be' hO4 HT hb4 hg4
   go_wp2
   exact ⟨⟨i + 1, by go_num, by omega, A2, c2, q5, hO5, b1'', b2'', be''⟩, by simp [intOf]; omega⟩
  ·obtain rfl : i = n := by omega
   have ii : ¬ (i : Int) < (i : Int) := by omega
   have hrs := hO.rs
   rw [List.take_of_length_le (by omega)] at hrs
   go_upto_region 6 with (fail)
   refine wp_region_lit ?_
   refine wpList_ldA (t := 45) 45 (.tmp 3) rfl rfl (opC k v b e six ah al pt pr wy B i d) rfl (b3) (whole_ _) w1 w2 (szOp _ _ _ _ _ _ _ _ _ _ _ _ _) ?_
   simp only [Act.put, qsT, qsZ, qsS]
   refine wpList_stA (t := 45) 45 (.tmp 2) (.tmp 47) rfl rfl (opC k v b e six ah al pt pr wy B i d) (opC 0 0 0 0 false 0 0 0 0 0 none 0 0) rfl (opC_one _ _ _ _ _ _ _ _ _ _ _ _ _) rfl rfl b2 (szOp _ _ _ _ _ _ _ _ _ _ _ _ _) ?_
   intro W6 h6 g6
   simp only [Act.put, qsT, qsZ, qsS]
   go_wp2
   refine bodyPost_agg Tryd.results8 rfl h6.range w1 w2 (szOp _ _ _ _ _ _ _ _ _ _ _ _ _) rfl ?_
   have hrs' : Os 68 2 W6 w.heap.size B i d (prs .i64 ms) := by
    rw [List.take_of_length_le (by omega)] at hO
    exact (hO.grown g6 (fun k hk e => by have := (hO.blk k hk).1; injection e with e; omega)).mono (by omega)
   obtain ⟨bs, d0, rfl⟩ := plus_of (below_grown be g6 (by omega))
   exact ⟨B, d, rfl, bs, d0, rfl, hrs'⟩
end

section
def ctzN : Nat → Nat → Nat
 | 0, _ => 0
 | f + 1, n => if n % 2 = 1 then 0 else ctzN f (n / 2) + 1
section
variable {F S : Int → Nat} {l : List Int} {p : Nat}
end
end

section
open Go.RowKit
attribute [local go_sem ↓] sliced_cut
attribute [local go_sem] cutA_zero
def deB : List UInt8 := Lib.deBruijn64tab.map UInt8.ofNat
theorem deB_len : deB.length = 64 := by decide +kernel
theorem deB_at : ∀ i, i < 64 → (deB.getD i 0).toNat = Lib.deBruijn64tab.getD i 0 := by decide +kernel
def TabB (w : World) : Prop := Rb w (some ⟨0, 0, none⟩) 64 64 deB
theorem TabB.later {w w' : World} (h : TabB w) (hb : Below w.heap.size w w') : TabB w' := Rb.later h hb
theorem TabB.at_ {w : World} (h : TabB w) (i : Nat) (hi : i < 64) : w.cell? ⟨0, i, none⟩ = some (.int .u8 (Lib.deBruijn64tab.getD i 0 : Nat)) := by
 obtain ⟨b, off, hA, _, hc⟩ := h.2.2.at_ (by rw [bcs_length, deB_len]; decide)
 injection hA with hA
 injection hA with h1 h2
 subst h1 h2
 have := hc i _ (bcs_get deB i (by rw [deB_len]; exact hi))
 rw [Nat.zero_add] at this
 rw [this]
 have h2 := deB_at i hi
 rw [List.getD_eq_getElem?_getD, List.getElem?_eq_getElem (by rw [deB_len]; exact hi), Option.getD_some] at h2
 rw [h2]
theorem tz_key (x a : Nat) (hx : x < 18446744073709551616) (hx0 : x ≠ 0) (hlow : x &&& (18446744073709551616 - x) = a) :
  IntKind.u64.wrap (bits BinOp.and IntKind.u64 (x : Int) (IntKind.u64.wrap (-(x : Int))) * 285870213051353865) / 288230376151711744 = ((a * 285870213051353865 % 18446744073709551616 / 288230376151711744 : Nat) : Int) := by
 have e1 : IntKind.u64.wrap (-(x : Int)) = ((18446744073709551616 - x : Nat) : Int) := by rw [IntKind.wrap_u64]; omega
 rw [e1, bits_and_u64_nat x _ hx (by omega), hlow, IntKind.wrap_u64]
 omega
theorem ctzN_eq : ∀ f x, ctzN f x = Lib.ctzFrom f x
 | 0, _ => rfl
 | f + 1, x => by
  simp only [ctzN, Lib.ctzFrom, ctzN_eq f]
  split <;> omega
set_option maxHeartbeats 4000000 in
set_option maxRecDepth 100000 in
theorem tz_core (x k idx : Nat) (w : World) (hx0 : ((x : Int) == 0) = false)
  (key : IntKind.u64.wrap (bits BinOp.and IntKind.u64 (x : Int) (IntKind.u64.wrap (-(x : Int))) * 285870213051353865) / 288230376151711744 = (idx : Int))
  (hi : idx < 64) (hk : k < 64) (hcell : w.cell? ⟨0, idx, none⟩ = some (.int .u8 (k : Int))) : Calls Tryd.prog 82 #[.int .u64 (x : Int)] w (RetV w (.int .i64 (k : Int))) := by
 go_enter Tryd.func82, Tryd.ntmps82
 go_wp2_with (simp only [key])
 go_ret
 exact RetV.is_ rfl (Below.refl _ _)
theorem tz_any (x : Nat) (w : World) (hx : x < 18446744073709551616) (hx0 : x ≠ 0) (hT : TabB w) : Calls Tryd.prog 82 #[.int .u64 (x : Int)] w (RetV w (.int .i64 ((ctzN 64 x : Nat) : Int))) := by
 obtain ⟨hlow, hk⟩ := Lib.lowest_bit 64 x hx0 hx
 obtain ⟨hi, htab⟩ := Lib.deBruijn64_at _ hk
 have e : ctzN 64 x = Lib.ctz 64 x := by rw [ctzN_eq]; unfold Lib.ctz; rw [if_neg hx0]
 rw [e]
 have hcell := hT.at_ _ hi
 rw [htab] at hcell
 exact tz_core x _ _ w (by simp; omega) (tz_key x _ hx hx0 hlow) hi hk hcell
end

section
theorem ctz_spec : ∀ (f x : Nat), x ≠ 0 → x < 2 ^ f → ctzN f x < f ∧ x.testBit (ctzN f x) = true ∧ ∀ i, i < ctzN f x → x.testBit i = false
 | 0, x, h0, h => by simp at h; exact absurd h h0
 | f + 1, x, h0, h => by
  unfold ctzN
  split
  ·rename_i h1
   refine ⟨by omega, ?_, fun i hi => by omega⟩
   simp [Nat.testBit_zero, h1]
  ·rename_i h1
   have hx2 : x / 2 ≠ 0 := by omega
   have hx3 : x / 2 < 2 ^ f := by rw [Nat.pow_succ] at h; omega
   obtain ⟨a, b, c⟩ := ctz_spec f (x / 2) hx2 hx3
   have hb : ∀ i, x.testBit (i + 1) = (x / 2).testBit i := fun i => by rw [Nat.testBit_succ]
   refine ⟨by omega, ?_, fun i hi => ?_⟩
   ·first
     | (rw [hb]; exact b)
     | (rw [Nat.add_comm, hb]; exact b)
   ·cases i with
    | zero => simp [Nat.testBit_zero]; omega
    | succ i => rw [hb]; exact c i (by omega)
theorem and_pred (y k : Nat) (hk : y.testBit k = true) (hlow : ∀ i, i < k → y.testBit i = false) (i : Nat) : (y &&& (y - 1)).testBit i = (y.testBit i && decide (i ≠ k)) := by
 have hm : y % 2 ^ (k + 1) = 2 ^ k := by
  apply Nat.eq_of_testBit_eq
  intro j
  rw [Nat.testBit_mod_two_pow, Nat.testBit_two_pow]
  by_cases h : j < k + 1
  ·by_cases hj : j = k
   ·subst hj; simp [hk]
   ·have h2 : ¬ k = j := fun e => hj e.symm
    rw [decide_eq_true h, decide_eq_false h2, hlow j (by omega)]
    rfl
  ·have h2 : ¬ k = j := by omega
   rw [decide_eq_false h, decide_eq_false h2]
   rfl
 have hy := Nat.div_add_mod y (2 ^ (k + 1))
 rw [hm] at hy
 have hp := Nat.two_pow_pos k
 have hlt : 2 ^ k < 2 ^ (k + 1) := Nat.pow_lt_pow_right (by decide) (by omega)
 generalize y / 2 ^ (k + 1) = a at hy
 have e1 : y - 1 = 2 ^ (k + 1) * a + (2 ^ k - 1) := by omega
 rw [Nat.testBit_and, e1, ← hy, Nat.testBit_two_pow_mul_add a hlt, Nat.testBit_two_pow_mul_add a (show 2 ^ k - 1 < 2 ^ (k + 1) by omega)]
 by_cases h : i < k + 1
 ·rw [if_pos h, if_pos h, Nat.testBit_two_pow, Nat.testBit_two_pow_sub_one]
  by_cases hj : i = k
  ·subst hj; simp
  ·have h2 : ¬ k = i := fun e => hj e.symm
   rw [decide_eq_false h2]
   simp
 ·rw [if_neg h, if_neg h, decide_eq_true (by omega)]
  simp
def setL (x f : Nat) : List Nat := ((List.range 64).filter fun i => x.testBit i).map (· + f)
theorem setL_len (x f : Nat) : (setL x f).length ≤ 64 := by
 unfold setL
 rw [List.length_map]
 exact Nat.le_trans (List.length_filter_le _ _) (by simp)
theorem setL_lt (x f : Nat) : ∀ n ∈ setL x f, n < 64 + f := by
 intro n hn
 obtain ⟨i, hi, rfl⟩ := List.mem_map.1 hn
 have := List.mem_range.1 (List.mem_filter.1 hi).1
 omega
theorem filter_range_skip (x p q : Nat) (h : ∀ i, p ≤ i → i < q → x.testBit i = false) (hpq : p ≤ q) : (List.range q).filter (fun i => x.testBit i) = (List.range p).filter (fun i => x.testBit i) := by
 induction q with
 | zero =>
  have : p = 0 := by omega
  rw [this]
 | succ q ih =>
  by_cases hp : p = q + 1
  ·rw [hp]
  ·rw [List.range_succ, List.filter_append, ih (fun i h1 h2 => h i h1 (by omega)) (by omega)]
   have := h q (by omega) (by omega)
   simp [this]
theorem filter_range_snoc (x p k : Nat) (hp : p ≤ k) (h : ∀ i, p ≤ i → i < k → x.testBit i = false) (hk : x.testBit k = true) : (List.range (k + 1)).filter (fun i => x.testBit i) = (List.range p).filter (fun i => x.testBit i) ++ [k] := by
 rw [List.range_succ, List.filter_append, filter_range_skip x p k h hp]
 simp [hk]
def slotB (s : Nat × Bool) : UInt8 := UInt8.ofNat (s.1 + if s.2 then 128 else 0)
def tabB (t : Tab) : List UInt8 := dig t.length 2 ++ t.map slotB
theorem tabB_len (t : Tab) : (tabB t).length = t.length + 2 := by simp [tabB, dig_length]; omega
def numsB (l : List Nat) : List UInt8 := l.flatMap (fun n => dig n 1)
theorem numsB_len (l : List Nat) : (numsB l).length = l.length := by
 induction l with
 | nil => rfl
 | cons a t ih => simp [numsB, dig_length] at ih ⊢; omega
def setB (l : List Nat) : List UInt8 := dig l.length 1 ++ numsB l
theorem setB_len (l : List Nat) : (setB l).length = l.length + 1 := by simp [setB, dig_length, numsB_len]; omega
def levB (e : Nat × Tab) : List UInt8 := dig e.1 1 ++ tabB e.2
def levsB (L : List (Nat × Tab)) : List UInt8 := L.flatMap levB
def stkB (S : Stk) : List UInt8 := dig S.lv.length 1 ++ levsB S.lv ++ setB (setL S.ev 1) ++ setB (setL S.bz 0)
theorem levB_len {e : Nat × Tab} (h : TabOk e.2) : (levB e).length ≤ 67 := by
 have := h.len
 simp [levB, dig_length, tabB_len]
 omega
theorem levsB_len {L : List (Nat × Tab)} (h : ∀ e ∈ L, TabOk e.2) : (levsB L).length ≤ 67 * L.length := by
 induction L with
 | nil => simp [levsB]
 | cons a t ih =>
  have h1 := levB_len (h a (by simp))
  have h2 := ih (fun e he => h e (by simp [he]))
  simp only [levsB, List.flatMap_cons, List.length_append, List.length_cons] at h2 ⊢
  omega
end

section
open Go.RowKit
attribute [local go_sem ↓] sliced_cut
attribute [local go_sem] cutA_zero
def RetRb (w : World) (l : List UInt8) (e : Ending) (w' : World) : Prop := ∃ A n c bs d, e = .returned (.slice A n c) ∧ w' = plus w bs d ∧ Rb (plus w bs d) A n c l
theorem RetRb.mk {w w' : World} {l : List UInt8} {A : Option Addr} {n c : Nat} (ho : Rb w' A n c l) (hb : Below w.heap.size w w') : RetRb w l (.returned (.slice A n c)) w' := by
 obtain ⟨bs, d, rfl⟩ := plus_of hb
 exact ⟨A, n, c, bs, d, rfl, rfl, ho⟩
end

section
open Go.RowKit
attribute [local go_sem ↓] sliced_cut
attribute [local go_sem] cutA_zero
def natK (l : List Nat) : List Int := l.map fun n : Nat => (n : Int)
theorem natK_len (l : List Nat) : (natK l).length = l.length := by simp [natK]
theorem itK_append_one (l : List Int) (x : Int) : itK (l ++ [x]) = itK l ++ [.int .i64 x] := by simp [itK]
set_option maxHeartbeats 4000000 in
set_option maxRecDepth 100000 in
theorem list_any (x f : Nat) (hx : x < 18446744073709551616) (hf : f ≤ 1) (w : World) (hT : TabB w) : Calls Tryd.prog 69 #[.int .u64 (x : Int), .int .i64 (f : Int)] w (RetOs 3 1 w (itK (natK (setL x f)))) := by
 have hO0 : Os 3 1 w w.heap.size none 0 0 (itK []) := Os.nil_
 have be := Below.refl w.heap.size w
 go_enter Tryd.func69, Tryd.ntmps69
 go_upto_region 2 with (fail)
 go_loopw [0, 5] (fun I OUT wr => ∃ (y p : Nat) (B : Option Addr) (k d : Nat), I = .int .u64 (y : Int) ∧ OUT = .slice B k d ∧ y < 18446744073709551616 ∧ p ≤ 64 ∧ (∀ i, y.testBit i = (x.testBit i && decide (p ≤ i))) ∧ Os 3 1 wr w.heap.size B k d (itK (natK (((List.range p).filter fun i => x.testBit i).map (· + f)))) ∧ Below w.heap.size w wr) (fun I _ _ => (intOf I).toNat)
 case atStart => exact ⟨x, 0, none, 0, 0, rfl, rfl, hx, by omega, fun i => by simp, (by simpa [natK, itK] using hO0), be⟩
 case round =>
  clear hO0 be
  obtain ⟨y, p, B, k, d, rfl, rfl, hy, hp, hyb, hO, be⟩ := hrel
  by_cases h0 : y = 0
  ·have h0i : ((y : Int) != 0) = false := by simp [h0]
   have hl : setL x f = ((List.range p).filter fun i => x.testBit i).map (· + f) := by
    unfold setL
    rw [filter_range_skip x p 64 (fun i h1 h2 => by have := hyb i; rw [h0, decide_eq_true h1] at this; simpa using this.symm) hp]
   have HL := Lib.hid hl
   clear h0 hl hyb
   go_wp2
   go_ret
   rw [HL.out]
   exact RetOs.mk hO be
  ·have h0i : ((y : Int) != 0) = true := by simp [h0]
   obtain ⟨c64, ctb, clow⟩ := ctz_spec 64 y h0 (by simpa using hy)
   have HTZ := Lib.hid (fun w h => tz_any y w hy h0 h)
   generalize ctzN 64 y = q at *
   have hxq : x.testBit q = true ∧ p ≤ q := by
    have := hyb q
    rw [ctb] at this
    simpa using this.symm
   have hlist : (List.range (q + 1)).filter (fun i => x.testBit i) = (List.range p).filter (fun i => x.testBit i) ++ [q] :=
    filter_range_snoc x p q hxq.2 (fun i h1 h2 => by have := clow i h2; rw [hyb i, decide_eq_true h1] at this; simpa using this) hxq.1
   have hap := and_pred y q ctb clow
   have hbits : bits .and .u64 (y : Int) ((y : Int) - 1) = ((y &&& (y - 1) : Nat) : Int) := by
    have := u64_and_nat y (y - 1) hy (by omega)
    rwa [show ((y - 1 : Nat) : Int) = (y : Int) - 1 by omega] at this
   have hwr : IntKind.u64.wrap ((y : Int) - 1) = (y : Int) - 1 := IntWalk.u64_in _ (by omega)
   have hlt : y &&& (y - 1) < y := Nat.lt_of_le_of_lt Nat.and_le_right (by omega)
   have hnew : ∀ i, (y &&& (y - 1)).testBit i = (x.testBit i && decide (q + 1 ≤ i)) := fun i => by
    rw [hap i, hyb i]
    by_cases h1 : q + 1 ≤ i
    ·rw [decide_eq_true h1, decide_eq_true (show p ≤ i by omega), decide_eq_true (show i ≠ q by omega)]; simp
    ·rw [decide_eq_false h1]
     by_cases h2 : i = q
     ·rw [h2]; simp
     ·have := clow i (by omega)
      rw [hyb i] at this
      rw [this]; simp
   have hws : IntKind.i64.wrap ((q : Int) + (f : Int)) = ((q + f : Nat) : Int) := by rw [IntWalk.i64_in _ (by omega)]; omega
   have hk := hO.1
   rw [itK_len, natK_len, List.length_map] at hk
   have hk64 : k ≤ 64 := by
    have := List.length_filter_le (fun i => x.testBit i) (List.range p)
    simp at this
    omega
   have HN := Lib.hid (And.intro hnew hlt)
   have HLS := Lib.hid (show natK (((List.range (q + 1)).filter fun i => x.testBit i).map (· + f)) = natK (((List.range p).filter fun i => x.testBit i).map (· + f)) ++ [((q + f : Nat) : Int)] by rw [hlist]; simp [natK])
   have hTw := hT.later be
   clear hnew hlt hap hyb ctb clow hxq hlist hk
   generalize y &&& (y - 1) = y2 at *
   generalize natK (((List.range p).filter fun i => x.testBit i).map (· + f)) = L0 at *
   have HC := Lib.hid h0
   clear h0
   go_upto_region 4 with (fail)
   refine wp_region_lit ?_
   iterate 2 (refine wpList_plain rfl (fun K hK => ?_); go_simp; with_reducible refine hK _ _ ?_; clear hK K)
   refine wpList_plain rfl (fun K hK => ?_)
   go_simp
   refine (HTZ.out _ hTw).mono ?_
   rintro e w1 ⟨bs1, d1, rfl, rfl⟩
   with_reducible refine hK _ _ ?_
   clear hK K
   have hb1 := below_plus wr bs1 d1
   replace hO := hO.later hb1
   replace be := be.trans (hb1.mono be.size)
   clear hb1 hTw HTZ
   generalize plus wr bs1 d1 = W1 at *
   iterate 3 (refine wpList_plain rfl (fun K hK => ?_); go_simp; with_reducible refine hK _ _ ?_; clear hK K)
   refine wpList_appS etI rfl (.tmp 12) (.tmp 17) rfl rfl (hO.later (Below.allocS (Below.refl _ _) _)) rfl (Rs.of_bk (n := 1) (c := 1) (Bk.new W1 _ _) rfl (Nat.le_refl _)) (by simp [Value.oneCell']) (by omega) (by have := be.size; simp; omega) ?_
   intro A2 n2 c2 w4 hn2 hO4 hb4 hg4
   subst hn2
   refine wpList_plain rfl (fun K hK => ?_); go_simp; with_reducible refine hK _ _ ?_; clear hK K
   have hE2 := (be.trans ((Below.allocS (Below.refl _ _) _).mono be.size)).trans hb4
   rw [← itK_append_one] at hO4
   go_wp2
   exact ⟨⟨y2, q + 1, A2, _, c2, rfl, rfl, by have := HN.out.2; omega, by omega, HN.out.1, by rw [HLS.out]; exact hO4, hE2⟩, by simpa [intOf] using HN.out.2⟩
set_option maxHeartbeats 4000000 in
set_option maxRecDepth 100000 in
theorem busy_any (S : Stk) (hok : StkOk S) (g : Nat) (w : World) (hS : Bk w g 102 (stkC S)) (hT : TabB w) : Calls Tryd.prog 70 #[.pointer (some ⟨g, 0, none⟩)] w (RetOs 3 1 w (itK (natK (setL S.bz 0)))) := by
 have HLI := Lib.hid (fun w h => list_any S.bz 0 (by have := hok.bz; omega) (by omega) w h)
 have q0 : w.cell? ⟨g, 1042, none⟩ = some (.int .u64 (S.bz : Int)) := (hS.cell _).trans (stkC_bz S)
 go_enter Tryd.func70, Tryd.ntmps70
 go_wp2_with (go_at_call 69; refine (HLI.out _ hT).mono ?_; rintro e w1 ⟨A1, n1, c1, bs1, d1, rfl, rfl, ho1⟩)
 go_ret
 exact ⟨A1, n1, c1, bs1, d1, rfl, rfl, ho1⟩
theorem bcs_slot {s : Nat × Bool} (h : s.1 ≤ 64) : bcs [slotB s] = [.int .u8 ((s.1 + if s.2 then 128 else 0 : Nat) : Int)] := by
 obtain ⟨a, b⟩ := s
 have h : a ≤ 64 := h
 cases b <;> simp [bcs, slotB] <;> omega
set_option maxHeartbeats 4000000 in
set_option maxRecDepth 100000 in
theorem tabBytes_any (t : Tab) (hok : TabOk t) (w : World) : Calls Tryd.prog 68 #[.agg (tabC t).toArray] w (RetB w (tabB t)) := by
 obtain ⟨dvt, vt1, vt2⟩ := rowTab
 obtain ⟨dvs, vs1, vs2⟩ := rowSl
 have ht := hok.len
 have HP := Lib.hid (fun w => put_full none 0 0 [] t.length 2 w Rb.nil_ (by omega) (by omega) (by omega) (by omega))
 have b1 : Bk (w.alloc (.cells (tabC t).toArray 73)) w.heap.size 73 (tabC t) := Bk.new w 73 (tabC t).toArray
 have be : Below w.heap.size w (w.alloc (.cells (tabC t).toArray 73)) := Below.allocS (Below.refl _ _) _
 have q0 : (w.alloc (.cells (tabC t).toArray 73)).cell? ⟨w.heap.size, 0, none⟩ = some (.int .i64 (t.length : Int)) := b1.cell 0
 have hw : IntKind.u64.wrap (t.length : Int) = (t.length : Int) := IntWalk.u64_in _ (by omega)
 have hlt64 : (t.length : Int) ≤ 64 := by omega
 have zV : w.heap.size < (w.alloc (.cells (tabC t).toArray 73)).heap.size := b1.lt
 go_enter Tryd.func68, Tryd.ntmps68
 go_upto_region 1 with (fail)
 generalize w.alloc (.cells (tabC t).toArray 73) = V at *
 go_upto_region 2 with (go_at_call 67; refine (HP.out _).mono ?_; rintro e w1 ⟨A1, n1, bs1, d1, rfl, rfl, ho1⟩)
 replace b1 := b1.later (below_plus V bs1 d1)
 have hzb := be.size
 replace be := belowP be bs1 d1
 have hO := ho1.mono (show w.heap.size + 1 ≤ V.heap.size from zV)
 have hzV1 : w.heap.size < (plus V bs1 d1).heap.size := b1.lt
 clear q0 HP ho1
 generalize plus V bs1 d1 = V1 at *
 have q0 : V1.cell? ⟨w.heap.size, 0, none⟩ = some (.int .i64 (t.length : Int)) := b1.cell 0
 go_upto_region 3 with (fail)
 rw [List.nil_append] at hO
 have HB := Lib.hid (And.intro hO (And.intro be b1))
 clear hO be b1 q0 hzV1
 go_loopw [3, 16] (fun OUT I wr => ∃ (j : Nat) (B : Option Addr) (k d : Nat), I = .int .i64 (j : Int) ∧ OUT = .slice B k d ∧ j ≤ t.length ∧ Ob wr (w.heap.size + 1) B k d (dig t.length 2 ++ (t.take j).map slotB) ∧ Below w.heap.size w wr ∧ Bk wr w.heap.size 73 (tabC t)) (fun _ I _ => t.length - (intOf I).toNat)
 case atStart => exact ⟨0, A1, n1, n1, rfl, rfl, Nat.zero_le _, by simpa using HB.out.1, HB.out.2.1, HB.out.2.2⟩
 case round =>
  clear HB
  obtain ⟨j, B, k, d, rfl, rfl, hj, hO, be, b1⟩ := hrel
  have hk := hO.len
  simp [dig_length] at hk
  by_cases hlt : j < t.length
  ·have ij : (j : Int) < (t.length : Int) := by omega
   have hp := tabC_part t j hlt (by omega)
   have hmem := hok.rg t[j] (List.getElem_mem hlt)
   have htk : (t.take (j + 1)).map slotB = (t.take j).map slotB ++ [slotB t[j]] := by rw [List.take_succ_eq_append_getElem hlt, List.map_append]; rfl
   generalize t[j] = s at *
   have HTK := Lib.hid htk
   have hsl := Lib.hid (bcs_slot hmem.2)
   obtain ⟨ow, aw⟩ := s
   have ho64 : ow ≤ 64 := hmem.2
   have hk66 : k ≤ 66 := by omega
   clear htk hk hmem
   go_upto_region 5 with (first
    | (refine at_op (.load 70 (.tmp 18)) rfl ?_; refine wpList_ldA (t := 73) (off := 1 + j * 2) 70 (.tmp 18) rfl rfl (slC (ow, aw)) rfl b1 hp vs1 vs2 (szSl _) ?_)
    | (refine at_op (.store 70 (.tmp 5) (.tmp 19)) rfl ?_; refine wpList_stA (t := 70) 70 (.tmp 5) (.tmp 19) rfl rfl (slC (ow, aw)) (slC (0, false)) rfl (slC_one _) rfl rfl (Bk.new _ _ _) (szSl _) ?_; intro W4 h4 g4))
   have be4 : Below wr.heap.size wr W4 := below_grown (Below.allocS (Below.refl _ _) _) g4 (Nat.le_refl _)
   have q0 : W4.cell? ⟨wr.heap.size, 0, none⟩ = some (.int .u8 (ow : Int)) := h4.cell 0
   have q1 : W4.cell? ⟨wr.heap.size, 1, none⟩ = some (.bool aw) := h4.cell 1
   replace hO := hO.later be4
   replace b1 := b1.later be4
   replace be := be.trans (be4.mono be.size)
   clear be4 h4 g4 hp
   generalize wr.heap.size = gs at *
   cases aw
   ·go_upto_region 8 with (fail)
    refine wp_region_lit ?_
    iterate 3 (refine wpList_plain rfl (fun K hK => ?_); go_simp; with_reducible refine hK _ _ ?_; clear hK K)
    refine wpList_app bt rfl (.tmp 26) (.tmp 28) rfl rfl (hO.later (Below.allocS (Below.refl _ _) _)) rfl (Ob.lit W4 (Nat.le_refl _) _ [slotB (ow, false)] 1 rfl (by decide) ?_).rb (by omega) (by have := b1.lt; simp; omega) ?_
    ·exact hsl.out.symm
    intro A2 n2 c2 w4 hO4 hb4 hg4
    refine wpList_plain rfl (fun K hK => ?_); go_simp; with_reducible refine hK _ _ ?_; clear hK K
    have hE2 := (be.trans ((Below.allocS (Below.refl _ _) _).mono be.size)).trans (hb4.mono (Nat.le_succ _))
    have hbk : Bk w4 w.heap.size 73 (tabC t) := (b1.later (Below.allocS (Below.refl _ _) _)).grown hg4 (fun e => by have := (hO.blk _ e).1; omega)
    go_wp2
    exact ⟨⟨j + 1, A2, _, c2, by go_num, rfl, by omega, by rw [HTK.out, ← List.append_assoc]; exact hO4, hE2, hbk⟩, by simp [intOf]; omega⟩
   ·have hw2 : IntKind.u8.wrap ((ow : Int) + 128) = ((ow + 128 : Nat) : Int) := by rw [IntKind.wrap_u8]; omega
    go_upto_region 8 with (fail)
    refine wp_region_lit ?_
    iterate 3 (refine wpList_plain rfl (fun K hK => ?_); go_simp; with_reducible refine hK _ _ ?_; clear hK K)
    refine wpList_app bt rfl (.tmp 26) (.tmp 28) rfl rfl (hO.later (Below.allocS (Below.refl _ _) _)) rfl (Ob.lit W4 (Nat.le_refl _) _ [slotB (ow, true)] 1 rfl (by decide) ?_).rb (by omega) (by have := b1.lt; simp; omega) ?_
    ·exact hsl.out.symm
    intro A2 n2 c2 w4 hO4 hb4 hg4
    refine wpList_plain rfl (fun K hK => ?_); go_simp; with_reducible refine hK _ _ ?_; clear hK K
    have hE2 := (be.trans ((Below.allocS (Below.refl _ _) _).mono be.size)).trans (hb4.mono (Nat.le_succ _))
    have hbk : Bk w4 w.heap.size 73 (tabC t) := (b1.later (Below.allocS (Below.refl _ _) _)).grown hg4 (fun e => by have := (hO.blk _ e).1; omega)
    go_wp2
    exact ⟨⟨j + 1, A2, _, c2, by go_num, rfl, by omega, by rw [HTK.out, ← List.append_assoc]; exact hO4, hE2, hbk⟩, by simp [intOf]; omega⟩
  ·obtain rfl : j = t.length := by omega
   have ij : ¬ (t.length : Int) < (t.length : Int) := by omega
   rw [List.take_of_length_le (Nat.le_refl _)] at hO
   clear hj hk
   go_wp2
   go_ret
   exact RetB.mk (hO.mono (Nat.le_succ _)) be
theorem levC_tab (e : Nat × Tab) : ((levC e).drop 1).take (tabC e.2).length = tabC e.2 := by simp [levC]
def ouB (B0 : List UInt8) (L0 L1 : List Nat) (q : Nat) : List UInt8 := if q = 0 then B0 else if q = 1 then B0 ++ setB L0 else B0 ++ setB L0 ++ setB L1
theorem ouB_len (B0 : List UInt8) (L0 L1 : List Nat) (q : Nat) : (ouB B0 L0 L1 q).length ≤ B0.length + (L0.length + 1) + (L1.length + 1) := by
 unfold ouB
 split
 ·omega
 ·split <;> simp only [List.length_append, setB_len] <;> omega
theorem idx2_0 (A B : Option Addr) (n c m d : Nat) (w : World) : (Instr.index 137 (.agg #[.slice A n c, .slice B m d]) (.int .i64 0)).run Tryd.prog w = .ok (.slice A n c) w := by kernel_rfl
theorem idx2_1 (A B : Option Addr) (n c m d : Nat) (w : World) : (Instr.index 137 (.agg #[.slice A n c, .slice B m d]) (.int .i64 1)).run Tryd.prog w = .ok (.slice B m d) w := by kernel_rfl
theorem idx2_0' (A B : Option Addr) (n c m d : Nat) (w : World) : (Instr.index 137 (.agg #[.slice A n c, .slice B m d]) (.int .i64 ((0 : Nat) : Int))).run Tryd.prog w = .ok (.slice A n c) w := idx2_0 A B n c m d w
theorem idx2_1' (A B : Option Addr) (n c m d : Nat) (w : World) : (Instr.index 137 (.agg #[.slice A n c, .slice B m d]) (.int .i64 ((1 : Nat) : Int))).run Tryd.prog w = .ok (.slice B m d) w := idx2_1 A B n c m d w
section
attribute [local go_sem] idx2_0 idx2_1 idx2_0' idx2_1'
set_option maxHeartbeats 4000000 in
set_option maxRecDepth 100000 in
theorem stkBytes_any (S : Stk) (hok : StkOk S) (g : Nat) (w : World) (hS : Bk w g 102 (stkC S)) (hT : TabB w) : Calls Tryd.prog 45 #[.pointer (some ⟨g, 0, none⟩)] w (RetB w (stkB S)) := by
 obtain ⟨dvl, vl1, vl2⟩ := rowLev
 obtain ⟨dvt, vt1, vt2⟩ := rowTab
 have h8 := hok.len
 have hgw := hS.lt
 have HP1 := Lib.hid (fun w => put_full none 0 0 [] S.lv.length 1 w Rb.nil_ (by omega) (by omega) (by omega) (by omega))
 have HPU : Hid (∀ A n l v w, Rb w A n n l → n ≤ 10000 → v < 1000 → Calls Tryd.prog 67 #[.slice A n n, .int .u64 ((v : Nat) : Int), .int .i64 1] w (RetF w (l ++ dig v 1))) := Lib.hid (fun A n l v w h hn hv => put_full A n n l v 1 w h (by omega) (by omega) (by omega) (by omega))
 have HPG : Hid (∀ A n c l v w, Rb w A n c l → n ≤ 10000 → v < 1000 → Calls Tryd.prog 67 #[.slice A n c, .int .u64 ((v : Nat) : Int), .int .i64 1] w (RetF w (l ++ dig v 1))) := Lib.hid (fun A n c l v w h hn hv => put_full A n c l v 1 w h (by omega) (by omega) (by omega) (by omega))
 have HAL := Lib.hid (fun w h => all_any S h8 g w h)
 have HL1 := Lib.hid (fun w h => list_any S.ev 1 hok.ev (by omega) w h)
 have HBZ := Lib.hid (fun w h1 h2 => busy_any S hok g w h1 h2)
 have q0 : w.cell? ⟨g, 0, none⟩ = some (.int .i64 (S.lv.length : Int)) := hS.cell 0
 have hw : IntKind.u64.wrap (S.lv.length : Int) = (S.lv.length : Int) := IntWalk.u64_in _ (by omega)
 have be := Below.refl w.heap.size w
 go_enter Tryd.func45, Tryd.ntmps45
 go_upto_region 4 with (go_at_call 67; refine (HP1.out _).mono ?_; rintro e w1 ⟨A1, n1, bs1, d1, rfl, rfl, ho1⟩)
 have hb1 := below_plus w bs1 d1
 replace hS := hS.later hb1
 replace be := be.trans (hb1.mono be.size)
 have hzw := be.size
 clear hb1 q0 HP1
 rw [List.nil_append] at ho1
 generalize plus w bs1 d1 = V1 at *
 go_upto_region 5 with (go_at_call 49; refine (HAL.out _ hS).mono ?_; rintro e w1 ⟨bs2, d2, rfl, rfl⟩)
 have hb1 := below_plus V1 bs2 d2
 replace hS := hS.later hb1
 replace ho1 := ho1.later hb1
 replace be := be.trans (hb1.mono be.size)
 clear hb1 HAL
 generalize plus V1 bs2 d2 = V2 at *
 have HST := Lib.hid (And.intro ho1 (And.intro hS be))
 clear ho1 hS be
 go_loopw [3, 21] (fun OUT I wr => ∃ (j : Nat) (B : Option Addr) (k d : Nat), I = .int .i64 (j : Int) ∧ OUT = .slice B k d ∧ j ≤ S.lv.length ∧ Ob wr w.heap.size B k d (dig S.lv.length 1 ++ levsB (S.lv.take j)) ∧ Bk wr g 102 (stkC S) ∧ Below w.heap.size w wr) (fun _ I _ => S.lv.length - (intOf I).toNat)
 case atStart => exact ⟨0, A1, n1, n1, rfl, rfl, Nat.zero_le _, by simpa [levsB] using HST.out.1, HST.out.2.1, HST.out.2.2⟩
 case round =>
  clear HST
  obtain ⟨j, B, k, d, rfl, rfl, hj, hO, hS, be⟩ := hrel
  have hk : k ≤ 1 + 67 * 8 := by
   have h1 := hO.len
   have h2 := levsB_len (L := S.lv.take j) (fun e he => (hok.rg e (List.mem_of_mem_take he)).2)
   rw [List.length_append, dig_length] at h1
   rw [List.length_take] at h2
   omega
  by_cases hlt : j < S.lv.length
  ·have ij : (j : Int) < (S.lv.length : Int) := by omega
   have hp := stkC_part S j hlt (by omega)
   have hmem := hok.rg S.lv[j] (List.getElem_mem hlt)
   have htk : levsB (S.lv.take (j + 1)) = levsB (S.lv.take j) ++ (dig S.lv[j].1 1 ++ tabB S.lv[j].2) := by rw [List.take_succ_eq_append_getElem hlt]; unfold levsB; rw [List.flatMap_append]; simp [levB]
   generalize S.lv[j] = e0 at *
   obtain ⟨vr, tb⟩ := e0
   have HTK := Lib.hid htk
   have hv8 : vr < 8 := hmem.1
   have hwv : IntKind.u64.wrap (vr : Int) = (vr : Int) := IntWalk.u64_in _ (by omega)
   have HTB := Lib.hid (fun w => tabBytes_any tb hmem.2 w)
   have htl := hmem.2.len
   simp only at htl
   clear htk hmem
   go_upto_region 7 with (first
    | (refine at_op (.load 99 (.tmp 23)) rfl ?_; refine wpList_ldA (t := 102) (off := 1 + j * 130) 99 (.tmp 23) rfl rfl (levC (vr, tb)) rfl hS hp vl1 vl2 (szLev _) ?_)
    | (refine at_op (.store 99 (.tmp 5) (.tmp 24)) rfl ?_; refine wpList_stA (t := 99) 99 (.tmp 5) (.tmp 24) rfl rfl (levC (vr, tb)) (levC (0, [])) (by rw [levC_len, levC_len]) (levC_one _) rfl rfl (Bk.new _ _ _) (szLev _) ?_; intro W4 h4 g4))
   have be4 : Below wr.heap.size wr W4 := below_grown (Below.allocS (Below.refl _ _) _) g4 (Nat.le_refl _)
   have q0 : W4.cell? ⟨wr.heap.size, 0, none⟩ = some (.int .i64 (vr : Int)) := h4.cell 0
   have hL : Bk W4 wr.heap.size 99 (levC (vr, tb)) := h4
   replace hO := hO.later be4
   replace hS := hS.later be4
   replace be := be.trans (be4.mono be.size)
   clear be4 h4 g4 hp
   generalize wr.heap.size = gl at *
   go_upto_region 8 with (go_at_call 67; refine (HPG.out _ _ _ _ _ _ hO.rb (by omega) (by omega)).mono ?_; rintro e w1 ⟨A3, n3, bs3, d3, rfl, rfl, ho3⟩)
   have hb1 := below_plus W4 bs3 d3
   have hz3 := be.size
   replace hL := hL.later hb1
   replace hS := hS.later hb1
   replace be := be.trans (hb1.mono be.size)
   have hO3 := ho3.mono hz3
   have hn3 : n3 ≤ 1 + 67 * 8 + 1 := by have h1 := ho3.len; have h2 := hO.len; rw [List.length_append, dig_length] at h1; omega
   clear hb1 hO q0 ho3 hz3
   generalize plus W4 bs3 d3 = W5 at *
   refine wp_region_lit ?_
   iterate 2 (refine wpList_plain rfl (fun K hK => ?_); go_simp; with_reducible refine hK _ _ ?_; clear hK K)
   refine wpList_ldA (t := 99) (off := 1) 73 (.tmp 31) rfl rfl (tabC tb) rfl hL (levC_tab (vr, tb)) vt1 vt2 (by rw [tabC_len0]; kernel_rfl) ?_
   refine wpList_plain rfl (fun K hK => ?_)
   go_simp
   refine (HTB.out _).mono ?_
   rintro e w1 ⟨A6, n6, c6, bs6, d6, rfl, rfl, ho6⟩
   with_reducible refine hK _ _ ?_
   clear hK K
   have hb1 := below_plus W5 bs6 d6
   replace hO3 := hO3.later hb1
   replace hS := hS.later hb1
   replace be := be.trans (hb1.mono be.size)
   have hn6 : n6 ≤ 66 := by have h1 := ho6.len; rw [tabB_len] at h1; omega
   clear hb1 hL
   generalize plus W5 bs6 d6 = W6 at *
   refine wpList_app bt rfl (.tmp 30) (.tmp 33) rfl rfl hO3 rfl ho6.rb (by omega) be.size ?_
   intro A2 n2 c2 w4 hO4 hb4 hg4
   refine wpList_plain rfl (fun K hK => ?_); go_simp; with_reducible refine hK _ _ ?_; clear hK K
   have htk2 : (dig S.lv.length 1 ++ levsB (S.lv.take j) ++ dig vr 1) ++ tabB tb = dig S.lv.length 1 ++ levsB (S.lv.take (j + 1)) := by rw [HTK.out]; simp [List.append_assoc]
   have HT2 := Lib.hid htk2
   have hE2 := be.trans hb4
   clear htk2
   go_wp2
   exact ⟨⟨j + 1, A2, n2, c2, by go_num, rfl, by omega, by rw [← HT2.out]; exact hO4, hS.grown hg4 (fun e => by have := (hO3.blk _ e).1; omega), hE2⟩, by simp [intOf]; omega⟩
  ·obtain rfl : j = S.lv.length := by omega
   have ij : ¬ (S.lv.length : Int) < (S.lv.length : Int) := by omega
   rw [List.take_of_length_le (Nat.le_refl _)] at hO
   have qe : wr.cell? ⟨g, 1041, none⟩ = some (.int .u64 (S.ev : Int)) := (hS.cell _).trans (stkC_ev S)
   clear hj
   go_upto_region 10 with (fail)
   refine wp_region_lit ?_
   iterate 4 (refine wpList_plain rfl (fun K hK => ?_); go_simp; with_reducible refine hK _ _ ?_; clear hK K)
   refine wpList_plain rfl (fun K hK => ?_)
   go_simp
   refine (HL1.out _ (hT.later be)).mono ?_
   rintro e w1 ⟨Ae, ne, ce, bs6, d6, rfl, rfl, hre⟩
   with_reducible refine hK _ _ ?_
   clear hK K
   have hb1 := below_plus wr bs6 d6
   replace hO := hO.later hb1
   replace hS := hS.later hb1
   replace be := be.trans (hb1.mono be.size)
   clear hb1 qe
   generalize plus wr bs6 d6 = W6 at *
   refine wpList_plain rfl (fun K hK => ?_); go_simp; with_reducible refine hK _ _ ?_; clear hK K
   refine wpList_plain rfl (fun K hK => ?_)
   go_simp
   refine (HBZ.out _ hS (hT.later be)).mono ?_
   rintro e w1 ⟨Az, nz, cz, bs7, d7, rfl, rfl, hrz⟩
   with_reducible refine hK _ _ ?_
   clear hK K
   have hb1 := below_plus W6 bs7 d7
   replace hO := hO.later hb1
   replace hS := hS.later hb1
   replace hre := hre.later hb1
   replace be := be.trans (hb1.mono be.size)
   clear hb1
   generalize plus W6 bs7 d7 = W7 at *
   iterate 2 (refine wpList_plain rfl (fun K hK => ?_); go_simp; with_reducible refine hK _ _ ?_; clear hK K)
   have hse := setL_len S.ev 1
   have hsz := setL_len S.bz 0
   have hle := setL_lt S.ev 1
   have hlz := setL_lt S.bz 0
   have hne : ne = (setL S.ev 1).length := by have := hre.rs.1; rw [itK_len, natK_len] at this; omega
   have hnz : nz = (setL S.bz 0).length := by have := hrz.rs.1; rw [itK_len, natK_len] at this; omega
   have HFIN := Lib.hid (show dig S.lv.length 1 ++ levsB S.lv ++ setB (setL S.ev 1) ++ setB (setL S.bz 0) = stkB S from rfl)
   have hre := hre.rs
   have hrz := hrz.rs
   have HL0 := Lib.hid (show (dig S.lv.length 1 ++ levsB S.lv).length ≤ 600 by
    have h2 := levsB_len (L := S.lv) (fun e he => (hok.rg e he).2)
    rw [List.length_append, dig_length]; omega)
   generalize setL S.ev 1 = Le at *
   generalize setL S.bz 0 = Lz at *
   generalize dig S.lv.length 1 ++ levsB S.lv = B0 at *
   have HLL := Lib.hid (show (Le.length ≤ 64 ∧ ∀ n ∈ Le, n < 64 + 1) ∧ (Lz.length ≤ 64 ∧ ∀ n ∈ Lz, n < 64 + 0) from ⟨⟨hse, hle⟩, hsz, hlz⟩)
   subst hne hnz
   clear hse hsz hle hlz
   go_upto_region 11 with (fail)
   have HST := Lib.hid (And.intro hO (And.intro hre (And.intro hrz be)))
   clear hO hre hrz be hS
   go_loopw [3, 44] (fun OUT I wr => ∃ (q : Nat) (B : Option Addr) (k d : Nat), I = .int .i64 (q : Int) ∧ OUT = .slice B k d ∧ q ≤ 2 ∧ Ob wr w.heap.size B k d (ouB B0 Le Lz q) ∧ Rs 1 wr Ae Le.length ce (itK (natK Le)) ∧ Rs 1 wr Az Lz.length cz (itK (natK Lz)) ∧ Below w.heap.size w wr) (fun _ I _ => 2 - (intOf I).toNat)
   case atStart => exact ⟨0, _, _, _, rfl, rfl, by omega, HST.out.1, HST.out.2.1, HST.out.2.2.1, HST.out.2.2.2⟩
   case round =>
    clear HST
    obtain ⟨q, B, k, d, rfl, rfl, hq, hO, hre, hrz, be⟩ := hrel
    have hk : k ≤ 600 + 65 + 65 := by
     have h1 := hO.len
     have h3 := ouB_len B0 Le Lz q
     have h4 := HL0.out
     have h5 := HLL.out
     omega
    rcases (show q = 0 ∨ q = 1 ∨ q = 2 by omega) with rfl | rfl | rfl
    ·have hle3 := HLL.out.1.1
     have hwl : IntKind.u64.wrap (Le.length : Int) = (Le.length : Int) := IntWalk.u64_in _ (by omega)
     go_upto_region 14 with (go_at_call 67; refine (HPG.out _ _ _ _ _ _ hO.rb (by omega) (by omega)).mono ?_; rintro e w1 ⟨A3, n3, bs3, d3, rfl, rfl, ho3⟩)
     have hb1 := below_plus wr bs3 d3
     have hz3 := be.size
     replace hre := hre.later hb1
     replace hrz := hrz.later hb1
     replace be := be.trans (hb1.mono be.size)
     have hO3 := ho3.mono hz3
     clear hb1 hO ho3 hz3 hk hwl
     generalize plus wr bs3 d3 = W5 at *
     go_upto_region 15 with (fail)
     have HI := Lib.hid (And.intro hO3 (And.intro hre (And.intro hrz be)))
     clear hO3 hre hrz be
     go_loopw [3, 54] (fun OUT I wi => ∃ (j : Nat) (B : Option Addr) (k d : Nat), I = .int .i64 (j : Int) ∧ OUT = .slice B k d ∧ j ≤ Le.length ∧ Ob wi w.heap.size B k d (ouB B0 Le Lz 0 ++ dig Le.length 1 ++ numsB (Le.take j)) ∧ Rs 1 wi Ae Le.length ce (itK (natK Le)) ∧ Rs 1 wi Az Lz.length cz (itK (natK Lz)) ∧ Below w.heap.size w wi) (fun _ I _ => Le.length - (intOf I).toNat)
     case atStart => exact ⟨0, A3, n3, n3, rfl, rfl, Nat.zero_le _, by simpa [numsB] using HI.out.1, HI.out.2.1, HI.out.2.2.1, HI.out.2.2.2⟩
     case round =>
      clear HI
      obtain ⟨j, B, k, d, rfl, rfl, hj, hO, hre, hrz, be⟩ := hrel
      have hk : k ≤ 600 + 65 + 65 + 1 + 64 := by
       have h1 := hO.len
       have h3 := ouB_len B0 Le Lz 0
       have h4 := HL0.out
       have h5 := HLL.out
       simp only [List.length_append, dig_length, numsB_len, List.length_take] at h1
       omega
      by_cases hlt : j < Le.length
      ·have ij : (j : Int) < (Le.length : Int) := by omega
       obtain ⟨bl, ol, hA, hc⟩ := hre.int_ j (by rw [natK_len]; exact hlt)
       have hnk : (natK Le)[j]'(by rw [natK_len]; exact hlt) = ((Le[j] : Nat) : Int) := by simp [natK]
       rw [hnk] at hc
       have hlt100 := HLL.out.1.2 _ (List.getElem_mem hlt)
       have htk : numsB (Le.take (j + 1)) = numsB (Le.take j) ++ dig Le[j] 1 := by rw [List.take_succ_eq_append_getElem hlt]; unfold numsB; rw [List.flatMap_append]; simp
       generalize Le[j] = v at *
       have HTK := Lib.hid htk
       have hwv : IntKind.u64.wrap (v : Int) = (v : Int) := IntWalk.u64_in _ (by omega)
       subst hA
       clear htk hnk
       go_wp2_with (go_at_call 67; refine (HPG.out _ _ _ _ _ _ hO.rb (by omega) (by omega)).mono ?_; rintro e w1 ⟨A5, n5, bs5, d5, rfl, rfl, ho5⟩)
       have hb1 := below_plus wr bs5 d5
       have he2 := be.trans (hb1.mono be.size)
       have ho6 : Ob (plus wr bs5 d5) w.heap.size A5 n5 n5 (ouB B0 Le Lz 0 ++ dig Le.length 1 ++ numsB (Le.take (j + 1))) := by rw [HTK.out, ← List.append_assoc]; exact ho5.mono be.size
       exact ⟨⟨j + 1, A5, _, _, by go_num, rfl, by omega, ho6, hre.later hb1, hrz.later hb1, he2⟩, by simp [intOf]; omega⟩
      ·obtain rfl : j = Le.length := by omega
       have ij : ¬ (Le.length : Int) < (Le.length : Int) := by omega
       rw [List.take_of_length_le (Nat.le_refl _)] at hO
       have hbs : ouB B0 Le Lz 0 ++ dig Le.length 1 ++ numsB Le = ouB B0 Le Lz 1 := by simp [ouB, setB, List.append_assoc]
       rw [hbs] at hO
       have HH := Lib.hid (And.intro hO (And.intro hre (And.intro hrz be)))
       clear hO hre hrz be hj hk hbs
       go_wp2
       exact ⟨⟨1, B, _, _, rfl, rfl, by omega, HH.out.1, HH.out.2.1, HH.out.2.2.1, HH.out.2.2.2⟩, by simp [intOf]⟩
    ·have hle3 := HLL.out.2.1
     have hwl : IntKind.u64.wrap (Lz.length : Int) = (Lz.length : Int) := IntWalk.u64_in _ (by omega)
     go_upto_region 14 with (go_at_call 67; refine (HPG.out _ _ _ _ _ _ hO.rb (by omega) (by omega)).mono ?_; rintro e w1 ⟨A3, n3, bs3, d3, rfl, rfl, ho3⟩)
     have hb1 := below_plus wr bs3 d3
     have hz3 := be.size
     replace hrz := hrz.later hb1
     replace hre := hre.later hb1
     replace be := be.trans (hb1.mono be.size)
     have hO3 := ho3.mono hz3
     clear hb1 hO ho3 hz3 hk hwl
     generalize plus wr bs3 d3 = W5 at *
     go_upto_region 15 with (fail)
     have HI := Lib.hid (And.intro hO3 (And.intro hre (And.intro hrz be)))
     clear hO3 hre hrz be
     go_loopw [3, 54] (fun OUT I wi => ∃ (j : Nat) (B : Option Addr) (k d : Nat), I = .int .i64 (j : Int) ∧ OUT = .slice B k d ∧ j ≤ Lz.length ∧ Ob wi w.heap.size B k d (ouB B0 Le Lz 1 ++ dig Lz.length 1 ++ numsB (Lz.take j)) ∧ Rs 1 wi Ae Le.length ce (itK (natK Le)) ∧ Rs 1 wi Az Lz.length cz (itK (natK Lz)) ∧ Below w.heap.size w wi) (fun _ I _ => Lz.length - (intOf I).toNat)
     case atStart => exact ⟨0, A3, n3, n3, rfl, rfl, Nat.zero_le _, by simpa [numsB] using HI.out.1, HI.out.2.1, HI.out.2.2.1, HI.out.2.2.2⟩
     case round =>
      clear HI
      obtain ⟨j, B, k, d, rfl, rfl, hj, hO, hre, hrz, be⟩ := hrel
      have hk : k ≤ 600 + 65 + 65 + 1 + 64 := by
       have h1 := hO.len
       have h3 := ouB_len B0 Le Lz 1
       have h4 := HL0.out
       have h5 := HLL.out
       simp only [List.length_append, dig_length, numsB_len, List.length_take] at h1
       omega
      by_cases hlt : j < Lz.length
      ·have ij : (j : Int) < (Lz.length : Int) := by omega
       obtain ⟨bl, ol, hA, hc⟩ := hrz.int_ j (by rw [natK_len]; exact hlt)
       have hnk : (natK Lz)[j]'(by rw [natK_len]; exact hlt) = ((Lz[j] : Nat) : Int) := by simp [natK]
       rw [hnk] at hc
       have hlt100 := HLL.out.2.2 _ (List.getElem_mem hlt)
       have htk : numsB (Lz.take (j + 1)) = numsB (Lz.take j) ++ dig Lz[j] 1 := by rw [List.take_succ_eq_append_getElem hlt]; unfold numsB; rw [List.flatMap_append]; simp
       generalize Lz[j] = v at *
       have HTK := Lib.hid htk
       have hwv : IntKind.u64.wrap (v : Int) = (v : Int) := IntWalk.u64_in _ (by omega)
       subst hA
       clear htk hnk
       go_wp2_with (go_at_call 67; refine (HPG.out _ _ _ _ _ _ hO.rb (by omega) (by omega)).mono ?_; rintro e w1 ⟨A5, n5, bs5, d5, rfl, rfl, ho5⟩)
       have hb1 := below_plus wr bs5 d5
       have he2 := be.trans (hb1.mono be.size)
       have ho6 : Ob (plus wr bs5 d5) w.heap.size A5 n5 n5 (ouB B0 Le Lz 1 ++ dig Lz.length 1 ++ numsB (Lz.take (j + 1))) := by rw [HTK.out, ← List.append_assoc]; exact ho5.mono be.size
       exact ⟨⟨j + 1, A5, _, _, by go_num, rfl, by omega, ho6, hre.later hb1, hrz.later hb1, he2⟩, by simp [intOf]; omega⟩
      ·obtain rfl : j = Lz.length := by omega
       have ij : ¬ (Lz.length : Int) < (Lz.length : Int) := by omega
       rw [List.take_of_length_le (Nat.le_refl _)] at hO
       have hbs : ouB B0 Le Lz 1 ++ dig Lz.length 1 ++ numsB Lz = ouB B0 Le Lz 2 := by simp [ouB, setB, List.append_assoc]
       rw [hbs] at hO
       have HH := Lib.hid (And.intro hO (And.intro hre (And.intro hrz be)))
       clear hO hre hrz be hj hk hbs
       go_wp2
       exact ⟨⟨2, B, _, _, rfl, rfl, by omega, HH.out.1, HH.out.2.1, HH.out.2.2.1, HH.out.2.2.2⟩, by simp [intOf]⟩
    ·have HF2 := Lib.hid (show ouB B0 Le Lz 2 = stkB S from HFIN.out)
     go_wp2
     go_ret
     rw [← HF2.out]
     exact RetB.mk hO be
end
end

section
open Go.Lib
open Go.RowKit
attribute [local go_sem ↓] sliced_cut
attribute [local go_sem] cutA_zero
theorem sgT_ab (s : Nat × Bool) : ab (sgT s) = (s.1 : Int) := ab_sg
set_option maxHeartbeats 4000000
set_option maxRecDepth 100000
theorem refTabBytes_any (t : Tab) (hok : TabOk t) (A : Option Addr) (m c : Nat) (w : World) (hr : Rs 1 w A m c (itK (refT t))) : Calls Tryd.prog 71 #[.slice A m c] w (RetB w (tabB t)) := by
 have ht := hok.len
 have hm : t.length = m := by have := hr.1; rw [itK_len] at this; simp [refT] at this; omega
 have hm64 : m ≤ 64 := by omega
 have e1 : (m : Int).tdiv 256 = 0 := by rw [Int.tdiv_eq_ediv_of_nonneg (by omega)]; omega
 have e2 : (m : Int).tmod 256 = (m : Int) := by rw [Int.tmod_eq_emod_of_nonneg (by omega)]; omega
 have e3 : IntKind.u8.wrap (m : Int) = (m : Int) := by rw [IntKind.wrap_u8]; omega
 have e4 : IntKind.i64.wrap (m : Int) = (m : Int) := IntWalk.i64_in _ (by omega)
 have HR := Lib.hid (fun W (h : Below w.heap.size w W) => hr.later h)
 have hdg := Lib.hid (show [Value.int .u8 0, .int .u8 (m : Int)] = bcs (dig m 2) by simp [bcs, dig]; omega)
 have HRG := Lib.hid hok.rg
 have be := Below.refl w.heap.size w
 go_enter Tryd.func71, Tryd.ntmps71
 go_upto_region 1 with (fail)
 go_upto_region 3 with (fail)
 have HST := Lib.hid (And.intro (Ob.lit (base := w.heap.size) w (Nat.le_refl _) #[.int .u8 0, .int .u8 (m : Int)] (dig m 2) 2 (by simp [dig_length]) (by decide) hdg.out) (Below.allocS (Below.refl w.heap.size w) (.cells #[.int .u8 0, .int .u8 (m : Int)] 5)))
 clear be
 go_loopw [3, 4] (fun OUT I wr => ∃ (j : Nat) (B : Option Addr) (k d : Nat), I = .int .i64 (j : Int) ∧ OUT = .slice B k d ∧ j ≤ m ∧ Ob wr w.heap.size B k d (dig m 2 ++ (t.take j).map slotB) ∧ Below w.heap.size w wr) (fun _ I _ => m - (intOf I).toNat)
 case atStart => exact ⟨0, _, 2, 2, rfl, rfl, Nat.zero_le _, by simpa using HST.out.1, HST.out.2⟩
 case round =>
  clear HST
  obtain ⟨j, B, k, d, rfl, rfl, hj, hO, be⟩ := hrel
  have hk := hO.len
  simp [dig_length] at hk
  by_cases hlt : j < m
  ·have ij : (j : Int) < (m : Int) := by omega
   have hjt : j < t.length := by omega
   obtain ⟨bm, om, hAe, hbm, -⟩ := hr.at_ (by omega) (by decide)
   have hrr := HR.out wr be
   have hcell : ∃ ad, A = some ad ∧ wr.cell? (ad.add j) = some (.int .i64 (sgT (t[j]'hjt))) := by
    rw [hAe] at hrr
    obtain ⟨b2, o2, h1, -, h2⟩ := hrr.at_ (by omega) (by decide)
    injection h1 with h1
    injection h1 with h3 h4
    subst h3 h4
    refine ⟨_, hAe, ?_⟩
    have := h2 j (.int .i64 (sgT (t[j]'hjt))) (by simp [itK, refT, hjt])
    rw [add_plain]
    exact this
   obtain ⟨ad0, hA0, hcell⟩ := hcell
   rw [hAe] at hA0
   obtain rfl := Option.some.inj hA0
   rw [add_plain] at hcell
   have HOW := Lib.hid (fun W (h : Rs 1 W A m c (itK (refT t))) => show Calls Tryd.prog 79 #[.slice A m c, .int .i64 (j : Int)] W (fun e w' => e = .returned (.int .i64 ((t[j]'hjt).1 : Int)) ∧ W = w') by
    have h1 := refOwner_any (refT t) j A m c W h (by omega) (by simp [refT]; omega) (by
     have h2 : (refT t)[j]'(by simp [refT]; omega) = sgT (t[j]'hjt) := by simp [refT]
     rw [h2]
     have := HRG.out t[j] (List.getElem_mem hjt)
     unfold sgT
     split <;> omega)
    have h2 : (refT t)[j]'(by simp [refT]; omega) = sgT (t[j]'hjt) := by simp [refT]
    rw [h2, sgT_ab] at h1
    exact h1)
   have hmem := HRG.out t[j] (List.getElem_mem hjt)
   have htk : (t.take (j + 1)).map slotB = (t.take j).map slotB ++ [slotB (t[j]'hjt)] := by rw [List.take_succ_eq_append_getElem hjt, List.map_append]; rfl
   generalize (t[j]'hjt) = s at *
   have HTK := Lib.hid htk
   have hsl := Lib.hid (bcs_slot hmem.2)
   obtain ⟨ow, aw⟩ := s
   have ho64 : ow ≤ 64 := hmem.2
   have ho1 : 1 ≤ ow := hmem.1
   have hk66 : k ≤ 66 := by omega
   rw [hAe] at HOW HR
   simp only [hAe] at *
   clear htk hk hmem hrr
   have ewo : IntKind.u8.wrap (ow : Int) = (ow : Int) := by rw [IntKind.wrap_u8]; omega
   have q0 : wr.cell? ⟨bm, om + j, none⟩ = some (.int .i64 (sgT (ow, aw))) := hcell
   clear hcell
   go_upto_region 5 with (fail)
   refine wp_region_lit ?_
   iterate 2 (refine wpList_plain rfl (fun K hK => ?_); go_simp; with_reducible refine hK _ _ ?_; clear hK K)
   refine wpList_plain rfl (fun K hK => ?_)
   go_simp
   refine (HOW.out _ (HR.out _ be)).mono ?_
   rintro e w1 ⟨rfl, rfl⟩
   with_reducible refine hK _ _ ?_
   clear hK K
   refine wpList_plain rfl (fun K hK => ?_); go_simp; with_reducible refine hK _ _ ?_; clear hK K
   cases aw
   ·have hs0 : ¬ sgT (ow, false) < 0 := by unfold sgT; simp
    replace q0 : wr.cell? ⟨bm, om + j, none⟩ = some (.int .i64 (ow : Int)) := q0
    have hs1 : ¬ (ow : Int) < 0 := by omega
    go_upto_region 8 with (fail)
    refine wp_region_lit ?_
    iterate 4 (refine wpList_plain rfl (fun K hK => ?_); go_simp; with_reducible refine hK _ _ ?_; clear hK K)
    refine wpList_app bt rfl (.tmp 31) (.tmp 34) rfl rfl (hO.later (Below.allocS (Below.refl _ _) _)) rfl (Ob.lit wr (Nat.le_refl _) _ [slotB (ow, false)] 1 rfl (by decide) ?_).rb (by omega) (by have := be.size; simp; omega) ?_
    ·exact hsl.out.symm
    intro A2 n2 c2 w4 hO4 hb4 hg4
    refine wpList_plain rfl (fun K hK => ?_); go_simp; with_reducible refine hK _ _ ?_; clear hK K
    have hE2 := (be.trans ((Below.allocS (Below.refl _ _) _).mono be.size)).trans hb4
    go_wp2
    exact ⟨⟨j + 1, A2, _, c2, by go_num, rfl, by omega, by rw [HTK.out, ← List.append_assoc]; exact hO4, hE2⟩, by simp [intOf]; omega⟩
   ·replace q0 : wr.cell? ⟨bm, om + j, none⟩ = some (.int .i64 (-(ow : Int))) := q0
    have hs1 : -(ow : Int) < 0 := by omega
    have hw2 : IntKind.i64.wrap ((ow : Int) + 128) = ((ow + 128 : Nat) : Int) := by rw [IntWalk.i64_in _ (by omega)]; omega
    have hw3 : IntKind.u8.wrap ((ow + 128 : Nat) : Int) = ((ow + 128 : Nat) : Int) := by rw [IntKind.wrap_u8]; omega
    have hw4 : IntKind.u8.wrap ((ow : Int) + 128) = (ow : Int) + 128 := by rw [IntKind.wrap_u8]; omega
    go_upto_region 8 with (fail)
    refine wp_region_lit ?_
    iterate 4 (refine wpList_plain rfl (fun K hK => ?_); go_simp; with_reducible refine hK _ _ ?_; clear hK K)
    refine wpList_app bt rfl (.tmp 31) (.tmp 34) rfl rfl (hO.later (Below.allocS (Below.refl _ _) _)) rfl (Ob.lit wr (Nat.le_refl _) _ [slotB (ow, true)] 1 rfl (by decide) ?_).rb (by omega) (by have := be.size; simp; omega) ?_
    ·exact hsl.out.symm
    intro A2 n2 c2 w4 hO4 hb4 hg4
    refine wpList_plain rfl (fun K hK => ?_); go_simp; with_reducible refine hK _ _ ?_; clear hK K
    have hE2 := (be.trans ((Below.allocS (Below.refl _ _) _).mono be.size)).trans hb4
    go_wp2
    exact ⟨⟨j + 1, A2, _, c2, by go_num, rfl, by omega, by rw [HTK.out, ← List.append_assoc]; exact hO4, hE2⟩, by simp [intOf]; omega⟩
  ·obtain rfl : j = m := by omega
   have ij : ¬ (j : Int) < (j : Int) := by omega
   rw [List.take_of_length_le (by omega)] at hO
   clear hj hk
   go_wp2
   go_ret
   have hd : tabB t = dig j 2 ++ t.map slotB := by unfold tabB; rw [hm]
   rw [hd]
   exact RetB.mk hO be
theorem wpList_appB {P : Program} {w : World} {ops : Array Oper} {rest : List Oper} {o : Oper} {a : Act} {Q : Exit → Act → World → Prop} {ts : TypeId} (bt : BT P ts 5) (hgd : o.guard = none) (s x : Operand)
  (ho : o.op = .call { callee := .builtin .append, args := #[s, x], argTypes := #[ts, ts] })
  {base : Nat} {A : Option Addr} {n c : Nat} {l : List UInt8} (hs : a.eval s = .slice A n c) (hown : Ob w base A n c l)
  {A2 : Option Addr} {n2 c2 : Nat} {l2 : List UInt8} (hx : a.eval x = .slice A2 n2 c2) (hr : Rb w A2 n2 c2 l2) (hm : n + n2 ≤ 1099511627776) (hbase : base ≤ w.heap.size)
  (h : ∀ A' n' c' w', Ob w' base A' n' c' (l ++ l2) → Below base w w' → w.grownBy w' (Value.slice A n c).ownBlock → (∀ k, (Value.slice A' n' c').ownBlock = some k → (Value.slice A n c).ownBlock = some k ∨ w.heap.size ≤ k) → wpList P ops Q rest (a.put o.dst (.slice A' n' c')) w') : wpList P ops Q (o :: rest) a w := by
 refine wpList_plain hgd fun _ hK => ?_
 obtain ⟨A', n', c', w', hrun, h2, h3, h4, h5⟩ := run_appB (P := P) w (ty := o.type) bt hown hr hm hbase
 unfold Oper.wp execOp
 simp only [ho, resolve, invoke, builtin, Sem.run_bind, Sem.run_pure, Result.andThen_ok, List.map_toArray, List.map_cons, List.map_nil, hs, hx, hrun]
 refine hK _ _ (h A' n' c' w' h2 h3 h4 (fun k hk => ?_))
 rcases h5 with h5 | h5
 ·exact .inl (by rw [← h5]; exact hk)
 ·rw [h5] at hk
  injection hk with hk
  exact .inr (by omega)
theorem apart_app {w : World} {A A' B : Option Addr} {n c n' c' m d base : Nat} {l : List UInt8} (h : ∀ k, (Value.slice A n c).ownBlock = some k → (Value.slice B m d).ownBlock ≠ some k) (hn : ∀ k, (Value.slice A' n' c').ownBlock = some k → (Value.slice A n c).ownBlock = some k ∨ w.heap.size ≤ k) (hb : Ob w base B m d l) : ∀ k, (Value.slice A' n' c').ownBlock = some k → (Value.slice B m d).ownBlock ≠ some k := by
 intro k hk e
 rcases hn k hk with h1 | h1
 ·exact h k h1 e
 ·have := (hb.blk k e).2; omega
def evI (S : Stk) (i : Nat) : List Nat := (List.range i).filter fun k : Nat => deadS S (k : Int)
def bzI (S : Stk) (i : Nat) : List Nat := (List.range (min i 8)).filter fun k => S.bz.testBit k
theorem evI_succ (S : Stk) (i : Nat) : evI S (i + 1) = if deadS S (i : Int) = true then evI S i ++ [i] else evI S i := by
 unfold evI
 rw [List.range_succ, List.filter_append]
 split <;> rename_i h <;> simp [h]
theorem bzI_succ (S : Stk) (i : Nat) (h : i < 8) : bzI S (i + 1) = if S.bz.testBit i = true then bzI S i ++ [i] else bzI S i := by
 unfold bzI
 rw [Nat.min_eq_left (by omega), Nat.min_eq_left (by omega), List.range_succ, List.filter_append]
 split <;> rename_i h <;> simp [h]
theorem bzI_big (S : Stk) (i : Nat) (h : ¬ i < 8) : bzI S (i + 1) = bzI S i := by
 unfold bzI
 rw [Nat.min_eq_right (by omega), Nat.min_eq_right (by omega)]
theorem evI_len (S : Stk) (i : Nat) : (evI S i).length ≤ i := by
 unfold evI
 exact Nat.le_trans (List.length_filter_le _ _) (by simp)
theorem bzI_len (S : Stk) (i : Nat) : (bzI S i).length ≤ 8 := by
 unfold bzI
 exact Nat.le_trans (List.length_filter_le _ _) (by simp; omega)
theorem evI_all (S : Stk) : evI S 65 = setL S.ev 1 := by
 unfold evI setL
 rw [List.range_succ_eq_map, List.filter_cons, if_neg (by unfold deadS hasB; simp), List.filter_map]
 have : ∀ i ∈ List.range 64, ((fun k : Nat => deadS S (k : Int)) ∘ Nat.succ) i = S.ev.testBit i := fun i hi => by
  have hi := List.mem_range.1 hi
  unfold deadS hasB
  simp only [Function.comp, Nat.succ_eq_add_one]
  rw [decide_eq_true (by omega), decide_eq_true (by omega)]
  simp
 rw [List.filter_congr this]
theorem bzI_all (S : Stk) (h : S.bz < 256) : bzI S 65 = setL S.bz 0 := by
 unfold bzI setL
 rw [show min 65 8 = 8 from rfl, filter_range_skip S.bz 8 64 (fun i h1 h2 => Nat.testBit_lt_two_pow (Nat.lt_of_lt_of_le h (by exact Nat.pow_le_pow_right (by decide) h1 : 2 ^ 8 ≤ 2 ^ i))) (by decide)]
 simp
theorem numsB_snoc (l : List Nat) (i : Nat) : numsB (l ++ [i]) = numsB l ++ dig i 1 := by simp [numsB]
theorem dig1_bcs (i : Nat) (h : i < 256) : [Value.int .u8 (i : Int)] = bcs (dig i 1) := by simp [bcs, dig]; omega
theorem cell_below {w w' : World} {p : Addr} {v : Value} (hb : Below w.heap.size w w') (h : w.cell? p = some v) : w'.cell? p = some v := by
 have hlt : p.block < w.heap.size := by
  refine Nat.lt_of_not_le (fun hge => ?_)
  have h0 : w.heap[p.block]? = none := Array.getElem?_eq_none hge
  unfold World.cell? at h
  simp [h0] at h
 obtain ⟨g, o, m⟩ := p
 exact (World.cell?_of_block (hb.block g hlt)).trans h
theorem refStkBytes_any (S : Stk) (hok : StkOk S) (A : Option Addr) (n c : Nat) (w : World) {D : Nat → Prop} (hR : RSt D w S.lv A n c) : Calls Tryd.prog 46 #[.agg (rstC A n c S).toArray] w (RetB w (stkB S)) := by
 have h8 := hok.len
 have hn := hR.len
 have hn8 : n ≤ 8 := by omega
 have HSV := Lib.hid (show stkB S = dig S.lv.length 1 ++ levsB S.lv ++ (dig (evI S 65).length 1 ++ numsB (evI S 65)) ++ (dig (bzI S 65).length 1 ++ numsB (bzI S 65)) by rw [evI_all, bzI_all S hok.bz]; rfl)
 have HRR := Lib.hid (fun W (h : Below w.heap.size w W) => hR.later h)
 have HRG := Lib.hid hok.rg
 have HNN := Lib.hid hn
 have e3 : IntKind.u8.wrap (n : Int) = (n : Int) := by rw [IntKind.wrap_u8]; omega
 have hdn := Lib.hid (dig1_bcs n (by omega))
 clear hR hn
 obtain ⟨dvr1, vr1, vr2⟩ := rowRst
 obtain ⟨bs, be, zV⟩ := box1 w 60 (rstC A n c S)
 go_enter Tryd.func46, Tryd.ntmps46
 go_upto_region 1 with (fail)
 generalize w.alloc (.cells (rstC A n c S).toArray 60) = V at *
 have hVs : V.heap.size = w.heap.size + 1 ∨ True := .inr trivial
 have q0 : V.cell? ⟨w.heap.size, 0, none⟩ = some (.slice A n c) := bs.cell 0
 go_upto_region 3 with (fail)
 have hst0 : Ob (V.alloc (.cells #[.int .u8 (n : Int)] 5)) V.heap.size (some ⟨V.heap.size, 0, none⟩) 1 1 (dig S.lv.length 1) := by rw [← HNN.out]; exact Ob.lit V (Nat.le_refl _) #[.int .u8 (n : Int)] (dig n 1) 1 (by simp [dig_length]) (by decide) hdn.out
 have HST := Lib.hid (And.intro hst0 (Below.allocS (Below.refl V.heap.size V) (.cells #[.int .u8 (n : Int)] 5)))
 have HBS := Lib.hid (And.intro bs be)
 have HQ00 := Lib.hid (fun W' (h : Below V.heap.size V W') => show W'.cell? ⟨w.heap.size, 0, none⟩ = some (.slice A n c) from (bs.later h).cell 0)
 have hbs := be.size
 clear hst0 q0 bs be hVs
 go_loopw [3, 4] (fun OUT I wr => ∃ (qi : Nat) (Bk : Option Addr) (kk dk : Nat), OUT = .slice Bk kk dk ∧ I = .int .i64 (qi : Int) ∧ qi ≤ n ∧ Ob wr V.heap.size Bk kk dk (dig S.lv.length 1 ++ levsB (S.lv.take qi)) ∧ Below V.heap.size V wr) (fun _ I _ => n - (intOf I).toNat)
 case atStart => exact ⟨0, _, 1, 1, rfl, rfl, Nat.zero_le _, by simpa [levsB] using HST.out.1, HST.out.2⟩
 case round =>
  clear HST
  obtain ⟨qi, Bk, kk, dk, rfl, rfl, hi, hO, hEV⟩ := hrel
  have q0 := HQ00.out wr hEV
  have hB0 : (dig S.lv.length 1 ++ levsB (S.lv.take qi)).length ≤ 1000 := by
   rw [List.length_append, dig_length]
   have h1 : (levsB (S.lv.take qi)).length ≤ 67 * (S.lv.take qi).length := levsB_len (fun e he => (HRG.out e (List.mem_of_mem_take he)).2)
   have h2 : (S.lv.take qi).length ≤ 8 := by simp; omega
   omega
  have hkk := hO.len
  by_cases hil : qi < n
  ·have hi1 : (qi : Int) < (n : Int) := by omega
   have hiL : qi < S.lv.length := by have := HNN.out; omega
   obtain ⟨bl, ol, At, nt, ct, hAe, hc1, hc2, hrt, -⟩ := (HRR.out V HBS.out.2).at_ qi hiL
   rw [hAe] at q0
   have htk : levsB (S.lv.take (qi + 1)) = levsB (S.lv.take qi) ++ (dig (S.lv[qi]'hiL).1 1 ++ tabB (S.lv[qi]'hiL).2) := by unfold levsB; rw [List.take_succ_eq_append_getElem hiL, List.flatMap_append]; simp [levB]
   have hmem := HRG.out _ (List.getElem_mem hiL)
   generalize S.lv[qi]'hiL = en at *
   obtain ⟨ver, tt⟩ := en
   have hv8 : ver < 8 := hmem.1
   have htt : TabOk tt := hmem.2
   have htt66 : (tabB tt).length ≤ 100 := by rw [tabB_len]; have := htt.len; omega
   have HTK := Lib.hid htk
   have HKB := Lib.hid (fun W (h : Kept (fun b => b < V.heap.size) wr W) => (h.below hEV.size (fun b hb => hb) : Below V.heap.size wr W))
   have HQ0 := Lib.hid (fun W (h : Below V.heap.size wr W) => show W.cell? ⟨w.heap.size, 0, none⟩ = some (.slice (some ⟨bl, ol, none⟩) n c) by rw [← hAe]; exact HQ00.out W (hEV.trans h))
   have HCC := Lib.hid (fun W (h : Below V.heap.size wr W) => show W.cell? ⟨bl, ol + qi * 2, none⟩ = some (.int .i64 (ver : Int)) ∧ W.cell? ⟨bl, ol + qi * 2 + 1, none⟩ = some (.slice At nt ct) ∧ Rs 1 W At nt ct (itK (refT tt)) from ⟨cell_below (hEV.trans h) hc1, cell_below (hEV.trans h) hc2, hrt.later (hEV.trans h)⟩)
   have HQ1 := Lib.hid (fun W h => (HCC.out W h).1)
   have HQ2 := Lib.hid (fun W h => (HCC.out W h).2.1)
   have HQ3 := Lib.hid (fun W h => (HCC.out W h).2.2)
   have HTB := Lib.hid (fun W (h : Rs 1 W At nt ct (itK (refT tt))) => refTabBytes_any tt htt At nt ct W h)
   have e5 : IntKind.u8.wrap (ver : Int) = (ver : Int) := by rw [IntKind.wrap_u8]; omega
   have hdv := Lib.hid (dig1_bcs ver (by omega))
   clear hc1 hc2 hrt hmem htk htt
   generalize hB0e : dig S.lv.length 1 ++ levsB (S.lv.take qi) = B0 at *
   have HB0 := Lib.hid hB0e
   clear hB0e
   go_upto_region 5 with (fail)
   refine wp_own (fun b => b < V.heap.size) 19 1 80 2 (fun i => match i with | i => i) (fun i => match i with | 0 => [19] | 9 => [0] | 17 => [9] | 18 => [17] | _ => []) (fun i => match i with | 19 => .slice Bk kk dk | _ => undef) rfl (by kernel_rfl) (by kernel_rfl) (fun i => match i with | 0 => Own.ob V.heap.size B0 | 1 => Own.eq (.pointer (some ⟨w.heap.size, 0, none⟩)) | 2 => Own.eq (.slice (some ⟨bl, ol, none⟩) n c) | 3 => Own.eq (.int .i64 (qi : Int)) | 4 => Own.eq (.pointer (some ⟨bl, ol + qi * 2, none⟩)) | 5 => Own.eq (.pointer (some ⟨bl, ol + qi * 2, none⟩)) | 6 => Own.eq (.int .i64 (ver : Int)) | 7 => Own.eq (.int .u8 (ver : Int)) | 8 => Own.ob V.heap.size (dig ver 1) | 9 => Own.ob V.heap.size (B0 ++ dig ver 1) | 10 => Own.eq (.pointer (some ⟨w.heap.size, 0, none⟩)) | 11 => Own.eq (.slice (some ⟨bl, ol, none⟩) n c) | 12 => Own.eq (.int .i64 (qi : Int)) | 13 => Own.eq (.pointer (some ⟨bl, ol + qi * 2, none⟩)) | 14 => Own.eq (.pointer (some ⟨bl, ol + qi * 2 + 1, none⟩)) | 15 => Own.eq (.slice At nt ct) | 16 => Own.ob V.heap.size (tabB tt) | 17 => Own.ob V.heap.size ((B0 ++ dig ver 1) ++ tabB tt) | 18 => Own.ob V.heap.size ((B0 ++ dig ver 1) ++ tabB tt) | 19 => Own.ob V.heap.size (B0) | _ => Own.any) (fun b h => Nat.lt_of_lt_of_le h hEV.size) ?_ ?_ ?_ ?_ ?_
   ·exact fun t ht => by obtain rfl : t = 0 := (by omega); exact ⟨_, _, _, rfl, hO⟩
   ·exact fun t t' h1 h2 hne => absurd (show t = t' by omega) hne
   ·exact fun t ht b hb hp => by obtain rfl : t = 0 := (by omega); have h1 := (hO.blk b hb).1; have h2 : b < V.heap.size := hp; omega
   ·intro i hi o ho FA w' vs H K hK
    match i, hi, ho, H, hK with
    | 0, _, ho, H, hK => 
     obtain rfl := qoi ho
     have ev3 : FA.eval (.tmp 3) = .slice Bk kk dk := H.out 3 (by kernel_rfl)
     have e3 : FA.tmps[3]?.getD undef = .slice Bk kk dk := by simpa [Act.eval] using ev3
     replace ev3 := Lib.hid ev3
     have hv0 : vs 19 = .slice Bk kk dk := H.virt 19 (by omega)
     have hw := H.word 19 (by omega) (by kernel_rfl)
     rw [hv0] at hw
     go_simp
     exact hK.out _ _ (chgX (Ex.refl _)) hw (fun b hb => .inl ⟨19, rfl, by show (vs 19).ownBlock = some b; rw [hv0]; exact hb⟩)
    | 1, _, ho, H, hK => 
     obtain rfl := qoi ho
     have ev1 : FA.eval (.tmp 1) = .pointer (some ⟨w.heap.size, 0, none⟩) := H.out 1 (by kernel_rfl)
     have e1 : FA.tmps[1]?.getD undef = .pointer (some ⟨w.heap.size, 0, none⟩) := by simpa [Act.eval] using ev1
     replace ev1 := Lib.hid ev1
     go_simp
     exact hK.out _ _ (chgX (Ex.refl _)) rfl (fun _ h => h.elim)
    | 2, _, ho, H, hK => 
     obtain rfl := qoi ho
     have ev21 : FA.eval (.tmp 21) = .pointer (some ⟨w.heap.size, 0, none⟩) := (H.dep 1 21 (by kernel_rfl)).trans (H.word 1 (by omega) (by kernel_rfl))
     have e21 : FA.tmps[21]?.getD undef = .pointer (some ⟨w.heap.size, 0, none⟩) := by simpa [Act.eval] using ev21
     replace ev21 := Lib.hid ev21
     have q0 := HQ0.out w' (HKB.out _ H.kept)
     go_simp
     exact hK.out _ _ (chgX (Ex.refl _)) rfl (fun _ h => h.elim)
    | 3, _, ho, H, hK => 
     obtain rfl := qoi ho
     have ev4 : FA.eval (.tmp 4) = .int .i64 (qi : Int) := H.out 4 (by kernel_rfl)
     have e4 : FA.tmps[4]?.getD undef = .int .i64 (qi : Int) := by simpa [Act.eval] using ev4
     replace ev4 := Lib.hid ev4
     go_simp
     exact hK.out _ _ (chgX (Ex.refl _)) rfl (fun _ h => h.elim)
    | 4, _, ho, H, hK => 
     obtain rfl := qoi ho
     have ev22 : FA.eval (.tmp 22) = .slice (some ⟨bl, ol, none⟩) n c := (H.dep 2 22 (by kernel_rfl)).trans (H.word 2 (by omega) (by kernel_rfl))
     have e22 : FA.tmps[22]?.getD undef = .slice (some ⟨bl, ol, none⟩) n c := by simpa [Act.eval] using ev22
     replace ev22 := Lib.hid ev22
     have ev23 : FA.eval (.tmp 23) = .int .i64 (qi : Int) := (H.dep 3 23 (by kernel_rfl)).trans (H.word 3 (by omega) (by kernel_rfl))
     have e23 : FA.tmps[23]?.getD undef = .int .i64 (qi : Int) := by simpa [Act.eval] using ev23
     replace ev23 := Lib.hid ev23
     go_simp
     exact hK.out _ _ (chgX (Ex.refl _)) rfl (fun _ h => h.elim)
    | 5, _, ho, H, hK => 
     obtain rfl := qoi ho
     have ev24 : FA.eval (.tmp 24) = .pointer (some ⟨bl, ol + qi * 2, none⟩) := (H.dep 4 24 (by kernel_rfl)).trans (H.word 4 (by omega) (by kernel_rfl))
     have e24 : FA.tmps[24]?.getD undef = .pointer (some ⟨bl, ol + qi * 2, none⟩) := by simpa [Act.eval] using ev24
     replace ev24 := Lib.hid ev24
     go_simp
     exact hK.out _ _ (chgX (Ex.refl _)) rfl (fun _ h => h.elim)
    | 6, _, ho, H, hK => 
     obtain rfl := qoi ho
     have ev25 : FA.eval (.tmp 25) = .pointer (some ⟨bl, ol + qi * 2, none⟩) := (H.dep 5 25 (by kernel_rfl)).trans (H.word 5 (by omega) (by kernel_rfl))
     have e25 : FA.tmps[25]?.getD undef = .pointer (some ⟨bl, ol + qi * 2, none⟩) := by simpa [Act.eval] using ev25
     replace ev25 := Lib.hid ev25
     have q1 := HQ1.out w' (HKB.out _ H.kept)
     go_simp
     exact hK.out _ _ (chgX (Ex.refl _)) rfl (fun _ h => h.elim)
    | 7, _, ho, H, hK => 
     obtain rfl := qoi ho
     have ev26 : FA.eval (.tmp 26) = .int .i64 (ver : Int) := (H.dep 6 26 (by kernel_rfl)).trans (H.word 6 (by omega) (by kernel_rfl))
     have e26 : FA.tmps[26]?.getD undef = .int .i64 (ver : Int) := by simpa [Act.eval] using ev26
     replace ev26 := Lib.hid ev26
     go_simp
     exact hK.out _ _ (chgX (Ex.refl _)) rfl (fun _ h => h.elim)
    | 8, _, ho, H, hK => 
     obtain rfl := qoi ho
     have ev27 : FA.eval (.tmp 27) = .int .u8 (ver : Int) := (H.dep 7 27 (by kernel_rfl)).trans (H.word 7 (by omega) (by kernel_rfl))
     have e27 : FA.tmps[27]?.getD undef = .int .u8 (ver : Int) := by simpa [Act.eval] using ev27
     replace ev27 := Lib.hid ev27
     go_simp
     have ho1 := Ob.lit w' (Nat.le_refl _) #[.int .u8 (ver : Int)] (dig ver 1) 1 (by simp [dig_length]) (by decide) hdv.out
     exact hK.out _ _ (chgX (Ex.alloc _ _)) ⟨_, _, _, rfl, ho1.mono (Nat.le_trans hEV.size H.kept.size)⟩ (fun b hb => .inr (ho1.blk b hb).1)
    | 9, _, ho, H, hK => 
     obtain rfl := qoi ho
     clear ho
     have ev20 := H.dep 0 20 (by kernel_rfl)
     have e20 : FA.tmps[20]?.getD undef = vs 0 := by simpa [Act.eval] using ev20
     replace ev20 := Lib.hid ev20
     have ev28 := H.dep 8 28 (by kernel_rfl)
     have e28 : FA.tmps[28]?.getD undef = vs 8 := by simpa [Act.eval] using ev28
     replace ev28 := Lib.hid ev28
     obtain ⟨A1, n1, c1, hv1, h1⟩ := H.word 0 (by omega) (by kernel_rfl)
     obtain ⟨A2, n2, c2, hv2, h2⟩ := H.word 8 (by omega) (by kernel_rfl)
     have hn1 : n1 ≤ 1000 := by rw [← h1.1]; exact hB0
     have hn2 : n2 ≤ 100 := by rw [← h2.1]; simp [dig_length]
     refine wanted_if rfl ?_
     refine own_app bt (.tmp 20) (.tmp 28) rfl (ev20.out.trans hv1) h1 (ev28.out.trans hv2) h2.rb (by omega) (Nat.le_trans hEV.size H.kept.size) ?_
     intro A3 n3 c3 w3 ho3 hg3 hf3
     refine hK.out _ _ (Chg.grown hg3 (fun k hk => ⟨0, rfl, by show (vs 0).ownBlock = some k; rw [hv1]; exact hk⟩)) ⟨_, _, _, rfl, ho3⟩ (fun b hb => ?_)
     rcases hf3 b hb with h | h
     ·exact .inl ⟨0, rfl, by show (vs 0).ownBlock = some b; rw [hv1]; exact h⟩
     ·exact .inr h
    | 10, _, ho, H, hK => 
     obtain rfl := qoi ho
     have ev1 : FA.eval (.tmp 1) = .pointer (some ⟨w.heap.size, 0, none⟩) := H.out 1 (by kernel_rfl)
     have e1 : FA.tmps[1]?.getD undef = .pointer (some ⟨w.heap.size, 0, none⟩) := by simpa [Act.eval] using ev1
     replace ev1 := Lib.hid ev1
     go_simp
     exact hK.out _ _ (chgX (Ex.refl _)) rfl (fun _ h => h.elim)
    | 11, _, ho, H, hK => 
     obtain rfl := qoi ho
     have ev30 : FA.eval (.tmp 30) = .pointer (some ⟨w.heap.size, 0, none⟩) := (H.dep 10 30 (by kernel_rfl)).trans (H.word 10 (by omega) (by kernel_rfl))
     have e30 : FA.tmps[30]?.getD undef = .pointer (some ⟨w.heap.size, 0, none⟩) := by simpa [Act.eval] using ev30
     replace ev30 := Lib.hid ev30
     have q0 := HQ0.out w' (HKB.out _ H.kept)
     go_simp
     exact hK.out _ _ (chgX (Ex.refl _)) rfl (fun _ h => h.elim)
    | 12, _, ho, H, hK => 
     obtain rfl := qoi ho
     have ev4 : FA.eval (.tmp 4) = .int .i64 (qi : Int) := H.out 4 (by kernel_rfl)
     have e4 : FA.tmps[4]?.getD undef = .int .i64 (qi : Int) := by simpa [Act.eval] using ev4
     replace ev4 := Lib.hid ev4
     go_simp
     exact hK.out _ _ (chgX (Ex.refl _)) rfl (fun _ h => h.elim)
    | 13, _, ho, H, hK => 
     obtain rfl := qoi ho
     have ev31 : FA.eval (.tmp 31) = .slice (some ⟨bl, ol, none⟩) n c := (H.dep 11 31 (by kernel_rfl)).trans (H.word 11 (by omega) (by kernel_rfl))
     have e31 : FA.tmps[31]?.getD undef = .slice (some ⟨bl, ol, none⟩) n c := by simpa [Act.eval] using ev31
     replace ev31 := Lib.hid ev31
     have ev32 : FA.eval (.tmp 32) = .int .i64 (qi : Int) := (H.dep 12 32 (by kernel_rfl)).trans (H.word 12 (by omega) (by kernel_rfl))
     have e32 : FA.tmps[32]?.getD undef = .int .i64 (qi : Int) := by simpa [Act.eval] using ev32
     replace ev32 := Lib.hid ev32
     go_simp
     exact hK.out _ _ (chgX (Ex.refl _)) rfl (fun _ h => h.elim)
    | 14, _, ho, H, hK => 
     obtain rfl := qoi ho
     have ev33 : FA.eval (.tmp 33) = .pointer (some ⟨bl, ol + qi * 2, none⟩) := (H.dep 13 33 (by kernel_rfl)).trans (H.word 13 (by omega) (by kernel_rfl))
     have e33 : FA.tmps[33]?.getD undef = .pointer (some ⟨bl, ol + qi * 2, none⟩) := by simpa [Act.eval] using ev33
     replace ev33 := Lib.hid ev33
     go_simp
     exact hK.out _ _ (chgX (Ex.refl _)) rfl (fun _ h => h.elim)
    | 15, _, ho, H, hK => 
     obtain rfl := qoi ho
     have ev34 : FA.eval (.tmp 34) = .pointer (some ⟨bl, ol + qi * 2 + 1, none⟩) := (H.dep 14 34 (by kernel_rfl)).trans (H.word 14 (by omega) (by kernel_rfl))
     have e34 : FA.tmps[34]?.getD undef = .pointer (some ⟨bl, ol + qi * 2 + 1, none⟩) := by simpa [Act.eval] using ev34
     replace ev34 := Lib.hid ev34
     have q2 := HQ2.out w' (HKB.out _ H.kept)
     go_simp
     exact hK.out _ _ (chgX (Ex.refl _)) rfl (fun _ h => h.elim)
    | 16, _, ho, H, hK => 
     obtain rfl := qoi ho
     have ev35 : FA.eval (.tmp 35) = .slice At nt ct := (H.dep 15 35 (by kernel_rfl)).trans (H.word 15 (by omega) (by kernel_rfl))
     have e35 : FA.tmps[35]?.getD undef = .slice At nt ct := by simpa [Act.eval] using ev35
     replace ev35 := Lib.hid ev35
     go_simp
     refine (HTB.out w' (HQ3.out w' (HKB.out _ H.kept))).mono ?_
     rintro e w1 ⟨A1, n1, c1, bs2, d2, rfl, rfl, ho1⟩
     exact hK.out _ _ (chgX (Ex.plus_ _ _ _)) ⟨_, _, _, rfl, ho1.mono (Nat.le_trans hEV.size H.kept.size)⟩ (fun b hb => .inr (ho1.blk b hb).1)
    | 17, _, ho, H, hK => 
     obtain rfl := qoi ho
     clear ho
     have ev29 := H.dep 9 29 (by kernel_rfl)
     have e29 : FA.tmps[29]?.getD undef = vs 9 := by simpa [Act.eval] using ev29
     replace ev29 := Lib.hid ev29
     have ev36 := H.dep 16 36 (by kernel_rfl)
     have e36 : FA.tmps[36]?.getD undef = vs 16 := by simpa [Act.eval] using ev36
     replace ev36 := Lib.hid ev36
     obtain ⟨A1, n1, c1, hv1, h1⟩ := H.word 9 (by omega) (by kernel_rfl)
     obtain ⟨A2, n2, c2, hv2, h2⟩ := H.word 16 (by omega) (by kernel_rfl)
     have hn1 : n1 ≤ 1001 := by rw [← h1.1, List.length_append, dig_length]; omega
     have hn2 : n2 ≤ 100 := by rw [← h2.1]; exact htt66
     refine wanted_if rfl ?_
     refine own_app bt (.tmp 29) (.tmp 36) rfl (ev29.out.trans hv1) h1 (ev36.out.trans hv2) h2.rb (by omega) (Nat.le_trans hEV.size H.kept.size) ?_
     intro A3 n3 c3 w3 ho3 hg3 hf3
     refine hK.out _ _ (Chg.grown hg3 (fun k hk => ⟨9, rfl, by show (vs 9).ownBlock = some k; rw [hv1]; exact hk⟩)) ⟨_, _, _, rfl, ho3⟩ (fun b hb => ?_)
     rcases hf3 b hb with h | h
     ·exact .inl ⟨9, rfl, by show (vs 9).ownBlock = some b; rw [hv1]; exact h⟩
     ·exact .inr h
    | 18, _, ho, H, hK => 
     obtain rfl := qoi ho
     clear ho
     have ev37 := H.dep 17 37 (by kernel_rfl)
     have e37 : FA.tmps[37]?.getD undef = vs 17 := by simpa [Act.eval] using ev37
     replace ev37 := Lib.hid ev37
     have hw := H.word 17 (by omega) (by kernel_rfl)
     go_simp
     exact hK.out _ _ (chgX (Ex.refl _)) hw (fun b hb => .inl ⟨17, rfl, hb⟩)
    | (k + 19), hi, _, _, _ => exact absurd hi (by omega)
   intro vs w' hC hV hW hDis hFr
   have p1 : vs 1 = .pointer (some ⟨w.heap.size, 0, none⟩) := hW 1 (by omega) (by kernel_rfl)
   have p2 : vs 2 = .slice (some ⟨bl, ol, none⟩) n c := hW 2 (by omega) (by kernel_rfl)
   have p3 : vs 3 = .int .i64 (qi : Int) := hW 3 (by omega) (by kernel_rfl)
   have p4 : vs 4 = .pointer (some ⟨bl, ol + qi * 2, none⟩) := hW 4 (by omega) (by kernel_rfl)
   have p5 : vs 5 = .pointer (some ⟨bl, ol + qi * 2, none⟩) := hW 5 (by omega) (by kernel_rfl)
   have p6 : vs 6 = .int .i64 (ver : Int) := hW 6 (by omega) (by kernel_rfl)
   have p7 : vs 7 = .int .u8 (ver : Int) := hW 7 (by omega) (by kernel_rfl)
   have p8 := hW 8 (by omega) (by kernel_rfl)
   have p10 : vs 10 = .pointer (some ⟨w.heap.size, 0, none⟩) := hW 10 (by omega) (by kernel_rfl)
   have p11 : vs 11 = .slice (some ⟨bl, ol, none⟩) n c := hW 11 (by omega) (by kernel_rfl)
   have p12 : vs 12 = .int .i64 (qi : Int) := hW 12 (by omega) (by kernel_rfl)
   have p13 : vs 13 = .pointer (some ⟨bl, ol + qi * 2, none⟩) := hW 13 (by omega) (by kernel_rfl)
   have p14 : vs 14 = .pointer (some ⟨bl, ol + qi * 2 + 1, none⟩) := hW 14 (by omega) (by kernel_rfl)
   have p15 : vs 15 = .slice At nt ct := hW 15 (by omega) (by kernel_rfl)
   have p16 := hW 16 (by omega) (by kernel_rfl)
   have p18 := hW 18 (by omega) (by kernel_rfl)
   clear hW
   simp only [List.take_succ_cons, List.take_zero, List.drop_succ_cons, List.drop_zero, putAll, Nat.zero_add, Nat.reduceAdd, Act.put, qsT, qsZ, qsS, p1, p2, p3, p4, p5, p6, p7, p10, p11, p12, p13, p14, p15]
   obtain ⟨A5, n5, c5, hA5, ho5⟩ := p18
   replace hA5 : vs 18 = .slice A5 n5 c5 := hA5
   clear p16 p8 hDis hFr hV
   rw [hA5]
   have hE5 := hEV.trans (hC.below hEV.size (fun b hb => hb) : Below V.heap.size wr w')
   rw [List.append_assoc, ← HB0.out, List.append_assoc, ← HTK.out] at ho5
   go_wp2
   exact ⟨⟨qi + 1, A5, n5, c5, rfl, by go_num, by omega, ho5, hE5⟩, by simp [intOf]; omega⟩
  ·have hi1 : ¬ (qi : Int) < (n : Int) := by omega
   rw [List.take_of_length_le (by have := HNN.out; omega)] at hO hB0
   clear hi hil
   generalize hB1e : dig S.lv.length 1 ++ levsB S.lv = B1 at *
   clear hB1e
   have HBW := Lib.hid (fun W (h : Below wr.heap.size wr W) => (HBS.out.1.later hEV).later h)
   go_upto_region 8 with (fail)
   clear q0
   have HF := Lib.hid (And.intro hO hEV)
   clear hO hEV
   generalize wr = W0 at *
   have hKS := HF.out.2.size
   go_loopw [5, 6, 7] (fun AA BB I wr => ∃ (q : Nat) (A1 : Option Addr) (n1 c1 : Nat) (A2 : Option Addr) (n2 c2 : Nat), AA = .slice A1 n1 c1 ∧ BB = .slice A2 n2 c2 ∧ I = .int .i64 (q : Int) ∧ q ≤ 65 ∧ Ob wr W0.heap.size A1 n1 c1 (numsB (evI S q)) ∧ Ob wr W0.heap.size A2 n2 c2 (numsB (bzI S q)) ∧ (∀ k, (Value.slice A1 n1 c1).ownBlock = some k → (Value.slice A2 n2 c2).ownBlock ≠ some k) ∧ Below W0.heap.size W0 wr) (fun _ _ I _ => 65 - (intOf I).toNat)
   case atStart => exact ⟨0, none, 0, 0, none, 0, 0, rfl, rfl, rfl, by omega, Ob.nil_, Ob.nil_, (fun k hk => by cases hk), Below.refl _ _⟩
   case round =>
    obtain ⟨q, A1, n1, c1, A2, n2, c2, rfl, rfl, rfl, hq, h1, h2, hab, hE⟩ := hrel
    have hl1 := h1.len
    have hl2 := h2.len
    rw [numsB_len] at hl1 hl2
    have hl1b := evI_len S q
    have hl2b := bzI_len S q
    by_cases hq65 : q < 65
    ·have hq1 : (q : Int) < 65 := by omega
     have hwq : IntKind.u8.wrap (q : Int) = (q : Int) := by rw [IntKind.wrap_u8]; omega
     have hdq := Lib.hid (dig1_bcs q (by omega))
     have qe : wr.cell? ⟨w.heap.size, 1 + q, none⟩ = some (.bool (deadS S (q : Int))) := ((HBW.out wr hE).cell _).trans (rstC_ev A n c S q hq65)
     have hes := evI_succ S q
     cases hd : deadS S (q : Int)
     focus
      rw [hd] at qe hes
      have HES := Lib.hid (show evI S (q + 1) = evI S q from hes)
      clear hes hd
      rw [← HES.out] at h1
      go_upto_region 12 with (fail)
      clear qe
     rotate_left
     focus
      rw [hd] at qe hes
      have HES := Lib.hid (show evI S (q + 1) = evI S q ++ [q] from hes)
      clear hes hd
      go_upto_region 11 with (fail)
      clear qe
      have hr2 := h2.later (Below.allocS (Below.refl wr.heap.size wr) (.cells #[.int .u8 (q : Int)] 5))
      have hE6 := hE.trans ((Below.allocS (Below.refl wr.heap.size wr) (.cells #[.int .u8 (q : Int)] 5)).mono hE.size)
      refine wp_region_lit ?_
      iterate 4 (refine wpList_plain rfl (fun K hK => ?_); go_simp; with_reducible refine hK _ _ ?_; clear hK K)
      refine wpList_appB bt rfl (.tmp 46) (.tmp 49) rfl rfl (h1.later (Below.allocS (Below.refl _ _) _)) rfl (Ob.lit wr (Nat.le_refl _) _ (dig q 1) 1 (by simp [dig_length]) (by decide) hdq.out).rb (by omega) (by have := hE.size; simp; omega) ?_
      intro A1 n1 c1 wr hO7 hb7 hg7 hn7
      refine wpList_plain rfl (fun K hK => ?_); go_simp; with_reducible refine hK _ _ ?_; clear hK K
      have h17 : Ob wr W0.heap.size A1 n1 c1 (numsB (evI S (q + 1))) := by rw [HES.out, numsB_snoc]; exact hO7
      have h27 := hr2.grown hg7 (fun k hk e => hab k e hk)
      have hab7 := apart_app hab hn7 hr2
      have hE7 : Below W0.heap.size W0 wr := hE6.trans hb7
      have hl3 := h17.len
      rw [numsB_len] at hl3
      have hl3b := evI_len S (q + 1)
      clear h1 h2 hab hE hO7 hb7 hg7 hn7 hr2 hE6
      have h1 := h17
      have h2 := h27
      have hab := hab7
      have hE := hE7
      clear h17 h27 hab7 hE7
      go_upto_region 12 with (fail)
     iterate 2
      focus
       by_cases hq8 : q < 8
       ·have hq8i : (q : Int) < 8 := by omega
        have hbs := bzI_succ S q hq8
        cases hb : S.bz.testBit q
        ·rw [hb] at hbs
         have HBS2 := Lib.hid (show bzI S (q + 1) = bzI S q from hbs)
         have HTB := Lib.hid hb
         clear hbs hb
         refine wp_region_lit ?_
         iterate 3 (refine wpList_plain rfl (fun K hK => ?_); go_simp; with_reducible refine hK _ _ ?_; clear hK K)
         iterate 3 (refine wpList_step (fun K hK => ?_); go_simp; with_reducible refine hK _ _ ?_; clear hK K)
         refine wpList_ld1 (t := 60) (cs := rstC A n c S) 4 (.tmp 56) rfl (by go_simp) rfl (HBW.out _ hE) ((rstC_bz A n c S q hq8).trans (by rw [HTB.out])) Tryd.underlying4 rfl ?_
         refine wpList_plain rfl (fun K hK => ?_); go_simp; with_reducible refine hK _ _ ?_; clear hK K
         rw [← HBS2.out] at h2
         go_wp2
         exact ⟨⟨q + 1, A1, n1, c1, A2, n2, c2, rfl, rfl, by go_num, by omega, h1, h2, hab, hE⟩, by simp [intOf]; omega⟩
        ·rw [hb] at hbs
         have HBS2 := Lib.hid (show bzI S (q + 1) = bzI S q ++ [q] from hbs)
         have HTB := Lib.hid hb
         clear hbs hb
         refine wp_region_lit ?_
         iterate 3 (refine wpList_plain rfl (fun K hK => ?_); go_simp; with_reducible refine hK _ _ ?_; clear hK K)
         iterate 3 (refine wpList_step (fun K hK => ?_); go_simp; with_reducible refine hK _ _ ?_; clear hK K)
         refine wpList_ld1 (t := 60) (cs := rstC A n c S) 4 (.tmp 56) rfl (by go_simp) rfl (HBW.out _ hE) ((rstC_bz A n c S q hq8).trans (by rw [HTB.out])) Tryd.underlying4 rfl ?_
         refine wpList_plain rfl (fun K hK => ?_); go_simp; with_reducible refine hK _ _ ?_; clear hK K
         go_upto_region 13 with (fail)
         refine wp_region_lit ?_
         iterate 4 (refine wpList_plain rfl (fun K hK => ?_); go_simp; with_reducible refine hK _ _ ?_; clear hK K)
         refine wpList_appB bt rfl (.tmp 59) (.tmp 62) rfl rfl (h2.later (Below.allocS (Below.refl _ _) _)) rfl (Ob.lit wr (Nat.le_refl _) _ (dig q 1) 1 (by simp [dig_length]) (by decide) hdq.out).rb (by omega) (by have := hE.size; simp; omega) ?_
         intro A4 n4 c4 w8 hO7 hb7 hg7 hn7
         refine wpList_plain rfl (fun K hK => ?_); go_simp; with_reducible refine hK _ _ ?_; clear hK K
         have h28 : Ob w8 W0.heap.size A4 n4 c4 (numsB (bzI S (q + 1))) := by rw [HBS2.out, numsB_snoc]; exact hO7
         have hba : ∀ k, (Value.slice A2 n2 c2).ownBlock = some k → (Value.slice A1 n1 c1).ownBlock ≠ some k := fun k hk e => hab k e hk
         have h18 := (h1.later (Below.allocS (Below.refl wr.heap.size wr) (.cells #[.int .u8 (q : Int)] 5))).grown hg7 (fun k hk e => hba k e hk)
         have hba8 := apart_app hba hn7 (h1.later (Below.allocS (Below.refl wr.heap.size wr) (.cells #[.int .u8 (q : Int)] 5)))
         have hE8 : Below W0.heap.size W0 w8 := (hE.trans ((Below.allocS (Below.refl _ _) _).mono hE.size)).trans hb7
         go_wp2
         exact ⟨⟨q + 1, A1, n1, c1, A4, n4, c4, rfl, rfl, by go_num, by omega, h18, h28, fun k hk e => hba8 k e hk, hE8⟩, by simp [intOf]; omega⟩
       ·have hq8i : ¬ (q : Int) < 8 := by omega
        have HBS2 := Lib.hid (bzI_big S q hq8)
        refine wp_region_lit ?_
        iterate 3 (refine wpList_plain rfl (fun K hK => ?_); go_simp; with_reducible refine hK _ _ ?_; clear hK K)
        iterate 4 ((with_reducible refine wpList_skip ?_ ?_); (· first | (go_simp; done) | (go_simp; intro h; cases h)); simp only [Act.put, qsT, qsZ, qsS])
        refine wpList_plain rfl (fun K hK => ?_); go_simp; with_reducible refine hK _ _ ?_; clear hK K
        rw [← HBS2.out] at h2
        go_wp2
        exact ⟨⟨q + 1, A1, n1, c1, A2, n2, c2, rfl, rfl, by go_num, by omega, h1, h2, hab, hE⟩, by simp [intOf]; omega⟩
    ·have hq1 : ¬ (q : Int) < 65 := by omega
     have hq65' : q = 65 := by omega
     rw [hq65'] at h1 h2 hl1 hl2
     have hla : (evI S 65).length ≤ 65 := evI_len S 65
     have hlb : (bzI S 65).length ≤ 8 := bzI_len S 65
     clear hq hl1b hl2b hq65' hq65
     obtain ⟨hO0, hEV⟩ := HF.out
     have hOb := hO0.blk
     have hO := hO0.later hE
     have hkO := hO.len
     have hoa : ∀ k, (Value.slice Bk kk dk).ownBlock = some k → (Value.slice A1 n1 c1).ownBlock ≠ some k := fun k hk e => by have := (hOb k hk).2; have := (h1.blk k e).1; omega
     have hob : ∀ k, (Value.slice Bk kk dk).ownBlock = some k → (Value.slice A2 n2 c2).ownBlock ≠ some k := fun k hk e => by have := (hOb k hk).2; have := (h2.blk k e).1; omega
     have hE2 : Below V.heap.size V wr := hEV.trans (hE.mono hKS)
     have hwa : IntKind.u8.wrap (n1 : Int) = (n1 : Int) := by rw [IntKind.wrap_u8]; omega
     have hwb : IntKind.u8.wrap (n2 : Int) = (n2 : Int) := by rw [IntKind.wrap_u8]; omega
     have hda := Lib.hid (dig1_bcs n1 (by omega))
     have hdb := Lib.hid (dig1_bcs n2 (by omega))
     have HL1 := Lib.hid hl1
     have HL2 := Lib.hid hl2
     clear hO0 hOb hEV hE hl1 hl2 hab
     go_upto_region 14 with (fail)
     refine wp_region_lit ?_
     iterate 5 (refine wpList_plain rfl (fun K hK => ?_); go_simp; with_reducible refine hK _ _ ?_; clear hK K)
     refine wpList_appB bt rfl (.tmp 64) (.tmp 68) rfl rfl (hO.later (Below.allocS (Below.refl _ _) _)) rfl (Ob.lit wr (Nat.le_refl _) _ (dig n1 1) 1 (by simp [dig_length]) (by decide) hda.out).rb (by omega) (by have := hE2.size; simp; omega) ?_
     intro A5 m5 d5 w5 hOx hbx hgx hnx
     have hE3 : Below V.heap.size V w5 := (hE2.trans ((Below.allocS (Below.refl _ _) _).mono hE2.size)).trans hbx
     have hax := (h1.later (Below.allocS (Below.refl wr.heap.size wr) (.cells #[.int .u8 (n1 : Int)] 5))).grown hgx (fun k hk e => hoa k e hk)
     have hapx := apart_app hoa hnx (h1.later (Below.allocS (Below.refl wr.heap.size wr) (.cells #[.int .u8 (n1 : Int)] 5)))
     have h2x := (h2.later (Below.allocS (Below.refl wr.heap.size wr) (.cells #[.int .u8 (n1 : Int)] 5))).grown hgx (fun k hk e => hob k e hk)
     have hobx := apart_app hob hnx (h2.later (Below.allocS (Below.refl wr.heap.size wr) (.cells #[.int .u8 (n1 : Int)] 5)))
     have hlx : m5 ≤ kk + 1 := by have h1 := hOx.len; have h2 := hO.len; rw [List.length_append, dig_length] at h1; omega
     have hnn := HL1.out
     refine wpList_plain rfl (fun K hK => ?_); go_simp; with_reducible refine hK _ _ ?_; clear hK K
     refine wpList_appB bt rfl (.tmp 69) (.tmp 70) rfl rfl hOx rfl hax.rb (by omega) (by have := hE3.size; omega) ?_
     intro A6 m6 d6 w6 hOy hby hgy hny
     have h26 := h2x.grown hgy (fun k hk e => hobx k e hk)
     have hob6 := apart_app hobx hny h2x
     have hE4 : Below V.heap.size V w6 := hE3.trans hby
     refine wpList_plain rfl (fun K hK => ?_); go_simp; with_reducible refine hK _ _ ?_; clear hK K
     have hO6 := hOy
     have hly : m6 ≤ kk + 100 := by have h1 := hOy.len; have h2 := hOx.len; rw [List.length_append, numsB_len] at h1; omega
     clear hOx hbx hgx hnx hax hapx hlx hnn hOy hby hgy hny hE3 hE2 h2x hobx h2 hob hO
     have hE2 := hE4
     clear hE4
     have h2 := h26
     clear h1 hoa
     go_upto_region 15 with (fail)
     refine wp_region_lit ?_
     iterate 5 (refine wpList_plain rfl (fun K hK => ?_); go_simp; with_reducible refine hK _ _ ?_; clear hK K)
     refine wpList_appB bt rfl (.tmp 72) (.tmp 76) rfl rfl (hO6.later (Below.allocS (Below.refl _ _) _)) rfl (Ob.lit w6 (Nat.le_refl _) _ (dig n2 1) 1 (by simp [dig_length]) (by decide) hdb.out).rb (by omega) (by have := hE2.size; simp; omega) ?_
     intro A7 m7 d7 w7 hOx hbx hgx hnx
     have hE3 : Below V.heap.size V w7 := (hE2.trans ((Below.allocS (Below.refl _ _) _).mono hE2.size)).trans hbx
     have hax := (h2.later (Below.allocS (Below.refl w6.heap.size w6) (.cells #[.int .u8 (n2 : Int)] 5))).grown hgx (fun k hk e => hob6 k e hk)
     have hapx := apart_app hob6 hnx (h2.later (Below.allocS (Below.refl w6.heap.size w6) (.cells #[.int .u8 (n2 : Int)] 5)))
     have hlx : m7 ≤ m6 + 1 := by have h1 := hOx.len; have h2 := hO6.len; rw [List.length_append, dig_length] at h1; omega
     have hnn := HL2.out
     refine wpList_plain rfl (fun K hK => ?_); go_simp; with_reducible refine hK _ _ ?_; clear hK K
     refine wpList_appB bt rfl (.tmp 77) (.tmp 78) rfl rfl hOx rfl hax.rb (by omega) (by have := hE3.size; omega) ?_
     intro A8 m8 d8 w8 hOy hby hgy hny
     have hE4 : Below V.heap.size V w8 := hE3.trans hby
     refine wpList_plain rfl (fun K hK => ?_); go_simp; with_reducible refine hK _ _ ?_; clear hK K
     have hO8 := hOy
     have hly : m8 ≤ m6 + 100 := by have h1 := hOy.len; have h2 := hOx.len; rw [List.length_append, numsB_len] at h1; omega
     clear hOx hbx hgx hnx hax hapx hlx hnn hOy hby hgy hny hE3 hE2 hO6
     have hE2 := hE4
     clear hE4
     go_wp2
     go_ret
     rw [HSV.out, HL1.out, HL2.out]
     refine RetB.mk (A := A8) (n := m8) (c := d8) ?_ (HBS.out.2.trans (hE2.mono hbs))
     have h9 := hO8.mono hbs
     simpa only [List.append_assoc] using h9
end

section
open Go.Lib
open Go.RowKit
attribute [local go_sem ↓] sliced_cut
attribute [local go_sem] cutA_zero
def wtS (ms : List (Int × Int)) (n : Int) : Int := ((ms.find? fun p => p.1 == n).map (·.2)).getD 0
theorem wtS_step (ms : List (Int × Int)) (n : Int) (i : Nat) (h : i < ms.length) : wtS (ms.drop i) n = if ms[i].1 = n then ms[i].2 else wtS (ms.drop (i + 1)) n := by
 unfold wtS
 rw [List.drop_eq_getElem_cons h, List.find?_cons]
 by_cases e : ms[i].1 = n
 ·have eb : (ms[i].1 == n) = true := by simp [e]
  rw [if_pos e, eb]
  rfl
 ·have eb : (ms[i].1 == n) = false := by simp [e]
  rw [if_neg e, eb]
set_option maxHeartbeats 4000000
set_option maxRecDepth 100000
theorem cfgWeight_any (x : Ve) (n : Int) (w : World) (hm : Rs 2 w x.2.A x.2.n x.2.c (prs .i64 x.1.ms)) (hle : x.2.n ≤ 1000000) : Calls Tryd.prog 47 #[.agg (veC x).toArray, .int .i64 n] w (RetV w (.int .i64 (wtS x.1.ms n))) := by
 obtain ⟨dvm, vm1, vm2⟩ := rowMb
 have hml : x.1.ms.length = x.2.n := by have := hm.1; rw [prs_length] at this; omega
 obtain ⟨MA, hMA⟩ : ∃ A, A = x.2.A := ⟨_, rfl⟩
 obtain ⟨mn, hmn⟩ : ∃ A, A = x.2.n := ⟨_, rfl⟩
 obtain ⟨mc, hmc⟩ : ∃ A, A = x.2.c := ⟨_, rfl⟩
 obtain ⟨ms, hms⟩ : ∃ A, A = x.1.ms := ⟨_, rfl⟩
 rw [← hMA, ← hmn, ← hmc, ← hms] at hm
 rw [← hmn] at hle
 rw [← hmn, ← hms] at hml
 rw [← hms]
 obtain ⟨dvv1, vv1, vv2⟩ := rowVe
 obtain ⟨bv, be, zV⟩ := box1 w 53 (veC x)
 go_enter Tryd.func47, Tryd.ntmps47
 go_upto_region 1 with (fail)
 generalize w.alloc (.cells (veC x).toArray 53) = V at *
 have q6 : V.cell? ⟨w.heap.size, 6, none⟩ = some (.slice MA mn mc) := by rw [hMA, hmn, hmc]; exact bv.cell 6
 clear hMA hmn hmc hms bv
 have HM := Lib.hid (fun W (h : Below w.heap.size w W) => hm.later h)
 have HM0 := Lib.hid hm
 go_upto_region 2 with (fail)
 have HB := Lib.hid be
 clear q6 be
 go_loopw [10] (fun I wr => ∃ i : Nat, I = .int .i64 (i : Int) ∧ i ≤ mn ∧ Hid (wtS ms n = wtS (ms.drop i) n) ∧ Below w.heap.size w wr) (fun I _ => mn - (intOf I).toNat)
 case atStart => exact ⟨0, rfl, Nat.zero_le _, Lib.hid (by simp), HB.out⟩
 case round =>
  clear HB
  obtain ⟨i, rfl, hi, hw, be⟩ := hrel
  by_cases hil : i < mn
  ·have hi1 : (i : Int) < (mn : Int) := by omega
   have hil2 : i < ms.length := by omega
   obtain ⟨bm, om, hAe, hbm, -⟩ := HM0.out.at_ (by omega) (by decide)
   have hmr := HM.out wr be
   rw [hAe] at hmr
   obtain ⟨c1, c2⟩ := hmr.range2 i hil2
   have hst := wtS_step ms n i hil2
   generalize ms[i] = p at *
   have hrg : wr.rangeAt bm (om + i * 2) [.int .i64 p.1, .int .i64 p.2] := fun j u hu => by
    match j, hu with
    | 0, hu => injection hu with hu; rw [← hu]; exact c1
    | 1, hu => injection hu with hu; rw [← hu]; exact c2
   simp only [hAe] at *
   clear c1 c2 hmr
   go_upto_region 3 with (fail)
   refine wp_region_lit ?_
   refine wpList_plain rfl (fun K hK => ?_); go_simp; with_reducible refine hK _ _ ?_; clear hK K
   refine wpList_load_mid rfl 68 (.tmp 12) rfl bm (om + i * 2) rfl [.int .i64 p.1, .int .i64 p.2] _ hrg vm1 vm2 (szMb _ _) ?_
   refine wpList_plain rfl (fun K hK => ?_); go_simp; with_reducible refine hK _ _ ?_; clear hK K
   refine wpList_stA (t := 68) 68 (.tmp 6) (.tmp 13) rfl rfl [.int .i64 p.1, .int .i64 p.2] [.int .i64 0, .int .i64 0] rfl (by simp [Value.oneCell']) rfl rfl (Bk.new _ _ _) (szMb _ _) ?_
   intro W4 h4 g4
   simp only [Act.put, qsT, qsZ, qsS]
   have be4 := below_grown (Below.allocS be _) g4 be.size
   have q0 : W4.cell? ⟨wr.heap.size, 0, none⟩ = some (.int .i64 p.1) := h4.cell 0
   have q1 : W4.cell? ⟨wr.heap.size, 1, none⟩ = some (.int .i64 p.2) := h4.cell 1
   clear g4 h4 hrg
   generalize wr.heap.size = gs at *
   by_cases e : p.1 = n
   ·have eb : (p.1 == n) = true := by simp [e]
    have HV := Lib.hid (show wtS ms n = p.2 by rw [hw.out, hst, if_pos e])
    clear e hst
    go_wp2
    go_ret
    rw [HV.out]
    exact RetV.is_ rfl be4
   ·have eb : (p.1 == n) = false := by simp [e]
    have HV := Lib.hid (show wtS ms n = wtS (ms.drop (i + 1)) n by rw [hw.out, hst, if_neg e])
    clear e hst
    go_wp2
    exact ⟨⟨i + 1, by go_num, by omega, HV, be4⟩, by simp [intOf]; omega⟩
  ·have hi1 : ¬ (i : Int) < (mn : Int) := by omega
   have HV := Lib.hid (show wtS ms n = 0 by rw [hw.out, List.drop_of_length_le (by omega)]; rfl)
   clear hi hil
   go_wp2
   go_ret
   rw [HV.out]
   exact RetV.is_ rfl be
theorem refWeight_any (x : Re) (n : Int) (w : World) (hm : Rs 2 w x.2.A x.2.n x.2.c (prs .i64 x.1.ms)) (hle : x.2.n ≤ 1000000) : Calls Tryd.prog 48 #[.agg (rvC x).toArray, .int .i64 n] w (RetV w (.int .i64 (wtS x.1.ms n))) := by
 have hml : x.1.ms.length = x.2.n := by have := hm.1; rw [prs_length] at this; omega
 obtain ⟨MA, hMA⟩ : ∃ A, A = x.2.A := ⟨_, rfl⟩
 obtain ⟨mn, hmn⟩ : ∃ A, A = x.2.n := ⟨_, rfl⟩
 obtain ⟨mc, hmc⟩ : ∃ A, A = x.2.c := ⟨_, rfl⟩
 obtain ⟨ms, hms⟩ : ∃ A, A = x.1.ms := ⟨_, rfl⟩
 rw [← hMA, ← hmn, ← hmc, ← hms] at hm
 rw [← hmn] at hle
 rw [← hmn, ← hms] at hml
 rw [← hms]
 obtain ⟨dvr1, vr1, vr2⟩ := rowRv
 obtain ⟨bv, be, zV⟩ := box1 w 62 (rvC x)
 go_enter Tryd.func48, Tryd.ntmps48
 go_upto_region 1 with (fail)
 generalize w.alloc (.cells (rvC x).toArray 62) = V at *
 have HQ := Lib.hid (fun W (h : Below V.heap.size V W) => show W.cell? ⟨w.heap.size, 6, none⟩ = some (.slice MA mn mc) by rw [hMA, hmn, hmc]; exact (bv.later h).cell 6)
 have hbs := be.size
 clear hMA hmn hmc hms bv
 have HM := Lib.hid (fun W (h : Below w.heap.size w W) => hm.later h)
 have HM0 := Lib.hid hm
 have HB := Lib.hid be
 clear be
 go_upto_region 2 with (fail)
 go_loopw [5] (fun I wr => ∃ i : Nat, I = .int .i64 (i : Int) ∧ i ≤ mn ∧ Hid (wtS ms n = wtS (ms.drop i) n) ∧ Below V.heap.size V wr) (fun I _ => mn - (intOf I).toNat)
 case atStart => exact ⟨0, rfl, Nat.zero_le _, Lib.hid (by simp), Below.refl _ _⟩
 case round =>
  obtain ⟨i, rfl, hi, hw, be⟩ := hrel
  have q6 := HQ.out wr be
  by_cases hil : i < mn
  ·have hi1 : (i : Int) < (mn : Int) := by omega
   have hil2 : i < ms.length := by omega
   obtain ⟨bm, om, hAe, hbm, -⟩ := HM0.out.at_ (by omega) (by decide)
   have hmr := HM.out wr (HB.out.trans (be.mono hbs))
   rw [hAe] at hmr q6
   obtain ⟨c1, c2⟩ := hmr.range2 i hil2
   have hst := wtS_step ms n i hil2
   generalize ms[i] = p at *
   clear hmr hAe
   by_cases e : p.1 = n
   ·have eb : (p.1 == n) = true := by simp [e]
    have HV := Lib.hid (show wtS ms n = p.2 by rw [hw.out, hst, if_pos e])
    clear e hst
    go_wp2
    go_ret
    rw [HV.out]
    exact RetV.is_ rfl (HB.out.trans (be.mono hbs))
   ·have eb : (p.1 == n) = false := by simp [e]
    have HV := Lib.hid (show wtS ms n = wtS (ms.drop (i + 1)) n by rw [hw.out, hst, if_neg e])
    clear e hst
    go_wp2
    exact ⟨⟨i + 1, by go_num, by omega, HV, be⟩, by simp [intOf]; omega⟩
  ·have hi1 : ¬ (i : Int) < (mn : Int) := by omega
   have HV := Lib.hid (show wtS ms n = 0 by rw [hw.out, List.drop_of_length_le (by omega)]; rfl)
   clear hi hil
   go_wp2
   go_ret
   rw [HV.out]
   exact RetV.is_ rfl (HB.out.trans (be.mono hbs))
end

end Go.Proofs.YtkecgdnmehgpjaaDoor
