/- Texts of the law CodecStates, part 5. -/
import Derived.Test.YtljlflmkmjcnnaaGreatDoorZCodecStates4
set_option linter.unusedVariables false
set_option linter.unusedSimpArgs false
namespace Go.Proofs.YtljlflmkmjcnnaaGreatDoor
section
open Go.RowKit
attribute [local go_sem ↓] sliced_cut
attribute [local go_sem] cutA_zero
theorem ring_rb {w : World} {key : List UInt8} (hk : K16 key) (n : Nat) (t : TypeId) : Rb (w.alloc (.cells (ringC key n).toArray t)) (some ⟨w.heap.size, 0, none⟩) 16 16 key := by
 refine ⟨hk, Nat.le_refl _, .inr ⟨w.heap.size, 0, rfl, by simp, fun i u hu => ?_⟩⟩
 rw [Nat.zero_add]
 have hi : i < (bcs key).length := (List.getElem?_eq_some_iff.1 hu).1
 simpa [ringC, List.getElem?_append_left hi] using hu
set_option maxHeartbeats 2000000 in
set_option maxRecDepth 100000 in
theorem ringBytes_any (key : List UInt8) (hk : K16 key) (n : Nat) (w : World) (hn : n < 18446744073709551616) : Calls Tryz.prog 25 #[.agg (ringC key n).toArray] w (RetB w (key ++ dig n 8)) := by
 have q := ringC_16 key hk n
 have hrk := ring_rb (w := w) hk n 57
 go_enter Tryz.func25, Tryz.ntmps25
 go_wp2
 refine wp_rel 6 8 rfl (by kernel_rfl) (by kernel_rfl) (fun i => match i with | 0 => MP.eq (.pointer (some ⟨w.heap.size, 0, none⟩)) | 1 => MP.eq (.slice (some ⟨w.heap.size, 0, none⟩) 16 16) | 2 => MP.eq (.pointer (some ⟨w.heap.size, 16, none⟩)) | 3 => MP.eq (.int .u64 (n : Int)) | 4 => MP.ob w.heap.size (key ++ dig n 8) | 5 => MP.ob w.heap.size (key ++ dig n 8) | _ => MP.any) ?_ ?_
 ·intro i hi o ho FA x hO hD K hK
  match i, hi, ho, hO, hD, hK with
  | 0, _, ho, hO, hD, hK => 
   obtain rfl := qoi ho
   have ev1 : FA.eval (.tmp 1) = .pointer (some ⟨w.heap.size, 0, none⟩) := hO 1 (by kernel_rfl)
   have e1 : FA.tmps[1]?.getD undef = .pointer (some ⟨w.heap.size, 0, none⟩) := by simpa [Act.eval] using ev1
   replace ev1 := Lib.hid ev1
   clear hO hD ho
   go_simp
   exact hK.out _ _ (Ex.refl _) rfl
  | 1, _, ho, hO, hD, hK => 
   obtain rfl := qoi ho
   have ev3 : FA.eval (.tmp 3) = .pointer (some ⟨w.heap.size, 0, none⟩) := hD 0 3 (by kernel_rfl)
   have e3 : FA.tmps[3]?.getD undef = .pointer (some ⟨w.heap.size, 0, none⟩) := by simpa [Act.eval] using ev3
   replace ev3 := Lib.hid ev3
   clear hO hD ho
   go_simp
   exact hK.out _ _ (Ex.refl _) rfl
  | 2, _, ho, hO, hD, hK => 
   obtain rfl := qoi ho
   have ev1 : FA.eval (.tmp 1) = .pointer (some ⟨w.heap.size, 0, none⟩) := hO 1 (by kernel_rfl)
   have e1 : FA.tmps[1]?.getD undef = .pointer (some ⟨w.heap.size, 0, none⟩) := by simpa [Act.eval] using ev1
   replace ev1 := Lib.hid ev1
   clear hO hD ho
   go_simp
   exact hK.out _ _ (Ex.refl _) rfl
  | 3, _, ho, hO, hD, hK => 
   obtain rfl := qoi ho
   have ev5 : FA.eval (.tmp 5) = .pointer (some ⟨w.heap.size, 16, none⟩) := hD 2 5 (by kernel_rfl)
   have e5 : FA.tmps[5]?.getD undef = .pointer (some ⟨w.heap.size, 16, none⟩) := by simpa [Act.eval] using ev5
   replace ev5 := Lib.hid ev5
   clear hO hD ho
   go_simp
   exact hK.out _ _ (Ex.refl _) rfl
  | 4, _, ho, hO, hD, hK => 
   obtain rfl := qoi ho
   have ev4 : FA.eval (.tmp 4) = .slice (some ⟨w.heap.size, 0, none⟩) 16 16 := hD 1 4 (by kernel_rfl)
   have e4 : FA.tmps[4]?.getD undef = .slice (some ⟨w.heap.size, 0, none⟩) 16 16 := by simpa [Act.eval] using ev4
   replace ev4 := Lib.hid ev4
   have ev6 : FA.eval (.tmp 6) = .int .u64 (n : Int) := hD 3 6 (by kernel_rfl)
   have e6 : FA.tmps[6]?.getD undef = .int .u64 (n : Int) := by simpa [Act.eval] using ev6
   replace ev6 := Lib.hid ev6
   clear hO hD ho
   go_simp
   refine (put_any _ 16 16 key n 8 _ (hrk.plus_ _ _) (by omega) hn (by omega) (by omega)).mono ?_
   rintro e w1 ⟨A2, n2, c2, bs2, d2, rfl, rfl, ho2⟩
   exact hK.out _ _ (Ex.plus_ _ _ _) ⟨_, _, _, rfl, ho2.mono (by simp [size_plus]; omega)⟩
  | 5, _, ho, hO, hD, hK => 
   obtain rfl := qoi ho
   have f7 := hD 4 7 (by kernel_rfl)
   generalize eu7 : FA.eval (.tmp 7) = u7 at f7
   have e7 : FA.tmps[7]?.getD undef = u7 := by rw [← eu7]; simp [Act.eval]
   clear eu7
   clear hO hD ho
   obtain ⟨A1, n1, c1, rfl, ho1⟩ := f7
   go_simp
   exact hK.out _ _ (Ex.refl _) ⟨_, _, _, rfl, ho1⟩
  | (k + 6), hi, _, _, _, _ => exact absurd hi (by omega)
 intro vs x hp
 have p0 : vs 0 = .pointer (some ⟨w.heap.size, 0, none⟩) := hp 0 (by omega)
 have p1 : vs 1 = .slice (some ⟨w.heap.size, 0, none⟩) 16 16 := hp 1 (by omega)
 have p2 : vs 2 = .pointer (some ⟨w.heap.size, 16, none⟩) := hp 2 (by omega)
 have p3 : vs 3 = .int .u64 (n : Int) := hp 3 (by omega)
 have p4 := hp 4 (by omega)
 have p5 := hp 5 (by omega)
 clear hp
 simp only [List.take_succ_cons, List.take_zero, List.drop_succ_cons, List.drop_zero, putAll, Nat.zero_add, Nat.reduceAdd, Act.put, qsT, qsZ, qsS, p0, p1, p2, p3]
 clear p0 p1 p2 p3
 generalize vs 4 = y4 at *
 generalize vs 5 = y5 at *
 clear vs
 obtain ⟨A1, n1, c1, rfl, ho1⟩ := p5
 go_wp2
 go_ret
 exact RetB.mk ho1 (belowP ((Below.refl _ _).alloc (Nat.le_refl _) _) _ _)
end

section
open Go.RowKit
attribute [local go_sem ↓] sliced_cut
attribute [local go_sem] cutA_zero
def vipB (v : Vp) : List UInt8 := placeB v.ad.1 v.ad.2.1 v.ad.2.2 ++ dig v.pt 2 ++ dig v.pr 1 ++ dig v.wy.toNat 1 ++ membersB v.ms ++ dig (stkB v.S).length 2 ++ stkB v.S
def vpL (six : Bool) (ah al pt pr wn : Nat) (A : Option Addr) (n c T : Nat) : List Value := [.bool six, .int .u64 (ah : Int), .int .u64 (al : Int), .int .u16 (pt : Int), .int .u8 (pr : Int), .int .i64 (wn : Int), .slice A n c, .pointer (some ⟨T, 0, none⟩)]
theorem okM_sh {C : Cf} {ms : List (Int × Int)} (h : okM C ms = true) : ms.all (fun p => shB p.1 && shB p.2) = true := by
 rw [List.all_eq_true]
 intro p hp
 obtain ⟨h1, h2, h3⟩ := okM_all h p hp
 have h4 := knC_rg h1
 unfold shB
 rw [decide_eq_true (show 0 ≤ p.1 by omega), decide_eq_true (show p.1 < 256 by omega), decide_eq_true h2, decide_eq_true (show p.2 < 256 by omega)]
 rfl
theorem vipB_len {C : Cf} {v : Vp} (h : VpOk C v) : (vipB v).length ≤ 900 := by
 have h1 := stkB_len h.st
 have h2 := okM_len h.ms
 have h3 := adrB_length v.ad.1 v.ad.2.1 v.ad.2.2
 simp only [vipB, List.length_append, placeB_len, dig_length, membersB, pairsB_len]
 omega
set_option maxHeartbeats 4000000
set_option maxRecDepth 100000
theorem service_l (six : Bool) (ah al pt pr wn : Nat) (ms : List (Int × Int)) (S : Stk) (MA : Option Addr) (mn mc T : Nat) (h1 : ah < 18446744073709551616) (h2 : al < 18446744073709551616) (hpt : pt < 65536) (hpr : pr < 256) (hwn4 : wn ≤ 4) (hms : ms.all (fun p => shB p.1 && shB p.2) = true) (hms64 : ms.length ≤ 64) (hS : StkOk S) (w : World) (hm : Rs 2 w MA mn mc (prs .i64 ms)) (hT : Bk w T 209 (stkC S)) (hTB : TabB w) : Calls Tryz.prog 30 #[.agg (vpL six ah al pt pr wn MA mn mc T).toArray] w (RetRb w (placeB six ah al ++ dig pt 2 ++ dig pr 1 ++ dig wn 1 ++ membersB ms ++ dig (stkB S).length 2 ++ stkB S)) := by
 obtain ⟨da, va1, va2⟩ := rowAdC
 have hn64 : mn ≤ 64 := by have := hm.1; rw [prs_length] at this; omega
 have hlS := stkB_len hS
 have HTL := Lib.hid hT.lt
 have HAD := Lib.hid (fun w => address_any six ah al w h1 h2)
 have HMB := Lib.hid (fun w (h : Rs 2 w MA mn mc (prs .i64 ms)) => members_any ms MA mn mc w h hn64 hms)
 have HSB := Lib.hid (fun w h1 h2 => stkBytes_any S hS T w h1 h2)
 have HPpt : Hid (∀ A n c l w, Rb w A n c l → n ≤ 10000 → Calls Tryz.prog 24 #[.slice A n c, .int .u64 ((pt : Nat) : Int), .int .i64 2] w (RetF w (l ++ dig pt 2))) := Lib.hid (fun A n c l w h hn => put_full A n c l pt 2 w h (by omega) (by omega) (by omega) (by omega))
 have HPpr : Hid (∀ A n c l w, Rb w A n c l → n ≤ 10000 → Calls Tryz.prog 24 #[.slice A n c, .int .u64 ((pr : Nat) : Int), .int .i64 1] w (RetF w (l ++ dig pr 1))) := Lib.hid (fun A n c l w h hn => put_full A n c l pr 1 w h (by omega) (by omega) (by omega) (by omega))
 have HPwy : Hid (∀ A n c l w, Rb w A n c l → n ≤ 10000 → Calls Tryz.prog 24 #[.slice A n c, .int .u64 ((wn : Nat) : Int), .int .i64 1] w (RetF w (l ++ dig wn 1))) := Lib.hid (fun A n c l w h hn => put_full A n c l wn 1 w h (by omega) (by omega) (by omega) (by omega))
 have HPL : Hid (∀ A n c l w, Rb w A n c l → n ≤ 10000 → Calls Tryz.prog 24 #[.slice A n c, .int .u64 (((stkB S).length : Nat) : Int), .int .i64 2] w (RetF w (l ++ dig (stkB S).length 2))) := Lib.hid (fun A n c l w h hn => put_full A n c l (stkB S).length 2 w h (by omega) (by omega) (by omega) (by omega))
 have hw1 : IntKind.u64.wrap (pt : Int) = (pt : Int) := IntWalk.u64_in _ (by omega)
 have hw2 : IntKind.u64.wrap (pr : Int) = (pr : Int) := IntWalk.u64_in _ (by omega)
 have hw3 : IntKind.u64.wrap (wn : Int) = (wn : Int) := IntWalk.u64_in _ (by omega)
 have HSL := Lib.hid hlS
 have hTB0 := hTB
 obtain ⟨dvv1, vv1, vv2⟩ := rowVe
 obtain ⟨bv, be, zV⟩ := box1 w 96 (vpL six ah al pt pr wn MA mn mc T)
 go_enter Tryz.func30, Tryz.ntmps30
 go_upto_region 1 with (fail)
 generalize w.alloc (.cells (vpL six ah al pt pr wn MA mn mc T).toArray 96) = V at *
 replace hm := hm.later be
 replace hT := hT.later be
 replace zV : w.heap.size < V.heap.size := zV
 go_upto_region 1 with (fail)
 refine wp_region_lit ?_
 refine wpList_plain rfl (fun K hK => ?_); go_simp; with_reducible refine hK _ _ ?_; clear hK K
 refine wpList_ldA (t := 96) (cs := vpL six ah al pt pr wn MA mn mc T) 32 (.tmp 5) rfl rfl (adC six ah al) rfl (bv) rfl va1 va2 (szAd _ _ _) ?_
 refine wpList_plain rfl (fun K hK => ?_)
 go_simp
 refine (HAD.out _).mono ?_
 rintro e w1 ⟨A1, n1, c1, bs1, d1, rfl, rfl, hR1⟩
 with_reducible refine hK _ _ ?_
 clear hK K
 have hn_n1 : n1 ≤ 17 := by have h1 := hR1.1; rw [placeB_len] at h1; have := adrB_length six ah al; omega
 have hb1 := below_plus V bs1 d1
 replace bv := bv.later hb1
 replace hm := hm.later hb1
 replace hT := hT.later hb1
 replace be := be.trans (hb1.mono be.size)
 clear hb1
 generalize plus V bs1 d1 = V1 at *
 refine wpList_plain rfl (fun K hK => ?_); go_simp; with_reducible refine hK _ _ ?_; clear hK K
 go_upto_region 2 with (fail)
 refine wp_region_lit ?_
 iterate 2 (refine wpList_plain rfl (fun K hK => ?_); go_simp; with_reducible refine hK _ _ ?_; clear hK K)
 refine wpList_ld1 (t := 96) (cs := vpL six ah al pt pr wn MA mn mc T) 40 (.tmp 9) rfl (by rfl) rfl (bv) rfl Tryz.underlying40 rfl ?_
 refine wpList_plain rfl (fun K hK => ?_); go_simp; with_reducible refine hK _ _ ?_; clear hK K
 refine wpList_plain rfl (fun K hK => ?_)
 go_simp
 refine (HPpt.out _ _ _ _ _ hR1 (by omega)).mono ?_
 rintro e w1 ⟨A2, n2, bs1, d1, rfl, rfl, o2⟩
 with_reducible refine hK _ _ ?_
 clear hK K
 have hzz : w.heap.size + 1 ≤ V1.heap.size := bv.lt
 have hn_n2 : n2 ≤ 19 := by have h1 := o2.len; have h2 := hR1.1; rw [List.length_append, dig_length] at h1; omega
 clear hR1
 have hb1 := below_plus V1 bs1 d1
 replace bv := bv.later hb1
 replace hm := hm.later hb1
 replace hT := hT.later hb1
 replace be := be.trans (hb1.mono be.size)
 have hO := o2.mono hzz
 clear o2 hzz
 clear hb1
 generalize plus V1 bs1 d1 = V2 at *
 refine wpList_plain rfl (fun K hK => ?_); go_simp; with_reducible refine hK _ _ ?_; clear hK K
 go_upto_region 3 with (fail)
 refine wp_region_lit ?_
 iterate 2 (refine wpList_plain rfl (fun K hK => ?_); go_simp; with_reducible refine hK _ _ ?_; clear hK K)
 refine wpList_ld1 (t := 96) (cs := vpL six ah al pt pr wn MA mn mc T) 5 (.tmp 14) rfl (by rfl) rfl (bv) rfl Tryz.underlying5 rfl ?_
 refine wpList_plain rfl (fun K hK => ?_); go_simp; with_reducible refine hK _ _ ?_; clear hK K
 refine wpList_plain rfl (fun K hK => ?_)
 go_simp
 refine (HPpr.out _ _ _ _ _ hO.rb (by omega)).mono ?_
 rintro e w1 ⟨A3, n3, bs1, d1, rfl, rfl, o3⟩
 with_reducible refine hK _ _ ?_
 clear hK K
 have hzz : w.heap.size + 1 ≤ V2.heap.size := bv.lt
 have hn_n3 : n3 ≤ 20 := by have h1 := o3.len; have h2 := hO.len; rw [List.length_append, dig_length] at h1; omega
 clear hO
 have hb1 := below_plus V2 bs1 d1
 replace bv := bv.later hb1
 replace hm := hm.later hb1
 replace hT := hT.later hb1
 replace be := be.trans (hb1.mono be.size)
 have hO := o3.mono hzz
 clear o3 hzz
 clear hb1
 generalize plus V2 bs1 d1 = V3 at *
 refine wpList_plain rfl (fun K hK => ?_); go_simp; with_reducible refine hK _ _ ?_; clear hK K
 go_upto_region 4 with (fail)
 refine wp_region_lit ?_
 iterate 2 (refine wpList_plain rfl (fun K hK => ?_); go_simp; with_reducible refine hK _ _ ?_; clear hK K)
 refine wpList_ld1 (t := 96) (cs := vpL six ah al pt pr wn MA mn mc T) 3 (.tmp 19) rfl (by rfl) rfl (bv) rfl Tryz.underlying3 rfl ?_
 refine wpList_plain rfl (fun K hK => ?_); go_simp; with_reducible refine hK _ _ ?_; clear hK K
 refine wpList_plain rfl (fun K hK => ?_)
 go_simp
 refine (HPwy.out _ _ _ _ _ hO.rb (by omega)).mono ?_
 rintro e w1 ⟨A4, n4, bs1, d1, rfl, rfl, o4⟩
 with_reducible refine hK _ _ ?_
 clear hK K
 have hzz : w.heap.size + 1 ≤ V3.heap.size := bv.lt
 have hn_n4 : n4 ≤ 21 := by have h1 := o4.len; have h2 := hO.len; rw [List.length_append, dig_length] at h1; omega
 clear hO
 have hb1 := below_plus V3 bs1 d1
 replace bv := bv.later hb1
 replace hm := hm.later hb1
 replace hT := hT.later hb1
 replace be := be.trans (hb1.mono be.size)
 have hO := o4.mono hzz
 clear o4 hzz
 clear hb1
 generalize plus V3 bs1 d1 = V4 at *
 refine wpList_plain rfl (fun K hK => ?_); go_simp; with_reducible refine hK _ _ ?_; clear hK K
 go_upto_region 5 with (fail)
 refine wp_region_lit ?_
 iterate 2 (refine wpList_plain rfl (fun K hK => ?_); go_simp; with_reducible refine hK _ _ ?_; clear hK K)
 refine wpList_ld1 (t := 96) (cs := vpL six ah al pt pr wn MA mn mc T) 41 (.tmp 24) rfl (by rfl) rfl (bv) rfl Tryz.underlying41 rfl ?_
 refine wpList_plain rfl (fun K hK => ?_)
 go_simp
 refine (HMB.out _ hm).mono ?_
 rintro e w1 ⟨A5, n5, c5, bs1, d1, rfl, rfl, hR5⟩
 with_reducible refine hK _ _ ?_
 clear hK K
 have hn_n5 : n5 ≤ 129 := by have h1 := hR5.1; simp only [membersB, List.length_append, dig_length, pairsB_len] at h1; omega
 have hb1 := below_plus V4 bs1 d1
 replace bv := bv.later hb1
 replace hm := hm.later hb1
 replace hT := hT.later hb1
 replace hO := hO.later hb1
 replace be := be.trans (hb1.mono be.size)
 clear hb1
 generalize plus V4 bs1 d1 = V5 at *
 refine wpList_app bt rfl (.tmp 23) (.tmp 26) rfl rfl hO rfl hR5 (by omega) bv.lt ?_
 intro A6 n6 c6 V6 hO6 hb6 hg6
 refine wpList_plain rfl (fun K hK => ?_); go_simp; with_reducible refine hK _ _ ?_; clear hK K
 replace hT : Bk V6 T 209 (stkC S) := hT.grown hg6 (fun e => by have := (hO.blk _ e).1; have := HTL.out; omega)
 replace bv : Bk V6 w.heap.size 96 (vpL six ah al pt pr wn MA mn mc T) := bv.grown hg6 (fun e => by have := (hO.blk _ e).1; omega)
 replace be := be.trans (hb6.mono (Nat.le_succ _))
 have hn_n6 : n6 ≤ 150 := by have h1 := hO6.len; have h2 := hO.len; rw [List.length_append, h2] at h1; simp only [membersB, List.length_append, dig_length, pairsB_len] at h1; omega
 clear hm hR5 hb6 hg6 hO
 have hO := hO6.mono (Nat.le_succ _)
 clear hO6
 go_upto_region 6 with (fail)
 refine wp_region_lit ?_
 refine wpList_plain rfl (fun K hK => ?_); go_simp; with_reducible refine hK _ _ ?_; clear hK K
 refine wpList_ld1 (t := 96) (cs := vpL six ah al pt pr wn MA mn mc T) 94 (.tmp 28) rfl (by rfl) rfl (bv) rfl Tryz.underlying94 rfl ?_
 refine wpList_plain rfl (fun K hK => ?_)
 go_simp
 refine (HSB.out _ hT (hTB0.later be)).mono ?_
 rintro e w1 ⟨A7, n7, c7, bs1, d1, rfl, rfl, ho7⟩
 with_reducible refine hK _ _ ?_
 clear hK K
 have hn_n7 : n7 ≤ 700 := by have h1 := ho7.len; have h2 := HSL.out; omega
 have hR7 := ho7.rb
 clear ho7
 have hb1 := below_plus V6 bs1 d1
 replace hO := hO.later hb1
 replace be := be.trans (hb1.mono be.size)
 clear hb1
 generalize plus V6 bs1 d1 = V7 at *
 refine wpList_plain rfl (fun K hK => ?_); go_simp; with_reducible refine hK _ _ ?_; clear hK K
 have hw7 : IntKind.u64.wrap (n7 : Int) = (n7 : Int) := IntWalk.u64_in _ (by omega)
 have hl7 := hR7.1
 rw [hl7] at HPL
 have HL7 := Lib.hid hl7
 clear hl7
 go_upto_region 7 with (fail)
 refine wp_region_lit ?_
 iterate 4 (refine wpList_plain rfl (fun K hK => ?_); go_simp; with_reducible refine hK _ _ ?_; clear hK K)
 refine wpList_plain rfl (fun K hK => ?_)
 go_simp
 refine (HPL.out _ _ _ _ _ hO.rb (by omega)).mono ?_
 rintro e w1 ⟨A8, n8, bs1, d1, rfl, rfl, o8⟩
 with_reducible refine hK _ _ ?_
 clear hK K
 have hzz := be.size
 have hn_n8 : n8 ≤ 152 := by have h1 := o8.len; have h2 := hO.len; rw [List.length_append, dig_length] at h1; omega
 clear hO
 have hb1 := below_plus V7 bs1 d1
 replace hR7 := hR7.later hb1
 replace be := be.trans (hb1.mono be.size)
 have hO := o8.mono hzz
 clear o8 hzz
 clear hb1
 generalize plus V7 bs1 d1 = V8 at *
 refine wpList_plain rfl (fun K hK => ?_); go_simp; with_reducible refine hK _ _ ?_; clear hK K
 go_upto_region 8 with (fail)
 refine wp_region_lit ?_
 iterate 2 (refine wpList_plain rfl (fun K hK => ?_); go_simp; with_reducible refine hK _ _ ?_; clear hK K)
 refine wpList_app bt rfl (.tmp 36) (.tmp 37) rfl rfl hO rfl hR7 (by omega) be.size ?_
 intro A9 n9 c9 V9 hO9 hb9 hg9
 refine wpList_plain rfl (fun K hK => ?_); go_simp; with_reducible refine hK _ _ ?_; clear hK K
 go_wp2
 go_ret
 rw [HL7.out]
 exact RetRb.mk hO9.rb (be.trans hb9)
theorem service_any (C : Cf) (x : Ve) (hv : VpOk C x.1) (w : World) (hm : Rs 2 w x.2.A x.2.n x.2.c (prs .i64 x.1.ms)) (hT : Bk w x.2.T 209 (stkC x.1.S)) (hTB : TabB w) : Calls Tryz.prog 30 #[.agg (veC x).toArray] w (RetRb w (vipB x.1)) := by
 obtain ⟨⟨⟨six, ah, al⟩, pt, pr, wy, ms, S⟩, ⟨MA, mn, mc, T⟩⟩ := x
 obtain ⟨had, hpt, hpr, hwy, hms, hst, hev⟩ := hv
 simp only at *
 obtain ⟨wn, rfl⟩ : ∃ wn : Nat, wy = wn := ⟨wy.toNat, by omega⟩
 exact service_l six ah al pt pr wn ms S MA mn mc T had.2.1 had.2.2 hpt (by omega) (by omega) (okM_sh hms) (okM_len hms) hst w hm hT hTB
def bkB (C : Cf) (n : Nat) : List UInt8 := match C.bk.getD n none with | some a => dig n 1 ++ placeB a.1 a.2.1 a.2.2 | none => []
def bksI (C : Cf) : Nat → List UInt8
 | 0 => []
 | n + 1 => bksI C n ++ bkB C (n + 1)
def vipsB (L : List Vp) : List UInt8 := L.flatMap vipB
def sttB (C : Cf) : List UInt8 := dig C.num 8 ++ (C.key ++ dig C.now 8) ++ bksI C 64 ++ dig 0 1 ++ dig C.vs.length 1 ++ vipsB C.vs
theorem bkB_len (C : Cf) (n : Nat) : (bkB C n).length ≤ 18 := by
 unfold bkB
 split
 ·rename_i a _
  have := adrB_length a.1 a.2.1 a.2.2
  simp only [List.length_append, dig_length, placeB_len]
  omega
 ·simp
theorem bksI_len (C : Cf) : ∀ n, (bksI C n).length ≤ 18 * n
 | 0 => by simp [bksI]
 | n + 1 => by
  have h1 := bksI_len C n
  have h2 := bkB_len C (n + 1)
  simp only [bksI, List.length_append]
  omega
theorem vipsB_len {C : Cf} {L : List Vp} (h : ∀ v ∈ L, VpOk C v) : (vipsB L).length ≤ 900 * L.length := by
 induction L with
 | nil => simp [vipsB]
 | cons a t ih =>
  have h1 := vipB_len (h a (by simp))
  have h2 := ih (fun v hv => h v (by simp [hv]))
  simp only [vipsB, List.flatMap_cons, List.length_append, List.length_cons] at h2 ⊢
  omega
theorem sttB_len {C : Cf} (h : CfOk C) : (sttB C).length ≤ 20000 := by
 have h1 := bksI_len C 64
 have h2 := vipsB_len h.vs
 have h3 := h.vl
 have h4 := h.key
 simp only [sttB, List.length_append, dig_length, h4]
 omega
theorem CfX.own_grown {G D : Nat → Prop} {w w' : World} {g : Nat} {C : Cf} {A : Option Addr} {n c : Nat} {E : List Ve} (h : CfX G D w g C A n c E) {row : Option Nat} (hg : w.grownBy w' row) (hr : ∀ b, row = some b → ¬ G b ∧ ∀ x ∈ E, ∀ a, x.2.A = some a → a.block ≠ b) : CfX G D w' g C A n c E := by
 refine ⟨h.vs, h.st.grown hg (fun e => (hr _ e).1 (h.sub _ h.dg)), h.row.grown hg (fun k hk e => (hr _ e).1 (h.sub _ (h.dr k hk))), h.dr, h.dg, fun x hx => (h.tb x hx).grown hg (fun e => (hr _ e).1 (h.sub _ (h.dt x hx))), h.dt, fun x hx => (h.mm x hx).grown hg (fun a ha e => (hr _ e.symm).2 x hx a ha rfl), fun x hx => (h.mo x hx).size hg.size, h.nd, h.sub, fun b hb => Nat.lt_of_lt_of_le (h.lt b hb) hg.size⟩
theorem clM {x : Ve} {w : World} (h : Rs 2 w x.2.A x.2.n x.2.c (prs .i64 x.1.ms)) : Rs 2 w (clV x).2.A (clV x).2.n (clV x).2.c (prs .i64 (clV x).1.ms) := ⟨h.1, Nat.le_refl _, h.2.2⟩
theorem kn_bk (C : Cf) (n : Nat) (h1 : 1 ≤ n) (h2 : n ≤ 64) : knC C (n : Int) = (C.bk.getD n none).isSome ∧ bkA C (n : Int) = (C.bk.getD n none).getD z0 := by
 constructor
 ·unfold knC; rw [decide_eq_true (by omega), decide_eq_true (by omega)]; rfl
 ·exact if_pos ⟨by omega, by omega⟩
def RetOwn (w : World) (l : List UInt8) (e : Ending) (w' : World) : Prop := ∃ A n c bs d, e = .returned (.slice A n c) ∧ w' = plus w bs d ∧ Ob (plus w bs d) w.heap.size A n c l
theorem RetOwn.mk {w w' : World} {l : List UInt8} {A : Option Addr} {n c : Nat} (ho : Ob w' w.heap.size A n c l) (hb : Below w.heap.size w w') : RetOwn w l (.returned (.slice A n c)) w' := by
 obtain ⟨bs, d, rfl⟩ := plus_of hb
 exact ⟨A, n, c, bs, d, rfl, rfl, ho⟩
theorem codecState_own {G D : Nat → Prop} (C : Cf) (hC : CfOk C) (g : Nat) (A : Option Addr) (n c : Nat) (E : List Ve) (w : World) (hX : CfX G D w g C A n c E) (hTB : TabB w) : Calls Tryz.prog 11 #[.pointer (some ⟨g, 0, none⟩)] w (RetOwn w (sttB C)) := by
 obtain ⟨da, va1, va2⟩ := rowAdC
 obtain ⟨dv, vv1, vv2⟩ := rowVe
 obtain ⟨dr, vr1, vr2, vr3⟩ := rowRing
 have hk := hC.key
 have hb := hC.bl
 have hnum := hC.num
 have hn16 : n ≤ 16 := by have := hX.n_; have := hC.vl; omega
 have HNV := Lib.hid hX.n_
 have HNEW := Lib.hid (show ∀ b, w.heap.size ≤ b → ¬ G b ∧ ∀ x ∈ E, ∀ a, x.2.A = some a → a.block ≠ b from fun b hb => ⟨fun h => by have := hX.lt b h; omega, fun x hx a ha e => by have := (hX.mo x hx a ha).1; omega⟩)
 have HP0 : Hid (∀ A n c l w, Rb w A n c l → n ≤ 100000 → Calls Tryz.prog 24 #[.slice A n c, .int .u64 0, .int .i64 1] w (RetF w (l ++ dig 0 1))) := Lib.hid (fun A n c l w h hn => put_full A n c l 0 1 w h (by omega) (by omega) (by omega) (by omega))
 have HP1 := Lib.hid (fun w => put_full none 0 0 [] C.num 8 w Rb.nil_ (by omega) (by omega) (by omega) (by omega))
 have HRB := Lib.hid (fun w => ringBytes_any C.key hk C.now w hC.now)
 have HBE := Lib.hid (fun m w h => backend_any C hk hb A n c g m w h)
 have HLE := Lib.hid (fun w h => cfgLen_any C hk hb A n c g w h)
 have HPU : Hid (∀ A n c l v w, Rb w A n c l → n ≤ 100000 → v < 1000 → Calls Tryz.prog 24 #[.slice A n c, .int .u64 ((v : Nat) : Int), .int .i64 1] w (RetF w (l ++ dig v 1))) := Lib.hid (fun A n c l v w h hn hv => put_full A n c l v 1 w h (by omega) (by omega) (by omega) (by omega))
 have be := Below.refl w.heap.size w
 go_enter Tryz.func11, Tryz.ntmps11
 go_upto_region 3 with (fail)
 refine wp_relS 10 65 rfl (by kernel_rfl) (by kernel_rfl) ?_
 apply Steps.o1 (MP.eq _) 1 rfl rfl
 ·intro FA x hO hD K hK
  have e0 := hO 0 (by kernel_rfl)
  simp only [eval_tmp, qgT, qgS, qgZ, qoS] at e0
  have ev0 := Lib.hid ((eval_tmp FA 0).trans e0)
  clear hO hD
  go_simp
  exact hK.out _ _ (Ex.refl _) rfl
 apply Steps.o1 (MP.eq _) 2 rfl rfl
 ·intro FA x hO hD K hK
  obtain ⟨e12, ev12⟩ := qE (hD 0 12 (by kernel_rfl))
  clear hO hD
  go_simp
  exact hK.out _ _ (Ex.refl _) rfl
 apply Steps.o1 (MP.eq _) 3 rfl rfl
 ·intro FA x hO hD K hK
  obtain ⟨e13, ev13⟩ := qE (hD 1 13 (by kernel_rfl))
  clear hO hD
  go_simp
  exact hK.out _ _ (Ex.refl _) rfl
 apply Steps.o1 (MP.eq _) 4 rfl rfl
 ·intro FA x hO hD K hK
  obtain ⟨e14, ev14⟩ := qE (hD 2 14 (by kernel_rfl))
  clear hO hD
  refine wanted_if rfl ?_
  refine wp_ld1 28 (.tmp 14) rfl ev14.out (hX.st.later (below_plus _ _ _)) (stC_num C A n c) Tryz.underlying28 rfl ?_
  exact hK.out _ _ (Ex.refl _) rfl
 apply Steps.o1 (MP.of w.heap.size (dig C.num 8)) 5 rfl rfl
 ·intro FA x hO hD K hK
  obtain ⟨e15, ev15⟩ := qE (hD 3 15 (by kernel_rfl))
  clear hO hD
  go_simp
  refine (HP1.out _).mono ?_
  rintro e w1 ⟨A1, n1, bs1, d1, rfl, rfl, ho1⟩
  exact hK.out _ _ (Ex.plus_ _ _ _) ⟨_, _, rfl, ho1.mono (below_plus w x.bs x.d).size⟩
 apply Steps.o1 (MP.eq _) 6 rfl rfl
 ·intro FA x hO hD K hK
  have e0 := hO 0 (by kernel_rfl)
  simp only [eval_tmp, qgT, qgS, qgZ, qoS] at e0
  have ev0 := Lib.hid ((eval_tmp FA 0).trans e0)
  clear hO hD
  go_simp
  exact hK.out _ _ (Ex.refl _) rfl
 apply Steps.o1 (MP.eq _) 7 rfl rfl
 ·intro FA x hO hD K hK
  obtain ⟨e17, ev17⟩ := qE (hD 5 17 (by kernel_rfl))
  clear hO hD
  go_simp
  exact hK.out _ _ (Ex.refl _) rfl
 apply Steps.o1 (MP.eq _) 8 rfl rfl
 ·intro FA x hO hD K hK
  obtain ⟨e18, ev18⟩ := qE (hD 6 18 (by kernel_rfl))
  clear hO hD
  go_simp
  exact hK.out _ _ (Ex.refl _) rfl
 apply Steps.o1 (MP.eq _) 9 rfl rfl
 ·intro FA x hO hD K hK
  obtain ⟨e19, ev19⟩ := qE (hD 7 19 (by kernel_rfl))
  clear hO hD
  refine wanted_if rfl ?_
  refine wp_ldA 57 (.tmp 19) rfl (ringC C.key C.now) ev19.out (hX.st.later (below_plus _ _ _)) (stC_ring C hk A n c) vr1 vr2 (szRing C.key hk _) ?_
  exact hK.out _ _ (Ex.refl _) rfl
 apply Steps.o1 (MP.rb (C.key ++ dig C.now 8)) 10 rfl rfl
 ·intro FA x hO hD K hK
  obtain ⟨e20, ev20⟩ := qE (hD 8 20 (by kernel_rfl))
  clear hO hD
  go_simp
  refine (HRB.out _).mono ?_
  rintro e w1 ⟨A1, n1, c1, bs1, d1, rfl, rfl, ho1⟩
  exact hK.out _ _ (Ex.plus_ _ _ _) ⟨_, _, _, rfl, ho1.rb⟩
 refine Steps.fin_ (fun vs x hp => ?_)
 have p0 : vs 0 = _ := hp 0 (by omega)
 have p1 : vs 1 = _ := hp 1 (by omega)
 have p2 : vs 2 = _ := hp 2 (by omega)
 have p3 : vs 3 = _ := hp 3 (by omega)
 have p4 := hp 4 (by omega)
 have p5 : vs 5 = _ := hp 5 (by omega)
 have p6 : vs 6 = _ := hp 6 (by omega)
 have p7 : vs 7 = _ := hp 7 (by omega)
 have p8 : vs 8 = _ := hp 8 (by omega)
 have p9 := hp 9 (by omega)
 clear hp
 simp only [List.take_succ_cons, List.take_zero, List.drop_succ_cons, List.drop_zero, putAll, Nat.zero_add, Nat.reduceAdd, Act.put, qsT, qsZ, qsS, p0, p1, p2, p3, p5, p6, p7, p8]
 clear p0 p1 p2 p3 p5 p6 p7 p8
 generalize vs 4 = y4 at *
 generalize vs 9 = y9 at *
 clear vs
 obtain ⟨A4, n4, rfl, ho4⟩ := p4
 obtain ⟨A9, n9, c9, rfl, hr9⟩ := p9
 have hb3 := below_plus w x.bs x.d
 replace hX := hX.later hb3
 replace be := be.trans (hb3.mono be.size)
 have hn4 : n4 = 8 := by have := ho4.len; rw [dig_length] at this; omega
 have hn9 : n9 = 24 := by have := hr9.1; rw [List.length_append, dig_length, hk] at this; omega
 clear hb3
 generalize plus w x.bs x.d = V at *
 refine wpList_app bt rfl (.tmp 16) (.tmp 21) rfl rfl ho4 rfl hr9 (by omega) be.size ?_
 intro A5 n5 c5 V5 hO5 hb5 hg5
 refine wpList_plain rfl (fun K hK => ?_); go_simp; with_reducible refine hK _ _ ?_; clear hK K
 replace hX := hX.own_grown hg5 (fun b hb => HNEW.out b (ho4.blk _ hb).1)
 replace be := be.trans hb5
 have hl0 : (dig C.num 8 ++ (C.key ++ dig C.now 8)).length = 32 := by simp only [List.length_append, dig_length, hk]
 generalize hB0 : dig C.num 8 ++ (C.key ++ dig C.now 8) = B0 at *
 have HB0 := Lib.hid hB0
 clear hB0 ho4 hr9 hg5 hb5
 go_upto_region 5 with (fail)
 have HST := Lib.hid (And.intro hO5 (And.intro hX be))
 clear hO5 hX be
 go_loopw [3, 4] (fun OUT I wr => ∃ (m : Nat) (B : Option Addr) (k d : Nat), I = .int .i64 (m : Int) ∧ OUT = .slice B k d ∧ 1 ≤ m ∧ m ≤ 65 ∧ Ob wr w.heap.size B k d (B0 ++ bksI C (m - 1)) ∧ CfX G D wr g C A n c E ∧ Below w.heap.size w wr) (fun _ I _ => 65 - (intOf I).toNat)
 case atStart => exact ⟨1, _, _, _, rfl, rfl, Nat.le_refl _, by omega, by simpa [bksI] using HST.out.1, HST.out.2.1, HST.out.2.2⟩
 case round =>
  clear HST
  obtain ⟨m, B, k, d, rfl, rfl, hm1, hm65, hO, hX, be⟩ := hrel
  have hk2 : k ≤ 32 + 18 * 64 := by
   have h1 := hO.len
   have h2 := bksI_len C (m - 1)
   rw [List.length_append, hl0] at h1
   omega
  by_cases h64 : m ≤ 64
  ·have i64 : (m : Int) ≤ 64 := by omega
   have HKB := Lib.hid (kn_bk C m hm1 h64)
   have hbs : bksI C m = bksI C (m - 1) ++ bkB C m := by
    obtain ⟨q, rfl⟩ : ∃ q, m = q + 1 := ⟨m - 1, by omega⟩
    rfl
   have HBS := Lib.hid hbs
   have hwm : IntKind.u64.wrap (m : Int) = (m : Int) := IntWalk.u64_in _ (by omega)
   have hBB0 : bkB C m = match C.bk.getD m none with | some a => dig m 1 ++ placeB a.1 a.2.1 a.2.2 | none => [] := rfl
   have HADK : Hid (∀ a, C.bk.getD m none = some a → adOk a) := Lib.hid (fun a ha => hC.bk m a ha)
   have HBB := Lib.hid hBB0
   clear hbs hBB0
   go_upto_region 7 with (fail)
   refine wp_region_lit ?_
   iterate 2 (refine wpList_plain rfl (fun K hK => ?_); go_simp; with_reducible refine hK _ _ ?_; clear hK K)
   refine wpList_plain rfl (fun K hK => ?_)
   go_simp
   refine (HBE.out _ _ hX.st).mono ?_
   rintro e w1 ⟨bs1, d1, rfl, rfl⟩
   with_reducible refine hK _ _ ?_
   clear hK K
   have hb1 := below_plus wr bs1 d1
   replace hX := hX.later hb1
   replace hO := hO.later hb1
   replace be := be.trans (hb1.mono be.size)
   clear hb1
   generalize plus wr bs1 d1 = W at *
   iterate 4 (refine wpList_plain rfl (fun K hK => ?_); go_simp; with_reducible refine hK _ _ ?_; clear hK K)
   refine wpList_stA (t := 32) 32 (.tmp 5) (.tmp 31) rfl rfl (adC (bkA C m).1 (bkA C m).2.1 (bkA C m).2.2) (adC false 0 0) rfl (by simp [adC, Value.oneCell']) rfl rfl (Bk.new _ _ _) (szAd _ _ _) ?_
   intro W4 h4 g4
   refine wpList_plain rfl (fun K hK => ?_); go_simp; with_reducible refine hK _ _ ?_; clear hK K
   have be4 : Below W.heap.size W W4 := below_grown (Below.allocS (Below.refl _ _) _) g4 (Nat.le_refl _)
   replace hX := hX.later be4
   replace hO := hO.later be4
   replace be := be.trans (be4.mono be.size)
   clear be4 g4
   rw [HKB.out.1]
   rw [HKB.out.2] at h4
   have hBB := HBB.out
   cases hq : C.bk.getD m none with
   | none =>
    rw [hq] at hBB
    have HN := Lib.hid (show B0 ++ bksI C m = B0 ++ bksI C (m - 1) by rw [HBS.out, hBB]; simp)
    have HH := Lib.hid (And.intro hO (And.intro hX be))
    clear hO hX be hBB h4 hq
    go_wp2
    exact ⟨⟨m + 1, B, _, _, by go_num, rfl, by omega, by omega, by simpa [HN.out] using HH.out.1, HH.out.2.1, HH.out.2.2⟩, by simp [intOf]; omega⟩
   | some a =>
    rw [hq] at hBB
    have hao := HADK.out a hq
    have h4 : Bk W4 W.heap.size 32 (adC a.1 a.2.1 a.2.2) := by rw [hq] at h4; exact h4
    have HAA := Lib.hid (fun w => address_any a.1 a.2.1 a.2.2 w hao.2.1 hao.2.2)
    have hpl : (placeB a.1 a.2.1 a.2.2).length ≤ 17 := by have := adrB_length a.1 a.2.1 a.2.2; rw [placeB_len]; omega
    have HN := Lib.hid (show B0 ++ bksI C m = (B0 ++ bksI C (m - 1) ++ dig m 1) ++ placeB a.1 a.2.1 a.2.2 by rw [HBS.out, hBB]; simp [List.append_assoc])
    clear hBB hq
    go_upto_region 9 with (fail)
    refine wp_relS 6 65 rfl (by kernel_rfl) (by kernel_rfl) ?_
    apply Steps.o1 (MP.eq _) 1 rfl rfl
    ·intro FA x hO hD K hK
     have e3 := hO 3 (by kernel_rfl)
     simp only [eval_tmp, qgT, qgS, qgZ, qoS] at e3
     have ev3 := Lib.hid ((eval_tmp FA 3).trans e3)
     clear hO hD
     go_simp
     exact hK.out _ _ (Ex.refl _) rfl
    apply Steps.o1 (MP.eq _) 2 rfl rfl
    ·intro FA x hO hD K hK
     have e4 := hO 4 (by kernel_rfl)
     simp only [eval_tmp, qgT, qgS, qgZ, qoS] at e4
     have ev4 := Lib.hid ((eval_tmp FA 4).trans e4)
     clear hO hD
     go_simp
     exact hK.out _ _ (Ex.refl _) rfl
    apply Steps.o1 (MP.eq _) 3 rfl rfl
    ·intro FA x hO hD K hK
     obtain ⟨e35, ev35⟩ := qE (hD 1 35 (by kernel_rfl))
     clear hO hD
     go_simp
     exact hK.out _ _ (Ex.refl _) rfl
    apply Steps.o1 (MP.of w.heap.size (B0 ++ bksI C (m - 1) ++ dig m 1)) 4 rfl rfl
    ·intro FA x hO hD K hK
     obtain ⟨e34, ev34⟩ := qE (hD 0 34 (by kernel_rfl))
     obtain ⟨e36, ev36⟩ := qE (hD 2 36 (by kernel_rfl))
     clear hO hD
     go_simp
     refine (HPU.out _ _ _ _ _ _ (hO.rb.later (below_plus _ _ _)) (by omega) (by omega)).mono ?_
     rintro e w1 ⟨A1, n1, bs1, d1, rfl, rfl, ho1⟩
     exact hK.out _ _ (Ex.plus_ _ _ _) ⟨_, _, rfl, ho1.mono (Nat.le_trans be.size (below_plus W4 x.bs x.d).size)⟩
    apply Steps.o1 (MP.eq _) 5 rfl rfl
    ·intro FA x hO hD K hK
     have e5 := hO 5 (by kernel_rfl)
     simp only [eval_tmp, qgT, qgS, qgZ, qoS] at e5
     have ev5 := Lib.hid ((eval_tmp FA 5).trans e5)
     clear hO hD
     refine wanted_if rfl ?_
     refine wp_ldA 32 (.tmp 5) rfl (adC a.1 a.2.1 a.2.2) ev5.out (h4.later (below_plus _ _ _)) rfl va1 va2 (szAd _ _ _) ?_
     exact hK.out _ _ (Ex.refl _) rfl
    apply Steps.o1 (MP.rb (placeB a.1 a.2.1 a.2.2)) 6 rfl rfl
    ·intro FA x hO hD K hK
     obtain ⟨e38, ev38⟩ := qE (hD 4 38 (by kernel_rfl))
     clear hO hD
     go_simp
     refine (HAA.out _).mono ?_
     rintro e w1 ⟨A1, n1, c1, bs1, d1, rfl, rfl, ho1⟩
     exact hK.out _ _ (Ex.plus_ _ _ _) ⟨_, _, _, rfl, ho1⟩
    refine Steps.fin_ (fun vs x hp => ?_)
    have p0 : vs 0 = _ := hp 0 (by omega)
    have p1 : vs 1 = _ := hp 1 (by omega)
    have p2 : vs 2 = _ := hp 2 (by omega)
    have p3 := hp 3 (by omega)
    have p4 : vs 4 = _ := hp 4 (by omega)
    have p5 := hp 5 (by omega)
    clear hp
    simp only [List.take_succ_cons, List.take_zero, List.drop_succ_cons, List.drop_zero, putAll, Nat.zero_add, Nat.reduceAdd, Act.put, qsT, qsZ, qsS, p0, p1, p2, p4]
    clear p0 p1 p2 p4
    generalize vs 3 = y3 at *
    generalize vs 5 = y5 at *
    clear vs
    obtain ⟨A6, n6, rfl, ho6⟩ := p3
    obtain ⟨A8, n8, c8, rfl, hr8⟩ := p5
    have hb3 := below_plus W4 x.bs x.d
    replace hX := hX.later hb3
    replace be := be.trans (hb3.mono be.size)
    have hn6 : n6 ≤ 32 + 18 * 64 + 1 := by have h1 := ho6.len; have h2 := hO.len; rw [List.length_append, dig_length] at h1; omega
    have hn8 : n8 ≤ 17 := by have := hr8.1; omega
    clear hb3 h4 hO
    generalize plus W4 x.bs x.d = V7 at *
    refine wpList_app bt rfl (.tmp 37) (.tmp 39) rfl rfl ho6 rfl hr8 (by omega) be.size ?_
    intro A5 n5 c5 V5 hO5 hb5 hg5
    refine wpList_plain rfl (fun K hK => ?_); go_simp; with_reducible refine hK _ _ ?_; clear hK K
    replace hX := hX.own_grown hg5 (fun b hb => HNEW.out b (ho6.blk _ hb).1)
    replace be := be.trans hb5
    have HH := Lib.hid (And.intro hO5 (And.intro hX be))
    clear hO5 hX be ho6 hr8 hb5 hg5
    go_wp2
    exact ⟨⟨m + 1, A5, _, c5, by go_num, rfl, by omega, by omega, by simpa [HN.out] using HH.out.1, HH.out.2.1, HH.out.2.2⟩, by simp [intOf]; omega⟩
  ·have i64 : ¬ (m : Int) ≤ 64 := by omega
   obtain rfl : m = 65 := by omega
   replace hO : Ob wr w.heap.size B k d (B0 ++ bksI C 64) := hO
   clear hm1 hm65 h64
   have hwn : IntKind.u64.wrap (n : Int) = (n : Int) := IntWalk.u64_in _ (by omega)
   go_upto_region 11 with (go_at_call 24; refine (HP0.out _ _ _ _ _ hO.rb (by omega)).mono ?_; rintro e w1 ⟨A6, n6, bs6, d6, rfl, rfl, ho6⟩)
   have hb6 := below_plus wr bs6 d6
   have hz6 := be.size
   have hn6 : n6 ≤ 32 + 18 * 64 + 1 := by have h1 := ho6.len; have h2 := hO.len; rw [List.length_append, dig_length] at h1; omega
   replace hX := hX.later hb6
   replace be := be.trans (hb6.mono be.size)
   clear hb6 hO hk2
   generalize plus wr bs6 d6 = V6 at *
   go_upto_region 12 with (first | (go_at_call 28; refine (HLE.out _ hX.st).mono ?_; rintro e w1 ⟨rfl, rfl⟩) | (go_at_call 24; refine (HPU.out _ _ _ _ _ _ ho6.rb (by omega) (by omega)).mono ?_; rintro e w1 ⟨A7, n7, bs7, d7, rfl, rfl, ho7⟩))
   have hb7 := below_plus V6 bs7 d7
   have hz7 := be.size
   have hn7 : n7 ≤ 32 + 18 * 64 + 2 := by have h1 := ho7.len; have h2 := ho6.len; rw [List.length_append, dig_length] at h1; omega
   replace hX := hX.later hb7
   replace be := be.trans (hb7.mono be.size)
   have hO := ho7.mono hz7
   clear hb7 ho6 ho7
   generalize plus V6 bs7 d7 = V7 at *
   go_upto_region 13 with (go_at_call 28; refine (HLE.out _ hX.st).mono ?_; rintro e w1 ⟨rfl, rfl⟩)
   have hl1 : (B0 ++ bksI C 64 ++ dig 0 1 ++ dig n 1).length ≤ 1190 := by
    have h2 := bksI_len C 64
    simp only [List.length_append, dig_length, hl0]
    omega
   have hfin : sttB C = (B0 ++ bksI C 64 ++ dig 0 1 ++ dig n 1) ++ vipsB C.vs := by unfold sttB; rw [HB0.out, HNV.out]
   have HFIN := Lib.hid hfin
   clear hfin
   generalize B0 ++ bksI C 64 ++ dig 0 1 ++ dig n 1 = B1 at *
   have HST := Lib.hid (And.intro hO (And.intro hX be))
   clear hO hX be
   go_loopw [3, 50] (fun OUT I wr => ∃ (j : Nat) (B : Option Addr) (k d : Nat), I = .int .i64 (j : Int) ∧ OUT = .slice B k d ∧ j ≤ n ∧ Ob wr w.heap.size B k d (B1 ++ vipsB (C.vs.take j)) ∧ CfX G D wr g C A n c E ∧ Below w.heap.size w wr) (fun _ I _ => n - (intOf I).toNat)
   case atStart => exact ⟨0, _, _, _, rfl, rfl, Nat.zero_le _, by simpa [vipsB] using HST.out.1, HST.out.2.1, HST.out.2.2⟩
   case round =>
    clear HST
    obtain ⟨j, B, k, d, rfl, rfl, hj, hO, hX, be⟩ := hrel
    have hk2 : k ≤ 1190 + 900 * 16 := by
     have h1 := hO.len
     have h2 := vipsB_len (L := C.vs.take j) (fun v hv => hC.vs v (List.mem_of_mem_take hv))
     rw [List.length_append] at h1
     rw [List.length_take] at h2
     omega
    by_cases hlt : j < n
    ·have ij : (j : Int) < (n : Int) := by omega
     have hlE : j < E.length := by have := hX.len; have := HNV.out; omega
     have hi : E[j]? = some E[j] := List.getElem?_eq_getElem _
     have hmem : E[j] ∈ E := List.getElem_mem _
     have hvj : C.vs[j]? = some E[j].1 := by rw [← hX.vs, List.getElem?_map, hi]; rfl
     have htk : vipsB (C.vs.take (j + 1)) = vipsB (C.vs.take j) ++ vipB E[j].1 := by
      obtain ⟨h1, h2⟩ := List.getElem?_eq_some_iff.1 hvj
      rw [List.take_succ_eq_append_getElem h1, h2]; unfold vipsB; rw [List.flatMap_append]; simp
     have hvo := hC.vs _ (List.mem_of_getElem? hvj)
     generalize E[j] = x0 at *
     have HTK := Lib.hid htk
     have HVI := Lib.hid (fun w h => vip_any C hk hb g A n c E j x0 w h hi (G := G) (D := D))
     have HSV := Lib.hid (fun w h1 h2 h3 => service_any C (clV x0) hvo w h1 h2 h3)
     have hvl := vipB_len hvo
     clear htk hi hvj hlE
     go_upto_region 15 with (fail)
     refine wp_region_lit ?_
     iterate 2 (refine wpList_plain rfl (fun K hK => ?_); go_simp; with_reducible refine hK _ _ ?_; clear hK K)
     refine wpList_plain rfl (fun K hK => ?_)
     go_simp
     refine (HVI.out _ hX).mono ?_
     rintro e w1 ⟨bs1, d1, rfl, rfl⟩
     with_reducible refine hK _ _ ?_
     clear hK K
     have hb1 := below_plus wr bs1 d1
     replace hX := hX.later hb1
     replace hO := hO.later hb1
     replace be := be.trans (hb1.mono be.size)
     clear hb1
     generalize plus wr bs1 d1 = W at *
     iterate 4 (refine wpList_plain rfl (fun K hK => ?_); go_simp; with_reducible refine hK _ _ ?_; clear hK K)
     refine wpList_stA (t := 96) 96 (.tmp 8) (.tmp 57) rfl rfl (veC (clV x0)) veZ rfl (veC_one _) rfl rfl (Bk.new _ _ _) (szVe _) ?_
     intro W4 h4 g4
     refine wpList_plain rfl (fun K hK => ?_); go_simp; with_reducible refine hK _ _ ?_; clear hK K
     have be4 : Below W.heap.size W W4 := below_grown (Below.allocS (Below.refl _ _) _) g4 (Nat.le_refl _)
     replace hX := hX.later be4
     replace hO := hO.later be4
     replace be := be.trans (be4.mono be.size)
     have h4 : Bk W4 W.heap.size 96 (veC (clV x0)) := h4
     clear be4 g4 HVI
     go_upto_region 16 with (fail)
     refine wp_region_lit ?_
     refine wpList_plain rfl (fun K hK => ?_); go_simp; with_reducible refine hK _ _ ?_; clear hK K
     refine wpList_ldA (t := 96) 96 (.tmp 8) rfl rfl (veC (clV x0)) rfl h4 rfl vv1 vv2 (szVe _) ?_
     refine wpList_plain rfl (fun K hK => ?_)
     go_simp
     refine (HSV.out _ (clM (hX.mm x0 hmem)) (hX.tb x0 hmem) (hTB.later be)).mono ?_
     rintro en w1 ⟨A8, n8, c8, bs1, d1, rfl, rfl, hr8⟩
     with_reducible refine hK _ _ ?_
     clear hK K
     have hb1 := below_plus W4 bs1 d1
     replace hX := hX.later hb1
     replace hO := hO.later hb1
     replace be := be.trans (hb1.mono be.size)
     have hn8 : n8 ≤ 900 := by have h1 := hr8.1; have h2 : (vipB x0.1).length = n8 := h1; omega
     clear hb1
     generalize plus W4 bs1 d1 = W6 at *
     refine wpList_app bt rfl (.tmp 59) (.tmp 61) rfl rfl hO rfl hr8 (by omega) be.size ?_
     intro A5 n5 c5 V5 hO5 hb5 hg5
     refine wpList_plain rfl (fun K hK => ?_); go_simp; with_reducible refine hK _ _ ?_; clear hK K
     replace hX := hX.own_grown hg5 (fun b hb => HNEW.out b (hO.blk _ hb).1)
     replace be := be.trans hb5
     have HH := Lib.hid (And.intro hO5 (And.intro hX be))
     have HN := Lib.hid (show B1 ++ vipsB (C.vs.take (j + 1)) = (B1 ++ vipsB (C.vs.take j)) ++ vipB x0.1 by rw [HTK.out, List.append_assoc])
     clear hO5 hX be hO hr8 hb5 hg5 h4
     go_wp2
     exact ⟨⟨j + 1, A5, _, c5, by go_num, rfl, by omega, by rw [HN.out]; exact HH.out.1, HH.out.2.1, HH.out.2.2⟩, by simp [intOf]; omega⟩
    ·obtain rfl : j = n := by omega
     have ij : ¬ (j : Int) < (j : Int) := by omega
     rw [List.take_of_length_le (by have := HNV.out; omega)] at hO
     clear hj hk2
     go_wp2
     go_ret
     rw [HFIN.out]
     exact RetOwn.mk hO be
end

section
open Go.RowKit
def Qs (x : Nat) : List Nat := (List.range 64).filter fun i => x.testBit i
theorem setL_Qs (x f : Nat) : setL x f = (Qs x).map (· + f) := rfl
theorem Qs_lt (x : Nat) : ∀ q ∈ Qs x, q < 64 := fun q hq => List.mem_range.1 (List.mem_filter.1 hq).1
theorem Qs_len (x : Nat) : (Qs x).length ≤ 64 := by
 have := List.length_filter_le (fun i => x.testBit i) (List.range 64)
 simpa [Qs] using this
theorem Qs_pw (x : Nat) : (Qs x).Pairwise (· < ·) := List.Pairwise.filter _ List.pairwise_lt_range
def orL (l : List Nat) : Nat := l.foldl (fun a q => a ||| 2 ^ q) 0
theorem orL_snoc (l : List Nat) (q : Nat) : orL (l ++ [q]) = orL l ||| 2 ^ q := by simp [orL]
theorem orL_bit (l : List Nat) (i : Nat) : (orL l).testBit i = decide (i ∈ l) := by
 suffices ∀ a : Nat, (l.foldl (fun a q => a ||| 2 ^ q) a).testBit i = (a.testBit i || decide (i ∈ l)) by
  have := this 0
  simpa [orL] using this
 induction l with
 | nil => intro a; simp
 | cons q t ih =>
  intro a
  rw [List.foldl_cons, ih, Nat.testBit_or, Nat.testBit_two_pow]
  by_cases h : q = i
  ·subst h; simp
  ·have h' : ¬ i = q := fun e => h e.symm
   simp [h, h']
theorem orL_lt (l : List Nat) (k : Nat) (h : ∀ q ∈ l, q < k) : orL l < 2 ^ k := by
 apply Nat.lt_pow_two_of_testBit
 intro i hi
 rw [orL_bit]
 exact decide_eq_false (fun hm => by have := h i hm; omega)
theorem orL_Qs (x : Nat) (hx : x < 18446744073709551616) : orL (Qs x) = x := by
 apply Nat.eq_of_testBit_eq
 intro i
 rw [orL_bit]
 by_cases h : i < 64
 ·by_cases hb : x.testBit i = true
  ·rw [hb]; exact decide_eq_true (List.mem_filter.2 ⟨List.mem_range.2 h, hb⟩)
  ·have hb' : x.testBit i = false := by simpa using hb
   rw [hb']; exact decide_eq_false (fun hm => hb (List.mem_filter.1 hm).2)
 ·have : x.testBit i = false := Nat.testBit_lt_two_pow (Nat.lt_of_lt_of_le hx (by
   have : 2 ^ 64 ≤ 2 ^ i := Nat.pow_le_pow_right (by decide) (by omega)
   omega))
  rw [this]
  exact decide_eq_false (fun hm => by have := Qs_lt x i hm; omega)
theorem pw_take {l : List Nat} (h : l.Pairwise (· < ·)) {j : Nat} (hj : j < l.length) : ∀ q ∈ l.take j, q < l[j] := by
 intro q hq
 obtain ⟨i, hi, rfl⟩ := List.mem_iff_getElem.1 hq
 rw [List.length_take] at hi
 rw [List.getElem_take]
 exact List.pairwise_iff_getElem.1 h i j (by omega) hj (by omega)
theorem digOne (v : Nat) (h : v < 256) : dig v 1 = [UInt8.ofNat v] := by
 simp [dig]
 try (congr 1; omega)
def slN (s : Nat × Bool) : Nat := s.1 + if s.2 then 128 else 0
theorem slN_lt {s : Nat × Bool} (h : s.1 ≤ 64) : slN s < 256 := by unfold slN; split <;> omega
theorem slotB_dig {s : Nat × Bool} (h : s.1 ≤ 64) : [slotB s] = dig (slN s) 1 := by rw [digOne _ (slN_lt h)]; rfl
theorem slots_cons {t : Tab} {j : Nat} (h : j < t.length) (h64 : t[j].1 ≤ 64) (R : List UInt8) : (t.drop j).map slotB ++ R = dig (slN t[j]) 1 ++ ((t.drop (j + 1)).map slotB ++ R) := by
 rw [List.drop_eq_getElem_cons h, List.map_cons, ← slotB_dig h64]; rfl
theorem nums_cons {l : List Nat} {j : Nat} (h : j < l.length) (R : List UInt8) : numsB (l.drop j) ++ R = dig l[j] 1 ++ (numsB (l.drop (j + 1)) ++ R) := by
 rw [List.drop_eq_getElem_cons h]
 unfold numsB
 rw [List.flatMap_cons, List.append_assoc]
theorem levs_cons {l : List (Nat × Tab)} {j : Nat} (h : j < l.length) (R : List UInt8) : levsB (l.drop j) ++ R = dig l[j].1 1 ++ (tabB l[j].2 ++ (levsB (l.drop (j + 1)) ++ R)) := by
 rw [List.drop_eq_getElem_cons h]
 unfold levsB
 rw [List.flatMap_cons, List.append_assoc]
 unfold levB
 rw [List.append_assoc]
def RQ (w : World) (r : Nat) (L : List UInt8) : Prop := RP w r (some L) ∧ L.length ≤ 1000000
def RetQ (w : World) (r : Nat) (R : List UInt8) (v : Value) (e : Ending) (w' : World) : Prop := e = .returned v ∧ RQ w' r R ∧ w.grownBy w' (some r)
theorem RQ.lt {w : World} {r : Nat} {L : List UInt8} (h : RQ w r L) : r < w.heap.size := h.1.lt
theorem RQ.low {w w' : World} {r : Nat} {L : List UInt8} (h : RQ w r L) (hb : Below (r + 1) w w') : RQ w' r L := ⟨h.1.low hb, h.2⟩
theorem RQ.later {w w' : World} {r : Nat} {L : List UInt8} (h : RQ w r L) (hb : Below w.heap.size w w') : RQ w' r L := ⟨h.1.later hb, h.2⟩
theorem RQ.sl {w : World} {r : Nat} {L : List UInt8} (h : RQ w r L) : SL (some L) := fun l hl => by injection hl with hl; rw [← hl]; exact h.2
theorem RQ.of {w w' : World} {r : Nat} {L R : List UInt8} {s : StB} (h : RP w' r s) (hs : s = some R) (hl : R.length ≤ L.length) (h2 : RQ w r L) : RQ w' r R := ⟨by rw [← hs]; exact h, Nat.le_trans hl h2.2⟩
theorem rdByte (r v : Nat) (R : List UInt8) (w : World) (h : RQ w r (dig v 1 ++ R)) (hv : v < 256) : Calls Tryz.prog 37 #[.pointer (some ⟨r, 0, none⟩)] w (RetQ w r R (.int .u8 (v : Nat))) := by
 refine (byteT r _ w h.1 h.sl).mono ?_
 rintro e w' ⟨rfl, h1, h2⟩
 exact ⟨by rw [numT_dig v 1 R (by omega)], RQ.of h1 (drB_dig v 1 R) (by simp) h, h2⟩
theorem rdWord (r v : Nat) (R : List UInt8) (w : World) (h : RQ w r (dig v 2 ++ R)) (hv : v < 65536) : Calls Tryz.prog 84 #[.pointer (some ⟨r, 0, none⟩)] w (RetQ w r R (.int .u16 (v : Nat))) := by
 refine (wordT r _ w h.1 h.sl).mono ?_
 rintro e w' ⟨rfl, h1, h2⟩
 exact ⟨by rw [numT_dig v 2 R (by omega)], RQ.of h1 (drB_dig v 2 R) (by simp) h, h2⟩
theorem rdNum8 (r v : Nat) (R : List UInt8) (w : World) (h : RQ w r (dig v 8 ++ R)) (hv : v < 18446744073709551616) : Calls Tryz.prog 32 #[.pointer (some ⟨r, 0, none⟩), .int .i64 8] w (RetQ w r R (.int .u64 (v : Nat))) := by
 refine (numTP r 8 _ w h.1 h.sl (Nat.le_refl _)).mono ?_
 rintro e w' ⟨rfl, h1, h2⟩
 exact ⟨by rw [numT_dig v 8 R (by omega)], RQ.of h1 (drB_dig v 8 R) (by simp) h, h2⟩
theorem rdBytes (r n : Nat) (x R : List UInt8) (w : World) (h : RQ w r (x ++ R)) (hx : x.length = n) (hn : n ≤ 1000000) : Calls Tryz.prog 34 #[.pointer (some ⟨r, 0, none⟩), .int .i64 (n : Int)] w fun e w' => ∃ A m c, e = .returned (.slice A m c) ∧ Ob w' w.heap.size A m c x ∧ RQ w' r R ∧ w.grownBy w' (some r) := by
 refine (bytesT r n _ w h.1 h.sl hn).mono ?_
 rintro e w' ⟨A, m, c, rfl, h1, h2, h3⟩
 obtain ⟨e1, e2⟩ := tk_app x R n hx
 rw [e1] at h1
 exact ⟨A, m, c, rfl, h1, RQ.of h2 e2 (by simp) h, h3⟩
theorem rdBad (r : Nat) (L : List UInt8) (w : World) (h : RQ w r L) : Calls Tryz.prog 35 #[.pointer (some ⟨r, 0, none⟩)] w fun e w' => e = .returned (.bool false) ∧ w = w' := badT r (some L) w h.1
theorem rdLeft (r : Nat) (L : List UInt8) (w : World) (h : RQ w r L) : Calls Tryz.prog 39 #[.pointer (some ⟨r, 0, none⟩)] w fun e w' => e = .returned (.int .i64 (L.length : Nat)) ∧ w = w' := leftT r (some L) w h.1
theorem tabC_take (t : Tab) (j : Nat) (h : j < t.length) (h64 : t.length ≤ 64) : (splice (tabC (t.take j)) (1 + j * 2) (slC t[j])).set 0 (.int .i64 ((j : Int) + 1)) = tabC (t.take (j + 1)) := by
 have hl : (t.take j).length = j := by rw [List.length_take]; omega
 have h1 := tabC_snoc (t.take j) (by omega) t[j]
 rw [hl] at h1
 rw [List.take_succ_eq_append_getElem h, ← h1]
 unfold tabC
 rw [List.set_cons_zero, splice_cons, splice_cons, List.set_cons_zero]
end

section
open Go.Lib
open Go.RowKit
attribute [local go_sem ↓] sliced_cut
attribute [local go_sem] cutA_zero
theorem RQ.far {w w' : World} {r g : Nat} {L : List UInt8} (h : RQ w r L) (hg : w.grownBy w' (some g)) (hr : r < g) : RQ w' r L := ⟨Rdr.far_ h.1 hg hr, h.2⟩
set_option maxHeartbeats 4000000 in
set_option maxRecDepth 100000 in
theorem take_ok (t : Tab) (hok : TabOk t) (r : Nat) (R : List UInt8) (w : World) (hq : RQ w r (tabB t ++ R)) : Calls Tryz.prog 167 #[.pointer (some ⟨r, 0, none⟩)] w (RetQ w r R (.tuple #[.agg (tabC t).toArray, .bool true])) := by
 obtain ⟨dvt, vt1, vt2⟩ := rowTab
 have ht := hok.len
 have hzt : ∀ w, (zeroValue 204).run Tryz.prog w = .ok (.agg (tabC []).toArray) w := fun _ => by kernel_rfl
 have hrl := hq.lt
 have hRl : R.length ≤ 1000000 := by have := hq.2; simp at this; omega
 unfold tabB at hq
 rw [List.append_assoc] at hq
 have b2 : Bk (w.alloc (.cells (tabC []).toArray 204)) w.heap.size 204 (tabC []) := Bk.new w 204 (tabC []).toArray
 have hG : w.grownBy (w.alloc (.cells (tabC []).toArray 204)) (some r) := grownBy_alloc _ _ _
 replace hq := hq.later (Below.allocS (Below.refl _ _) (.cells (tabC []).toArray 204))
 have hw1 : IntKind.i64.wrap (t.length : Int) = (t.length : Int) := IntWalk.i64_in _ (by omega)
 have hlm : (t.map slotB).length = t.length := by simp
 have hcmp : ¬ (((t.map slotB ++ R).length : Nat) : Int) < (t.length : Int) := by rw [List.length_append, hlm]; omega
 go_enter Tryz.func167, Tryz.ntmps167
 go_upto_region 1 with (fail)
 generalize w.alloc (.cells (tabC []).toArray 204) = V at *
 refine wp_region_lit ?_
 refine wpList_plain rfl (fun K hK => ?_); go_simp; with_reducible refine hK _ _ ?_; clear hK K
 refine wpList_plain rfl (fun K hK => ?_)
 go_simp
 refine (rdWord r t.length _ _ hq (by omega)).mono ?_
 rintro e w1 ⟨rfl, hq1, hg1⟩
 with_reducible refine hK _ _ ?_
 clear hK K
 have zz1 := hg1.size
 replace b2 := b2.grown hg1 (fun e => by injection e with e; omega)
 replace hG := grownBy_trans hG hg1
 clear hg1
 generalize hWW : w1 = V1 at *
 clear hWW
 iterate 2 (refine wpList_plain rfl (fun K hK => ?_); go_simp; with_reducible refine hK _ _ ?_; clear hK K)
 clear hq
 have hll : (t.map slotB ++ R).length = t.length + R.length := by rw [List.length_append, hlm]
 have HQ1 := Lib.hid hq1
 go_upto_region 2 with (fail)
 refine wp_region_lit ?_
 refine wpList_plain rfl (fun K hK => ?_); go_simp; with_reducible refine hK _ _ ?_; clear hK K
 refine wpList_plain rfl (fun K hK => ?_)
 go_simp
 refine (rdBad r _ _ hq1).mono ?_
 rintro e w1 ⟨rfl, rfl⟩
 with_reducible refine hK _ _ ?_
 clear hK K
 refine wpList_plain rfl (fun K hK => ?_); go_simp; with_reducible refine hK _ _ ?_; clear hK K
 iterate 2 (refine wpList_step (fun K hK => ?_); go_simp; with_reducible refine hK _ _ ?_; clear hK K)
 refine wpList_step (fun K hK => ?_)
 go_simp
 refine (rdLeft r _ _ hq1).mono ?_
 rintro e w1 ⟨rfl, rfl⟩
 with_reducible refine hK _ _ ?_
 clear hK K
 refine wpList_step (fun K hK => ?_); go_simp; with_reducible refine hK _ _ ?_; clear hK K
 refine wpList_plain rfl (fun K hK => ?_); go_simp; with_reducible refine hK _ _ ?_; clear hK K
 go_upto_region 5 with (fail)
 have hgt : w.heap.size < V1.heap.size := b2.lt
 have bb1 : Below V1.heap.size V1 (V1.alloc (.cells (tabC []).toArray 204)) := Below.allocS (Below.refl _ _) _
 have b5 : Bk (V1.alloc (.cells (tabC []).toArray 204)) V1.heap.size 204 (tabC []) := Bk.new V1 204 (tabC []).toArray
 replace b2 := b2.later bb1
 replace hq1 := hq1.later bb1
 replace hG := grown_below hG bb1
 clear bb1 hzt HQ1
 generalize V1.alloc (.cells (tabC []).toArray 204) = V2 at *
 generalize V1.heap.size = gt at *
 go_upto_region 6 with (fail)
 have HST := Lib.hid (And.intro b2 (And.intro b5 (And.intro hq1 hG)))
 clear b2 b5 hq1 hG hcmp hll hlm
 go_loopw [21] (fun I wr => ∃ i : Nat, I = .int .i64 (i : Int) ∧ i ≤ t.length ∧ Bk wr w.heap.size 204 (tabC []) ∧ Bk wr gt 204 (tabC (t.take i)) ∧ RQ wr r ((t.drop i).map slotB ++ R) ∧ w.grownBy wr (some r)) (fun I _ => t.length - (intOf I).toNat)
 case atStart => exact ⟨0, rfl, Nat.zero_le _, HST.out.1, HST.out.2.1, HST.out.2.2.1, HST.out.2.2.2⟩
 case round =>
  clear HST
  obtain ⟨i, rfl, hi, b2, b5, hq, hG⟩ := hrel
  by_cases hlt : i < t.length
  ·have ii : (i : Int) < (t.length : Int) := by omega
   have hmem := hok.rg t[i] (List.getElem_mem hlt)
   rw [slots_cons hlt hmem.2] at hq
   have hok2 : TabOk (t.take i) := ⟨by rw [List.map_take]; exact hok.nd.sublist (List.take_sublist _ _), fun s hs => hok.rg s (List.mem_of_mem_take hs)⟩
   have hnot : ¬ idxT (t.take i) (t[i].1 : Int) < (t.take i).length := fun h => by
    have h1 := idxT_lt.1 h
    obtain ⟨u, hu, he⟩ := List.mem_map.1 h1
    obtain ⟨j, hj, rfl⟩ := List.mem_iff_getElem.1 hu
    rw [List.length_take] at hj
    rw [List.getElem_take] at he
    have := (List.getElem_inj (h₀ := by simpa using (show j < t.length by omega)) (h₁ := by simpa using hlt) hok.nd (i := j) (j := i)).1 (by simpa using he)
    omega
   have hfd : fdT (t.take i) (t[i].1 : Int) = -1 := if_neg hnot
   have HF := Lib.hid (fun w => find_any (t.take i) hok2 (t[i].1 : Int) w)
   rw [hfd] at HF
   have hset := Lib.hid (tabC_take t i hlt ht)
   have hlk : (t.take i).length = i := by rw [List.length_take]; omega
   have hq0 : ∀ W, Bk W gt 204 (tabC (t.take i)) → W.cell? ⟨gt, 0, none⟩ = some (.int .i64 (i : Int)) := fun W h => by
    have := h.cell 0
    rw [this]; show some (Value.int .i64 ((t.take i).length : Int)) = _; rw [hlk]
   have HQ0 := Lib.hid hq0
   generalize t[i] = s at *
   have hs64 := hmem.2
   have hs1 := hmem.1
   have hslt := slN_lt hs64
   have hnb : numB (s.1 : Int) = true := by unfold numB; rw [decide_eq_true (by omega), decide_eq_true (by omega)]; rfl
   have hrem : Int.tmod (slN s : Int) 128 = (s.1 : Int) := by
    show ((slN s % 128 : Nat) : Int) = _
    unfold slN; split <;> omega
   have hrem2 : (slN s : Int) % 128 = (s.1 : Int) := by
    show ((slN s % 128 : Nat) : Int) = _
    unfold slN; split <;> omega
   have haw : decide (128 ≤ (slN s : Int)) = s.2 := by
    obtain ⟨a, b⟩ := s
    have h64 : a ≤ 64 := hs64
    cases b
    ·exact decide_eq_false (by simp [slN]; omega)
    ·exact decide_eq_true (by simp [slN]; omega)
   have hw7 : IntKind.i64.wrap (s.1 : Int) = (s.1 : Int) := IntWalk.i64_in _ (by omega)
   have hi64 : (i : Int) < 64 := by omega
   have hwi : IntKind.i64.wrap ((i : Int) + 1) = (i : Int) + 1 := IntWalk.i64_in _ (by omega)
   clear hmem hok2 hnot hfd hlk hq0
   go_upto_region 7 with (fail)
   refine wp_region_lit ?_
   refine wpList_plain rfl (fun K hK => ?_); go_simp; with_reducible refine hK _ _ ?_; clear hK K
   refine wpList_plain rfl (fun K hK => ?_)
   go_simp
   refine (rdByte r (slN s) _ _ hq (by omega)).mono ?_
   rintro e w1 ⟨rfl, hq1, hg1⟩
   with_reducible refine hK _ _ ?_
   clear hK K
   have zz1 := hg1.size
   replace b2 := b2.grown hg1 (fun e => by injection e with e; omega)
   replace b5 := b5.grown hg1 (fun e => by injection e with e; omega)
   replace hG := grownBy_trans hG hg1
   clear hg1
   generalize hWW : w1 = W1 at *
   clear hWW
   refine wpList_plain rfl (fun K hK => ?_); go_simp; with_reducible refine hK _ _ ?_; clear hK K
   clear hq
   go_upto_region 9 with (fail)
   refine wp_region_lit ?_
   iterate 2 (refine wpList_plain rfl (fun K hK => ?_); go_simp; with_reducible refine hK _ _ ?_; clear hK K)
   refine wpList_plain rfl (fun K hK => ?_)
   go_simp
   refine (number_any _ _).mono ?_
   rintro e w1 ⟨rfl, rfl⟩
   with_reducible refine hK _ _ ?_
   clear hK K
   iterate 2 (refine wpList_plain rfl (fun K hK => ?_); go_simp; with_reducible refine hK _ _ ?_; clear hK K)
   refine wpList_ldG (t := 204) 204 (.tmp 5) rfl (by go_simp) (tabC (t.take i)) rfl (b5) (whole_ _) vt1 vt2 ((by rw [tabC_len0]; kernel_rfl)) ?_
   iterate 2 (refine wpList_step (fun K hK => ?_); go_simp; with_reducible refine hK _ _ ?_; clear hK K)
   refine wpList_step (fun K hK => ?_)
   go_simp
   refine (HF.out _).mono ?_
   rintro e w1 ⟨bs1, d1, rfl, rfl⟩
   with_reducible refine hK _ _ ?_
   clear hK K
   have hb1 := below_plus W1 bs1 d1
   replace b2 := b2.later hb1
   replace b5 := b5.later hb1
   replace hq1 := hq1.later hb1
   replace hG := grown_below hG hb1
   clear hb1
   generalize plus W1 bs1 d1 = W2 at *
   refine wpList_step (fun K hK => ?_); go_simp; with_reducible refine hK _ _ ?_; clear hK K
   refine wpList_plain rfl (fun K hK => ?_); go_simp; with_reducible refine hK _ _ ?_; clear hK K
   go_upto_region 11 with (fail)
   have q0 : W2.cell? ⟨gt, 0, none⟩ = some (.int .i64 (i : Int)) := HQ0.out W2 b5
   refine wp_region_lit ?_
   iterate 5 (refine wpList_plain rfl (fun K hK => ?_); go_simp; with_reducible refine hK _ _ ?_; clear hK K)
   refine wpList_build 201 [(0, .tmp 41), (1, .tmp 43)] rfl rfl (.agg (slC (s.1, s.2)).toArray) (by kernel_rfl) ?_
   iterate 2 (refine wpList_plain rfl (fun K hK => ?_); go_simp; with_reducible refine hK _ _ ?_; clear hK K)
   refine wpList_stM (t := 204) (off := 1 + i * 2) 201 (.tmp 46) (.tmp 44) rfl rfl (slC s) (tabC (t.take i)) (by rw [tabC_len0, slC_len]; omega) (slC_one _) rfl rfl b5 (szSl _) ?_
   intro W4 h4 g4
   simp only [Act.put, qsT, qsZ, qsS]
   replace b2 := b2.grown g4 (fun e => by injection e with e; omega)
   replace hq1 : RQ W4 r ((t.drop (i + 1)).map slotB ++ R) := hq1.far g4 (by omega)
   replace hG := grown_new hG g4 (by omega)
   have q1 : W4.cell? ⟨gt, 0, none⟩ = some (.int .i64 (i : Int)) := by
    have := h4.cell 0
    rw [this]
    unfold tabC
    rw [splice_cons]
    show some (Value.int .i64 ((t.take i).length : Int)) = _
    rw [List.length_take, Nat.min_eq_left (by omega)]
   clear q0 g4 b5
   go_upto_region 12 with (fail)
   refine wp_region_lit ?_
   iterate 4 (refine wpList_plain rfl (fun K hK => ?_); go_simp; with_reducible refine hK _ _ ?_; clear hK K)
   refine wpList_st1 (t := 204) (off := 0) 3 (.tmp 50) (.tmp 49) rfl rfl rfl rfl h4 (by rw [length_splice _ _ _ (by rw [tabC_len0, slC_len]; omega), tabC_len0]; omega) rfl (by kernel_rfl) ?_
   intro W6 h6 g6
   simp only [Act.put, qsT, qsZ, qsS]
   replace b2 := b2.grown g6 (fun e => by injection e with e; omega)
   replace hq1 := hq1.far g6 (by omega)
   replace hG := grown_new hG g6 (by omega)
   replace h6 : Bk W6 gt 204 (tabC (t.take (i + 1))) := by rw [← hset.out]; exact h6
   have HH := Lib.hid (And.intro b2 (And.intro h6 (And.intro hq1 hG)))
   clear b2 h6 hq1 hG h4 g6 q1 HQ0 HF
   go_wp2
   exact ⟨⟨i + 1, by go_num, by omega, HH.out.1, HH.out.2.1, HH.out.2.2.1, HH.out.2.2.2⟩, by simp [intOf]; omega⟩
  ·obtain rfl : i = t.length := by omega
   have ii : ¬ (t.length : Int) < (t.length : Int) := by omega
   rw [List.take_of_length_le (Nat.le_refl _)] at b5
   rw [List.drop_of_length_le (Nat.le_refl _), List.map_nil, List.nil_append] at hq
   clear hi
   go_upto_region 14 with (fail)
   refine wp_region_lit ?_
   refine wpList_ldA (t := 204) 204 (.tmp 5) rfl rfl (tabC t) rfl b5 (whole_ _) vt1 vt2 (by rw [tabC_len0]; kernel_rfl) ?_
   simp only [Act.put, qsT, qsZ, qsS]
   refine wpList_stA (t := 204) 204 (.tmp 2) (.tmp 52) rfl rfl (tabC t) (tabC []) (by rw [tabC_len0, tabC_len0]) (tabC_one _) rfl rfl b2 (by rw [tabC_len0]; kernel_rfl) ?_
   intro W9 h9 g9
   refine wpList_plain rfl (fun K hK => ?_); go_simp; with_reducible refine hK _ _ ?_; clear hK K
   go_wp2
   refine bodyPost_agg2 Tryz.results167 rfl rfl h9.range vt1 vt2 (by rw [tabC_len0]; kernel_rfl) rfl ⟨rfl, hq.far g9 (by omega), grown_new hG g9 (by omega)⟩
end

section
open Go.Lib
open Go.RowKit
attribute [local go_sem ↓] sliced_cut
attribute [local go_sem] cutA_zero
theorem Chg.rp_far {D : Nat → Prop} {w w' : World} (hc : Chg D w w') {r : Nat} {s : StB} (h : RP w r s) {g : Nat} (hr : r < g) (hD : ∀ b, D b → b = g := by exact fun b hb => hb) : RP w' r s := h.low (hc.below (fun b hb => by have := hD b hb; omega) h.lt)
set_option maxHeartbeats 4000000
set_option maxRecDepth 100000
theorem readLevels_ok (S : Stk) (hok : StkOk S) (r g : Nat) (hrg : r < g) (R : List UInt8) (w : World) (hq : RQ w r (dig S.lv.length 1 ++ (levsB S.lv ++ R))) (hS : Bk w g 209 (stkC stk0)) : Calls Tryz.prog 137 #[.pointer (some ⟨g, 0, none⟩), .pointer (some ⟨r, 0, none⟩)] w fun e w' => e = .returned (.bool true) ∧ RQ w' r R ∧ Bk w' g 209 (stkC ⟨S.lv, 0, 0⟩) ∧ Chg (fun b => b = r ∨ b = g) w w' := by
 obtain ⟨dvt, vt1, vt2⟩ := rowTab
 have h8 := hok.len
 have hC : Chg (fun b => b = r ∨ b = g) w w := Chg.refl _
 have hw1 : IntKind.i64.wrap (S.lv.length : Int) = (S.lv.length : Int) := IntWalk.i64_in _ (by omega)
 have hzt : ∀ w, (zeroValue 204).run Tryz.prog w = .ok (.agg (tabC []).toArray) w := fun _ => by kernel_rfl
 go_enter Tryz.func137, Tryz.ntmps137
 go_upto_region 1 with (fail)
 refine wp_region_lit ?_
 refine wpList_plain rfl (fun K hK => ?_); go_simp; with_reducible refine hK _ _ ?_; clear hK K
 refine wpList_plain rfl (fun K hK => ?_)
 go_simp
 refine (rdByte r S.lv.length _ _ hq (by omega)).mono ?_
 rintro e w1 ⟨rfl, hq1, hg1⟩
 with_reducible refine hK _ _ ?_
 clear hK K
 have zz1 := hg1.size
 replace hS := hS.grown hg1 (fun e => by injection e with e; omega)
 replace hC := hC.trans (Chg.one hg1 (Or.inl rfl))
 clear hg1
 generalize hWW : w1 = V1 at *
 clear hWW
 iterate 2 (refine wpList_plain rfl (fun K hK => ?_); go_simp; with_reducible refine hK _ _ ?_; clear hK K)
 clear hq
 go_upto_region 2 with (fail)
 have HST := Lib.hid (And.intro hq1 (And.intro hS hC))
 clear hq1 hS hC
 go_loopw [11] (fun I wr => ∃ j : Nat, I = .int .i64 (j : Int) ∧ j ≤ S.lv.length ∧ RQ wr r (levsB (S.lv.drop j) ++ R) ∧ Bk wr g 209 (stkC ⟨S.lv.take j, 0, 0⟩) ∧ Chg (fun b => b = r ∨ b = g) w wr) (fun I _ => S.lv.length - (intOf I).toNat)
 case atStart => exact ⟨0, rfl, Nat.zero_le _, HST.out.1, HST.out.2.1, HST.out.2.2⟩
 case round =>
  clear HST
  obtain ⟨j, rfl, hj, hq, hS, hC⟩ := hrel
  by_cases hlt : j < S.lv.length
  ·have ij : (j : Int) < (S.lv.length : Int) := by omega
   rw [levs_cons hlt] at hq
   have hmem := hok.rg S.lv[j] (List.getElem_mem hlt)
   have hl8 : (S.lv.take j).length < 8 := by rw [List.length_take]; omega
   have hnot : ¬ idxS ⟨S.lv.take j, 0, 0⟩ (S.lv[j].1 : Int) < (S.lv.take j).length := fun h => by
    have h1 := idxS_lt.1 h
    obtain ⟨u, hu, he⟩ := List.mem_map.1 h1
    obtain ⟨i, hi, rfl⟩ := List.mem_iff_getElem.1 hu
    simp only [List.length_take] at hi
    simp only [List.getElem_take] at he
    have := (List.getElem_inj (h₀ := by simpa using (show i < S.lv.length by omega)) (h₁ := by simpa using hlt) hok.nd (i := i) (j := j)).1 (by simpa using he)
    omega
   have hix : ixS ⟨S.lv.take j, 0, 0⟩ (S.lv[j].1 : Int) = -1 := if_neg hnot
   have htk : S.lv.take (j + 1) = S.lv.take j ++ [S.lv[j]] := List.take_succ_eq_append_getElem hlt
   have HIX := Lib.hid (fun w h => index_any ⟨S.lv.take j, 0, 0⟩ (by show (S.lv.take j).length ≤ 8; omega) g (S.lv[j].1 : Int) w h)
   rw [hix] at HIX
   generalize S.lv[j] = e0 at *
   obtain ⟨vr, tb⟩ := e0
   have hv8 : vr < 8 := hmem.1
   have htbo : TabOk tb := hmem.2
   have hwv : IntKind.i64.wrap (vr : Int) = (vr : Int) := IntWalk.i64_in _ (by omega)
   have HTK := Lib.hid (fun R w h => take_ok tb htbo r R w h)
   have hb0 : bitB (vr : Int) 0 8 = 2 ^ vr := by rw [bitB_in _ 0 8 (by omega) (by omega)]; congr 1
   have HVB := Lib.hid (fun w => versionBit_any (vr : Int) (by omega) w)
   rw [hb0] at HVB
   have hpp := Nat.two_pow_pos vr
   generalize 2 ^ vr = P at *
   have hP0 : ((P : Int) == 0) = false := by simp; omega
   have HADD := Lib.hid (fun w h => stkAdd_any ⟨S.lv.take j, 0, 0⟩ hl8 g vr tb w h)
   have HTT := Lib.hid htk
   clear hmem hnot hix htk hb0 hl8
   go_upto_region 3 with (fail)
   refine wp_region_lit ?_
   refine wpList_plain rfl (fun K hK => ?_); go_simp; with_reducible refine hK _ _ ?_; clear hK K
   refine wpList_plain rfl (fun K hK => ?_)
   go_simp
   refine (rdByte r vr _ _ hq (by omega)).mono ?_
   rintro e w1 ⟨rfl, hq1, hg1⟩
   with_reducible refine hK _ _ ?_
   clear hK K
   have zz1 := hg1.size
   replace hS := hS.grown hg1 (fun e => by injection e with e; omega)
   replace hC := hC.trans (Chg.one hg1 (Or.inl rfl))
   clear hg1
   generalize hWW : w1 = W1 at *
   clear hWW
   iterate 2 (refine wpList_plain rfl (fun K hK => ?_); go_simp; with_reducible refine hK _ _ ?_; clear hK K)
   clear hq
   go_upto_region 4 with (fail)
   refine wp_region_lit ?_
   refine wpList_plain rfl (fun K hK => ?_); go_simp; with_reducible refine hK _ _ ?_; clear hK K
   refine wpList_plain rfl (fun K hK => ?_)
   go_simp
   refine (HTK.out _ _ hq1).mono ?_
   rintro e w1 ⟨rfl, hq2, hg1⟩
   with_reducible refine hK _ _ ?_
   clear hK K
   have zz1 := hg1.size
   replace hS := hS.grown hg1 (fun e => by injection e with e; omega)
   replace hC := hC.trans (Chg.one hg1 (Or.inl rfl))
   clear hg1
   generalize hWW : w1 = W2 at *
   clear hWW
   iterate 4 (refine wpList_plain rfl (fun K hK => ?_); go_simp; with_reducible refine hK _ _ ?_; clear hK K)
   refine wpList_stA (t := 204) 204 (.tmp 6) (.tmp 19) rfl rfl (tabC tb) (tabC []) (by rw [tabC_len0, tabC_len0]) (tabC_one _) rfl rfl (Bk.new _ _ _) (by rw [tabC_len0]; kernel_rfl) ?_
   intro W4 h4 g4
   refine wpList_plain rfl (fun K hK => ?_); go_simp; with_reducible refine hK _ _ ?_; clear hK K
   have be4 : Below W2.heap.size W2 W4 := below_grown (Below.allocS (Below.refl _ _) _) g4 (Nat.le_refl _)
   replace hS := hS.later be4
   replace hq2 := hq2.later be4
   replace hC := hC.trans (Chg.of_below be4)
   have ht : Bk W4 W2.heap.size 204 (tabC tb) := h4
   clear be4 h4 g4 hq1
   generalize W2.heap.size = gt at *
   go_upto_region 5 with (fail)
   refine wp_region_lit ?_
   iterate 3 (refine wpList_plain rfl (fun K hK => ?_); go_simp; with_reducible refine hK _ _ ?_; clear hK K)
   refine wpList_step (fun K hK => ?_); go_simp; with_reducible refine hK _ _ ?_; clear hK K
   refine wpList_step (fun K hK => ?_)
   go_simp
   refine (HVB.out _).mono ?_
   rintro e w1 ⟨rfl, rfl⟩
   with_reducible refine hK _ _ ?_
   clear hK K
   refine wpList_step (fun K hK => ?_); go_simp; with_reducible refine hK _ _ ?_; clear hK K
   iterate 2 (refine wpList_plain rfl (fun K hK => ?_); go_simp; with_reducible refine hK _ _ ?_; clear hK K)
   iterate 2 (refine wpList_step (fun K hK => ?_); go_simp; with_reducible refine hK _ _ ?_; clear hK K)
   refine wpList_step (fun K hK => ?_)
   go_simp
   refine (HIX.out _ hS).mono ?_
   rintro e w1 ⟨bs1, d1, rfl, rfl⟩
   with_reducible refine hK _ _ ?_
   clear hK K
   have hb1 := below_plus W4 bs1 d1
   replace hS := hS.later hb1
   replace hq2 := hq2.later hb1
   replace ht := ht.later hb1
   replace hC := hC.trans (Chg.of_below hb1)
   clear hb1
   generalize plus W4 bs1 d1 = W5 at *
   refine wpList_step (fun K hK => ?_); go_simp; with_reducible refine hK _ _ ?_; clear hK K
   refine wpList_plain rfl (fun K hK => ?_); go_simp; with_reducible refine hK _ _ ?_; clear hK K
   go_upto_region 7 with (fail)
   refine wp_region_lit ?_
   iterate 2 (refine wpList_plain rfl (fun K hK => ?_); go_simp; with_reducible refine hK _ _ ?_; clear hK K)
   refine wpList_ldA (t := 204) 204 (.tmp 6) rfl rfl (tabC tb) rfl (ht) (whole_ _) vt1 vt2 ((by rw [tabC_len0]; kernel_rfl)) ?_
   refine wpList_plain rfl (fun K hK => ?_)
   go_simp
   refine (HADD.out _ hS).mono ?_
   rintro e w1 ⟨rfl, hS2, hc2⟩
   with_reducible refine hK _ _ ?_
   clear hK K
   replace hq2 : RQ w1 r (levsB (S.lv.drop (j + 1)) ++ R) := ⟨(hc2.rp_far hq2.1 hrg), hq2.2⟩
   replace hC : Chg (fun b => b = r ∨ b = g) w w1 := hC.trans (hc2.wid (fun b hb => Or.inr hb))
   replace hS2 : Bk w1 g 209 (stkC ⟨S.lv.take (j + 1), 0, 0⟩) := by rw [HTT.out]; exact hS2
   have HH := Lib.hid (And.intro hq2 (And.intro hS2 hC))
   clear hS hq2 hC hS2 hc2 ht
   go_wp2
   exact ⟨⟨j + 1, by go_num, by omega, HH.out.1, HH.out.2.1, HH.out.2.2⟩, by simp [intOf]; omega⟩
  ·obtain rfl : j = S.lv.length := by omega
   have ij : ¬ (S.lv.length : Int) < (S.lv.length : Int) := by omega
   rw [List.take_of_length_le (Nat.le_refl _)] at hS
   rw [List.drop_of_length_le (Nat.le_refl _)] at hq
   clear hj
   go_wp2_with (go_at_call 35; refine (rdBad r _ _ hq).mono ?_; rintro e w1 ⟨rfl, rfl⟩)
   go_ret
   exact ⟨rfl, hq, hS, hC⟩
theorem readSet_ev (x : Nat) (hx : x < 18446744073709551616) (r : Nat) (R : List UInt8) (w : World) (hq : RQ w r (setB (setL x 1) ++ R)) : Calls Tryz.prog 138 #[.pointer (some ⟨r, 0, none⟩), .func (.func 139) #[] #[]] w (RetQ w r R (.tuple #[.int .u64 (x : Int), .bool true])) := by
 have hlq := Qs_len x
 have hll : (setL x 1).length = (Qs x).length := by rw [setL_Qs, List.length_map]
 unfold setB at hq
 rw [hll, List.append_assoc] at hq
 have hx64 : x < 18446744073709551616 := by omega
 have hor := orL_Qs x hx64
 have hpw := Qs_pw x
 have hqlt := Qs_lt x
 have hxq : ∀ q ∈ Qs x, q < 64 := fun q hq => by
  have h1 := (List.mem_filter.1 hq).2
  rcases Nat.lt_or_ge q 64 with h | h
  ·exact h
  ·have : x.testBit q = false := Nat.testBit_lt_two_pow (Nat.lt_of_lt_of_le hx (by
    have : 2 ^ 64 ≤ 2 ^ q := Nat.pow_le_pow_right (by decide) h
    have h2 : (2 : Nat) ^ 64 = 18446744073709551616 := by decide
    omega))
   rw [this] at h1; cases h1
 rw [setL_Qs] at hq
 have hw1 : IntKind.i64.wrap ((Qs x).length : Int) = ((Qs x).length : Int) := IntWalk.i64_in _ (by omega)
 have HX := Lib.hid (And.intro hor (And.intro hpw hxq))
 generalize Qs x = Q at *
 have hG : w.grownBy w (some r) := World.grownBy.refl _ _
 clear hor hpw hqlt hll hxq
 go_enter Tryz.func138, Tryz.ntmps138
 go_upto_region 3 with (go_at_call 37; refine (rdByte r Q.length _ _ hq (by omega)).mono ?_; rintro e w1 ⟨rfl, hq1, hg1⟩)
 replace hG := grownBy_trans hG hg1
 have HST := Lib.hid (And.intro hq1 hG)
 clear hq hq1 hG hg1
 go_loopw [6, 11] (fun SE I wr => ∃ j : Nat, I = .int .i64 (j : Int) ∧ SE = .int .u64 (orL (Q.take j) : Nat) ∧ j ≤ Q.length ∧ RQ wr r (numsB ((Q.map (· + 1)).drop j) ++ R) ∧ w.grownBy wr (some r)) (fun _ I _ => Q.length - (intOf I).toNat)
 case atStart => exact ⟨0, rfl, rfl, Nat.zero_le _, HST.out.1, HST.out.2⟩
 case round =>
  clear HST
  obtain ⟨j, rfl, rfl, hj, hq, hG⟩ := hrel
  by_cases hlt : j < Q.length
  ·have ij : (j : Int) < (Q.length : Int) := by omega
   rw [nums_cons (by rw [List.length_map]; exact hlt)] at hq
   have hpt := pw_take HX.out.2.1 hlt
   have hqm := HX.out.2.2 Q[j] (List.getElem_mem hlt)
   have htk : orL (Q.take (j + 1)) = orL (Q.take j) ||| 2 ^ Q[j] := by rw [List.take_succ_eq_append_getElem hlt, orL_snoc]
   have hol := orL_lt (Q.take j) Q[j] hpt
   rw [List.getElem_map] at hq
   generalize Q[j] = q at *
   have hbv : bitB ((q + 1 : Nat) : Int) 1 64 = 2 ^ q := by
    rw [bitB_in _ 1 64 (by omega) (by omega)]
    congr 1
    try omega
   have hp64 : 2 ^ q < 18446744073709551616 := by
    have : 2 ^ q ≤ 2 ^ 63 := Nat.pow_le_pow_right (by decide) (by omega)
    have h2 : (2 : Nat) ^ 63 = 9223372036854775808 := by decide
    omega
   have HB := Lib.hid (fun w => backendBit_any ((q + 1 : Nat) : Int) (by omega) w)
   rw [hbv] at HB
   have hor2 := u64_or_nat (orL (Q.take j)) (2 ^ q) (by omega) hp64
   have HTK := Lib.hid htk
   obtain ⟨v, hv⟩ : ∃ v, q + 1 = v := ⟨_, rfl⟩
   rw [hv] at hq HB
   have hv256 : v < 256 := by omega
   have hwv : IntKind.i64.wrap (v : Int) = (v : Int) := IntWalk.i64_in _ (by omega)
   clear hpt htk hbv hv
   generalize 2 ^ q = P at *
   generalize orL (Q.take j) = O at *
   have hle : ¬ (P : Int) ≤ (O : Int) := by omega
   have hleN : ¬ P ≤ O := by omega
   go_upto_region 4 with (fail)
   refine wp_region_lit ?_
   iterate 2 (refine wpList_plain rfl (fun K hK => ?_); go_simp; with_reducible refine hK _ _ ?_; clear hK K)
   refine wpList_plain rfl (fun K hK => ?_)
   go_simp
   refine (rdByte r v _ _ hq (by omega)).mono ?_
   rintro e w1 ⟨rfl, hq1, hg1⟩
   with_reducible refine hK _ _ ?_
   clear hK K
   replace hG := grownBy_trans hG hg1
   clear hg1
   generalize hWW : w1 = W1 at *
   clear hWW
   refine wpList_plain rfl (fun K hK => ?_); go_simp; with_reducible refine hK _ _ ?_; clear hK K
   refine wpList_plain rfl (fun K hK => ?_)
   go_simp
   refine (HB.out _).mono ?_
   rintro en w1 ⟨rfl, rfl⟩
   with_reducible refine hK _ _ ?_
   clear hK K
   refine wpList_plain rfl (fun K hK => ?_); go_simp; with_reducible refine hK _ _ ?_; clear hK K
   go_upto_region 5 with (fail)
   refine wp_region_lit ?_
   refine wpList_plain rfl (fun K hK => ?_); go_simp; with_reducible refine hK _ _ ?_; clear hK K
   refine wpList_plain rfl (fun K hK => ?_)
   go_simp
   refine (rdBad r _ _ hq1).mono ?_
   rintro e w1 ⟨rfl, rfl⟩
   with_reducible refine hK _ _ ?_
   clear hK K
   refine wpList_plain rfl (fun K hK => ?_); go_simp; with_reducible refine hK _ _ ?_; clear hK K
   iterate 3 (refine wpList_step (fun K hK => ?_); go_simp; with_reducible refine hK _ _ ?_; clear hK K)
   refine wpList_plain rfl (fun K hK => ?_); go_simp; with_reducible refine hK _ _ ?_; clear hK K
   have HH := Lib.hid (And.intro hq1 hG)
   clear hq hq1 hG
   go_wp2
   exact ⟨⟨j + 1, by go_num, by rw [HTK.out], by omega, HH.out.1, HH.out.2⟩, by simp [intOf]; omega⟩
  ·obtain rfl : j = Q.length := by omega
   have ij : ¬ (Q.length : Int) < (Q.length : Int) := by omega
   rw [List.take_of_length_le (Nat.le_refl _), HX.out.1]
   rw [List.drop_of_length_le (by rw [List.length_map]; exact Nat.le_refl _)] at hq
   clear hj
   go_wp2_with (go_at_call 35; refine (rdBad r _ _ hq).mono ?_; rintro e w1 ⟨rfl, rfl⟩)
   go_ret2
   exact ⟨rfl, hq, hG⟩
theorem readSet_bz (x : Nat) (hx : x < 256) (r : Nat) (R : List UInt8) (w : World) (hq : RQ w r (setB (setL x 0) ++ R)) : Calls Tryz.prog 138 #[.pointer (some ⟨r, 0, none⟩), .func (.func 123) #[] #[]] w (RetQ w r R (.tuple #[.int .u64 (x : Int), .bool true])) := by
 have hlq := Qs_len x
 have hll : (setL x 0).length = (Qs x).length := by rw [setL_Qs, List.length_map]
 unfold setB at hq
 rw [hll, List.append_assoc] at hq
 have hx64 : x < 18446744073709551616 := by omega
 have hor := orL_Qs x hx64
 have hpw := Qs_pw x
 have hqlt := Qs_lt x
 have hxq : ∀ q ∈ Qs x, q < 8 := fun q hq => by
  have h1 := (List.mem_filter.1 hq).2
  rcases Nat.lt_or_ge q 8 with h | h
  ·exact h
  ·have : x.testBit q = false := Nat.testBit_lt_two_pow (Nat.lt_of_lt_of_le hx (by
    have : 2 ^ 8 ≤ 2 ^ q := Nat.pow_le_pow_right (by decide) h
    have h2 : (2 : Nat) ^ 8 = 256 := by decide
    omega))
   rw [this] at h1; cases h1
 rw [setL_Qs] at hq
 have hw1 : IntKind.i64.wrap ((Qs x).length : Int) = ((Qs x).length : Int) := IntWalk.i64_in _ (by omega)
 have HX := Lib.hid (And.intro hor (And.intro hpw hxq))
 generalize Qs x = Q at *
 have hG : w.grownBy w (some r) := World.grownBy.refl _ _
 clear hor hpw hqlt hll hxq
 go_enter Tryz.func138, Tryz.ntmps138
 go_upto_region 3 with (go_at_call 37; refine (rdByte r Q.length _ _ hq (by omega)).mono ?_; rintro e w1 ⟨rfl, hq1, hg1⟩)
 replace hG := grownBy_trans hG hg1
 have HST := Lib.hid (And.intro hq1 hG)
 clear hq hq1 hG hg1
 go_loopw [6, 11] (fun SE I wr => ∃ j : Nat, I = .int .i64 (j : Int) ∧ SE = .int .u64 (orL (Q.take j) : Nat) ∧ j ≤ Q.length ∧ RQ wr r (numsB ((Q.map (· + 0)).drop j) ++ R) ∧ w.grownBy wr (some r)) (fun _ I _ => Q.length - (intOf I).toNat)
 case atStart => exact ⟨0, rfl, rfl, Nat.zero_le _, HST.out.1, HST.out.2⟩
 case round =>
  clear HST
  obtain ⟨j, rfl, rfl, hj, hq, hG⟩ := hrel
  by_cases hlt : j < Q.length
  ·have ij : (j : Int) < (Q.length : Int) := by omega
   rw [nums_cons (by rw [List.length_map]; exact hlt)] at hq
   have hpt := pw_take HX.out.2.1 hlt
   have hqm := HX.out.2.2 Q[j] (List.getElem_mem hlt)
   have htk : orL (Q.take (j + 1)) = orL (Q.take j) ||| 2 ^ Q[j] := by rw [List.take_succ_eq_append_getElem hlt, orL_snoc]
   have hol := orL_lt (Q.take j) Q[j] hpt
   rw [List.getElem_map] at hq
   generalize Q[j] = q at *
   have hbv : bitB ((q + 0 : Nat) : Int) 0 8 = 2 ^ q := by
    rw [bitB_in _ 0 8 (by omega) (by omega)]
    congr 1
    try omega
   have hp64 : 2 ^ q < 18446744073709551616 := by
    have : 2 ^ q ≤ 2 ^ 63 := Nat.pow_le_pow_right (by decide) (by omega)
    have h2 : (2 : Nat) ^ 63 = 9223372036854775808 := by decide
    omega
   have HB := Lib.hid (fun w => versionBit_any ((q + 0 : Nat) : Int) (by omega) w)
   rw [hbv] at HB
   have hor2 := u64_or_nat (orL (Q.take j)) (2 ^ q) (by omega) hp64
   have HTK := Lib.hid htk
   obtain ⟨v, hv⟩ : ∃ v, q + 0 = v := ⟨_, rfl⟩
   rw [hv] at hq HB
   have hv256 : v < 256 := by omega
   have hwv : IntKind.i64.wrap (v : Int) = (v : Int) := IntWalk.i64_in _ (by omega)
   clear hpt htk hbv hv
   generalize 2 ^ q = P at *
   generalize orL (Q.take j) = O at *
   have hle : ¬ (P : Int) ≤ (O : Int) := by omega
   have hleN : ¬ P ≤ O := by omega
   go_upto_region 4 with (fail)
   refine wp_region_lit ?_
   iterate 2 (refine wpList_plain rfl (fun K hK => ?_); go_simp; with_reducible refine hK _ _ ?_; clear hK K)
   refine wpList_plain rfl (fun K hK => ?_)
   go_simp
   refine (rdByte r v _ _ hq (by omega)).mono ?_
   rintro e w1 ⟨rfl, hq1, hg1⟩
   with_reducible refine hK _ _ ?_
   clear hK K
   replace hG := grownBy_trans hG hg1
   clear hg1
   generalize hWW : w1 = W1 at *
   clear hWW
   refine wpList_plain rfl (fun K hK => ?_); go_simp; with_reducible refine hK _ _ ?_; clear hK K
   refine wpList_plain rfl (fun K hK => ?_)
   go_simp
   refine (HB.out _).mono ?_
   rintro en w1 ⟨rfl, rfl⟩
   with_reducible refine hK _ _ ?_
   clear hK K
   refine wpList_plain rfl (fun K hK => ?_); go_simp; with_reducible refine hK _ _ ?_; clear hK K
   go_upto_region 5 with (fail)
   refine wp_region_lit ?_
   refine wpList_plain rfl (fun K hK => ?_); go_simp; with_reducible refine hK _ _ ?_; clear hK K
   refine wpList_plain rfl (fun K hK => ?_)
   go_simp
   refine (rdBad r _ _ hq1).mono ?_
   rintro e w1 ⟨rfl, rfl⟩
   with_reducible refine hK _ _ ?_
   clear hK K
   refine wpList_plain rfl (fun K hK => ?_); go_simp; with_reducible refine hK _ _ ?_; clear hK K
   iterate 3 (refine wpList_step (fun K hK => ?_); go_simp; with_reducible refine hK _ _ ?_; clear hK K)
   refine wpList_plain rfl (fun K hK => ?_); go_simp; with_reducible refine hK _ _ ?_; clear hK K
   have HH := Lib.hid (And.intro hq1 hG)
   clear hq hq1 hG
   go_wp2
   exact ⟨⟨j + 1, by go_num, by rw [HTK.out], by omega, HH.out.1, HH.out.2⟩, by simp [intOf]; omega⟩
  ·obtain rfl : j = Q.length := by omega
   have ij : ¬ (Q.length : Int) < (Q.length : Int) := by omega
   rw [List.take_of_length_le (Nat.le_refl _), HX.out.1]
   rw [List.drop_of_length_le (by rw [List.length_map]; exact Nat.le_refl _)] at hq
   clear hj
   go_wp2_with (go_at_call 35; refine (rdBad r _ _ hq).mono ?_; rintro e w1 ⟨rfl, rfl⟩)
   go_ret2
   exact ⟨rfl, hq, hG⟩
theorem stkParse_ok (S : Stk) (hok : StkOk S) (A : Option Addr) (n c : Nat) (w : World) (hb : Rb w A n c (stkB S)) : Calls Tryz.prog 86 #[.slice A n c] w fun e w' => ∃ T, e = .returned (.tuple #[.pointer (some ⟨T, 0, none⟩), .int .i64 0]) ∧ w.heap.size ≤ T ∧ Below w.heap.size w w' ∧ Bk w' T 209 (stkC S) := by
 obtain ⟨dvl, vl1, vl2⟩ := rowLev
 have hlS := stkB_len hok
 have hn7 : n ≤ 700 := by have := hb.1; omega
 have h8 := hok.len
 have HSB := Lib.hid (show stkB S = dig S.lv.length 1 ++ (levsB S.lv ++ (setB (setL S.ev 1) ++ (setB (setL S.bz 0) ++ []))) by unfold stkB; simp [List.append_assoc])
 go_enter Tryz.func86, Tryz.ntmps86
 go_upto_region 1 with (fail)
 refine wp_region_lit ?_
 refine wpList_plain rfl (fun K hK => ?_); go_simp; with_reducible refine hK _ _ ?_; clear hK K
 refine wpList_plain rfl (fun K hK => ?_)
 go_simp
 refine (readT A n c _ w hb (by omega)).mono ?_
 rintro e w1 ⟨r, bs1, d1, rfl, rfl, hr0, hq⟩
 with_reducible refine hK _ _ ?_
 clear hK K
 have be := below_plus w bs1 d1
 generalize plus w bs1 d1 = V at *
 refine wpList_plain rfl (fun K hK => ?_); go_simp; with_reducible refine hK _ _ ?_; clear hK K
 have hq1 : RQ V r (dig S.lv.length 1 ++ (levsB S.lv ++ (setB (setL S.ev 1) ++ (setB (setL S.bz 0) ++ [])))) := ⟨by rw [← HSB.out]; exact hq, by rw [← HSB.out]; omega⟩
 have hrV := hq1.lt
 clear hq
 go_upto_region 2 with (fail)
 refine wp_region_lit ?_
 refine wpList_build 209 [] rfl rfl (.agg (stkC stk0).toArray) (by kernel_rfl) ?_
 iterate 2 (refine wpList_plain rfl (fun K hK => ?_); go_simp; with_reducible refine hK _ _ ?_; clear hK K)
 have hT : Bk (V.alloc (.cells (stkC stk0).toArray 209)) V.heap.size 209 (stkC stk0) := Bk.new V 209 (stkC stk0).toArray
 have hq2 := hq1.later (Below.allocS (Below.refl _ _) (.cells (stkC stk0).toArray 209))
 have hTw := be.size
 replace be := Below.allocS be (.cells (stkC stk0).toArray 209)
 clear hq1
 generalize V.alloc (.cells (stkC stk0).toArray 209) = V2 at *
 generalize V.heap.size = T at *
 have HRL := Lib.hid (fun w h1 h2 => readLevels_ok S hok r T hrV (setB (setL S.ev 1) ++ (setB (setL S.bz 0) ++ [])) w h1 h2)
 have HR1 := Lib.hid (fun w h => readSet_ev S.ev hok.ev r (setB (setL S.bz 0) ++ []) w h)
 have HR2 := Lib.hid (fun w h => readSet_bz S.bz hok.bz r [] w h)
 go_upto_region 3 with (fail)
 refine wp_region_lit ?_
 iterate 2 (refine wpList_plain rfl (fun K hK => ?_); go_simp; with_reducible refine hK _ _ ?_; clear hK K)
 refine wpList_plain rfl (fun K hK => ?_)
 go_simp
 refine (HRL.out _ hq2 hT).mono ?_
 rintro e w1 ⟨rfl, hq3, hT2, hc3⟩
 with_reducible refine hK _ _ ?_
 clear hK K
 refine wpList_plain rfl (fun K hK => ?_); go_simp; with_reducible refine hK _ _ ?_; clear hK K
 replace be := be.trans (hc3.below (fun b hb => by rcases hb with hb | hb <;> omega) be.size)
 clear hT hc3 HRL hq2
 go_upto_region 6 with (fail)
 refine wp_region_lit ?_
 iterate 2 (refine wpList_plain rfl (fun K hK => ?_); go_simp; with_reducible refine hK _ _ ?_; clear hK K)
 refine wpList_plain rfl (fun K hK => ?_)
 go_simp
 refine (HR1.out _ hq3).mono ?_
 rintro e w1 ⟨rfl, hq4, hg1⟩
 with_reducible refine hK _ _ ?_
 clear hK K
 replace hT2 := hT2.grown hg1 (fun e => by injection e with e; omega)
 replace be := below_grown be hg1 (by omega)
 clear hg1
 generalize hWW : w1 = X1 at *
 clear hWW
 iterate 5 (refine wpList_plain rfl (fun K hK => ?_); go_simp; with_reducible refine hK _ _ ?_; clear hK K)
 refine wpList_st1 (t := 209) (off := 1041) 28 (.tmp 24) (.tmp 21) rfl rfl rfl rfl hT2 (by rw [stkC_len]; omega) rfl (by kernel_rfl) ?_
 intro W4 h4 g4
 refine wpList_plain rfl (fun K hK => ?_); go_simp; with_reducible refine hK _ _ ?_; clear hK K
 replace hq4 := hq4.far g4 hrV
 replace be := below_grown be g4 hTw
 have hT3 : Bk W4 T 209 (stkC ⟨S.lv, S.ev, 0⟩) := by
  have := stkC_setEv ⟨S.lv, 0, 0⟩ S.ev
  rw [← this]
  exact h4
 clear h4 g4 hT2 HR1
 go_upto_region 9 with (fail)
 refine wp_region_lit ?_
 iterate 2 (refine wpList_plain rfl (fun K hK => ?_); go_simp; with_reducible refine hK _ _ ?_; clear hK K)
 refine wpList_plain rfl (fun K hK => ?_)
 go_simp
 refine (HR2.out _ hq4).mono ?_
 rintro e w1 ⟨rfl, hq5, hg1⟩
 with_reducible refine hK _ _ ?_
 clear hK K
 replace hT3 := hT3.grown hg1 (fun e => by injection e with e; omega)
 replace be := below_grown be hg1 (by omega)
 clear hg1
 generalize hWW : w1 = X2 at *
 clear hWW
 iterate 5 (refine wpList_plain rfl (fun K hK => ?_); go_simp; with_reducible refine hK _ _ ?_; clear hK K)
 refine wpList_st1 (t := 209) (off := 1042) 28 (.tmp 34) (.tmp 31) rfl rfl rfl rfl hT3 (by rw [stkC_len]; omega) rfl (by kernel_rfl) ?_
 intro W5 h5 g5
 refine wpList_plain rfl (fun K hK => ?_); go_simp; with_reducible refine hK _ _ ?_; clear hK K
 replace hq5 := hq5.far g5 hrV
 replace be := below_grown be g5 hTw
 have hT4 : Bk W5 T 209 (stkC S) := by
  have := stkC_setBz ⟨S.lv, S.ev, 0⟩ S.bz
  have h6 : stkC S = stkC { (⟨S.lv, S.ev, 0⟩ : Stk) with bz := S.bz } := rfl
  rw [h6, ← this]
  exact h5
 clear h5 g5 hT3 HR2 hq4
 have HAL := Lib.hid (fun w h => all_any S h8 T w h)
 go_upto_region 13 with (go_at_call 132; refine (HAL.out _ hT4).mono ?_; rintro e w1 ⟨bs2, d2, rfl, rfl⟩)
 have hb1 := below_plus W5 bs2 d2
 replace hT4 := hT4.later hb1
 replace hq5 := hq5.later hb1
 replace be := be.trans (hb1.mono be.size)
 clear hb1 HAL
 generalize plus W5 bs2 d2 = W6 at *
 have HST := Lib.hid (And.intro hT4 (And.intro hq5 be))
 clear hT4 hq5 be
 go_loopw [40] (fun I wr => ∃ j : Nat, I = .int .i64 (j : Int) ∧ j ≤ S.lv.length ∧ Bk wr T 209 (stkC S) ∧ RQ wr r [] ∧ Below w.heap.size w wr) (fun I _ => S.lv.length - (intOf I).toNat)
 case atStart => exact ⟨0, rfl, Nat.zero_le _, HST.out.1, HST.out.2.1, HST.out.2.2⟩
 case round =>
  clear HST
  obtain ⟨j, rfl, hj, hT4, hq, be⟩ := hrel
  by_cases hlt : j < S.lv.length
  ·have ij : (j : Int) < (S.lv.length : Int) := by omega
   have ij8 : (j : Int) < 8 := by omega
   have hp := stkC_part S j hlt (by omega)
   have hmem := hok.rg S.lv[j] (List.getElem_mem hlt)
   have hbl := hok.bl S.lv[j] (List.getElem_mem hlt)
   generalize S.lv[j] = e0 at *
   have HVB := Lib.hid (fun w => versionBit_any (e0.1 : Int) (by omega) w)
   have hbz64 : S.bz < 18446744073709551616 := by have := hok.bz; omega
   have hand := u64_and_nat S.bz (bitB (e0.1 : Int) 0 8) hbz64 (bitB_lt _ _ _ (by decide))
   have hz := hasB_and S.bz (e0.1 : Int) 0 8
   have hh : hasB S.bz (e0.1 : Int) 0 8 = false := by
    unfold hasB
    rw [show ((e0.1 : Int) - ((0 : Nat) : Int)).toNat = e0.1 by omega, hbl]; simp
   rw [hh] at hz
   have hz2 : (((S.bz &&& bitB (e0.1 : Int) 0 8 : Nat) : Int) != 0) = false := by
    have : (((S.bz &&& bitB (e0.1 : Int) 0 8 : Nat) : Int) == 0) = true := hz
    simp only [bne, this, Bool.not_true]
   clear hmem hbl hz hh
   generalize S.bz &&& bitB (e0.1 : Int) 0 8 = Z at *
   generalize bitB (e0.1 : Int) 0 8 = BB at *
   go_upto_region 14 with (fail)
   refine wp_region_lit ?_
   refine wpList_plain rfl (fun K hK => ?_); go_simp; with_reducible refine hK _ _ ?_; clear hK K
   refine wpList_ldA (t := 209) (off := 1 + j * 130) 206 (.tmp 42) rfl rfl (levC e0) rfl hT4 hp vl1 vl2 (szLev _) ?_
   refine wpList_plain rfl (fun K hK => ?_); go_simp; with_reducible refine hK _ _ ?_; clear hK K
   refine wpList_stA (t := 206) 206 (.tmp 8) (.tmp 43) rfl rfl (levC e0) (levC (0, [])) (by rw [levC_len, levC_len]) (levC_one _) rfl rfl (Bk.new _ _ _) (szLev _) ?_
   intro W6 h6 g6
   simp only [Act.put, qsT, qsZ, qsS]
   have be4 : Below wr.heap.size wr W6 := below_grown (Below.allocS (Below.refl _ _) _) g6 (Nat.le_refl _)
   have hL : Bk W6 wr.heap.size 206 (levC e0) := h6
   replace hT4 := hT4.later be4
   replace hq := hq.later be4
   replace be := be.trans (be4.mono be.size)
   clear be4 h6 g6 hp
   generalize wr.heap.size = gl at *
   go_upto_region 15 with (fail)
   refine wp_relS 9 62 rfl (by kernel_rfl) (by kernel_rfl) ?_
   apply Steps.o1 (MP.eq _) 1 rfl rfl
   ·intro FA x hO hD K hK
    have e5 := hO 5 (by kernel_rfl)
    simp only [eval_tmp, qgT, qgS, qgZ, qoS] at e5
    have ev5 := Lib.hid ((eval_tmp FA 5).trans e5)
    clear hO hD
    go_simp
    exact hK.out _ _ (Ex.refl _) rfl
   apply Steps.o1 (MP.eq _) 2 rfl rfl
   ·intro FA x hO hD K hK
    obtain ⟨e44, ev44⟩ := qE (hD 0 44 (by kernel_rfl))
    clear hO hD
    go_simp
    exact hK.out _ _ (Ex.refl _) rfl
   apply Steps.o1 (MP.eq _) 3 rfl rfl
   ·intro FA x hO hD K hK
    obtain ⟨e45, ev45⟩ := qE (hD 1 45 (by kernel_rfl))
    clear hO hD
    go_simp
    exact hK.out _ _ (Ex.refl _) rfl
   apply Steps.o1 (MP.eq _) 4 rfl rfl
   ·intro FA x hO hD K hK
    obtain ⟨e46, ev46⟩ := qE (hD 2 46 (by kernel_rfl))
    clear hO hD
    refine wanted_if rfl ?_
    refine wp_ld1 28 (.tmp 46) rfl ev46.out (hT4.later (below_plus _ _ _)) (stkC_bz S) Tryz.underlying28 rfl ?_
    exact hK.out _ _ (Ex.refl _) rfl
   apply Steps.o1 (MP.eq _) 5 rfl rfl
   ·intro FA x hO hD K hK
    have e8 := hO 8 (by kernel_rfl)
    simp only [eval_tmp, qgT, qgS, qgZ, qoS] at e8
    have ev8 := Lib.hid ((eval_tmp FA 8).trans e8)
    clear hO hD
    go_simp
    exact hK.out _ _ (Ex.refl _) rfl
   apply Steps.o1 (MP.eq _) 6 rfl rfl
   ·intro FA x hO hD K hK
    obtain ⟨e48, ev48⟩ := qE (hD 4 48 (by kernel_rfl))
    clear hO hD
    refine wanted_if rfl ?_
    refine wp_ld1 3 (.tmp 48) rfl ev48.out (hL.later (below_plus _ _ _)) rfl Tryz.underlying3 rfl ?_
    exact hK.out _ _ (Ex.refl _) rfl
   apply Steps.o1 (MP.eq _) 7 rfl rfl
   ·intro FA x hO hD K hK
    obtain ⟨e49, ev49⟩ := qE (hD 5 49 (by kernel_rfl))
    clear hO hD
    go_simp
    refine (HVB.out _).mono ?_
    rintro e w1 ⟨rfl, rfl⟩
    exact hK.out _ _ (Ex.refl _) rfl
   apply Steps.o1 (MP.eq _) 8 rfl rfl
   ·intro FA x hO hD K hK
    obtain ⟨e47, ev47⟩ := qE (hD 3 47 (by kernel_rfl))
    obtain ⟨e50, ev50⟩ := qE (hD 6 50 (by kernel_rfl))
    clear hO hD
    go_simp
    exact hK.out _ _ (Ex.refl _) rfl
   apply Steps.o1 (MP.eq _) 9 rfl rfl
   ·intro FA x hO hD K hK
    obtain ⟨e51, ev51⟩ := qE (hD 7 51 (by kernel_rfl))
    clear hO hD
    go_simp
    exact hK.out _ _ (Ex.refl _) rfl
   refine Steps.fin_ (fun vs x hp => ?_)
   have p0 : vs 0 = _ := hp 0 (by omega)
   have p1 : vs 1 = _ := hp 1 (by omega)
   have p2 : vs 2 = _ := hp 2 (by omega)
   have p3 : vs 3 = _ := hp 3 (by omega)
   have p4 : vs 4 = _ := hp 4 (by omega)
   have p5 : vs 5 = _ := hp 5 (by omega)
   have p6 : vs 6 = _ := hp 6 (by omega)
   have p7 : vs 7 = _ := hp 7 (by omega)
   have p8 : vs 8 = _ := hp 8 (by omega)
   clear hp
   simp only [List.take_succ_cons, List.take_zero, List.drop_succ_cons, List.drop_zero, putAll, Nat.zero_add, Nat.reduceAdd, Act.put, qsT, qsZ, qsS, p0, p1, p2, p3, p4, p5, p6, p7, p8]
   clear p0 p1 p2 p3 p4 p5 p6 p7 p8
   clear vs
   have hb1 := below_plus W6 x.bs x.d
   have HH := Lib.hid (And.intro (hT4.later hb1) (And.intro (hq.later hb1) (be.trans (hb1.mono be.size))))
   clear hT4 hq be hb1 hL
   generalize plus W6 x.bs x.d = W7 at *
   go_wp2
   exact ⟨⟨j + 1, by go_num, by omega, HH.out.1, HH.out.2.1, HH.out.2.2⟩, by simp [intOf]; omega⟩
  ·obtain rfl : j = S.lv.length := by omega
   have ij : ¬ (S.lv.length : Int) < (S.lv.length : Int) := by omega
   clear hj
   go_wp2_with (first | (go_at_call 35; refine (rdBad r _ _ hq).mono ?_; rintro e w1 ⟨rfl, rfl⟩) | (go_at_call 39; refine (rdLeft r _ _ hq).mono ?_; rintro e w1 ⟨rfl, rfl⟩))
   go_ret2
   exact ⟨T, rfl, hTw, be, hT4⟩
end

section
open Go.RowKit Go.Lib
def k16z : List UInt8 := List.replicate 16 0
def bkT (C : Cf) (m : Nat) : List (Option Adr) := (List.range 65).map fun i => if i ≤ m then C.bk.getD i none else none
theorem bkT_len (C : Cf) (m : Nat) : (bkT C m).length = 65 := by simp [bkT]
theorem bkT_at (C : Cf) (m i : Nat) : (bkT C m).getD i none = if i < 65 ∧ i ≤ m then C.bk.getD i none else none := by
 unfold bkT
 rw [List.getD_eq_getElem?_getD, List.getElem?_map]
 by_cases h : i < 65
 ·rw [List.getElem?_range h]
  simp [h]
 ·rw [List.getElem?_eq_none (by simp; omega)]
  simp [h]
theorem bkT_all (C : Cf) (hl : C.bk.length = 65) : bkT C 64 = C.bk := by
 apply List.ext_getElem
 ·rw [bkT_len, hl]
 ·intro i h1 h2
  have h3 := bkT_at C 64 i
  rw [List.getD_eq_getElem?_getD, List.getElem?_eq_getElem h1, Option.getD_some] at h3
  rw [h3, if_pos (by omega), List.getD_eq_getElem?_getD, List.getElem?_eq_getElem h2, Option.getD_some]
theorem bkT_0 (C : Cf) (h0 : C.bk.getD 0 none = none) : bkT C 0 = List.replicate 65 none := by
 apply List.ext_getElem
 ·simp [bkT_len]
 ·intro i h1 h2
  have h3 := bkT_at C 0 i
  rw [List.getD_eq_getElem?_getD, List.getElem?_eq_getElem h1, Option.getD_some] at h3
  rw [h3, List.getElem_replicate]
  split
  ·rename_i h; rw [show i = 0 by omega]; exact h0
  ·rfl
theorem bkT_set (C : Cf) (m k : Nat) (a : Adr) (hm : m < k) (hk : k ≤ 64) (ha : C.bk.getD k none = some a) (hno : ∀ i, m < i → i < k → C.bk.getD i none = none) : (bkT C m).set k (some a) = bkT C k := by
 apply List.ext_getElem
 ·simp [bkT_len]
 ·intro i h1 h2
  rw [List.getElem_set]
  have hi : i < 65 := by rw [bkT_len] at h2; exact h2
  have h3 := bkT_at C k i
  rw [List.getD_eq_getElem?_getD, List.getElem?_eq_getElem h2, Option.getD_some] at h3
  rw [h3]
  split
  ·rename_i e; subst e; rw [if_pos ⟨hi, Nat.le_refl _⟩]; exact ha.symm
  ·rename_i e
   have h4 := bkT_at C m i
   rw [List.getD_eq_getElem?_getD, List.getElem?_eq_getElem (by rw [bkT_len]; exact hi), Option.getD_some] at h4
   rw [h4]
   by_cases him : i ≤ m
   ·rw [if_pos ⟨hi, him⟩, if_pos ⟨hi, by omega⟩]
   ·rw [if_neg (fun h => him h.2)]
    by_cases hik : i ≤ k
    ·rw [if_pos ⟨hi, hik⟩]
     exact (hno i (by omega) (by omega)).symm
    ·rw [if_neg (fun h => hik h.2)]
def cB (C : Cf) (m N : Nat) : Cf := ⟨N, k16z, 0, bkT C m, []⟩
def cV (C : Cf) (i N : Nat) : Cf := ⟨N, k16z, 0, C.bk, C.vs.take i⟩
theorem cB_ok {C : Cf} (h : CfOk C) (m N : Nat) (hN : N < 18446744073709551616) : CfOk (cB C m N) := by
 refine ⟨hN, by simp [cB], by simp [cB, k16z], bkT_len C m, ?_, ?_, by simp [cB], by simp [cB], ?_, by simp [cB]⟩
 ·show (bkT C m).getD 0 none = none
  rw [bkT_at]; split
  ·exact h.b0
  ·rfl
 ·intro i a ha
  have ha : (bkT C m).getD i none = some a := ha
  rw [bkT_at] at ha
  split at ha
  ·exact h.bk i a ha
  ·cases ha
 ·intro n hn
  have := (hasB_rg hn).2.2
  simp [cB, ev0] at this
theorem cV_ev {C : Cf} (h : CfOk C) (i N : Nat) (hi : 0 < i) : ev0 (cV C i N) = ev0 C := by
 unfold ev0 cV
 cases hc : C.vs with
 | nil => simp
 | cons a t =>
  obtain ⟨j, rfl⟩ : ∃ j, i = j + 1 := ⟨i - 1, by omega⟩
  simp
theorem cV_ok {C : Cf} (h : CfOk C) (i N : Nat) (hN : N < 18446744073709551616) : CfOk (cV C i N) := by
 have hev : ∀ v ∈ (cV C i N).vs, v.S.ev = ev0 (cV C i N) := by
  intro v hv
  have hv2 : v ∈ C.vs.take i := hv
  rcases Nat.eq_zero_or_pos i with h0 | h0
  ·subst h0; simp at hv2
  ·rw [cV_ev h i N h0]
   exact (h.vs v (List.mem_of_mem_take hv2)).ev
 refine ⟨hN, by simp [cV], by simp [cV, k16z], h.bl, h.b0, h.bk, ?_, ?_, ?_, ?_⟩
 ·show (C.vs.take i).length ≤ 16
  rw [List.length_take]; have := h.vl; omega
 ·intro v hv
  have hv2 : v ∈ C.vs.take i := hv
  have hvo := h.vs v (List.mem_of_mem_take hv2)
  exact ⟨hvo.ad, hvo.pt, hvo.pr, hvo.wy, okM_congr (C := C) (fun n hn => hn) hvo.ms, hvo.st, hev v hv⟩
 ·intro n hn
  rcases Nat.eq_zero_or_pos i with h0 | h0
  ·subst h0
   have := (hasB_rg hn).2.2
   simp [cV, ev0] at this
  ·rw [cV_ev h i N h0] at hn
   exact h.kn n hn
 ·exact h.nd.sublist (List.take_sublist _ _)
def bksR (C : Cf) : Nat → List UInt8
 | 0 => []
 | d + 1 => bkB C (64 - d) ++ bksR C d
theorem bks_split (C : Cf) : ∀ d, d ≤ 64 → bksI C (64 - d) ++ bksR C d = bksI C 64
 | 0, _ => by simp [bksR]
 | d + 1, h => by
  have ih := bks_split C d (by omega)
  have e : bksI C (64 - d) = bksI C (64 - (d + 1)) ++ bkB C (64 - d) := by
   obtain ⟨q, hq⟩ : ∃ q, 64 - d = q + 1 := ⟨64 - d - 1, by omega⟩
   rw [hq, show 64 - (d + 1) = q by omega]
   rfl
  rw [e] at ih
  rw [← ih, bksR, List.append_assoc]
theorem bks_R (C : Cf) : bksR C 64 = bksI C 64 := by
 have := bks_split C 64 (Nat.le_refl _)
 simpa [bksI] using this
theorem bks_next (C : Cf) : ∀ d, d ≤ 64 → ((∀ i, 64 - d < i → i ≤ 64 → C.bk.getD i none = none) ∧ bksR C d = []) ∨
  ∃ k a, 64 - d < k ∧ k ≤ 64 ∧ C.bk.getD k none = some a ∧ (∀ i, 64 - d < i → i < k → C.bk.getD i none = none) ∧ bksR C d = dig k 1 ++ (placeB a.1 a.2.1 a.2.2 ++ bksR C (64 - k))
 | 0, _ => .inl ⟨fun i h1 h2 => by omega, rfl⟩
 | d + 1, h => by
  cases hq : C.bk.getD (64 - d) none with
  | some a =>
   refine .inr ⟨64 - d, a, by omega, by omega, hq, fun i h1 h2 => by omega, ?_⟩
   rw [bksR, show 64 - (64 - d) = d by omega]
   unfold bkB
   rw [hq, List.append_assoc]
  | none =>
   have e : bksR C (d + 1) = bksR C d := by rw [bksR]; unfold bkB; rw [hq]; rfl
   rw [e]
   have hne : ∀ i, 64 - (d + 1) < i → i ≤ 64 - d → C.bk.getD i none = none := fun i h1 h2 => by
    rw [show i = 64 - d by omega]; exact hq
   rcases bks_next C d (by omega) with ⟨h1, h2⟩ | ⟨k, a, h1, h2, h3, h4, h5⟩
   ·exact .inl ⟨fun i h3 h4 => by
     by_cases h5 : i ≤ 64 - d
     ·exact hne i h3 h5
     ·exact h1 i (by omega) h4, h2⟩
   ·exact .inr ⟨k, a, by omega, h2, h3, fun i h6 h7 => by
     by_cases h8 : i ≤ 64 - d
     ·exact hne i h6 h8
     ·exact h4 i (by omega) h7, h5⟩
theorem vips_cons {L : List Vp} {j : Nat} (h : j < L.length) (R : List UInt8) : vipsB (L.drop j) ++ R = vipB L[j] ++ (vipsB (L.drop (j + 1)) ++ R) := by
 rw [List.drop_eq_getElem_cons h]
 unfold vipsB
 rw [List.flatMap_cons, List.append_assoc]
def PS (F : Nat → Prop) (w : World) (r g : Nat) (C : Cf) (L : List UInt8) : Prop := ∃ G D, CfM G D w g C ∧ (G r ∧ ¬ F r ∧ ∀ b, F b → G b) ∧ (∀ b, D b → r < b ∧ ¬ F b) ∧ RQ w r L
theorem Chg.widen_ {D D' : Nat → Prop} {w w' : World} (h : Chg D w w') (hd : ∀ b, D b → D' b) : Chg D' w w' := ⟨h.os, h.tape, h.output, h.size, fun b hb hn => h.block b hb (fun hD => hn (hd b hD))⟩
theorem PS.lt {F : Nat → Prop} {w : World} {r g : Nat} {C : Cf} {L : List UInt8} (h : PS F w r g C L) : r < w.heap.size := by
 obtain ⟨G, D, _, _, _, h⟩ := h
 exact h.lt
theorem PS.rq {F : Nat → Prop} {w : World} {r g : Nat} {C : Cf} {L : List UInt8} (h : PS F w r g C L) : RQ w r L := by
 obtain ⟨G, D, _, _, _, h⟩ := h
 exact h
theorem PS.later {F : Nat → Prop} {w w' : World} {r g : Nat} {C : Cf} {L : List UInt8} (h : PS F w r g C L) (hb : Below w.heap.size w w') : PS F w' r g C L := by
 obtain ⟨G, D, ⟨A, n, c, E, hX⟩, h1, h2, h3⟩ := h
 exact ⟨G, D, ⟨A, n, c, E, hX.later hb⟩, h1, h2, h3.later hb⟩
theorem PS.rd {F : Nat → Prop} {w w' : World} {r g : Nat} {C : Cf} {L R : List UInt8} (h : PS F w r g C L) (hq : RQ w' r R) (hg : w.grownBy w' (some r)) : PS F w' r g C R := by
 obtain ⟨G, D, ⟨A, n, c, E, hX⟩, h1, h2, h3⟩ := h
 exact ⟨G, D, ⟨A, n, c, E, hX.chg (Chg.one (D := fun b => b = r) hg rfl) (fun b hb => by rw [show b = r from hb]; exact h1.1) (fun b hb hD => by have := (h2 b hD).1; have hb : b = r := hb; omega)⟩, h1, h2, hq⟩
theorem PS.nF {F : Nat → Prop} {w : World} {r g : Nat} {C : Cf} {L : List UInt8} (h : PS F w r g C L) : ¬ F r := by
 obtain ⟨G, D, _, h, _⟩ := h
 exact h.2.1
theorem chgR {F : Nat → Prop} {w w' : World} {r : Nat} (hg : w.grownBy w' (some r)) (hn : ¬ F r) : Chg (fun b => ¬ F b) w w' := Chg.one hg hn
theorem PS.cf {F : Nat → Prop} {w w' : World} {r g : Nat} {C' : Cf} {L : List UInt8} {G D : Nat → Prop} {v : Value} {e : Ending} (h1 : G r ∧ ¬ F r ∧ ∀ b, F b → G b) (h2 : ∀ b, D b → r < b ∧ ¬ F b) (h3 : RQ w r L) (hl : ∀ b, F b → b < w.heap.size) (h : RetCf G D w g C' v e w') : e = .returned v ∧ PS F w' r g C' L ∧ Chg (fun b => ¬ F b) w w' := by
 obtain ⟨rfl, G2, D2, hM, hgr, hc⟩ := h
 exact ⟨rfl, ⟨G2, D2, hM, ⟨hgr.gg r h1.1, h1.2.1, fun b hb => hgr.gg b (h1.2.2 b hb)⟩, fun b hb => (hgr.dn b hb).elim (h2 b) (fun h => ⟨Nat.lt_of_lt_of_le h3.lt h, fun hF => by have := hl b hF; omega⟩), h3.low (hc.below (fun b hb => (h2 b hb).1) h3.lt)⟩, hc.widen_ (fun b hb => (h2 b hb).2)⟩
theorem cB_step {C : Cf} (h : CfOk C) (m k N : Nat) (a : Adr) (hm : m < k) (hk : k ≤ 64) (ha : C.bk.getD k none = some a) (hno : ∀ i, m < i → i < k → C.bk.getD i none = none) :
  chE (cB C m N) ⟨1, 0, k, 0, a.1, a.2.1, a.2.2, 0, 0, 0, []⟩ = 0 ∧ apC (cB C m N) ⟨1, 0, k, 0, a.1, a.2.1, a.2.2, 0, 0, 0, []⟩ = cB C k ((N + 1) % 18446744073709551616) := by
 have hao := h.bk k a ha
 have hn : numB (k : Int) = true := by unfold numB; rw [decide_eq_true (by omega), decide_eq_true (by omega)]; rfl
 have e : chE (cB C m N) ⟨1, 0, k, 0, a.1, a.2.1, a.2.2, 0, 0, 0, []⟩ = 0 := by
  unfold chE
  simp only
  rw [if_pos trivial, if_pos (by rw [hn, hao.1]; rfl)]
 refine ⟨e, ?_⟩
 unfold apC
 rw [if_pos e]
 have e2 : chC (cB C m N) ⟨1, 0, k, 0, a.1, a.2.1, a.2.2, 0, 0, 0, []⟩ = { cB C m N with bk := (bkT C m).set (k : Int).toNat (some (a.1, a.2.1, a.2.2)) } := by unfold chC; exact if_pos rfl
 rw [e2]
 show (⟨(N + 1) % 18446744073709551616, k16z, 0, (bkT C m).set (k : Int).toNat (some (a.1, a.2.1, a.2.2)), []⟩ : Cf) = _
 rw [Int.toNat_natCast, show (a.1, a.2.1, a.2.2) = a from rfl, bkT_set C m k a hm hk ha hno]
 rfl
def opV (v : Vp) : OpR := ⟨2, 0, 0, 0, v.ad.1, v.ad.2.1, v.ad.2.2, v.pt, v.pr, v.wy, []⟩
theorem cV_step {C : Cf} (h : CfOk C) (i N : Nat) (v : Vp) (hi : C.vs[i]? = some v) :
  chE (cV C i N) (opV v) = 0 ∧ apC (cV C i N) (opV v) = { cV C i ((N + 1) % 18446744073709551616) with vs := C.vs.take i ++ [newV (cV C i N) (opV v)] } := by
 obtain ⟨hil, hiv⟩ := List.getElem?_eq_some_iff.1 hi
 have hvo := h.vs v (List.mem_of_getElem? hi)
 have hl : (C.vs.take i).length = i := by rw [List.length_take]; omega
 have hvl := h.vl
 have e : chE (cV C i N) (opV v) = 0 := by
  unfold chE addE opV
  simp only
  rw [if_neg (by decide), if_pos trivial]
  have h1 : (adG v.ad.1 v.ad.2.1 v.ad.2.2 && (decide (v.pr = 6 ∨ v.pr = 17) && wyB v.wy)) = true := by
   rw [hvo.ad.1, decide_eq_true hvo.pr]
   unfold wyB
   rw [decide_eq_true hvo.wy.1, decide_eq_true hvo.wy.2]
   rfl
  rw [if_neg (by rw [h1]; simp)]
  have h2 : ¬ fdC (cV C i N) (v.ad.1, v.ad.2.1, v.ad.2.2) v.pt v.pr < (cV C i N).vs.length := fun hf => by
   have h3 : ∀ (F : Nat) (hF : F < (cV C i N).vs.length), fdC (cV C i N) (v.ad.1, v.ad.2.1, v.ad.2.2) v.pt v.pr = F → eqV (v.ad.1, v.ad.2.1, v.ad.2.2) v.pt v.pr ((cV C i N).vs[F]'hF) = true := fun F hF e => by
    subst e; exact List.findIdx_getElem
   obtain ⟨F, hF⟩ : ∃ F, fdC (cV C i N) (v.ad.1, v.ad.2.1, v.ad.2.2) v.pt v.pr = F := ⟨_, rfl⟩
   rw [hF] at hf
   have hf2 : F < i := by have : (cV C i N).vs.length = i := hl; omega
   have h4 := List.pairwise_iff_getElem.1 h.nd F i (by omega) hil hf2
   rw [hiv] at h4
   apply h4
   have h5 : (cV C i N).vs[F]'hf = C.vs[F]'(by omega) := List.getElem_take
   have h6 := h3 F hf hF
   rw [h5] at h6
   have h6 := of_decide_eq_true h6
   exact h6
  rw [if_neg h2, if_neg (by have : (cV C i N).vs.length = i := hl; omega)]
 refine ⟨e, ?_⟩
 unfold apC
 rw [if_pos e]
 unfold chC upN
 rw [if_neg (by simp [opV]), if_pos (by rfl)]
 rfl
theorem cV_res {C : Cf} (h : CfOk C) (i N N0 : Nat) (v : Vp) (hi : C.vs[i]? = some v) :
  resE { cV C i N with vs := C.vs.take i ++ [newV (cV C i N0) (opV v)] } v.ms (some v.S) = 0 ∧ rsvS { cV C i N with vs := C.vs.take i ++ [newV (cV C i N0) (opV v)] } v.ms v.S = cV C (i + 1) N := by
 obtain ⟨hil, hiv⟩ := List.getElem?_eq_some_iff.1 hi
 have hvo := h.vs v (List.mem_of_getElem? hi)
 have hl : (C.vs.take i).length = i := by rw [List.length_take]; omega
 obtain ⟨X, hX⟩ : ∃ X : Cf, { cV C i N with vs := C.vs.take i ++ [newV (cV C i N0) (opV v)] } = X := ⟨_, rfl⟩
 have hXv : X.vs = C.vs.take i ++ [newV (cV C i N0) (opV v)] := by rw [← hX]
 have hXk : ∀ n, knC X n = knC C n := fun n => by rw [← hX]; rfl
 have hXl : X.vs.length = i + 1 := by rw [hXv, List.length_append, hl]; rfl
 rw [hX]
 have hm : okM X v.ms = true := okM_congr (C := C) (fun n hn => by rw [hXk]; exact hn) hvo.ms
 have hev : 1 < X.vs.length → ev0 X = ev0 C := fun h1 => by
  unfold ev0
  rw [hXv]
  cases hc : C.vs with
  | nil => rw [hc] at hil; simp at hil
  | cons a t =>
   obtain ⟨j, rfl⟩ : ∃ j, i = j + 1 := ⟨i - 1, by omega⟩
   simp
 have e : resE X v.ms (some v.S) = 0 := by
  rw [resE_some X v.ms v.S (by omega), hm, Bool.true_and, if_pos]
  rw [List.all_eq_true]
  intro q hq
  unfold resK
  rw [hXk]
  have h1 : (!deadS v.S ((q + 1 : Nat) : Int) || knC C ((q + 1 : Nat) : Int)) = true := by
   cases hd : deadS v.S ((q + 1 : Nat) : Int)
   ·rfl
   ·have : hasB (ev0 C) ((q + 1 : Nat) : Int) 1 64 = true := by rw [← hvo.ev]; exact hd
    rw [h.kn _ this]; rfl
  rw [h1, Bool.true_and]
  by_cases h2 : X.vs.length ≤ 1
  ·rw [decide_eq_true h2]; rfl
  ·rw [decide_eq_false h2, hev (by omega), ← hvo.ev, Bool.false_or, beq_iff_eq]
   rfl
 refine ⟨e, ?_⟩
 unfold rsvS
 rw [if_pos e]
 unfold resC
 rw [hXl, Nat.add_sub_cancel, hXv, List.getElem?_append_right (by omega), hl, Nat.sub_self, List.getElem?_cons_zero, List.set_append_right _ _ (by omega), hl, Nat.sub_self, List.set_cons_zero]
 rw [← hX]
 unfold cV
 rw [List.take_succ_eq_append_getElem hil, hiv]
 congr 3
end

section
open Go.RowKit
def MP.fullO (base : Nat) (l : List UInt8) : MP := ⟨fun v w => ∃ A n, v = .slice A n n ∧ Ob w base A n n l, fun _ _ _ ⟨A, n, h1, h2⟩ h => ⟨A, n, h1, h2.later h.below⟩⟩
theorem run_appFO {P : Program} (w : World) {ts ty : TypeId} (bt : BT P ts 5) {base : Nat} {A : Option Addr} {n : Nat} {l : List UInt8} (ho : Ob w base A n n l)
  {A2 : Option Addr} {n2 c2 : Nat} {l2 : List UInt8} (hr2 : Rb w A2 n2 c2 l2) (hm : n + n2 ≤ 1099511627776) (hbase : base ≤ w.heap.size) :
  ∃ A' n' c' w', (Builtin.append_ #[ts, ts] ty #[.slice A n n, .slice A2 n2 c2]).run P w = .ok (.slice A' n' c') w' ∧ Ob w' base A' n' c' (l ++ l2) ∧ Ex w w' := by
 obtain ⟨A1, n1, c1, w1, h1, h2, _⟩ := run_app (P := P) w (ty := ty) bt ho hr2 hm hbase
 obtain ⟨A3, n3, c3, w3, h3, _, h4, _⟩ := run_appF (P := P) w (ty := ty) bt ho.rb hr2 hm
 rw [h1] at h3
 injection h3 with e1 e2
 subst e2
 exact ⟨A1, n1, c1, w1, h1, h2, h4⟩
theorem rel_appO {P : Program} {Q : Exit → Act → World → Prop} {w : World} {o : Oper} {a : Act} {K : Act → World → Prop} {ts : TypeId} (bt : BT P ts 5) (s x : Operand) (base : Nat)
  (ho : o.op = .call { callee := .builtin .append, args := #[s, x], argTypes := #[ts, ts] }) {A : Option Addr} {n : Nat} {l : List UInt8} (hs : a.eval s = .slice A n n) (hr : Ob w base A n n l) (hbase : base ≤ w.heap.size)
  {A2 : Option Addr} {n2 c2 : Nat} {l2 : List UInt8} (hx : a.eval x = .slice A2 n2 c2) (hr2 : Rb w A2 n2 c2 l2) (hm : n + n2 ≤ 1099511627776)
  (h : ∀ A' n' c' w', Ex w w' → Ob w' base A' n' c' (l ++ l2) → K (a.put o.dst (.slice A' n' c')) w') : o.wp P a w K Q := by
 obtain ⟨A', n', c', w', hrun, h2, h3⟩ := run_appFO (P := P) w (ty := o.type) bt hr hr2 hm hbase
 unfold Oper.wp execOp
 simp only [ho, resolve, invoke, builtin, Sem.run_bind, Sem.run_pure, Result.andThen_ok, List.map_toArray, List.map_cons, List.map_nil, hs, hx, hrun]
 exact h A' n' c' w' h3 h2
end

section
open Go.RowKit
attribute [local go_sem ↓] sliced_cut
attribute [local go_sem] cutA_zero
set_option maxHeartbeats 2000000 in
set_option maxRecDepth 100000 in
theorem refRingBytes_any (key : List UInt8) (hk : K16 key) (n : Nat) (w : World) (hn : n < 18446744073709551616) : Calls Tryz.prog 41 #[.agg (ringC key n).toArray] w (RetB w (key ++ dig n 8)) := by
 have q := ringC_16 key hk n
 have hrk := ring_rb (w := w) hk n 30
 go_enter Tryz.func41, Tryz.ntmps41
 go_wp2
 refine wp_relE 7 11 [1, 4] rfl (by kernel_rfl) (by kernel_rfl) (fun i => match i with | 0 => MP.fullO (w.heap.size + 1) [] | 1 => MP.eq (.pointer (some ⟨w.heap.size, 0, none⟩)) | 2 => MP.eq (.slice (some ⟨w.heap.size, 0, none⟩) 16 16) | 3 => MP.ob (w.heap.size + 1) key | 4 => MP.eq (.pointer (some ⟨w.heap.size, 16, none⟩)) | 5 => MP.eq (.int .u64 (n : Int)) | 6 => MP.ob (w.heap.size + 1) (dig n 8) | _ => MP.any) ?_ ?_
 ·intro i hi o ho FA x hO hD
  match i, hi, ho, hO, hD with
  | 0, _, ho, hO, hD => 
   obtain rfl := qoi ho
   clear hO hD ho
   rw [if_neg (by decide)]
   intro K hK
   go_simp
   refine hK.out _ _ (Ex.alloc _ _) ⟨_, _, rfl, ?_⟩
   have := Ob.lit (plus (w.alloc (.cells (ringC key n).toArray 30)) x.bs x.d) (base := w.heap.size + 1) (by simp [size_plus]) #[] [] 0 rfl (Nat.zero_le _) rfl
   simpa [size_plus] using this
  | 1, _, ho, hO, hD => 
   obtain rfl := qoi ho
   have ev1 : FA.eval (.tmp 1) = .pointer (some ⟨w.heap.size, 0, none⟩) := hO 1 (by kernel_rfl)
   have e1 : FA.tmps[1]?.getD undef = .pointer (some ⟨w.heap.size, 0, none⟩) := by simpa [Act.eval] using ev1
   replace ev1 := Lib.hid ev1
   clear hO hD ho
   rw [if_pos (by decide)]
   refine ⟨.pointer (some ⟨w.heap.size, 0, none⟩), .inl ⟨by simp [Region.wanted], fun w => ?_⟩, rfl⟩
   go_simp
  | 2, _, ho, hO, hD => 
   obtain rfl := qoi ho
   have ev4 : FA.eval (.tmp 4) = .pointer (some ⟨w.heap.size, 0, none⟩) := hD 1 4 (by kernel_rfl)
   have e4 : FA.tmps[4]?.getD undef = .pointer (some ⟨w.heap.size, 0, none⟩) := by simpa [Act.eval] using ev4
   replace ev4 := Lib.hid ev4
   clear hO hD ho
   rw [if_neg (by decide)]
   intro K hK
   go_simp
   exact hK.out _ _ (Ex.refl _) rfl
  | 3, _, ho, hO, hD => 
   obtain rfl := qoi ho
   have f3 := hD 0 3 (by kernel_rfl)
   generalize eu3 : FA.eval (.tmp 3) = u3 at f3
   have e3 : FA.tmps[3]?.getD undef = u3 := by rw [← eu3]; simp [Act.eval]
   have ev3 := Lib.hid eu3
   clear eu3
   have ev5 : FA.eval (.tmp 5) = .slice (some ⟨w.heap.size, 0, none⟩) 16 16 := hD 2 5 (by kernel_rfl)
   have e5 : FA.tmps[5]?.getD undef = .slice (some ⟨w.heap.size, 0, none⟩) 16 16 := by simpa [Act.eval] using ev5
   replace ev5 := Lib.hid ev5
   clear hO hD ho
   rw [if_neg (by decide)]
   intro K hK
   obtain ⟨A1, n1, rfl, ho1⟩ := f3
   refine wanted_if rfl ?_
   refine rel_appO bt (.tmp 3) (.tmp 5) (w.heap.size + 1) rfl ev3.out ho1 (by simp [size_plus]) ev5.out (hrk.plus_ _ _) (by have := ho1.len; simp at this; omega) ?_
   intro A' n' c' w' hex ho
   exact hK.out _ _ hex ⟨_, _, _, rfl, by simpa using ho⟩
  | 4, _, ho, hO, hD => 
   obtain rfl := qoi ho
   have ev1 : FA.eval (.tmp 1) = .pointer (some ⟨w.heap.size, 0, none⟩) := hO 1 (by kernel_rfl)
   have e1 : FA.tmps[1]?.getD undef = .pointer (some ⟨w.heap.size, 0, none⟩) := by simpa [Act.eval] using ev1
   replace ev1 := Lib.hid ev1
   clear hO hD ho
   rw [if_pos (by decide)]
   refine ⟨.pointer (some ⟨w.heap.size, 16, none⟩), .inl ⟨by simp [Region.wanted], fun w => ?_⟩, rfl⟩
   go_simp
  | 5, _, ho, hO, hD => 
   obtain rfl := qoi ho
   have ev7 : FA.eval (.tmp 7) = .pointer (some ⟨w.heap.size, 16, none⟩) := hD 4 7 (by kernel_rfl)
   have e7 : FA.tmps[7]?.getD undef = .pointer (some ⟨w.heap.size, 16, none⟩) := by simpa [Act.eval] using ev7
   replace ev7 := Lib.hid ev7
   clear hO hD ho
   rw [if_neg (by decide)]
   intro K hK
   go_simp
   exact hK.out _ _ (Ex.refl _) rfl
  | 6, _, ho, hO, hD => 
   obtain rfl := qoi ho
   have ev8 : FA.eval (.tmp 8) = .int .u64 (n : Int) := hD 5 8 (by kernel_rfl)
   have e8 : FA.tmps[8]?.getD undef = .int .u64 (n : Int) := by simpa [Act.eval] using ev8
   replace ev8 := Lib.hid ev8
   clear hO hD ho
   rw [if_neg (by decide)]
   intro K hK
   go_simp
   refine (refBytes_any n 8 _ hn (by omega)).mono ?_
   rintro e w1 ⟨A2, n2, c2, bs2, d2, rfl, rfl, ho2⟩
   exact hK.out _ _ (Ex.plus_ _ _ _) ⟨_, _, _, rfl, ho2.mono (by simp [size_plus])⟩
  | (k + 7), hi, _, _, _ => exact absurd hi (by omega)
 intro vs x hp
 have p0 := hp 0 (by omega)
 have p1 : vs 1 = .pointer (some ⟨w.heap.size, 0, none⟩) := hp 1 (by omega)
 have p2 : vs 2 = .slice (some ⟨w.heap.size, 0, none⟩) 16 16 := hp 2 (by omega)
 have p3 := hp 3 (by omega)
 have p4 : vs 4 = .pointer (some ⟨w.heap.size, 16, none⟩) := hp 4 (by omega)
 have p5 : vs 5 = .int .u64 (n : Int) := hp 5 (by omega)
 have p6 := hp 6 (by omega)
 clear hp
 simp only [List.take_succ_cons, List.take_zero, List.drop_succ_cons, List.drop_zero, putAll, Nat.zero_add, Nat.reduceAdd, Act.put, qsT, qsZ, qsS, p1, p2, p4, p5]
 clear p1 p2 p4 p5
 generalize vs 0 = y0 at *
 generalize vs 3 = y3 at *
 generalize vs 6 = y6 at *
 clear vs
 obtain ⟨A1, n1, c1, rfl, ho1⟩ := p3
 obtain ⟨A2, n2, c2, rfl, ho2⟩ := p6
 have l1 : n1 = 16 := by have := ho1.len; rw [show key.length = 16 from hk] at this; omega
 have l2 : n2 = 8 := by have := ho2.len; simp [dig_length] at this; omega
 go_wp2_with (at_builtin; refine wpList_app bt rfl (.tmp 6) (.tmp 9) rfl rfl ho1 rfl ho2.rb (by omega) (by simp [size_plus]) ?_; intro A3 n3 c3 w3 ho3 hb3 _)
 refine NoPanic.normal ?_
 go_wp2
 go_ret
 refine RetB.mk (ho3.mono (by omega)) ?_
 exact (belowP ((Below.refl _ _).alloc (Nat.le_refl _) _) _ _).trans (hb3.mono (by omega))
set_option maxHeartbeats 2000000 in
set_option maxRecDepth 100000 in
theorem ringParse_24 (A : Option Addr) (c : Nat) (l : List UInt8) (w : World) (h : Rb w A 24 c l) : Calls Tryz.prog 33 #[.slice A 24 c] w (RetV w (.tuple #[.agg (ringC (l.take 16) (num ((l.drop 16).take 8))).toArray, .int .i64 0])) := by
 obtain ⟨dr, v1, v2, v3⟩ := rowRing
 obtain ⟨dk, u1, u2, u3⟩ := rowKey
 have hc := h.2.1
 have hl := h.1
 have hk16 : K16 (l.take 16) := by show (l.take 16).length = 16; rw [List.length_take]; omega
 generalize ex : num ((l.drop 16).take 8) = x
 have HX := Lib.hid ex
 clear ex
 go_enter Tryz.func33, Tryz.ntmps33
 go_upto_region 4 with (go_at_call 31; refine (readK _ _ _ l _ (h.alloc _) (by omega)).mono ?_; rintro e w1 ⟨r, bs1, d1, rfl, rfl, hr1, hR1⟩)
 have hb0 : Bk (plus (w.alloc (.cells ring0.toArray 57)) bs1 d1) w.heap.size 57 ring0 := (Bk.new w 57 ring0.toArray).later (below_plus _ _ _)
 have hrw : w.heap.size < r := by simp at hr1; omega
 go_upto_region 5 with (first
  | (go_at_call 34; refine (bytesG _ r l 0 16 hR1 (by omega) (by omega)).mono ?_; rintro e w2 ⟨A2, n2, c2, rfl, ho2, hR2, hg2⟩; obtain rfl : n2 = 16 := (by have := ho2.len; simp at this; omega); obtain ⟨g2, cap2, hv2, hge2, hlt2⟩ := ho2.2.form (by omega); injection hv2 with hv2 _ hv3; subst hv2; have hcells := ho2.2.cells (g := g2) rfl; have hat := fun W => run_arrayAt (P := Tryz.prog) W 55 5 16 (some ⟨g2, 0, none⟩) 16 cap2 Tryz.underlying55 (Nat.le_refl _))
  | (refine at_op (.load 55 (.tmp 14)) rfl ?_; refine wpList_load_mid rfl 55 (.tmp 14) rfl g2 0 rfl (bcs (l.take 16)) dk (fun j v hj => (by have := hcells j v (by simpa using hj); rwa [add_plain] at this)) u1 u2 (szKey _ hk16) ?_)
  | (refine at_op (.store 55 (.tmp 5) (.tmp 15)) rfl ?_; refine wpList_stA (t := 55) 55 (.tmp 5) (.tmp 15) rfl rfl (bcs (l.take 16)) (bcs key0) (by rw [bcs_length, hk16]; rfl) (bcs_one _) rfl rfl ?_ (szKey _ hk16) ?_; (· exact Bk.newK _ _ _ rfl rfl); intro w4 hb4 hg4))
 have hb5 : Bk w4 w.heap.size 57 ring0 := ((hb0.grown hg2 (by simp; omega)).alloc _).grown hg4 (by have := (hb0.grown hg2 (by simp; omega)).lt; simp; omega)
 have z2 := hg2.size
 have hR4 : Rdr w4 r (l.drop 16) false := by
  obtain ⟨A5, n5, c5, h1, h2, h3, h4⟩ := hR2.later ((Below.refl _ _).alloc (Nat.le_refl _) (.cells (bcs key0).toArray 55))
  have hlt := hR2.lt
  exact ⟨A5, n5, c5, h1.grown hg4 (by simp; omega), h2, h3, h4.grown hg4 (by simp; omega) (fun k hk => by injection hk with hk; omega)⟩
 have bw2 : Below w.heap.size w w2 := (belowP ((Below.refl _ _).alloc (Nat.le_refl _) _) _ _).trans (below_of_grown hg2 (by simp [size_plus]; omega) (fun k hk => by injection hk with hk; omega))
 have bw4 : Below w.heap.size w w4 := (bw2.alloc bw2.size _).trans (below_of_grown hg4 (by have := bw2.size; simp; omega) (fun k hk => by injection hk with hk; have := bw2.size; omega))
 have hgr : g2 < w2.heap.size := hlt2
 have hrg : r < w2.heap.size := hR2.lt
 clear hg4 hg2 hcells ho2 hb0 hR1 hR2 bw2
 generalize w2.heap.size = g at *
 refine wp_st (fun b => b = r) 4 20 2 [2] rfl (by kernel_rfl) (by kernel_rfl) (fun i => match i with | 0 => MC.eq (.agg (bcs (l.take 16)).toArray) | 1 => MC.eq (.pointer (some ⟨r, 0, none⟩)) | 2 => MC.eq (.int .u64 (x : Nat)) | 3 => MC.eq (.agg (ringC (l.take 16) x).toArray) | _ => MC.any) (fun k w => Rdr w r (l.drop (16 + 8 * k)) false) ?_ ?_ ?_ ?_ ?_
 ·exact fun k w w' h h' => h.later h'.below
 ·simpa using hR4
 ·intro i hi o ho hq FA w' hC hO hD K hK
  match i, hi, ho, hq, hO, hD, hK with
  | 0, _, ho, hq, hO, hD, hK => 
   obtain rfl := qoi ho
   clear ho hq
   have ev5 : FA.eval (.tmp 5) = .pointer (some ⟨g, 0, none⟩) := hO 5 (by kernel_rfl)
   have e5 : FA.tmps[5]?.getD undef = .pointer (some ⟨g, 0, none⟩) := by simpa [Act.eval] using ev5
   replace ev5 := Lib.hid ev5
   clear hO hD
   refine wanted_if rfl ?_
   refine wp_load_mid 55 (.tmp 5) rfl g 0 ev5.out (bcs (l.take 16)) dk (Bk.range (hb4.chg hC (by omega))) u1 u2 (szKey _ hk16) ?_
   exact hK.out _ _ (Ex.refl _) rfl
  | 1, _, ho, hq, hO, hD, hK => 
   obtain rfl := qoi ho
   clear ho hq
   have ev4 : FA.eval (.tmp 4) = .pointer (some ⟨r, 0, none⟩) := hO 4 (by kernel_rfl)
   have e4 : FA.tmps[4]?.getD undef = .pointer (some ⟨r, 0, none⟩) := by simpa [Act.eval] using ev4
   replace ev4 := Lib.hid ev4
   clear hO hD
   go_simp
   exact hK.out _ _ (Ex.refl _) rfl
  | 2, _, _, hq, _, _, _ => exact absurd hq (by decide)
  | 3, _, ho, hq, hO, hD, hK => 
   obtain rfl := qoi ho
   clear ho hq
   have ev16 : FA.eval (.tmp 16) = .agg (bcs (l.take 16)).toArray := hD 0 16 (by kernel_rfl)
   have e16 : FA.tmps[16]?.getD undef = .agg (bcs (l.take 16)).toArray := by simpa [Act.eval] using ev16
   replace ev16 := Lib.hid ev16
   have ev18 : FA.eval (.tmp 18) = .int .u64 (x : Nat) := hD 2 18 (by kernel_rfl)
   have e18 : FA.tmps[18]?.getD undef = .int .u64 (x : Nat) := by simpa [Act.eval] using ev18
   replace ev18 := Lib.hid ev18
   clear hO hD
   go_simp
   refine (ringNew_any (l.take 16) hk16 x _).mono ?_
   rintro e w1 ⟨bs2, d2, rfl, rfl⟩
   exact hK.out _ _ (Ex.plus_ _ _ _) rfl
  | (k + 4), hi, _, _, _, _, _ => exact absurd hi (by omega)
 ·intro k i hk o ho FA w' hC hS hO hD K hK
  match k, hk, hS, hK with
  | 0, hk, hS, hK => 
   obtain rfl : 2 = i := Option.some.inj hk
   obtain rfl := qoi ho
   clear ho hk
   have ev17 : FA.eval (.tmp 17) = .pointer (some ⟨r, 0, none⟩) := hD 1 17 (by kernel_rfl)
   have e17 : FA.tmps[17]?.getD undef = .pointer (some ⟨r, 0, none⟩) := by simpa [Act.eval] using ev17
   replace ev17 := Lib.hid ev17
   clear hO hD
   go_simp
   refine (numG _ r l 16 x 8 (by omega) hS (by omega) (by omega) HX.out).mono ?_
   rintro e w1 ⟨rfl, hR5, hg5⟩
   exact hK.out _ _ (Chg.grown hg5 (fun k hk => by injection hk with hk; exact hk.symm)) hR5 rfl
  | (k + 1), hk, _, _ => simp at hk
 intro vs w' hC hS hp
 have p0 : vs 0 = .agg (bcs (l.take 16)).toArray := hp 0 (by omega)
 have p1 : vs 1 = .pointer (some ⟨r, 0, none⟩) := hp 1 (by omega)
 have p2 : vs 2 = .int .u64 (x : Nat) := hp 2 (by omega)
 have p3 : vs 3 = .agg (ringC (l.take 16) x).toArray := hp 3 (by omega)
 clear hp
 simp only [List.take_succ_cons, List.take_zero, List.drop_succ_cons, List.drop_zero, putAll, Nat.zero_add, Nat.reduceAdd, Act.put, qsT, qsZ, qsS, p0, p1, p2, p3]
 clear p0 p1 p2 p3
 clear vs
 go_wp2_with (refine at_op (.store 57 (.tmp 2) (.tmp 19)) rfl ?_; refine wpList_stA (t := 57) 57 (.tmp 2) (.tmp 19) rfl rfl (ringC (l.take 16) x) ring0 (by rw [ringC_length _ hk16]; rfl) (ringC_one _ _) rfl rfl (hb5.chg hC (by omega)) (szRing _ hk16 _) ?_; intro w6 hb6 hg6)
 refine bodyPost_agg2 Tryz.results33 rfl rfl hb6.range v1 v2 (szRing _ hk16 _) rfl (RetV.mk ?_)
 refine below_grown (bw4.trans (hC.below (by intro b hb; omega) bw4.size)) hg6 (Nat.le_refl _)
end

section
open Go.Lib
open Go.RowKit
attribute [local go_sem ↓] sliced_cut
attribute [local go_sem] cutA_zero
theorem rdAddr (r : Nat) (a : Adr) (R : List UInt8) (w : World) (h : RQ w r (placeB a.1 a.2.1 a.2.2 ++ R)) (ha : adOk a) : Calls Tryz.prog 83 #[.pointer (some ⟨r, 0, none⟩)] w (RetQ w r R (.tuple #[.agg (adC a.1 a.2.1 a.2.2).toArray, .bool true])) := by
 have he := adS_place a.1 a.2.1 a.2.2 R ha.1 ha.2.1 ha.2.2
 refine (takeAddr_any r _ w h.1 h.sl).mono ?_
 rintro e w' ⟨six, ah, al, ok, rfl, hg, _, _, hx⟩
 rcases hx with ⟨_, hn⟩ | ⟨rfl, hs, hp⟩
 ·rw [hn] at he; cases he
 ·rw [hs] at he
  injection he with he
  injection he with h1 h2
  injection h1 with h3 h4
  injection h4 with h4 h5
  rw [h2] at hp
  subst h3 h4 h5
  exact ⟨rfl, ⟨hp, by have := h.2; simp at this; omega⟩, hg⟩
theorem rdMembers (r : Nat) (ms : List (Int × Int)) (R : List UInt8) (w : World) (h : RQ w r (membersB ms ++ R)) (h64 : ms.length ≤ 64) (hg : ms.all (fun p => shB p.1 && shB p.2) = true) : Calls Tryz.prog 85 #[.pointer (some ⟨r, 0, none⟩)] w fun e w' => ∃ A n c, e = .returned (.tuple #[.slice A n c, .bool true]) ∧ RQ w' r R ∧ w.grownBy w' (some r) ∧ Os 87 2 w' w.heap.size A n c (prs .i64 ms) := by
 have he := mbS_members ms R h64 hg
 refine (takeMembers_any r _ w h.1 h.sl).mono ?_
 rintro e w' ⟨A, n, c, ok, rfl, hgr, hx⟩
 rcases hx with ⟨_, hn⟩ | ⟨rfl, L, l, hs, hp, ho⟩
 ·rw [hn] at he; cases he
 ·rw [hs] at he
  injection he with he
  injection he with h1 h2
  subst h1 h2
  exact ⟨A, n, c, rfl, ⟨hp, by have := h.2; simp at this; omega⟩, hgr, ho⟩
set_option maxHeartbeats 4000000
set_option maxRecDepth 100000
theorem run_buildBk (k : Int) (six : Bool) (ah al : Nat) (w : World) : (Instr.build 43 #[(0, .int .i64 1), (2, .int .i64 k), (4, .agg (adC six ah al).toArray)]).run Tryz.prog w = .ok (.agg (opC 1 0 k 0 six ah al 0 0 0 none 0 0).toArray) w := by kernel_rfl
theorem opA_ok (v : Nat) (a : Adr) (hv : v ≤ 64) (ha : adOk a) : OpOk ⟨1, 0, v, 0, a.1, a.2.1, a.2.2, 0, 0, 0, []⟩ := by
 refine ⟨?_, ?_, ?_, ?_, ha.2.1, ha.2.2, ?_, ?_, ?_, ?_⟩ <;> simp <;> omega
theorem wpList_buildG {P : Program} {w : World} {ops : Array Oper} {rest : List Oper} {o : Oper} {a : Act} {Q : Exit → Act → World → Prop} (ty : TypeId) (ps : List (Nat × Operand)) (ho : o.op = .build ty ps.toArray) (hw : Region.wanted o (yielded ops a.tmps) = true) (v : Value)
  (hv : (Instr.build ty (ps.map fun p => (p.1, a.eval p.2)).toArray).run P w = .ok v w) (h : wpList P ops Q rest (a.put o.dst v) w) : wpList P ops Q (o :: rest) a w := by
 unfold wpList
 rw [if_pos hw]
 refine .inl ?_
 unfold Oper.wp execOp
 simp only [ho, Sem.run_bind, List.map_toArray, hv, Result.andThen_ok, Sem.run_pure]
 exact h
theorem takeBackends_ok (C : Cf) (hC : CfOk C) {F : Nat → Prop} (r g : Nat) (R : List UInt8) (w : World) (hP : PS F w r g (cB C 0 0) (bksI C 64 ++ (dig 0 1 ++ R))) : Calls Tryz.prog 36 #[.pointer (some ⟨r, 0, none⟩), .pointer (some ⟨g, 0, none⟩)] w fun e w' => e = .returned (.bool true) ∧ (∃ N, N < 18446744073709551616 ∧ PS F w' r g (cV C 0 N) R) ∧ Chg (fun b => ¬ F b) w w' := by
 obtain ⟨da, va1, va2⟩ := rowAdC
 have hrw := hP.lt
 have hB : Chg (fun b => ¬ F b) w w := Chg.refl _
 have hPn := hP.nF
 rw [← bks_R] at hP
 have HNX : Hid (∀ m, m ≤ 64 → ∃ v : Nat, v ≤ 64 ∧ ∃ L, bksR C (64 - m) ++ (dig 0 1 ++ R) = dig v 1 ++ L ∧ ((v = 0 ∧ L = R ∧ ∀ i, m < i → i ≤ 64 → C.bk.getD i none = none) ∨ (∃ a, m < v ∧ C.bk.getD v none = some a ∧ (∀ i, m < i → i < v → C.bk.getD i none = none) ∧ L = placeB a.1 a.2.1 a.2.2 ++ (bksR C (64 - v) ++ (dig 0 1 ++ R))))) := Lib.hid (fun m hm => by
  have h := bks_next C (64 - m) (by omega)
  rw [show 64 - (64 - m) = m by omega] at h
  rcases h with ⟨h1, h2⟩ | ⟨k, a, h1, h2, h3, h4, h5⟩
  ·exact ⟨0, by omega, R, by rw [h2]; rfl, .inl ⟨rfl, rfl, h1⟩⟩
  ·exact ⟨k, h2, _, by rw [h5, List.append_assoc, List.append_assoc], .inr ⟨a, h1, h3, h4, rfl⟩⟩)
 obtain ⟨v0, hv64, L0, hL0, hcase0⟩ := HNX.out 0 (by omega)
 rw [show 64 - 0 = 64 from rfl] at hL0
 rw [hL0] at hP
 have hwv : IntKind.i64.wrap (v0 : Int) = (v0 : Int) := IntWalk.i64_in _ (by omega)
 have HC0 := Lib.hid hcase0
 clear hcase0 hL0
 go_enter Tryz.func36, Tryz.ntmps36
 go_upto_region 3 with (go_at_call 37; refine (rdByte r v0 _ _ hP.rq (by omega)).mono ?_; rintro e w1 ⟨rfl, hq1, hg1⟩)
 replace hP := hP.rd hq1 hg1
 replace hB := hB.trans (chgR hg1 hPn)
 have hrw0 := Lib.hid hrw
 have HST := Lib.hid (And.intro hP hB)
 clear hP hB hq1 hg1 hwv
 go_loopw [5, 6] (fun LA I wr => ∃ m v N : Nat, ∃ L, LA = .int .i64 (m : Int) ∧ I = .int .i64 (v : Int) ∧ m ≤ 64 ∧ v ≤ 64 ∧ N < 18446744073709551616 ∧ PS F wr r g (cB C m N) L ∧ ((v = 0 ∧ L = R ∧ ∀ i, m < i → i ≤ 64 → C.bk.getD i none = none) ∨ (∃ a, m < v ∧ C.bk.getD v none = some a ∧ (∀ i, m < i → i < v → C.bk.getD i none = none) ∧ L = placeB a.1 a.2.1 a.2.2 ++ (bksR C (64 - v) ++ (dig 0 1 ++ R)))) ∧ Chg (fun b => ¬ F b) w wr) (fun LA _ _ => 65 - (intOf LA).toNat)
 case atStart => exact ⟨0, v0, 0, L0, rfl, rfl, by omega, hv64, by omega, HST.out.1, HC0.out, HST.out.2⟩
 case round =>
  clear HST HC0
  obtain ⟨m, v, N, L, rfl, rfl, hm, hv, hN, hP, hcase, hB⟩ := hrel
  rcases hcase with ⟨h0, hL, hno⟩ | ⟨a, hmv, ha, hno, hL⟩
  ·have h0i : ((v : Int) != 0) = false := by simp [h0]
   rw [hL] at hP
   have hend : cB C m N = cV C 0 N := by
    have : bkT C m = C.bk := by
     rw [← bkT_all C hC.bl]
     apply List.ext_getElem
     ·simp [bkT_len]
     ·intro i h1 h2
      have h3 := bkT_at C m i
      have h4 := bkT_at C 64 i
      rw [List.getD_eq_getElem?_getD, List.getElem?_eq_getElem h1, Option.getD_some] at h3
      rw [List.getD_eq_getElem?_getD, List.getElem?_eq_getElem h2, Option.getD_some] at h4
      rw [bkT_len] at h1
      rw [h3, h4]
      by_cases him : i ≤ m
      ·rw [if_pos ⟨h1, him⟩, if_pos ⟨h1, by omega⟩]
      ·rw [if_neg (fun h => him h.2), if_pos ⟨h1, by omega⟩]
       exact (hno i (by omega) (by omega)).symm
    unfold cB cV
    rw [this]; rfl
   rw [hend] at hP
   clear h0 hL hno hend
   go_wp2_with (go_at_call 35; refine (rdBad r _ _ hP.rq).mono ?_; rintro e w1 ⟨rfl, rfl⟩)
   go_ret
   exact ⟨rfl, ⟨N, hN, hP⟩, hB⟩
  ·have h0i : ((v : Int) != 0) = true := by simp; omega
   have hvm : ¬ (v : Int) ≤ (m : Int) := by omega
   have hvm2 : ¬ v ≤ m := by omega
   rw [hL] at hP
   have hao := hC.bk v a ha
   obtain ⟨hs1, hs2⟩ := cB_step hC m v N a hmv hv ha hno
   obtain ⟨v2, hv2, L2, hL2, hcase2⟩ := HNX.out v hv
   have HS2 := Lib.hid (And.intro hs1 hs2)
   have HC2 := Lib.hid (And.intro hL2 hcase2)
   have hrw := hP.lt
   have HOK := Lib.hid (cB_ok hC m N hN)
   have HAPP := Lib.hid (fun w (h : PS F w r g (cB C m N) (bksR C (64 - v) ++ (dig 0 1 ++ R))) => show Calls Tryz.prog 8 #[.pointer (some ⟨g, 0, none⟩), .agg (opC 1 0 (v : Int) 0 a.1 a.2.1 a.2.2 0 0 0 none 0 0).toArray] w (fun e w' => e = .returned (.int .i64 0) ∧ PS F w' r g (cB C v ((N + 1) % 18446744073709551616)) (bksR C (64 - v) ++ (dig 0 1 ++ R)) ∧ Chg (fun b => ¬ F b) w w') by
    obtain ⟨G, D, ⟨A, n, c, E, hX⟩, h1, h2, h3⟩ := h
    have := apply_any 1 0 (v : Int) 0 a.1 a.2.1 a.2.2 0 0 0 [] none 0 0 (cB C m N) HOK.out g A n c E w hX (opA_ok v a hv hao) Rs.nil_ Off.none_ (by omega)
    rw [HS2.out.1, HS2.out.2] at this
    exact this.mono (fun e w' h => PS.cf h1 h2 h3 (fun b hb => hX.lt b (h1.2.2 b hb)) h))
   clear hL ha hno hs1 hs2 hL2 hcase2 hvm2
   go_upto_region 8 with (fail)
   refine wp_region_lit ?_
   refine wpList_plain rfl (fun K hK => ?_); go_simp; with_reducible refine hK _ _ ?_; clear hK K
   refine wpList_plain rfl (fun K hK => ?_)
   go_simp
   refine (rdAddr r a _ _ hP.rq hao).mono ?_
   rintro e w1 ⟨rfl, hq1, hg1⟩
   with_reducible refine hK _ _ ?_
   clear hK K
   have zz1 := hg1.size
   have hP1 := hP.rd hq1 hg1
   replace hB := hB.trans (chgR hg1 hPn)
   replace hrw := Nat.lt_of_lt_of_le hrw hg1.size
   clear hg1 hq1 hP
   generalize hWW : w1 = W1 at *
   clear hWW
   have hP := hP1
   clear hP1
   iterate 4 (refine wpList_plain rfl (fun K hK => ?_); go_simp; with_reducible refine hK _ _ ?_; clear hK K)
   refine wpList_stA (t := 32) 32 (.tmp 7) (.tmp 24) rfl rfl (adC a.1 a.2.1 a.2.2) (adC false 0 0) rfl (by simp [adC, Value.oneCell']) rfl rfl (Bk.new _ _ _) (szAd _ _ _) ?_
   intro W4 h4 g4
   refine wpList_plain rfl (fun K hK => ?_); go_simp; with_reducible refine hK _ _ ?_; clear hK K
   have be4 : Below W1.heap.size W1 W4 := below_grown (Below.allocS (Below.refl _ _) _) g4 (Nat.le_refl _)
   replace hP := hP.later be4
   replace hB := hB.trans (Chg.of_below be4)
   replace hrw := Nat.lt_of_lt_of_le hrw be4.size
   replace h4 : Bk W4 W1.heap.size 32 (adC a.1 a.2.1 a.2.2) := h4
   clear be4 g4
   go_upto_region 9 with (fail)
   refine wp_region_lit ?_
   iterate 3 (refine wpList_plain rfl (fun K hK => ?_); go_simp; with_reducible refine hK _ _ ?_; clear hK K)
   iterate 2 (refine wpList_step (fun K hK => ?_); go_simp; with_reducible refine hK _ _ ?_; clear hK K)
   refine wpList_ldG (t := 32) 32 (.tmp 7) rfl (by go_simp) (adC a.1 a.2.1 a.2.2) rfl h4 rfl va1 va2 (szAd _ _ _) ?_
   simp only [Act.put, qsT, qsZ, qsS]
   refine wpList_buildG 43 [(0, .const (.int .i64 1)), (2, .tmp 30), (4, .tmp 31)] rfl (by go_simp) (.agg (opC 1 0 (v : Int) 0 a.1 a.2.1 a.2.2 0 0 0 none 0 0).toArray) (run_buildBk _ _ _ _ _) ?_
   refine wpList_step (fun K hK => ?_)
   go_simp
   refine (HAPP.out _ hP).mono ?_
   rintro en w1 ⟨rfl, hP2, hB2⟩
   with_reducible refine hK _ _ ?_
   clear hK K
   refine wpList_step (fun K hK => ?_); go_simp; with_reducible refine hK _ _ ?_; clear hK K
   refine wpList_plain rfl (fun K hK => ?_); go_simp; with_reducible refine hK _ _ ?_; clear hK K
   replace hB := hB.trans hB2
   have hrw1 := hP2.lt
   have hP3 := hP2
   rw [HC2.out.1] at hP3
   have hwv2 : IntKind.i64.wrap (v2 : Int) = (v2 : Int) := IntWalk.i64_in _ (by omega)
   clear hP hB2 hP2 h4
   go_wp2_with (go_at_call 37; refine (rdByte r v2 _ _ hP3.rq (by omega)).mono ?_; rintro e w2 ⟨rfl, hq1, hg1⟩)
   exact ⟨⟨v, v2, ⟨(N + 1) % 18446744073709551616, L2, rfl, rfl, hv, hv2, Nat.mod_lt _ (by decide), hP3.rd hq1 hg1, HC2.out.2, hB.trans (chgR hg1 hPn)⟩⟩, by simp [intOf]; omega⟩
end

section
open Go.Lib
open Go.RowKit
attribute [local go_sem ↓] sliced_cut
attribute [local go_sem] cutA_zero
set_option maxHeartbeats 4000000
set_option maxRecDepth 100000
theorem run_buildVo (six : Bool) (ah al : Nat) (w : World) : (Instr.build 43 #[(0, .int .i64 2), (4, .agg (adC six ah al).toArray)]).run Tryz.prog w = .ok (.agg (opC 2 0 0 0 six ah al 0 0 0 none 0 0).toArray) w := by kernel_rfl
theorem opV_ok {C : Cf} {v : Vp} (h : VpOk C v) : OpOk (opV v) := by
 have h1 := h.ad.2.1
 have h2 := h.ad.2.2
 have h3 := h.pt
 have h4 := h.pr
 have h5 := h.wy
 refine ⟨?_, ?_, ?_, ?_, h1, h2, h3, ?_, ?_, ?_⟩ <;> simp [opV] <;> omega
theorem takeVip_l (C : Cf) (hC : CfOk C) {F : Nat → Prop} (r g i N : Nat) (six : Bool) (ah al pt pr wn : Nat) (ms : List (Int × Int)) (S : Stk) (hi : C.vs[i]? = some ⟨(six, ah, al), pt, pr, (wn : Int), ms, S⟩) (hN : N < 18446744073709551616) (R : List UInt8) (w : World) (hP : PS F w r g (cV C i N) (placeB six ah al ++ (dig pt 2 ++ (dig pr 1 ++ (dig wn 1 ++ (membersB ms ++ (dig (stkB S).length 2 ++ (stkB S ++ R)))))))) : Calls Tryz.prog 38 #[.pointer (some ⟨r, 0, none⟩), .pointer (some ⟨g, 0, none⟩)] w fun e w' => e = .returned (.bool true) ∧ (∃ N', N' < 18446744073709551616 ∧ PS F w' r g (cV C (i + 1) N') R) ∧ Chg (fun b => ¬ F b) w w' := by
 obtain ⟨da, va1, va2⟩ := rowAdC
 obtain ⟨do1, vo1, vo2⟩ := rowOpC
 have hvo := hC.vs _ (List.mem_of_getElem? hi)
 have hao : adOk (six, ah, al) := hvo.ad
 have hpt : pt < 65536 := hvo.pt
 have hpr : pr < 256 := by have : pr = 6 ∨ pr = 17 := hvo.pr; omega
 have hwn : wn < 256 := by have : 1 ≤ (wn : Int) ∧ (wn : Int) ≤ 4 := hvo.wy; omega
 have hm64 : ms.length ≤ 64 := okM_len hvo.ms
 have hsh := okM_sh hvo.ms
 have hSo : StkOk S := hvo.st
 have hsl := stkB_len hSo
 have hwv : IntKind.i64.wrap (wn : Int) = (wn : Int) := IntWalk.i64_in _ (by omega)
 have hwv2 : IntKind.i64.wrap ((stkB S).length : Int) = ((stkB S).length : Int) := IntWalk.i64_in _ (by omega)
 have hrw := hP.lt
 have hq := hP.rq
 obtain ⟨G, D, ⟨A0, n0, c0, E0, hX0⟩, ⟨hGr, hFn, hFr⟩, hDrF, hq00⟩ := hP
 clear hq00
 have hDr : ∀ b, D b → r < b := fun b hb => (hDrF b hb).1
 have hX := Lib.hid hX0
 have HGL := Lib.hid hX0.lt
 clear hX0
 have HOP := Lib.hid (cV_step hC i N _ hi)
 have HRS := Lib.hid (fun N2 : Nat => cV_res hC i N2 N _ hi)
 have HOO := Lib.hid (opV_ok hvo)
 have HCK := Lib.hid (cV_ok hC i N hN)
 have HAPP := Lib.hid (fun w (h : CfX G D w g (cV C i N) A0 n0 c0 E0) => show Calls Tryz.prog 8 #[.pointer (some ⟨g, 0, none⟩), .agg (opC 2 0 0 0 six ah al pt pr (wn : Int) none 0 0).toArray] w (RetCf G D w g ⟨(N + 1) % 18446744073709551616, k16z, 0, C.bk, C.vs.take i ++ [newV (cV C i N) (opV ⟨(six, ah, al), pt, pr, (wn : Int), ms, S⟩)]⟩ (.int .i64 0)) by
  have := apply_any 2 0 0 0 six ah al pt pr (wn : Int) [] none 0 0 (cV C i N) HCK.out g A0 n0 c0 E0 w h HOO.out Rs.nil_ Off.none_ (by omega)
  have e1 := HOP.out.1
  have e2 := HOP.out.2
  unfold opV at e1 e2
  simp only at e1 e2
  rw [e1, e2] at this
  exact this)
 have HC3 : Hid (CfOk ⟨(N + 1) % 18446744073709551616, k16z, 0, C.bk, C.vs.take i ++ [newV (cV C i N) (opV ⟨(six, ah, al), pt, pr, (wn : Int), ms, S⟩)]⟩) := Lib.hid (by
  have := apC_ok HCK.out HOO.out
  rw [HOP.out.2] at this
  exact this)
 have HRES := Lib.hid (fun (G D : Nat → Prop) (w : World) A n c E (h : CfX G D w g ⟨(N + 1) % 18446744073709551616, k16z, 0, C.bk, C.vs.take i ++ [newV (cV C i N) (opV ⟨(six, ah, al), pt, pr, (wn : Int), ms, S⟩)]⟩ A n c E) {B : Option Addr} {m d : Nat} (hr : Rs 2 w B m d (prs .i64 ms)) {T : Nat} (hT : Bk w T 209 (stkC S)) => show Calls Tryz.prog 87 #[.pointer (some ⟨g, 0, none⟩), .slice B m d, .pointer (some ⟨T, 0, none⟩)] w (RetCf G D w g (cV C (i + 1) ((N + 1) % 18446744073709551616)) (.int .i64 0)) by
  have := restore_any ms B m d S hSo T _ HC3.out g A n c E w h hr (by have := hr.1; rw [prs_length] at this; omega) hT
  have e1 := (HRS.out ((N + 1) % 18446744073709551616)).1
  have e2 := (HRS.out ((N + 1) % 18446744073709551616)).2
  have e3 : ∀ M : Nat, ({ cV C i M with vs := C.vs.take i ++ [newV (cV C i N) (opV ⟨(six, ah, al), pt, pr, (wn : Int), ms, S⟩)] } : Cf) = ⟨M, k16z, 0, C.bk, C.vs.take i ++ [newV (cV C i N) (opV ⟨(six, ah, al), pt, pr, (wn : Int), ms, S⟩)]⟩ := fun M => rfl
  rw [e3] at e1 e2
  rw [e1, e2] at this
  exact this)
 have hc : Chg (fun b => b = r) w w := Chg.refl _
 have zz := hc.size
 clear hi hvo
 go_enter Tryz.func38, Tryz.ntmps38
 go_upto_region 1 with (fail)
 refine wp_region_lit ?_
 refine wpList_plain rfl (fun K hK => ?_); go_simp; with_reducible refine hK _ _ ?_; clear hK K
 refine wpList_plain rfl (fun K hK => ?_)
 go_simp
 refine (rdAddr r (six, ah, al) _ _ hq hao).mono ?_
 rintro e w1 ⟨rfl, hq1, hg1⟩
 with_reducible refine hK _ _ ?_
 clear hK K
 have zz1 := hc.size
 replace hc := hc.trans (Chg.one hg1 rfl)
 clear hq
 have hq := hq1
 clear hq1 hg1 zz1
 clear zz
 have zz := hc.size
 generalize hWW : w1 = W1 at *
 clear hWW
 iterate 4 (refine wpList_plain rfl (fun K hK => ?_); go_simp; with_reducible refine hK _ _ ?_; clear hK K)
 refine wpList_stA (t := 32) 32 (.tmp 5) (.tmp 15) rfl rfl (adC six ah al) (adC false 0 0) rfl (by simp [adC, Value.oneCell']) rfl rfl (Bk.new _ _ _) (szAd _ _ _) ?_
 intro W4 h4 g4
 refine wpList_plain rfl (fun K hK => ?_); go_simp; with_reducible refine hK _ _ ?_; clear hK K
 have be4 : Below W1.heap.size W1 W4 := below_grown (Below.allocS (Below.refl _ _) _) g4 (Nat.le_refl _)
 replace hq := hq.later be4
 replace hc := hc.trans (Chg.of_below be4)
 have hzh4 := zz
 clear zz
 have zz := hc.size
 replace h4 : Bk W4 W1.heap.size 32 (adC six ah al) := h4
 have hba : w.heap.size ≤ W1.heap.size := hzh4
 clear hzh4
 clear be4 g4
 generalize W1.heap.size = ba at *
 go_upto_region 4 with (fail)
 refine wp_region_lit ?_
 refine wpList_ldA (t := 32) 32 (.tmp 5) rfl rfl (adC six ah al) rfl (h4) (whole_ _) va1 va2 (szAd _ _ _) ?_
 simp only [Act.put, qsT, qsZ, qsS]
 refine wpList_build 43 [(0, .const (.int .i64 2)), (4, .tmp 19)] rfl rfl (.agg (opC 2 0 0 0 six ah al 0 0 0 none 0 0).toArray) (run_buildVo _ _ _ _) ?_
 refine wpList_plain rfl (fun K hK => ?_); go_simp; with_reducible refine hK _ _ ?_; clear hK K
 refine wpList_stA (t := 43) 43 (.tmp 7) (.tmp 20) rfl rfl (opC 2 0 0 0 six ah al 0 0 0 none 0 0) (opC 0 0 0 0 false 0 0 0 0 0 none 0 0) rfl (opC_one _ _ _ _ _ _ _ _ _ _ _ _ _) rfl rfl (Bk.new _ _ _) (szOp _ _ _ _ _ _ _ _ _ _ _ _ _) ?_
 intro W6 h6 g6
 simp only [Act.put, qsT, qsZ, qsS]
 have be4 : Below W4.heap.size W4 W6 := below_grown (Below.allocS (Below.refl _ _) _) g6 (Nat.le_refl _)
 replace hq := hq.later be4
 replace hc := hc.trans (Chg.of_below be4)
 have hzh6 := zz
 clear zz
 have zz := hc.size
 replace h6 : Bk W6 W4.heap.size 43 (opC 2 0 0 0 six ah al 0 0 0 none 0 0) := h6
 have hbo : w.heap.size ≤ W4.heap.size := hzh6
 clear hzh6
 clear be4 g6 h4 hba
 generalize W4.heap.size = bo at *
 go_upto_region 5 with (fail)
 refine wp_region_lit ?_
 refine wpList_plain rfl (fun K hK => ?_); go_simp; with_reducible refine hK _ _ ?_; clear hK K
 refine wpList_plain rfl (fun K hK => ?_)
 go_simp
 refine (rdWord r pt _ _ hq hpt).mono ?_
 rintro e w1 ⟨rfl, hq1, hg1⟩
 with_reducible refine hK _ _ ?_
 clear hK K
 have zz1 := hc.size
 replace h6 := h6.grown hg1 (fun e => by injection e with e; omega)
 replace hc := hc.trans (Chg.one hg1 rfl)
 clear hq
 have hq := hq1
 clear hq1 hg1 zz1
 clear zz
 have zz := hc.size
 generalize hWW : w1 = W7 at *
 clear hWW
 refine wpList_plain rfl (fun K hK => ?_); go_simp; with_reducible refine hK _ _ ?_; clear hK K
 refine wpList_st1 (t := 43) (cs := opC 2 0 0 0 six ah al 0 0 0 none 0 0) (off := 7) 40 (.tmp 23) (.tmp 22) rfl rfl rfl rfl h6 (by simp [opC]) rfl (by kernel_rfl) ?_
 intro W8 h8 g8
 simp only [Act.put, qsT, qsZ, qsS]
 have zz8 := Nat.lt_of_lt_of_le hrw zz
 replace hq := hq.low (below_of_grown g8 (by omega) (fun k hk => by injection hk with hk; omega))
 replace hc := hc.fre g8 hbo
 clear zz zz8
 have zz := hc.size
 replace h8 : Bk W8 bo 43 (opC 2 0 0 0 six ah al pt 0 0 none 0 0) := h8
 clear h6 g8
 have h6 := h8
 clear h8
 go_upto_region 6 with (fail)
 refine wp_region_lit ?_
 refine wpList_plain rfl (fun K hK => ?_); go_simp; with_reducible refine hK _ _ ?_; clear hK K
 refine wpList_plain rfl (fun K hK => ?_)
 go_simp
 refine (rdByte r pr _ _ hq hpr).mono ?_
 rintro e w1 ⟨rfl, hq1, hg1⟩
 with_reducible refine hK _ _ ?_
 clear hK K
 have zz1 := hc.size
 replace h6 := h6.grown hg1 (fun e => by injection e with e; omega)
 replace hc := hc.trans (Chg.one hg1 rfl)
 clear hq
 have hq := hq1
 clear hq1 hg1 zz1
 clear zz
 have zz := hc.size
 generalize hWW : w1 = W7 at *
 clear hWW
 refine wpList_plain rfl (fun K hK => ?_); go_simp; with_reducible refine hK _ _ ?_; clear hK K
 refine wpList_st1 (t := 43) (cs := opC 2 0 0 0 six ah al pt 0 0 none 0 0) (off := 8) 5 (.tmp 26) (.tmp 25) rfl rfl rfl rfl h6 (by simp [opC]) rfl (by kernel_rfl) ?_
 intro W8 h8 g8
 simp only [Act.put, qsT, qsZ, qsS]
 have zz8 := Nat.lt_of_lt_of_le hrw zz
 replace hq := hq.low (below_of_grown g8 (by omega) (fun k hk => by injection hk with hk; omega))
 replace hc := hc.fre g8 hbo
 clear zz zz8
 have zz := hc.size
 replace h8 : Bk W8 bo 43 (opC 2 0 0 0 six ah al pt pr 0 none 0 0) := h8
 clear h6 g8
 have h6 := h8
 clear h8
 go_upto_region 7 with (fail)
 refine wp_region_lit ?_
 refine wpList_plain rfl (fun K hK => ?_); go_simp; with_reducible refine hK _ _ ?_; clear hK K
 refine wpList_plain rfl (fun K hK => ?_)
 go_simp
 refine (rdByte r wn _ _ hq hwn).mono ?_
 rintro e w1 ⟨rfl, hq1, hg1⟩
 with_reducible refine hK _ _ ?_
 clear hK K
 have zz1 := hc.size
 replace h6 := h6.grown hg1 (fun e => by injection e with e; omega)
 replace hc := hc.trans (Chg.one hg1 rfl)
 clear hq
 have hq := hq1
 clear hq1 hg1 zz1
 clear zz
 have zz := hc.size
 generalize hWW : w1 = W7 at *
 clear hWW
 iterate 2 (refine wpList_plain rfl (fun K hK => ?_); go_simp; with_reducible refine hK _ _ ?_; clear hK K)
 refine wpList_st1 (t := 43) (cs := opC 2 0 0 0 six ah al pt pr 0 none 0 0) (off := 9) 3 (.tmp 30) (.tmp 29) rfl rfl rfl rfl h6 (by simp [opC]) rfl (by kernel_rfl) ?_
 intro W8 h8 g8
 simp only [Act.put, qsT, qsZ, qsS]
 have zz8 := Nat.lt_of_lt_of_le hrw zz
 replace hq := hq.low (below_of_grown g8 (by omega) (fun k hk => by injection hk with hk; omega))
 replace hc := hc.fre g8 hbo
 clear zz zz8
 have zz := hc.size
 replace h8 : Bk W8 bo 43 (opC 2 0 0 0 six ah al pt pr (wn : Int) none 0 0) := h8
 clear h6 g8
 have h6 := h8
 clear h8
 go_upto_region 8 with (fail)
 refine wp_region_lit ?_
 refine wpList_plain rfl (fun K hK => ?_); go_simp; with_reducible refine hK _ _ ?_; clear hK K
 refine wpList_plain rfl (fun K hK => ?_)
 go_simp
 refine (rdMembers r ms _ _ hq hm64 hsh).mono ?_
 rintro e w1 ⟨A, n, c, rfl, hq1, hg1, hom⟩
 with_reducible refine hK _ _ ?_
 clear hK K
 have zz1 := hc.size
 replace hom := hom.mono zz1
 replace h6 := h6.grown hg1 (fun e => by injection e with e; omega)
 replace hc := hc.trans (Chg.one hg1 rfl)
 clear hq
 have hq := hq1
 clear hq1 hg1 zz1
 clear zz
 have zz := hc.size
 generalize hWW : w1 = W8 at *
 clear hWW
 iterate 5 (refine wpList_plain rfl (fun K hK => ?_); go_simp; with_reducible refine hK _ _ ?_; clear hK K)
 go_upto_region 11 with (fail)
 refine wp_region_lit ?_
 iterate 2 (refine wpList_plain rfl (fun K hK => ?_); go_simp; with_reducible refine hK _ _ ?_; clear hK K)
 refine wpList_plain rfl (fun K hK => ?_)
 go_simp
 refine (rdWord r (stkB S).length _ _ hq (by omega)).mono ?_
 rintro e w1 ⟨rfl, hq1, hg1⟩
 with_reducible refine hK _ _ ?_
 clear hK K
 have zz1 := hc.size
 replace h6 := h6.grown hg1 (fun e => by injection e with e; omega)
 replace hom := hom.grown hg1 (fun k hk e => by injection e with e; have := (hom.blk k hk).1; omega)
 replace hc := hc.trans (Chg.one hg1 rfl)
 clear hq
 have hq := hq1
 clear hq1 hg1 zz1
 clear zz
 have zz := hc.size
 generalize hWW : w1 = W9 at *
 clear hWW
 refine wpList_plain rfl (fun K hK => ?_); go_simp; with_reducible refine hK _ _ ?_; clear hK K
 refine wpList_plain rfl (fun K hK => ?_)
 go_simp
 refine (rdBytes r (stkB S).length (stkB S) R _ hq rfl (by omega)).mono ?_
 rintro e w1 ⟨A2, n2, c2, rfl, hob, hq1, hg1⟩
 with_reducible refine hK _ _ ?_
 clear hK K
 have zz1 := hc.size
 replace h6 := h6.grown hg1 (fun e => by injection e with e; omega)
 replace hom := hom.grown hg1 (fun k hk e => by injection e with e; have := (hom.blk k hk).1; omega)
 replace hc := hc.trans (Chg.one hg1 rfl)
 clear hq
 have hq := hq1
 clear hq1 hg1 zz1
 clear zz
 have zz := hc.size
 generalize hWW : w1 = W10 at *
 clear hWW
 refine wpList_plain rfl (fun K hK => ?_); go_simp; with_reducible refine hK _ _ ?_; clear hK K
 go_upto_region 14 with (go_at_call 35; refine (rdBad r _ _ hq).mono ?_; rintro e w1 ⟨rfl, rfl⟩)
 refine wp_region_lit ?_
 refine wpList_plain rfl (fun K hK => ?_); go_simp; with_reducible refine hK _ _ ?_; clear hK K
 refine wpList_plain rfl (fun K hK => ?_)
 go_simp
 refine (stkParse_ok S hSo _ _ _ _ hob.rb).mono ?_
 rintro e w1 ⟨T, rfl, hT0, hbT, hT⟩
 with_reducible refine hK _ _ ?_
 clear hK K
 replace hq := hq.later hbT
 have hT1 := Nat.le_trans zz hT0
 clear hT0
 replace h6 := h6.later hbT
 replace hom := hom.later hbT
 replace hc := hc.trans (Chg.of_below hbT)
 clear zz
 have zz := hc.size
 generalize hWW : w1 = W11 at *
 clear hWW hbT
 iterate 5 (refine wpList_plain rfl (fun K hK => ?_); go_simp; with_reducible refine hK _ _ ?_; clear hK K)
 clear hob
 have hX2 := hX.out.chg hc (fun b hb => by rw [show b = r from hb]; exact hGr) (fun b hb hD => by have := hDr b hD; have hb : b = r := hb; omega)
 go_upto_region 15 with (fail)
 refine wp_region_lit ?_
 iterate 3 (refine wpList_plain rfl (fun K hK => ?_); go_simp; with_reducible refine hK _ _ ?_; clear hK K)
 refine wpList_step (fun K hK => ?_); go_simp; with_reducible refine hK _ _ ?_; clear hK K
 refine wpList_ldG (t := 43) 43 (.tmp 7) rfl (by go_simp) (opC 2 0 0 0 six ah al pt pr (wn : Int) none 0 0) rfl (h6) (whole_ _) vo1 vo2 (szOp _ _ _ _ _ _ _ _ _ _ _ _ _) ?_
 refine wpList_step (fun K hK => ?_)
 go_simp
 refine (HAPP.out _ hX2).mono ?_
 rintro e w1 ⟨rfl, G2, D2, hM2, hgr2, hc2⟩
 with_reducible refine hK _ _ ?_
 clear hK K
 generalize hWW : w1 = W12 at *
 clear hWW
 refine wpList_step (fun K hK => ?_); go_simp; with_reducible refine hK _ _ ?_; clear hK K
 refine wpList_plain rfl (fun K hK => ?_); go_simp; with_reducible refine hK _ _ ?_; clear hK K
 have hDlt : ∀ b, D b → b < w.heap.size := fun b hb => HGL.out b (hX.out.sub b hb)
 have hqq := hq.low (hc2.below (fun b hb => hDr b hb) (Nat.lt_of_lt_of_le hrw zz))
 replace hT := hT.chg hc2 (fun hD => by have := hDlt _ hD; omega)
 replace hom := hom.chg hc2 (fun k hk hD => by have := hDlt _ hD; have := (hom.blk k hk).1; omega)
 have hBl : Chg (fun b => ¬ F b) w W12 := (hc.widen_ (fun b hb => by rw [show b = r from hb]; exact hFn)).trans (hc2.widen_ (fun b hb => (hDrF b hb).2))
 have hD2 : ∀ b, D2 b → r < b ∧ ¬ F b := fun b hb => (hgr2.dn b hb).elim (hDrF b) (fun h => ⟨by omega, fun hf => by have := HGL.out b (hFr b hf); omega⟩)
 have hG2 := hgr2.gg r hGr
 have hF2 : ∀ b, F b → G2 b := fun b hb => hgr2.gg b (hFr b hb)
 have zz12 := hc2.size
 clear hq hc2 hgr2 hX2 h6 hDlt
 obtain ⟨A3, n3, c3, E3, hX3⟩ := hM2
 go_upto_region 17 with (fail)
 refine wp_region_lit ?_
 iterate 3 (refine wpList_plain rfl (fun K hK => ?_); go_simp; with_reducible refine hK _ _ ?_; clear hK K)
 refine wpList_plain rfl (fun K hK => ?_)
 go_simp
 refine (HRES.out _ _ _ _ _ _ _ hX3 hom.rs hT).mono ?_
 rintro e w1 ⟨rfl, G4, D4, hM4, hgr4, hc4⟩
 with_reducible refine hK _ _ ?_
 clear hK K
 generalize hWW : w1 = W13 at *
 clear hWW
 iterate 2 (refine wpList_plain rfl (fun K hK => ?_); go_simp; with_reducible refine hK _ _ ?_; clear hK K)
 go_wp2
 go_ret
 have hr12 : r < W12.heap.size := by omega
 refine ⟨rfl, ⟨(N + 1) % 18446744073709551616, Nat.mod_lt _ (by decide), G4, D4, hM4, ⟨hgr4.gg r hG2, hFn, fun b hb => hgr4.gg b (hF2 b hb)⟩, fun b hb => (hgr4.dn b hb).elim (hD2 b) (fun h => ⟨by omega, fun hf => by have := HGL.out b (hFr b hf); omega⟩), hqq.low (hc4.below (fun b hb => (hD2 b hb).1) hr12)⟩, hBl.trans (hc4.widen_ (fun b hb => (hD2 b hb).2))⟩
theorem takeVip_ok (C : Cf) (hC : CfOk C) {F : Nat → Prop} (r g i N : Nat) (v : Vp) (hi : C.vs[i]? = some v) (hN : N < 18446744073709551616) (R : List UInt8) (w : World) (hP : PS F w r g (cV C i N) (vipB v ++ R)) : Calls Tryz.prog 38 #[.pointer (some ⟨r, 0, none⟩), .pointer (some ⟨g, 0, none⟩)] w fun e w' => e = .returned (.bool true) ∧ (∃ N', N' < 18446744073709551616 ∧ PS F w' r g (cV C (i + 1) N') R) ∧ Chg (fun b => ¬ F b) w w' := by
 obtain ⟨⟨six, ah, al⟩, pt, pr, wy, ms, S⟩ := v
 have hwy : 1 ≤ wy ∧ wy ≤ 4 := (hC.vs _ (List.mem_of_getElem? hi)).wy
 obtain ⟨wn, rfl⟩ : ∃ wn : Nat, wy = (wn : Int) := ⟨wy.toNat, by omega⟩
 refine takeVip_l C hC r g i N six ah al pt pr wn ms S hi hN R w ?_
 unfold vipB at hP
 simp only [List.append_assoc, Int.toNat_natCast] at hP
 exact hP
end

section
open Go.RowKit
theorem wp_stM {P : Program} {w : World} {o : Oper} {a : Act} {K : Act → World → Prop} {Q : Exit → Act → World → Prop} (ty : TypeId) (x y : Operand) (ho : o.op = .store ty x y)
  {g off : Nat} {t : TypeId} (new old : List Value) (hl : off + new.length ≤ old.length) (h1 : ∀ u ∈ new, u.oneCell' = true) (hx : a.eval x = .pointer (some ⟨g, off, none⟩)) (hy : a.eval y = .agg new.toArray) (hb : Bk w g t old)
  (hi : (P.info? ty).map (·.size) = some new.length) (h : ∀ w', Bk w' g t (splice old off new) → w.grownBy w' (some g) → K (a.put o.dst undef) w') : o.wp P a w K Q := by
 refine wp_store_mid ty x y ho g off new.toArray hx hy (fun j hj => ?_) (by simpa using hi) (all_oneCell_toArray h1) (h _ (Bk.setMid new old off hb hl) ?_)
 ·have hj' : off + j < old.length := by simp at hj; omega
  exact ⟨by rw [hb.cell, List.getElem?_eq_getElem hj']; rfl, hb.frozen _⟩
 ·generalize off = k
  clear hi h hb hy hl hx
  induction new generalizing w k with
  | nil => exact World.grownBy.refl _ _
  | cons v r ih => exact (grownBy_setCell _ _ _ _).trans (ih (fun u hu => h1 u (List.mem_cons_of_mem _ hu)) _)
end

section
open Go.Lib
open Go.RowKit
attribute [local go_sem ↓] sliced_cut
attribute [local go_sem] cutA_zero
theorem stC_setKey (C : Cf) (hk : C.key.length = 16) (A : Option Addr) (n c m : Nat) (key : List UInt8) (hk2 : key.length = 16) : splice (stC C A n c) 1 (ringC key m) = stC { C with key := key, now := m } A n c := by
 unfold stC
 have e := splice_cons (.int .u64 (C.num : Int)) (ringC C.key C.now ++ (C.bk.flatMap bkC ++ [.slice A n c])) (ringC key m) 0
 rw [Nat.add_zero] at e
 rw [e]
 congr 1
 have h1 : (ringC C.key C.now).length = (ringC key m).length := by simp [ringC, bcs_length, hk, hk2]
 unfold splice
 rw [List.take_zero, List.nil_append, Nat.zero_add, ← h1, List.drop_left]
theorem cf0_Y (C : Cf) {G : Nat → Prop} {w : World} {g : Nat} (h : Bk w g 63 (stC (cB C 0 0) none 0 0)) (hG : ∀ b, G b → b < w.heap.size) : CfX (fun b => G b ∨ b = g) (fun b => b = g) w g (cB C 0 0) none 0 0 [] :=
 ⟨rfl, h, Os.nil_, (fun k hk => by cases hk), rfl, (fun x hx => by cases hx), (fun x hx => by cases hx), (fun x hx => by cases hx), (fun x hx => by cases hx), List.nodup_nil, (fun b hb => Or.inr hb), (fun b hb => hb.elim (hG b) (fun e => by rw [e]; exact h.lt))⟩
theorem CfX.less {G G' D : Nat → Prop} {w : World} {g : Nat} {C : Cf} {A : Option Addr} {n c : Nat} {E : List Ve} (h : CfX G D w g C A n c E) (h1 : ∀ b, G' b → G b) (h2 : ∀ b, D b → G' b) : CfX G' D w g C A n c E :=
 ⟨h.vs, h.st, h.row, h.dr, h.dg, h.tb, h.dt, h.mm, fun x hx a ha => ⟨(h.mo x hx a ha).1, fun hg => (h.mo x hx a ha).2 (h1 _ hg)⟩, h.nd, h2, fun b hb => h.lt b (h1 b hb)⟩
set_option maxHeartbeats 4000000
set_option maxRecDepth 100000
theorem run_buildK0 (w : World) : (Instr.build 55 #[]).run Tryz.prog w = .ok (.agg (bcs k16z).toArray) w := by kernel_rfl
theorem parseState_ok (C : Cf) (hC : CfOk C) (F : Nat → Prop) (A : Option Addr) (n c : Nat) (w : World) (hF : ∀ b, F b → b < w.heap.size) (hr : Rb w A n c (sttB C)) : Calls Tryz.prog 12 #[.slice A n c] w fun e w' => ∃ g G D, e = .returned (.tuple #[.pointer (some ⟨g, 0, none⟩), .int .i64 0]) ∧ Below w.heap.size w w' ∧ CfM G D w' g C ∧ (∀ b, F b → G b) ∧ (∀ b, D b → w.heap.size ≤ b) ∧ (∀ b, G b → F b ∨ w.heap.size ≤ b) := by
 obtain ⟨dr, vr1, vr2, vr3⟩ := rowRing
 have hlen := sttB_len hC
 have hn := hr.1
 have hk16 := hC.key
 have hvl := hC.vl
 have HRP := Lib.hid (fun (A : Option Addr) (n c : Nat) (w : World) {base : Nat} (h : Ob w base A n c (C.key ++ dig C.now 8)) => show Calls Tryz.prog 33 #[.slice A n c] w (RetV w (.tuple #[.agg (ringC C.key C.now).toArray, .int .i64 0])) by
  have h24 : n = 24 := by have := h.1; rw [List.length_append, hC.key, dig_length] at this; omega
  subst h24
  have := ringParse_24 A c _ w h.rb
  rw [List.take_left' hC.key, List.drop_left' hC.key, List.take_of_length_le (by rw [dig_length]; exact Nat.le_refl _), numDig _ _ hC.now] at this
  exact this)
 have HNEW := Lib.hid (fun w => new_any k16z rfl w)
 have HCB := Lib.hid (show cf0 k16z = cB C 0 0 by unfold cf0 cB; rw [bkT_0 C hC.b0])
 have hC2 := Lib.hid hC
 have e0 : sttB C = dig C.num 8 ++ ((C.key ++ dig C.now 8) ++ (bksI C 64 ++ (dig 0 1 ++ (dig C.vs.length 1 ++ vipsB C.vs)))) := by unfold sttB; simp only [List.append_assoc]
 go_enter Tryz.func12, Tryz.ntmps12
 go_upto_region 1 with (fail)
 refine wp_region_lit ?_
 refine wpList_plain rfl (fun K hK => ?_); go_simp; with_reducible refine hK _ _ ?_; clear hK K
 refine wpList_plain rfl (fun K hK => ?_)
 go_simp
 refine (readT A n c (sttB C) w hr (by omega)).mono ?_
 rintro e w1 ⟨r, bs1, d1, rfl, rfl, hr0, hp1⟩
 with_reducible refine hK _ _ ?_
 clear hK K
 have hE := below_plus w bs1 d1
 have zz := hE.size
 have hq : RQ (plus w bs1 d1) r (sttB C) := ⟨hp1, by omega⟩
 clear hp1
 generalize hWW : plus w bs1 d1 = W1 at *
 clear hWW
 refine wpList_plain rfl (fun K hK => ?_); go_simp; with_reducible refine hK _ _ ?_; clear hK K
 rw [e0] at hq
 clear hr hlen e0
 go_upto_region 2 with (fail)
 refine wp_region_lit ?_
 refine wpList_plain rfl (fun K hK => ?_); go_simp; with_reducible refine hK _ _ ?_; clear hK K
 refine wpList_plain rfl (fun K hK => ?_)
 go_simp
 refine (rdNum8 r C.num _ _ hq hC.num).mono ?_
 rintro e w1 ⟨rfl, hq1, hg1⟩
 with_reducible refine hK _ _ ?_
 clear hK K
 replace hE := hE.trans (below_of_grown hg1 zz (fun k hk => by injection hk with hk; omega))
 replace zz := Nat.le_trans zz hg1.size
 clear hq
 have hq := hq1
 clear hq1 hg1
 generalize hWW : w1 = W2 at *
 clear hWW
 refine wpList_plain rfl (fun K hK => ?_); go_simp; with_reducible refine hK _ _ ?_; clear hK K
 go_upto_region 3 with (fail)
 refine wp_region_lit ?_
 refine wpList_plain rfl (fun K hK => ?_); go_simp; with_reducible refine hK _ _ ?_; clear hK K
 refine wpList_plain rfl (fun K hK => ?_)
 go_simp
 refine (rdBytes r 24 (C.key ++ dig C.now 8) _ _ hq (by rw [List.length_append, hC.key, dig_length]) (by omega)).mono ?_
 rintro e w1 ⟨A2, n2, c2, rfl, hob, hq1, hg1⟩
 with_reducible refine hK _ _ ?_
 clear hK K
 replace hE := hE.trans (below_of_grown hg1 zz (fun k hk => by injection hk with hk; omega))
 replace zz := Nat.le_trans zz hg1.size
 clear hq
 have hq := hq1
 clear hq1 hg1
 generalize hWW : w1 = W3 at *
 clear hWW
 refine wpList_plain rfl (fun K hK => ?_)
 go_simp
 refine (HRP.out _ _ _ _ hob).mono ?_
 rintro e w1 ⟨bs1, d1, rfl, rfl⟩
 with_reducible refine hK _ _ ?_
 clear hK K
 have hb1 := below_plus W3 bs1 d1
 replace hq := hq.later hb1
 replace hE := hE.trans (hb1.mono zz)
 replace zz := Nat.le_trans zz hb1.size
 clear hb1 hob
 generalize hWW : plus W3 bs1 d1 = W4 at *
 clear hWW
 iterate 4 (refine wpList_plain rfl (fun K hK => ?_); go_simp; with_reducible refine hK _ _ ?_; clear hK K)
 refine wpList_stA (t := 57) 57 (.tmp 6) (.tmp 17) rfl rfl (ringC C.key C.now) (ringC k16z 0) (by simp [ringC, bcs_length, hC.key, k16z]) (ringC_one _ _) rfl rfl (Bk.new _ _ _) (by rw [ringC_length _ hC.key]; exact vr3) ?_
 intro W5 h5 g5
 refine wpList_plain rfl (fun K hK => ?_); go_simp; with_reducible refine hK _ _ ?_; clear hK K
 have hrb0 := hq.1.lt
 have be5 : Below W4.heap.size W4 W5 := below_grown (Below.allocS (Below.refl _ _) _) g5 (Nat.le_refl _)
 replace hq := hq.later be5
 replace hE := hE.trans (be5.mono zz)
 have zz5 := zz
 replace zz := Nat.le_trans zz be5.size
 replace h5 : Bk W5 W4.heap.size 57 (ringC C.key C.now) := h5
 clear be5 g5
 have hrb : r < W4.heap.size := hrb0
 clear hrb0
 generalize W4.heap.size = br at *
 go_upto_region 6 with (go_at_call 35; refine (rdBad r _ _ hq).mono ?_; rintro e w1 ⟨rfl, rfl⟩)
 have h5lt := h5.lt
 have hrl : r < W5.heap.size := hq.1.lt
 refine wp_region_lit ?_
 refine wpList_build 55 [] rfl rfl (.agg (bcs k16z).toArray) (run_buildK0 _) ?_
 refine wpList_plain rfl (fun K hK => ?_)
 go_simp
 refine (HNEW.out _).mono ?_
 rintro e w1 ⟨g, rfl, hg0, hbN, hst⟩
 with_reducible refine hK _ _ ?_
 clear hK K
 replace hq := hq.later hbN
 replace h5 := h5.later hbN
 replace hE := hE.trans (hbN.mono zz)
 have hg5 := Nat.lt_of_lt_of_le h5lt hg0
 have hgr := Nat.lt_of_lt_of_le hrl hg0
 replace zz := Nat.le_trans zz hbN.size
 have z56 := hbN.size
 generalize hWW : w1 = W6 at *
 clear hWW hbN hg0
 refine wpList_plain rfl (fun K hK => ?_); go_simp; with_reducible refine hK _ _ ?_; clear hK K
 obtain ⟨P, hPF⟩ : ∃ P : Nat → Prop, P = fun b => b < w.heap.size ∨ b = br := ⟨_, rfl⟩
 have hPlt : ∀ b, P b → b < W6.heap.size := fun b hb => by rw [hPF] at hb; rcases hb with hb | hb <;> omega
 have hPr : ¬ P r := fun hb => by rw [hPF] at hb; rcases hb with hb | hb <;> omega
 have hPbr : P br := by rw [hPF]; exact .inr rfl
 have hPo : ∀ b, ¬ P b → w.heap.size ≤ b := fun b hb => Nat.le_of_not_lt (fun h => hb (by rw [hPF]; exact Or.inl h))
 have hP : PS P W6 r g (cB C 0 0) (bksI C 64 ++ (dig 0 1 ++ (dig C.vs.length 1 ++ vipsB C.vs))) := by
  rw [HCB.out] at hst
  exact ⟨_, _, ⟨_, _, _, _, cf0_Y C (G := fun b => P b ∨ b = r) hst (fun b hb => hb.elim (hPlt b) (fun e => by rw [e]; omega))⟩, ⟨.inl (.inr rfl), hPr, fun b hb => .inl (.inl hb)⟩, fun b hb => by rw [show b = g from hb]; exact ⟨hgr, fun hb => by rw [hPF] at hb; rcases hb with hb | hb <;> omega⟩, hq⟩
 have hgP : ¬ P g := fun hb => by rw [hPF] at hb; rcases hb with hb | hb <;> omega
 have hbg : ¬ br = g := by omega
 have hPF2 : Hid (∀ b, b < w.heap.size → P b) := Lib.hid (fun b hb => by rw [hPF]; exact .inl hb)
 clear hq hst hPF
 have HTB := Lib.hid (fun (w : World) (R : List UInt8) (h : PS P w r g (cB C 0 0) (bksI C 64 ++ (dig 0 1 ++ R))) => takeBackends_ok C hC2.out r g R w h)
 go_upto_region 9 with (go_at_call 36; refine (HTB.out _ _ hP).mono ?_; rintro e w1 ⟨rfl, ⟨N1, hN1, hP1⟩, hch1⟩)
 generalize hWW : w1 = W7 at *
 clear hWW hP
 replace h5 := h5.chg hch1 (fun h => h hPbr)
 replace hE := hE.trans (hch1.below (fun b hb => hPo b hb) zz)
 replace zz := Nat.le_trans zz hch1.size
 clear hch1
 have hwv : IntKind.i64.wrap (C.vs.length : Int) = (C.vs.length : Int) := IntWalk.i64_in _ (by omega)
 have hrn := hP1.nF
 go_wp2_with (go_at_call 37; refine (rdByte r C.vs.length _ _ hP1.rq (by omega)).mono ?_; rintro e w1 ⟨rfl, hq1, hg1⟩)
 replace hP1 := hP1.rd hq1 hg1
 replace h5 := h5.grown hg1 (fun e => by injection e with e; omega)
 replace hE := hE.trans ((chgR hg1 hrn).below (fun b hb => hPo b hb) zz)
 have hP0 : PS P w1 r g (cV C 0 N1) (vipsB (C.vs.drop 0) ++ []) := by rw [List.drop_zero, List.append_nil]; exact hP1
 have HST := Lib.hid (And.intro hP0 (And.intro h5 hE))
 have HRN := Lib.hid hrn
 have HN1 := Lib.hid hN1
 clear hP1 hq1 hg1 h5 hE hP0 hwv zz z56 zz5
 go_loopw [34] (fun I wr => ∃ i N : Nat, I = .int .i64 (i : Int) ∧ i ≤ C.vs.length ∧ N < 18446744073709551616 ∧ PS P wr r g (cV C i N) (vipsB (C.vs.drop i) ++ []) ∧ Bk wr br 57 (ringC C.key C.now) ∧ Below w.heap.size w wr) (fun I _ => C.vs.length - (intOf I).toNat)
 case atStart => exact ⟨0, N1, rfl, by omega, HN1.out, HST.out.1, HST.out.2.1, HST.out.2.2⟩
 case round =>
  clear HST HN1
  obtain ⟨i, N, rfl, hi, hN, hP, h5, hE⟩ := hrel
  by_cases hil : i < C.vs.length
  ·have hil2 : (i : Int) < (C.vs.length : Int) := by omega
   have hwi : IntKind.i64.wrap ((i : Int) + 1) = ((i + 1 : Nat) : Int) := by rw [IntWalk.i64_in _ (by omega)]; omega
   rw [vips_cons hil] at hP
   have HTV := Lib.hid (fun (w : World) (h : PS P w r g (cV C i N) (vipB C.vs[i] ++ (vipsB (C.vs.drop (i + 1)) ++ []))) => takeVip_ok C hC2.out r g i N C.vs[i] (List.getElem?_eq_getElem hil) hN _ w h)
   have zz := hE.size
   go_wp2_with (go_at_call 38; refine (HTV.out _ hP).mono ?_; rintro e w1 ⟨rfl, ⟨N2, hN2, hP2⟩, hch2⟩)
   exact ⟨⟨i + 1, N2, rfl, by omega, hN2, hP2, h5.chg hch2 (fun h => h hPbr), hE.trans (hch2.below (fun b hb => hPo b hb) zz)⟩, by simp [intOf]; omega⟩
  ·have hil2 : ¬ (i : Int) < (C.vs.length : Int) := by omega
   have hie : i = C.vs.length := by omega
   rw [hie, List.drop_length] at hP
   have hP : PS P wr r g (cV C C.vs.length N) [] := hP
   have zz := hE.size
   go_upto_region 16 with (first | (go_at_call 35; refine (rdBad r _ _ hP.rq).mono ?_; rintro e w1 ⟨rfl, rfl⟩) | (go_at_call 39; refine (rdLeft r _ _ hP.rq).mono ?_; rintro e w1 ⟨rfl, rfl⟩))
   obtain ⟨G, D, ⟨A1, n1, c1, E1, hX⟩, ⟨hGr, _, hPG⟩, hDP, _⟩ := hP
   have hS0 := hX.st
   have hb65 := hC2.out.bl
   have hrsz : (Tryz.prog.info? 57).map (·.size) = some (ringC C.key C.now).length := by rw [ringC_length _ hk16]; exact vr3
   have hs0l : (stC (cV C C.vs.length N) A1 n1 c1).length = 279 := stC_len (cV C C.vs.length N) rfl hb65 _ _ _
   have hs1l : (stC { cV C C.vs.length N with num := C.num } A1 n1 c1).length = 279 := stC_len { cV C C.vs.length N with num := C.num } rfl hb65 _ _ _
   have hs1 : (stC (cV C C.vs.length N) A1 n1 c1).set 0 (.int .u64 (C.num : Int)) = stC { cV C C.vs.length N with num := C.num } A1 n1 c1 := stC_setNum _ _ _ _ _
   have hs2 : splice (stC { cV C C.vs.length N with num := C.num } A1 n1 c1) 1 (ringC C.key C.now) = stC C A1 n1 c1 := by
    rw [stC_setKey { cV C C.vs.length N with num := C.num } rfl _ _ _ _ _ hk16]
    unfold cV
    rw [List.take_length]
   have HX := Lib.hid hX
   clear hX
   generalize stC (cV C C.vs.length N) A1 n1 c1 = s0 at *
   generalize stC { cV C C.vs.length N with num := C.num } A1 n1 c1 = s1 at *
   generalize hs2e : stC C A1 n1 c1 = s2 at *
   refine wp_suS (fun b => b = g) 10 57 2 [6, 9] rfl (by kernel_rfl) (by kernel_rfl) (fun k w' => Bk w' g 63 (if k = 0 then s0 else if k = 1 then s1 else s2)) (fun k _ _ h hx => h.later hx.below) (hS0) ?_
   apply StepsC.one (MC.eq _) 1 rfl (by decide)
   ·intro o ho FA w' hC hO hD K hK
    obtain rfl := qoi ho
    have e8 := hO 8 (by kernel_rfl)
    simp only [eval_tmp, qgT, qgS, qgZ, qoS] at e8
    have ev8 := Lib.hid ((eval_tmp FA 8).trans e8)
    clear hO hD ho
    go_simp
    exact hK.out _ _ (Ex.refl _) rfl
   apply StepsC.one (MC.eq _) 2 rfl (by decide)
   ·intro o ho FA w' hC hO hD K hK
    obtain rfl := qoi ho
    have e8 := hO 8 (by kernel_rfl)
    simp only [eval_tmp, qgT, qgS, qgZ, qoS] at e8
    have ev8 := Lib.hid ((eval_tmp FA 8).trans e8)
    clear hO hD ho
    go_simp
    exact hK.out _ _ (Ex.refl _) rfl
   apply StepsC.one (MC.eq _) 3 rfl (by decide)
   ·intro o ho FA w' hC hO hD K hK
    obtain rfl := qoi ho
    have e5 := hO 5 (by kernel_rfl)
    simp only [eval_tmp, qgT, qgS, qgZ, qoS] at e5
    have ev5 := Lib.hid ((eval_tmp FA 5).trans e5)
    clear hO hD ho
    go_simp
    exact hK.out _ _ (Ex.refl _) rfl
   apply StepsC.one (MC.eq _) 4 rfl (by decide)
   ·intro o ho FA w' hC hO hD K hK
    obtain rfl := qoi ho
    have e6 := hO 6 (by kernel_rfl)
    simp only [eval_tmp, qgT, qgS, qgZ, qoS] at e6
    have ev6 := Lib.hid ((eval_tmp FA 6).trans e6)
    clear hO hD ho
    refine wanted_if rfl ?_
    refine wp_ldA 57 (.tmp 6) rfl (ringC C.key C.now) ev6.out (h5.chg hC hbg) (whole_ _) vr1 vr2 hrsz ?_
    exact hK.out _ _ (Ex.refl _) rfl
   apply StepsC.one (MC.eq _) 5 rfl (by decide)
   ·intro o ho FA w' hC hO hD K hK
    obtain rfl := qoi ho
    obtain ⟨e48, ev48⟩ := qE (hD 0 48 (by kernel_rfl))
    clear hO hD ho
    go_simp
    exact hK.out _ _ (Ex.refl _) rfl
   apply StepsC.one (MC.eq _) 6 rfl (by decide)
   ·intro o ho FA w' hC hO hD K hK
    obtain rfl := qoi ho
    obtain ⟨e52, ev52⟩ := qE (hD 4 52 (by kernel_rfl))
    clear hO hD ho
    go_simp
    exact hK.out _ _ (Ex.refl _) rfl
   apply StepsC.mov (MC.any) 7 0 rfl rfl rfl
   ·intro o ho FA w' hC hO hD hS K hK
    obtain rfl := qoi ho
    obtain ⟨e53, ev53⟩ := qE (hD 5 53 (by kernel_rfl))
    obtain ⟨e50, ev50⟩ := qE (hD 2 50 (by kernel_rfl))
    clear hO hD ho
    refine wanted_if rfl ?_
    refine wp_st1 28 (.tmp 53) (.tmp 50) rfl ev53.out ev50.out hS (by rw [if_pos rfl, hs0l]; omega) rfl (by kernel_rfl) ?_
    intro w'' hn hg
    rw [if_pos rfl, hs1] at hn
    exact hK.out undef _ (Chg.one hg rfl) hn trivial
   apply StepsC.one (MC.eq _) 8 rfl (by decide)
   ·intro o ho FA w' hC hO hD K hK
    obtain rfl := qoi ho
    obtain ⟨e49, ev49⟩ := qE (hD 1 49 (by kernel_rfl))
    clear hO hD ho
    go_simp
    exact hK.out _ _ (Ex.refl _) rfl
   apply StepsC.one (MC.eq _) 9 rfl (by decide)
   ·intro o ho FA w' hC hO hD K hK
    obtain rfl := qoi ho
    obtain ⟨e54, ev54⟩ := qE (hD 7 54 (by kernel_rfl))
    clear hO hD ho
    go_simp
    exact hK.out _ _ (Ex.refl _) rfl
   apply StepsC.mov (MC.any) 10 1 rfl rfl rfl
   ·intro o ho FA w' hC hO hD hS K hK
    obtain rfl := qoi ho
    obtain ⟨e55, ev55⟩ := qE (hD 8 55 (by kernel_rfl))
    obtain ⟨e51, ev51⟩ := qE (hD 3 51 (by kernel_rfl))
    clear hO hD ho
    refine wanted_if rfl ?_
    refine wp_stM 57 (.tmp 55) (.tmp 51) rfl (ringC C.key C.now) s1 (by rw [hs1l, ringC_length _ hk16]; omega) (ringC_one _ _) ev55.out ev51.out hS hrsz ?_
    intro w'' hn hg
    rw [hs2] at hn
    exact hK.out undef _ (Chg.one hg rfl) hn trivial
   refine StepsC.fin_ (fun vs w' hC hS hp => ?_)
   have p0 : vs 0 = _ := hp 0 (by omega) rfl
   have p1 : vs 1 = _ := hp 1 (by omega) rfl
   have p2 : vs 2 = _ := hp 2 (by omega) rfl
   have p3 : vs 3 = _ := hp 3 (by omega) rfl
   have p4 : vs 4 = _ := hp 4 (by omega) rfl
   have p5 : vs 5 = _ := hp 5 (by omega) rfl
   have p7 : vs 7 = _ := hp 7 (by omega) rfl
   have p8 : vs 8 = _ := hp 8 (by omega) rfl
   clear hp
   simp only [List.take_succ_cons, List.take_zero, List.drop_succ_cons, List.drop_zero, putAll, Nat.zero_add, Nat.reduceAdd, Act.put, qsT, qsZ, qsS, p0, p1, p2, p3, p4, p5, p7, p8]
   clear p0 p1 p2 p3 p4 p5 p7 p8
   clear vs
   replace hS : Bk w' g 63 s2 := hS
   rw [← hs2e] at hS
   have hX2 := HX.out.setSt (C' := C) (by simp [cV]) hS ⟨hC.os, hC.tape, hC.output, hC.size, fun b hb hn => hC.block b hb (fun e => hn (by rw [show b = g from e]))⟩
   clear hS0
   go_wp2
   go_ret2
   refine ⟨g, fun b => G b ∧ (F b ∨ w.heap.size ≤ b), D, rfl, hE.trans (hC.below (fun b hb => by rw [show b = g from hb]; omega) zz), ⟨_, _, _, _, hX2.less (fun b hb => hb.1) (fun b hb => ⟨HX.out.sub b hb, .inr (hPo b (hDP b hb).2)⟩)⟩, fun b hb => ⟨hPG b (hPF2.out b (hF b hb)), .inl hb⟩, fun b hb => hPo b (hDP b hb).2, fun b hb => hb.2⟩
end

section
open Go.RowKit
attribute [local go_sem ↓] sliced_cut
attribute [local go_sem] cutA_zero
set_option maxHeartbeats 4000000 in
set_option maxRecDepth 100000 in
theorem awake23 (w : World) : Calls Tryz.prog 5 #[] w (RetV w (.bool true)) := by
 have HO : Hid (∀ w, Calls Tryz.prog 20 #[.agg #[.int .i64 8, .int .i64 0, .int .i64 0, .int .i64 0, .bool false, .int .u64 0, .int .u64 0, .int .u16 0, .int .u8 0, .int .i64 0, .slice none 0 0]] w (RetRb w (opB 8 0 0 0 false 0 0 0 0 0 []))) := Lib.hid (fun w => codecOp_any 8 0 0 0 false 0 0 0 0 0 [] none 0 0 w (by decide) (by decide) (by decide) (by decide) (by decide) (by decide) (by decide) (by decide) (by decide) Rs.nil_ (by decide) (by decide) rfl rfl)
 have hl : (opB 8 0 0 0 false 0 0 0 0 0 []).length = 14 := by decide +kernel
 generalize opB 8 0 0 0 false 0 0 0 0 0 [] = l at *
 go_enter Tryz.func5, Tryz.ntmps5
 go_wp2_with fail
 refine (HO.out _).mono ?_
 rintro e w1 ⟨A, n, c, bs, d, rfl, rfl, h⟩
 obtain rfl : n = 14 := by have := h.1; omega
 go_wp2
 go_ret
 exact RetV.is_ rfl (below_plus _ _ _)
end

section
open Go.RowKit
attribute [local go_sem ↓] sliced_cut
attribute [local go_sem] cutA_zero
set_option maxRecDepth 100000 in
theorem run_buildTo (k v b e : Int) (six : Bool) (ah al pt pr : Nat) (wy : Int) (w : World) : (Instr.build 43 #[(0, .int .i64 k), (1, .int .i64 v), (2, .int .i64 b), (3, .int .i64 e), (4, .agg (adC six ah al).toArray), (5, .int .u16 (pt : Int)), (6, .int .u8 (pr : Int)), (7, .int .i64 wy)]).run Tryz.prog w = .ok (.agg (opC k v b e six ah al pt pr wy none 0 0).toArray) w := by kernel_rfl
set_option maxHeartbeats 4000000 in
set_option maxRecDepth 100000 in
theorem to23_own (k v b e : Int) (six : Bool) (ah al pt pr : Nat) (wy : Int) (ms : List (Int × Int)) (A : Option Addr) (n c : Nat) (w : World) (hr : Rs 2 w A n c (prs .i64 ms)) (hn : n ≤ 1000000) : Calls Tryz.prog 9 #[.agg (opC k v b e six ah al pt pr wy A n c).toArray] w fun en w' => ∃ B d bs d0, en = .returned (.agg (opC k v b e six ah al pt pr wy B n d).toArray) ∧ w' = plus w bs d0 ∧ Os 87 2 (plus w bs d0) w.heap.size B n d (prs .i64 ms) := by
 obtain ⟨da, a1, a2⟩ : ∃ d, Tryz.prog.underlying 32 = some d ∧ d.isRow = true := ⟨_, Tryz.underlying32, rfl⟩
 have hml : ms.length = n := by have := hr.1; rw [prs_length] at this; omega
 have hr0 := hr
 obtain ⟨dv1, v1, v2⟩ := rowRo
 obtain ⟨dw1, w1, w2⟩ := rowOpC
 have b1 : Bk ((w.alloc (.cells (opC k v b e six ah al pt pr wy A n c).toArray 47)).alloc (.cells #[.int .i64 0, .int .i64 0, .int .i64 0, .int .i64 0, .bool false, .int .u64 0, .int .u64 0, .int .u16 0, .int .u8 0, .int .i64 0, .slice none 0 0] 43)) w.heap.size 47 (opC k v b e six ah al pt pr wy A n c) := (Bk.new w 47 (opC k v b e six ah al pt pr wy A n c).toArray).alloc _
 have b2 : Bk ((w.alloc (.cells (opC k v b e six ah al pt pr wy A n c).toArray 47)).alloc (.cells #[.int .i64 0, .int .i64 0, .int .i64 0, .int .i64 0, .bool false, .int .u64 0, .int .u64 0, .int .u16 0, .int .u8 0, .int .i64 0, .slice none 0 0] 43)) (w.heap.size + 1) 43 (opC 0 0 0 0 false 0 0 0 0 0 none 0 0) := Bk.newK _ _ _ (by simp) rfl
 have be : Below w.heap.size w ((w.alloc (.cells (opC k v b e six ah al pt pr wy A n c).toArray 47)).alloc (.cells #[.int .i64 0, .int .i64 0, .int .i64 0, .int .i64 0, .bool false, .int .u64 0, .int .u64 0, .int .u16 0, .int .u8 0, .int .i64 0, .slice none 0 0] 43)) := Below.allocS (Below.allocS (Below.refl _ _) _) _
 have zV : w.heap.size + 2 ≤ ((w.alloc (.cells (opC k v b e six ah al pt pr wy A n c).toArray 47)).alloc (.cells #[.int .i64 0, .int .i64 0, .int .i64 0, .int .i64 0, .bool false, .int .u64 0, .int .u64 0, .int .u16 0, .int .u8 0, .int .i64 0, .slice none 0 0] 43)).heap.size := by simp
 go_enter Tryz.func9, Tryz.ntmps9
 go_upto_region 1 with (fail)
 generalize (w.alloc (.cells (opC k v b e six ah al pt pr wy A n c).toArray 47)).alloc (.cells #[.int .i64 0, .int .i64 0, .int .i64 0, .int .i64 0, .bool false, .int .u64 0, .int .u64 0, .int .u16 0, .int .u8 0, .int .i64 0, .slice none 0 0] 43) = V at *
 refine wp_region_lit ?_
 refine wpList_plain rfl (fun K hK => ?_); go_simp; with_reducible refine hK _ _ ?_; clear hK K
 refine wpList_ld1 (t := 47) (cs := opC k v b e six ah al pt pr wy A n c) 3 (.tmp 5) rfl (by rfl) rfl (b1) rfl Tryz.underlying3 rfl ?_
 refine wpList_plain rfl (fun K hK => ?_); go_simp; with_reducible refine hK _ _ ?_; clear hK K
 refine wpList_ld1 (t := 47) (cs := opC k v b e six ah al pt pr wy A n c) 3 (.tmp 7) rfl (by rfl) rfl (b1) rfl Tryz.underlying3 rfl ?_
 refine wpList_plain rfl (fun K hK => ?_); go_simp; with_reducible refine hK _ _ ?_; clear hK K
 refine wpList_ld1 (t := 47) (cs := opC k v b e six ah al pt pr wy A n c) 3 (.tmp 9) rfl (by rfl) rfl (b1) rfl Tryz.underlying3 rfl ?_
 refine wpList_plain rfl (fun K hK => ?_); go_simp; with_reducible refine hK _ _ ?_; clear hK K
 refine wpList_ld1 (t := 47) (cs := opC k v b e six ah al pt pr wy A n c) 3 (.tmp 11) rfl (by rfl) rfl (b1) rfl Tryz.underlying3 rfl ?_
 refine wpList_plain rfl (fun K hK => ?_); go_simp; with_reducible refine hK _ _ ?_; clear hK K
 refine wpList_ldA (t := 47) (cs := opC k v b e six ah al pt pr wy A n c) 32 (.tmp 13) rfl rfl (adC six ah al) rfl (b1) rfl a1 a2 (szAd _ _ _) ?_
 refine wpList_plain rfl (fun K hK => ?_); go_simp; with_reducible refine hK _ _ ?_; clear hK K
 refine wpList_ld1 (t := 47) (cs := opC k v b e six ah al pt pr wy A n c) 40 (.tmp 15) rfl (by rfl) rfl (b1) rfl Tryz.underlying40 rfl ?_
 refine wpList_plain rfl (fun K hK => ?_); go_simp; with_reducible refine hK _ _ ?_; clear hK K
 refine wpList_ld1 (t := 47) (cs := opC k v b e six ah al pt pr wy A n c) 5 (.tmp 17) rfl (by rfl) rfl (b1) rfl Tryz.underlying5 rfl ?_
 refine wpList_plain rfl (fun K hK => ?_); go_simp; with_reducible refine hK _ _ ?_; clear hK K
 refine wpList_ld1 (t := 47) (cs := opC k v b e six ah al pt pr wy A n c) 3 (.tmp 19) rfl (by rfl) rfl (b1) rfl Tryz.underlying3 rfl ?_
 simp only [Act.put, qsT, qsZ, qsS]
 refine wpList_build 43 [(0, .tmp 6), (1, .tmp 8), (2, .tmp 10), (3, .tmp 12), (4, .tmp 14), (5, .tmp 16), (6, .tmp 18), (7, .tmp 20)] rfl rfl (.agg (opC k v b e six ah al pt pr wy none 0 0).toArray) ?_ ?_
 ·exact run_buildTo k v b e six ah al pt pr wy _
 refine wpList_plain rfl (fun K hK => ?_); go_simp; with_reducible refine hK _ _ ?_; clear hK K
 refine wpList_stA (t := 43) 43 (.tmp 3) (.tmp 21) rfl rfl (opC k v b e six ah al pt pr wy none 0 0) (opC 0 0 0 0 false 0 0 0 0 0 none 0 0) rfl (opC_one _ _ _ _ _ _ _ _ _ _ _ _ _) rfl rfl (Bk.new V 43 #[.int .i64 0, .int .i64 0, .int .i64 0, .int .i64 0, .bool false, .int .u64 0, .int .u64 0, .int .u16 0, .int .u8 0, .int .i64 0, .slice none 0 0]) (szOp _ _ _ _ _ _ _ _ _ _ _ _ _) ?_; intro W4 h4 g4
 simp only [Act.put, qsT, qsZ, qsS]
 have be4 : Below V.heap.size V W4 := below_grown (Below.allocS (Below.refl _ _) _) g4 (Nat.le_refl _)
 have b3 : Bk W4 V.heap.size 43 (opC k v b e six ah al pt pr wy none 0 0) := h4
 have z3 : w.heap.size + 2 ≤ V.heap.size := zV
 replace b1 := b1.later be4
 replace b2 := b2.later be4
 replace be := be.trans (be4.mono be.size)
 have zW := b3.lt
 have hO0 : Os 87 2 W4 (V.heap.size + 1) none 0 0 (prs .i64 (ms.take 0)) := Os.nil_
 clear be4 h4 g4
 generalize V.heap.size = g3 at *
 go_upto_region 3 with (fail)
 go_loopw [4] (fun I wr => ∃ i : Nat, I = .int .i64 (i : Int) ∧ i ≤ n ∧ ∃ B d, Bk wr g3 43 (opC k v b e six ah al pt pr wy B i d) ∧ Os 87 2 wr (g3 + 1) B i d (prs .i64 (ms.take i)) ∧ Bk wr w.heap.size 47 (opC k v b e six ah al pt pr wy A n c) ∧ Bk wr (w.heap.size + 1) 43 (opC 0 0 0 0 false 0 0 0 0 0 none 0 0) ∧ Below w.heap.size w wr) (fun I _ => n - (intOf I).toNat)
 case atStart => exact ⟨0, rfl, Nat.zero_le _, none, 0, b3, hO0, b1, b2, be⟩
 case round =>
  clear b1 b2 b3 be hO0 zW
  obtain ⟨i, rfl, hi, B, d, b3, hO, b1, b2, be⟩ := hrel
  have q10 : wr.cell? ⟨w.heap.size, 10, none⟩ = some (.slice A n c) := b1.cell 10
  have zW := b3.lt
  by_cases hlt : i < n
  ·have ii : (i : Int) < (n : Int) := by omega
   have hjL : i < ms.length := by omega
   obtain ⟨bl, ol, rfl, hbl, -⟩ := (hr0.later be).at_ (by omega) (by decide)
   have HC := Lib.hid (fun (W : World) (h : Below wr.heap.size wr W) => (hr0.later (be.trans (h.mono be.size))).range2 i hjL)
   have HT := Lib.hid (show ms.take (i + 1) = ms.take i ++ [ms[i]] from (List.take_succ_eq_append_getElem hjL))
   generalize ms[i] = p at *
   obtain ⟨px, py⟩ := p
   simp only [] at HC
   go_upto_region 5 with (fail)
   refine wp_relS 16 48 rfl (by kernel_rfl) (by kernel_rfl) ?_
   apply Steps.o1 (MP.eq _) 1 rfl rfl
   ·intro FA x hO hD K hK
    have e3 := hO 3 (by kernel_rfl)
    simp only [eval_tmp, qgT, qgS, qgZ, qoS] at e3
    have ev3 := Lib.hid ((eval_tmp FA 3).trans e3)
    clear hO hD
    go_simp
    exact hK.out _ _ (Ex.refl _) rfl
   apply Steps.o1 (MP.eq _) 2 rfl rfl
   ·intro FA x hO hD K hK
    obtain ⟨e29, ev29⟩ := qE (hD 0 29 (by kernel_rfl))
    clear hO hD
    refine wanted_if rfl ?_
    refine wp_ld1 41 (.tmp 29) rfl ev29.out (b3.later (below_plus _ _ _)) rfl Tryz.underlying41 rfl ?_
    exact hK.out _ _ (Ex.refl _) rfl
   apply Steps.o1 (MP.eq _) 3 rfl rfl
   ·intro FA x hO hD K hK
    have e1 := hO 1 (by kernel_rfl)
    simp only [eval_tmp, qgT, qgS, qgZ, qoS] at e1
    have ev1 := Lib.hid ((eval_tmp FA 1).trans e1)
    clear hO hD
    go_simp
    exact hK.out _ _ (Ex.refl _) rfl
   apply Steps.o1 (MP.eq _) 4 rfl rfl
   ·intro FA x hO hD K hK
    obtain ⟨e31, ev31⟩ := qE (hD 2 31 (by kernel_rfl))
    clear hO hD
    refine wanted_if rfl ?_
    refine wp_ld1 45 (.tmp 31) rfl ev31.out (b1.later (below_plus _ _ _)) rfl Tryz.underlying45 rfl ?_
    exact hK.out _ _ (Ex.refl _) rfl
   apply Steps.o1 (MP.eq _) 5 rfl rfl
   ·intro FA x hO hD K hK
    have e4 := hO 4 (by kernel_rfl)
    simp only [eval_tmp, qgT, qgS, qgZ, qoS] at e4
    have ev4 := Lib.hid ((eval_tmp FA 4).trans e4)
    clear hO hD
    go_simp
    exact hK.out _ _ (Ex.refl _) rfl
   apply Steps.o1 (MP.eq _) 6 rfl rfl
   ·intro FA x hO hD K hK
    obtain ⟨e32, ev32⟩ := qE (hD 3 32 (by kernel_rfl))
    obtain ⟨e33, ev33⟩ := qE (hD 4 33 (by kernel_rfl))
    clear hO hD
    go_simp
    exact hK.out _ _ (Ex.refl _) rfl
   apply Steps.o1 (MP.eq _) 7 rfl rfl
   ·intro FA x hO hD K hK
    obtain ⟨e34, ev34⟩ := qE (hD 5 34 (by kernel_rfl))
    clear hO hD
    go_simp
    exact hK.out _ _ (Ex.refl _) rfl
   apply Steps.o1 (MP.eq _) 8 rfl rfl
   ·intro FA x hO hD K hK
    obtain ⟨e35, ev35⟩ := qE (hD 6 35 (by kernel_rfl))
    clear hO hD
    have q9 := (HC.out (plus wr x.bs x.d) (below_plus _ _ _)).1
    go_simp
    exact hK.out _ _ (Ex.refl _) rfl
   apply Steps.o1 (MP.eq _) 9 rfl rfl
   ·intro FA x hO hD K hK
    have e1 := hO 1 (by kernel_rfl)
    simp only [eval_tmp, qgT, qgS, qgZ, qoS] at e1
    have ev1 := Lib.hid ((eval_tmp FA 1).trans e1)
    clear hO hD
    go_simp
    exact hK.out _ _ (Ex.refl _) rfl
   apply Steps.o1 (MP.eq _) 10 rfl rfl
   ·intro FA x hO hD K hK
    obtain ⟨e37, ev37⟩ := qE (hD 8 37 (by kernel_rfl))
    clear hO hD
    refine wanted_if rfl ?_
    refine wp_ld1 45 (.tmp 37) rfl ev37.out (b1.later (below_plus _ _ _)) rfl Tryz.underlying45 rfl ?_
    exact hK.out _ _ (Ex.refl _) rfl
   apply Steps.o1 (MP.eq _) 11 rfl rfl
   ·intro FA x hO hD K hK
    have e4 := hO 4 (by kernel_rfl)
    simp only [eval_tmp, qgT, qgS, qgZ, qoS] at e4
    have ev4 := Lib.hid ((eval_tmp FA 4).trans e4)
    clear hO hD
    go_simp
    exact hK.out _ _ (Ex.refl _) rfl
   apply Steps.o1 (MP.eq _) 12 rfl rfl
   ·intro FA x hO hD K hK
    obtain ⟨e38, ev38⟩ := qE (hD 9 38 (by kernel_rfl))
    obtain ⟨e39, ev39⟩ := qE (hD 10 39 (by kernel_rfl))
    clear hO hD
    go_simp
    exact hK.out _ _ (Ex.refl _) rfl
   apply Steps.o1 (MP.eq _) 13 rfl rfl
   ·intro FA x hO hD K hK
    obtain ⟨e40, ev40⟩ := qE (hD 11 40 (by kernel_rfl))
    clear hO hD
    go_simp
    exact hK.out _ _ (Ex.refl _) rfl
   apply Steps.o1 (MP.eq _) 14 rfl rfl
   ·intro FA x hO hD K hK
    obtain ⟨e41, ev41⟩ := qE (hD 12 41 (by kernel_rfl))
    clear hO hD
    have q9 := (HC.out (plus wr x.bs x.d) (below_plus _ _ _)).2
    go_simp
    exact hK.out _ _ (Ex.refl _) rfl
   apply Steps.o1 (MP.eq _) 15 rfl rfl
   ·intro FA x hO hD K hK
    obtain ⟨e36, ev36⟩ := qE (hD 7 36 (by kernel_rfl))
    obtain ⟨e42, ev42⟩ := qE (hD 13 42 (by kernel_rfl))
    clear hO hD
    go_simp
    exact hK.out _ _ (Ex.refl _) rfl
   apply Steps.o1 (MP.rs 2 [.int .i64 px, .int .i64 py]) 16 rfl rfl
   ·intro FA x hO hD K hK
    obtain ⟨e43, ev43⟩ := qE (hD 14 43 (by kernel_rfl))
    clear hO hD
    go_simp
    refine hK.out _ _ (Ex.alloc _ _) ⟨_, _, _, rfl, ?_⟩
    exact Rs.of_bk (n := 1) (c := 1) (Bk.newK _ _ _ (by simp [size_plus]) rfl) rfl (Nat.le_refl _)
   refine Steps.fin_ (fun vs x hp => ?_)
   have p0 : vs 0 = _ := hp 0 (by omega)
   have p1 : vs 1 = _ := hp 1 (by omega)
   have p2 : vs 2 = _ := hp 2 (by omega)
   have p3 : vs 3 = _ := hp 3 (by omega)
   have p4 : vs 4 = _ := hp 4 (by omega)
   have p5 : vs 5 = _ := hp 5 (by omega)
   have p6 : vs 6 = _ := hp 6 (by omega)
   have p7 : vs 7 = _ := hp 7 (by omega)
   have p8 : vs 8 = _ := hp 8 (by omega)
   have p9 : vs 9 = _ := hp 9 (by omega)
   have p10 : vs 10 = _ := hp 10 (by omega)
   have p11 : vs 11 = _ := hp 11 (by omega)
   have p12 : vs 12 = _ := hp 12 (by omega)
   have p13 : vs 13 = _ := hp 13 (by omega)
   have p14 : vs 14 = _ := hp 14 (by omega)
   have p15 := hp 15 (by omega)
   clear hp
   simp only [List.take_succ_cons, List.take_zero, List.drop_succ_cons, List.drop_zero, putAll, Nat.zero_add, Nat.reduceAdd, Act.put, qsT, qsZ, qsS, p0, p1, p2, p3, p4, p5, p6, p7, p8, p9, p10, p11, p12, p13, p14]
   clear p0 p1 p2 p3 p4 p5 p6 p7 p8 p9 p10 p11 p12 p13 p14
   generalize vs 15 = y15 at *
   clear vs
   obtain ⟨A5, n5, c5, rfl, h5⟩ := p15
   obtain rfl : n5 = 1 := by have := h5.1; simp at this; omega
   have b4 := below_plus wr x.bs x.d
   replace hO := hO.later b4
   replace b1 := b1.later b4
   replace b2 := b2.later b4
   replace b3 := b3.later b4
   replace be := be.trans (b4.mono be.size)
   clear b4 HC q10
   generalize plus wr x.bs x.d = W at *
   have zW2 := b3.lt
   refine wpList_appS etCm rfl (.tmp 30) (.tmp 44) rfl rfl hO rfl h5 (by simp [Value.oneCell']) (by omega) (by omega) ?_
   intro A2 n2 c2 w4 hn2 hO4 hb4 hg4
   subst hn2
   simp only [Act.put, qsT, qsZ, qsS]
   have hbl3 : ∀ k, (Value.slice B i d).ownBlock = some k → g3 + 1 ≤ k := fun k hk => (hO.blk k hk).1
   have b4 : Below (g3 + 1) W w4 := hb4
   have b1' := b1.below b4 (by omega)
   have b2' := b2.below b4 (by omega)
   have b3' := b3.below b4 (by omega)
   have be' := be.trans (b4.mono (by omega))
   clear b1 b2 b3 be b4 hO h5 zW zW2
   refine wpList_plain rfl (fun K hK => ?_); go_simp; with_reducible refine hK _ _ ?_; clear hK K
   refine wpList_st1 41 (.tmp 46) (.tmp 45) rfl rfl (by rfl) (by rfl) b3' (by simp [opC]) rfl (by kernel_rfl) ?_
   intro W5 h5s g5s
   simp only [Act.put, qsT, qsZ, qsS]
   have q5 : Bk W5 g3 43 (opC k v b e six ah al pt pr wy A2 (i + 1) c2) := h5s
   have hO5 : Os 87 2 W5 (g3 + 1) A2 (i + 1) c2 (prs .i64 (ms.take (i + 1))) := by
    rw [HT.out, prs_append]
    exact hO4.grown g5s (fun k hk e => by have := (hO4.blk k hk).1; injection e with e; omega)
   have b1'' := b1'.grown g5s (fun e => by injection e with e; omega)
   have b2'' := b2'.grown g5s (fun e => by injection e with e; omega)
   have be'' : Below w.heap.size w W5 := below_grown be' g5s (by omega)
   clear h5s g5s b1' b2' b3' be' hO4 HT hb4 hg4
   go_wp2
   exact ⟨⟨i + 1, by go_num, by omega, A2, c2, q5, hO5, b1'', b2'', be''⟩, by simp [intOf]; omega⟩
  ·obtain rfl : i = n := by omega
   have ii : ¬ (i : Int) < (i : Int) := by omega
   have hrs := hO.rs
   rw [List.take_of_length_le (by omega)] at hrs
   go_upto_region 6 with (fail)
   refine wp_region_lit ?_
   refine wpList_ldA (t := 43) 43 (.tmp 3) rfl rfl (opC k v b e six ah al pt pr wy B i d) rfl (b3) (whole_ _) w1 w2 (szOp _ _ _ _ _ _ _ _ _ _ _ _ _) ?_
   simp only [Act.put, qsT, qsZ, qsS]
   refine wpList_stA (t := 43) 43 (.tmp 2) (.tmp 47) rfl rfl (opC k v b e six ah al pt pr wy B i d) (opC 0 0 0 0 false 0 0 0 0 0 none 0 0) rfl (opC_one _ _ _ _ _ _ _ _ _ _ _ _ _) rfl rfl b2 (szOp _ _ _ _ _ _ _ _ _ _ _ _ _) ?_
   intro W6 h6 g6
   simp only [Act.put, qsT, qsZ, qsS]
   go_wp2
   refine bodyPost_agg Tryz.results9 rfl h6.range w1 w2 (szOp _ _ _ _ _ _ _ _ _ _ _ _ _) rfl ?_
   have hrs' : Os 87 2 W6 w.heap.size B i d (prs .i64 ms) := by
    rw [List.take_of_length_le (by omega)] at hO
    exact (hO.grown g6 (fun k hk e => by have := (hO.blk k hk).1; injection e with e; omega)).mono (by omega)
   obtain ⟨bs, d0, rfl⟩ := plus_of (below_grown be g6 (by omega))
   exact ⟨B, d, rfl, bs, d0, rfl, hrs'⟩
end

section
open Go.RowKit Go.ChangeShapes Go.WideShapes Go.Deep
theorem prs_fn (F : Nat → Int × Int) : ∀ (n i : Nat) (u : Value), (prs .i64 ((List.range n).map F))[i]? = some u → i < n * 2 ∧ (i % 2 = 0 ∧ u = .int .i64 (F (i / 2)).1 ∨ i % 2 = 1 ∧ u = .int .i64 (F (i / 2)).2) := by
 intro n i u hu
 have hi : i < (prs .i64 ((List.range n).map F)).length := (List.getElem?_eq_some_iff.1 hu).1
 rw [prs_length, List.length_map, List.length_range] at hi
 have hk : i / 2 < ((List.range n).map F).length := by rw [List.length_map, List.length_range]; omega
 have h := prs_at .i64 ((List.range n).map F) (i / 2) hk
 simp only [List.getElem_map, List.getElem_range] at h
 refine ⟨hi, ?_⟩
 rcases Nat.mod_two_eq_zero_or_one i with h0 | h0
 ·rw [show 2 * (i / 2) = i by omega] at h
  exact .inl ⟨h0, (Option.some.inj (hu.symm.trans h.1))⟩
 ·rw [show 2 * (i / 2) + 1 = i by omega] at h
  exact .inr ⟨h0, (Option.some.inj (hu.symm.trans h.2))⟩
end

section
open Go.RowKit Go.ChangeShapes Go.WideShapes
theorem listN9 {α : Type} {l : List α} (h : l.length = 9) : ∃ a0 a1 a2 a3 a4 a5 a6 a7 a8, l = [a0, a1, a2, a3, a4, a5, a6, a7, a8] := by
 match l, h with
 | [a0, a1, a2, a3, a4, a5, a6, a7, a8], _ => exact ⟨a0, a1, a2, a3, a4, a5, a6, a7, a8, rfl⟩
theorem listN11 {α : Type} {l : List α} (h : l.length = 11) : ∃ a0 a1 a2 a3 a4 a5 a6 a7 a8 a9 a10, l = [a0, a1, a2, a3, a4, a5, a6, a7, a8, a9, a10] := by
 match l, h with
 | [a0, a1, a2, a3, a4, a5, a6, a7, a8, a9, a10], _ => exact ⟨a0, a1, a2, a3, a4, a5, a6, a7, a8, a9, a10, rfl⟩
theorem list3 {α : Type} {l : List α} (h : l.length = 3) : ∃ a b c, l = [a, b, c] := by
 match l, h with
 | [a, b, c], _ => exact ⟨a, b, c, rfl⟩
set_option maxRecDepth 100000 in
theorem open_adr_cells {H : Type} {enc : TypeId × Value → H} {W : World} {m : Nat} {cs : List Value} {y : DataW H × List MemPlace}
  (hf : DataW.trod enc Tryz.prog W 0 (fun _ => true) true m 32 cs = some y) : ∃ six, ∃ ah al : Nat, cs = [.bool six, .int .u64 ah, .int .u64 al] ∧ ah < 18446744073709551616 ∧ al < 18446744073709551616 := by
 obtain ⟨xs, n, _, _, hl, hlen, hg⟩ := DataW.trod_struct Tryz.underlying32 hf
 have hC0 : Tryz.prog.cellsOf 4 = 1 := by kernel_rfl
 have hC1 : Tryz.prog.cellsOf 28 = 1 := by kernel_rfl
 have hCR : Tryz.prog.cellsOf 32 = 3 := by kernel_rfl
 rw [hCR] at hl
 obtain ⟨c0, c1, c2, rfl⟩ := list3 hl
 have hx : xs.length = 3 := by rw [hlen]; rfl
 obtain ⟨x0, x1, x2, rfl⟩ := list3 hx
 have h0 := hg 0 _ rfl
 have h1 := hg 1 _ rfl
 have h2 := hg 2 _ rfl
 simp only [List.getElem_toArray, List.getElem_cons_zero, List.getElem_cons_succ, hC0, hC1, List.drop_zero, List.drop_succ_cons, List.take_succ_cons, List.take_zero, List.getElem?_cons_zero, List.getElem?_cons_succ] at h0 h1 h2
 obtain ⟨b, hb, _⟩ := DataW.trod_bool Tryz.underlying4 h0
 obtain ⟨z1, hz1, _, hw1⟩ := DataW.trod_int Tryz.underlying28 h1
 obtain ⟨z2, hz2, _, hw2⟩ := DataW.trod_int Tryz.underlying28 h2
 have b1 := bounds_u64 hw1
 have b2 := bounds_u64 hw2
 simp only [List.cons.injEq, and_true] at hb hz1 hz2
 subst hb hz1 hz2
 exact ⟨b, z1.toNat, z2.toNat, by simp; omega, by omega, by omega⟩
end

section
open Go.RowKit Go.ChangeShapes Go.WideShapes Go.Deep
theorem open_rows {X : Type} [Inhabited X] (encX : X → List Value) (ok : X → Prop) (c : Nat) (hlen : ∀ x, (encX x).length = c) (hpos : 0 < c) {H : Type} {enc : TypeId × Value → H} {P : Program} {W : World} {base : Nat} {t e : TypeId} {v : Value} {d : DataW H} {p : List MemPlace}
  (ht : P.underlying t = some (.slice e)) (ce : P.cellsOf e = c) (each : ∀ m cs y, DataW.trod enc P W 0 (fun _ => true) true m e cs = some y → ∃ x, cs = encX x ∧ ok x) (hv : Value.okWide P W .any base t v)
  (h : DataW.Trod enc P W 0 (fun _ => true) true t v d p) :
  ∃ A k, ∃ L : List X, v = .slice A L.length k ∧ L.length ≤ k ∧ k ≤ maxLen ∧ Rd W W.heap.size A (L.flatMap encX) ∧ ∀ x ∈ L, ok x := by
 obtain ⟨a0, len, cap, rfl⟩ := okWide_slice ht hv
 obtain ⟨fuel, hf⟩ := h
 rcases open_slice ht hf with ⟨hcs, _⟩ | ⟨a, l', c', m, n, D, Pl, hcs, _, hl, hm, hmm, _, hx⟩
 ·simp [Value.cells] at hcs
  obtain ⟨rfl, rfl, rfl⟩ := hcs
  exact ⟨none, 0, [], rfl, by simp, by simp, .inl rfl, fun q hq => by simp at hq⟩
 ·simp [Value.cells] at hcs
  obtain ⟨rfl, rfl, rfl⟩ := hcs
  have hlm : len ≤ m := by rw [hmm]; split <;> omega
  have each2 : ∀ i, i < len → ∃ q : X, ok q ∧ ∀ j, j < c → W.cell? ((a.add (i * c)).add j) = (encX q)[j]? := by
   intro i hi
   obtain ⟨cs', h1, h2⟩ := hx i (by omega)
   rw [ce] at h1
   obtain ⟨_, hlen', hcell⟩ := World.cells?_some h1
   obtain ⟨q, rfl, hq⟩ := each _ _ _ h2
   exact ⟨q, hq, hcell⟩
  obtain ⟨F, hF⟩ := choose_lt each2
  have hFl : ∀ (n i : Nat) (u : Value), (((List.range n).map F).flatMap encX)[i]? = some u → i / c < n ∧ (encX (F (i / c)))[i % c]? = some u := by
   intro n
   induction n with
   | zero => intro i u hu; simp at hu
   | succ n ih =>
    intro i u hu
    rw [List.range_succ, List.map_append, List.flatMap_append] at hu
    have hln : (((List.range n).map F).flatMap encX).length = n * c := by
     clear hu ih
     induction n with
     | zero => simp
     | succ n ih => rw [List.range_succ, List.map_append, List.flatMap_append, List.length_append, ih]; simp [hlen, Nat.add_mul]
    by_cases hi : i < n * c
    ·rw [List.getElem?_append_left (by rw [hln]; exact hi)] at hu
     have := ih i u hu
     exact ⟨by omega, this.2⟩
    ·rw [List.getElem?_append_right (by rw [hln]; omega), hln] at hu
     simp only [List.map_cons, List.map_nil, List.flatMap_cons, List.flatMap_nil, List.append_nil] at hu
     have h3 := (List.getElem?_eq_some_iff.1 hu).1
     rw [hlen] at h3
     obtain ⟨r, rfl⟩ : ∃ r, i = n * c + r := ⟨i - n * c, by omega⟩
     have e0 : n * c + r - n * c = r := by omega
     rw [e0] at hu h3
     have e1 : (n * c + r) / c = n := by
      rw [Nat.add_comm, Nat.add_mul_div_right _ _ hpos, Nat.div_eq_of_lt h3]; omega
     have e2 : (n * c + r) % c = r := by rw [Nat.add_comm, Nat.add_mul_mod_self_right, Nat.mod_eq_of_lt h3]
     rw [e1, e2]
     exact ⟨by omega, hu⟩
  refine ⟨some a, cap, (List.range len).map F, by simp, by simpa using hl, hm, ?_, ?_⟩
  ·rcases Nat.eq_zero_or_pos len with h0 | h0
   ·exact .inl (by simp [h0])
   ·have hc0 := (hF 0 h0).2 0 hpos
    obtain ⟨b, off, spot⟩ := a
    have h1 : 0 < (encX (F 0)).length := by rw [hlen]; exact hpos
    rw [List.getElem?_eq_getElem h1] at hc0
    have hspot : spot = none := by simpa [Addr.add] using World.cell?_spot hc0
    subst hspot
    refine .inr ⟨b, off, rfl, by have := lt_of_cell hc0; simpa [Addr.add] using this, fun i u hu => ?_⟩
    obtain ⟨hi, h⟩ := hFl len i u hu
    have hF' := (hF (i / c) hi).2 (i % c) (Nat.mod_lt _ hpos)
    rw [add_plain, add_plain, h] at hF'
    rw [← hF']
    congr 2
    have := Nat.div_add_mod i c
    rw [Nat.mul_comm] at this
    omega
  ·intro q hq
   obtain ⟨i, hi, rfl⟩ := List.mem_map.1 hq
   exact (hF i (List.mem_range.1 hi)).1
end

section
open Go.RowKit Go.ChangeShapes Go.WideShapes Go.Deep
theorem open_prs_cell {H : Type} {enc : TypeId × Value → H} {P : Program} {W : World} {t e : TypeId} {mm : Nat} {f0 f1 : Field} {v : Value} {y : DataW H × List MemPlace}
  (ht : P.underlying t = some (.slice e)) (he : P.underlying e = some (.struct #[f0, f1])) (ce : P.cellsOf e = 2) (o0 : f0.offset = 0) (o1 : f1.offset = 1) (c0 : P.cellsOf f0.type = 1) (c1 : P.cellsOf f1.type = 1)
  (k0 : P.underlying f0.type = some (.int .i64)) (k1 : P.underlying f1.type = some (.int .i64))
  (hf : DataW.trod enc P W 0 (fun _ => true) true mm t [v] = some y) :
  ∃ A c, ∃ L : List (Int × Int), v = .slice A L.length c ∧ L.length ≤ c ∧ c ≤ maxLen ∧ Rd W W.heap.size A (prs .i64 L) ∧ ∀ q ∈ L, (Lit.int .i64 q.1).wf = true ∧ (Lit.int .i64 q.2).wf = true := by
 rcases open_slice_pairs ht he ce o0 o1 c0 c1 hf with ⟨hcs, _⟩ | ⟨a, l', c', m, n, V0, V1, D0, D1, P0, P1, hcs, _, hl, hm, hmm, _, hx⟩
 ·simp at hcs
  exact ⟨none, 0, [], hcs, by simp, by simp, .inl rfl, fun q hq => by simp at hq⟩
 ·simp at hcs
  have hlm : l' ≤ m := by rw [hmm]; split <;> omega
  have each : ∀ i, i < l' → ∃ q : Int × Int, W.cell? (a.add (i * 2)) = some (.int .i64 q.1) ∧ W.cell? (a.add (i * 2 + 1)) = some (.int .i64 q.2) ∧ (Lit.int .i64 q.1).wf = true ∧ (Lit.int .i64 q.2).wf = true := by
   intro i hi
   obtain ⟨h0, h1, t0, t1⟩ := hx i (by omega)
   obtain ⟨n0, e0, _, w0⟩ := DataW.trod_int k0 t0
   obtain ⟨n1, e1, _, w1⟩ := DataW.trod_int k1 t1
   injection e0 with e0
   injection e1 with e1
   exact ⟨(n0, n1), by rw [← e0]; exact h0, by rw [← e1]; exact h1, w0, w1⟩
  obtain ⟨F, hF⟩ := choose_lt each
  refine ⟨some a, c', (List.range l').map F, by simpa using hcs, by simpa using hl, hm, ?_, ?_⟩
  ·rcases Nat.eq_zero_or_pos l' with h0 | h0
   ·exact .inl (by simp [h0, prs])
   ·have hc0 := (hF 0 h0).1
    obtain ⟨b, off, spot⟩ := a
    have hspot : spot = none := by simpa [Addr.add] using World.cell?_spot hc0
    subst hspot
    refine .inr ⟨b, off, rfl, lt_of_cell hc0, fun i u hu => ?_⟩
    obtain ⟨hi, h⟩ := prs_fn F l' i u hu
    have hF' := hF (i / 2) (by omega)
    rw [add_plain, add_plain] at hF'
    rcases h with ⟨hm2, rfl⟩ | ⟨hm2, rfl⟩
    ·rw [show off + i = off + i / 2 * 2 by omega]; exact hF'.1
    ·rw [show off + i = off + (i / 2 * 2 + 1) by omega]; exact hF'.2.1
  ·intro q hq
   obtain ⟨i, hi, rfl⟩ := List.mem_map.1 hq
   exact ⟨(hF i (List.mem_range.1 hi)).2.2.1, (hF i (List.mem_range.1 hi)).2.2.2⟩
structure OpX where
 k : Int
 v : Int
 b : Int
 e : Int
 six : Bool
 ah : Nat
 al : Nat
 pt : Nat
 pr : Nat
 wy : Int
 ms : List (Int × Int)
 A : Option Addr
 n : Nat
 c : Nat
instance : Inhabited OpX := ⟨⟨0, 0, 0, 0, false, 0, 0, 0, 0, 0, [], none, 0, 0⟩⟩
def OpX.cs (x : OpX) : List Value := opC x.k x.v x.b x.e x.six x.ah x.al x.pt x.pr x.wy x.A x.n x.c
theorem OpX.cs_len (x : OpX) : x.cs.length = 11 := rfl
def OpX.ok (W : World) (x : OpX) : Prop := ((-9223372036854775808 ≤ x.k ∧ x.k ≤ 9223372036854775807) ∧ (-9223372036854775808 ≤ x.v ∧ x.v ≤ 9223372036854775807) ∧ (-9223372036854775808 ≤ x.b ∧ x.b ≤ 9223372036854775807) ∧ (-9223372036854775808 ≤ x.e ∧ x.e ≤ 9223372036854775807) ∧ (-9223372036854775808 ≤ x.wy ∧ x.wy ≤ 9223372036854775807)) ∧ x.ah < 18446744073709551616 ∧ x.al < 18446744073709551616 ∧ x.pt < 65536 ∧ x.pr < 256 ∧ Rs 2 W x.A x.n x.c (prs .i64 x.ms) ∧ x.c ≤ maxLen ∧ ∀ q ∈ x.ms, (Lit.int .i64 q.1).wf = true ∧ (Lit.int .i64 q.2).wf = true
set_option maxRecDepth 100000 in
theorem open_opx {H : Type} {enc : TypeId × Value → H} {W : World} {m : Nat} {cs : List Value} {y : DataW H × List MemPlace}
  (hf : DataW.trod enc Tryz.prog W 0 (fun _ => true) true m 47 cs = some y) : ∃ x : OpX, cs = x.cs ∧ x.ok W := by
 obtain ⟨xs, nn, _, _, hl, hlen, hg⟩ := DataW.trod_struct Tryz.underlying47 hf
 have hCadr : Tryz.prog.cellsOf 32 = 3 := by kernel_rfl
 have hCint : Tryz.prog.cellsOf 3 = 1 := by kernel_rfl
 have hCu16 : Tryz.prog.cellsOf 40 = 1 := by kernel_rfl
 have hCu8 : Tryz.prog.cellsOf 5 = 1 := by kernel_rfl
 have hCsl : Tryz.prog.cellsOf 45 = 1 := by kernel_rfl
 have hCR : Tryz.prog.cellsOf 47 = 11 := by kernel_rfl
 rw [hCR] at hl
 obtain ⟨c0, c1, c2, c3, c4, c5, c6, c7, c8, c9, c10, rfl⟩ := listN11 hl
 have hx : xs.length = 9 := by rw [hlen]; rfl
 obtain ⟨x0, x1, x2, x3, x4, x5, x6, x7, x8, rfl⟩ := listN9 hx
 have h0 := hg 0 _ rfl
 have h1 := hg 1 _ rfl
 have h2 := hg 2 _ rfl
 have h3 := hg 3 _ rfl
 have h4 := hg 4 _ rfl
 have h5 := hg 5 _ rfl
 have h6 := hg 6 _ rfl
 have h7 := hg 7 _ rfl
 have h8 := hg 8 _ rfl
 simp only [List.getElem_toArray, List.getElem_cons_zero, List.getElem_cons_succ, hCadr, hCint, hCu16, hCu8, hCsl, List.drop_zero, List.drop_succ_cons, List.take_succ_cons, List.take_zero, List.getElem?_cons_zero, List.getElem?_cons_succ] at h0 h1 h2 h3 h4 h5 h6 h7 h8
 obtain ⟨k, e0, -, w0⟩ := DataW.trod_int Tryz.underlying3 h0
 have b0 := bounds_i64 w0
 obtain ⟨v, e1, -, w1⟩ := DataW.trod_int Tryz.underlying3 h1
 have b1 := bounds_i64 w1
 obtain ⟨b, e2, -, w2⟩ := DataW.trod_int Tryz.underlying3 h2
 have b2 := bounds_i64 w2
 obtain ⟨e, e3, -, w3⟩ := DataW.trod_int Tryz.underlying3 h3
 have b3 := bounds_i64 w3
 obtain ⟨a6, ah, al, e4, p4, q4⟩ := open_adr_cells h4
 obtain ⟨zpt, e5, -, w5⟩ := DataW.trod_int Tryz.underlying40 h5
 have b5 := bounds_u16 w5
 obtain ⟨zpr, e6, -, w6⟩ := DataW.trod_int Tryz.underlying5 h6
 have b6 := bounds_u8 w6
 obtain ⟨wy, e7, -, w7⟩ := DataW.trod_int Tryz.underlying3 h7
 have b7 := bounds_i64 w7
 obtain ⟨A, c, ms, rfl, hlm, hcm, hrd, hwf⟩ := open_prs_cell Tryz.underlying45 Tryz.underlying86 (by kernel_rfl) rfl rfl (by kernel_rfl) (by kernel_rfl) Tryz.underlying3 Tryz.underlying3 h8
 simp only [List.cons.injEq, and_true] at e0 e1 e2 e3 e4 e5 e6 e7
 subst e0
 subst e1
 subst e2
 subst e3
 obtain ⟨rfl, rfl, rfl⟩ := e4
 subst e5
 subst e6
 subst e7
 refine ⟨⟨k, v, b, e, a6, ah, al, zpt.toNat, zpr.toNat, wy, ms, A, ms.length, c⟩, ?_, ?_⟩
 rotate_left
 ·show ((-9223372036854775808 ≤ k ∧ k ≤ 9223372036854775807) ∧ (-9223372036854775808 ≤ v ∧ v ≤ 9223372036854775807) ∧ (-9223372036854775808 ≤ b ∧ b ≤ 9223372036854775807) ∧ (-9223372036854775808 ≤ e ∧ e ≤ 9223372036854775807) ∧ (-9223372036854775808 ≤ wy ∧ wy ≤ 9223372036854775807)) ∧ ah < 18446744073709551616 ∧ al < 18446744073709551616 ∧ zpt.toNat < 65536 ∧ zpr.toNat < 256 ∧ Rs 2 W A ms.length c (prs .i64 ms) ∧ c ≤ maxLen ∧ _
  exact ⟨⟨by omega, by omega, by omega, by omega, by omega⟩, p4, q4, by omega, by omega, ⟨by simp only [prs_length], hlm, hrd⟩, hcm, hwf⟩
 simp only [OpX.cs, opC]
 rw [Int.toNat_of_nonneg (show 0 ≤ zpt by omega), Int.toNat_of_nonneg (show 0 ≤ zpr by omega)]
set_option maxRecDepth 100000 in
theorem open_ops {H : Type} {enc : TypeId × Value → H} {W : World} {base : Nat} {v : Value} {dt : DataW H} {p : List MemPlace} (hv : Value.okWide Tryz.prog W .any base 23 v) (h : DataW.Trod enc Tryz.prog W 0 (fun _ => true) true 23 v dt p) :
  ∃ A k, ∃ L : List OpX, v = .slice A L.length k ∧ L.length ≤ k ∧ k ≤ maxLen ∧ Rd W W.heap.size A (L.flatMap OpX.cs) ∧ ∀ x ∈ L, x.ok W :=
 open_rows OpX.cs (OpX.ok W) 11 OpX.cs_len (by decide) Tryz.underlying23 (by kernel_rfl) (fun m cs y hy => open_opx hy) hv h
end

section
open Go.RowKit Go.Lib
def OpX.o (x : OpX) : OpR := ⟨x.k, x.v, x.b, x.e, x.six, x.ah, x.al, x.pt, x.pr, x.wy, x.ms⟩
theorem OpX.ok_o {W : World} {x : OpX} (h : x.ok W) : OpOk x.o := by
 obtain ⟨⟨h1, h2, h3, h4, h5⟩, h6, h7, h8, h9, -, -, h10⟩ := h
 exact ⟨h1, h2, h3, h4, h6, h7, h8, h9, h5, fun p hp => ⟨by have := bounds_i64 (h10 p hp).1; omega, by have := bounds_i64 (h10 p hp).2; omega⟩⟩
theorem OpX.rs {W : World} {x : OpX} (h : x.ok W) : Rs 2 W x.A x.n x.c (prs .i64 x.ms) := h.2.2.2.2.2.1
def OneS (B0 : Nat) (W : World) (g : Nat) (C : Cf) : Prop := ∃ G D, CfM G D W g C ∧ ∀ b, G b → B0 ≤ b
def TwoS (B0 : Nat) (W : World) (g gx : Nat) (C Cx : Cf) : Prop := ∃ G D Dx, CfM G D W g C ∧ CfM G Dx W gx Cx ∧ (∀ b, D b → ¬ Dx b) ∧ ∀ b, G b → B0 ≤ b
theorem OneS.later {B0 : Nat} {W W' : World} {g : Nat} {C : Cf} (h : OneS B0 W g C) (hb : Below W.heap.size W W') : OneS B0 W' g C := by
 obtain ⟨G, D, ⟨A, n, c, E, hX⟩, h1⟩ := h
 exact ⟨G, D, ⟨A, n, c, E, hX.later hb⟩, h1⟩
theorem TwoS.later {B0 : Nat} {W W' : World} {g gx : Nat} {C Cx : Cf} (h : TwoS B0 W g gx C Cx) (hb : Below W.heap.size W W') : TwoS B0 W' g gx C Cx := by
 obtain ⟨G, D, Dx, ⟨A, n, c, E, hX⟩, ⟨A1, n1, c1, E1, hX1⟩, h1, h2⟩ := h
 exact ⟨G, D, Dx, ⟨A, n, c, E, hX.later hb⟩, ⟨A1, n1, c1, E1, hX1.later hb⟩, h1, h2⟩
theorem TwoS.one {B0 : Nat} {W : World} {g gx : Nat} {C Cx : Cf} (h : TwoS B0 W g gx C Cx) : OneS B0 W g C := by
 obtain ⟨G, D, Dx, h1, h2, h3, h4⟩ := h
 exact ⟨G, D, h1, h4⟩
theorem OneS.apply {B0 : Nat} {W W1 : World} {g : Nat} {C : Cf} (h : OneS B0 W g C) (hC : CfOk C) (hb : Below W.heap.size W W1) (h0 : B0 ≤ W.heap.size) (x : OpX) (ho : OpOk x.o) {B : Option Addr} {d : Nat} (hr : Os 87 2 W1 W.heap.size B x.n d (prs .i64 x.ms)) (hm : x.n ≤ 1000000) :
  Calls Tryz.prog 8 #[.pointer (some ⟨g, 0, none⟩), .agg (opC x.k x.v x.b x.e x.six x.ah x.al x.pt x.pr x.wy B x.n d).toArray] W1 fun e w' => e = .returned (.int .i64 (chE C x.o : Nat)) ∧ OneS B0 w' g (apC C x.o) ∧ Below B0 W1 w' := by
 obtain ⟨G, D, ⟨A, n, c, E, hX⟩, h1⟩ := h
 have hX1 := hX.later hb
 refine (apply_any x.k x.v x.b x.e x.six x.ah x.al x.pt x.pr x.wy x.ms B x.n d C hC g A n c E W1 hX1 ho hr.rs (Off.own hr (fun b hg => hX.lt b hg)) hm).mono ?_
 rintro e w' ⟨rfl, G2, D2, hM, hgr, hc⟩
 have hs := hb.size
 exact ⟨rfl, ⟨G2, D2, hM, fun b hb2 => (hgr.gn b hb2).elim (h1 b) (fun h => by omega)⟩, hc.below (fun b hD => h1 b (hX.sub b hD)) (by omega)⟩
theorem TwoS.apply {B0 : Nat} {W W1 : World} {g gx : Nat} {C Cx : Cf} (h : TwoS B0 W g gx C Cx) (hC : CfOk C) (hb : Below W.heap.size W W1) (h0 : B0 ≤ W.heap.size) (x : OpX) (ho : OpOk x.o) {B : Option Addr} {d : Nat} (hr : Os 87 2 W1 W.heap.size B x.n d (prs .i64 x.ms)) (hm : x.n ≤ 1000000) :
  Calls Tryz.prog 8 #[.pointer (some ⟨g, 0, none⟩), .agg (opC x.k x.v x.b x.e x.six x.ah x.al x.pt x.pr x.wy B x.n d).toArray] W1 fun e w' => e = .returned (.int .i64 (chE C x.o : Nat)) ∧ TwoS B0 w' g gx (apC C x.o) Cx ∧ Below B0 W1 w' := by
 obtain ⟨G, D, Dx, ⟨A, n, c, E, hX⟩, ⟨A', n', c', E', hY⟩, hd, h1⟩ := h
 have hX1 := hX.later hb
 have hY1 := hY.later hb
 refine (apply_any x.k x.v x.b x.e x.six x.ah x.al x.pt x.pr x.wy x.ms B x.n d C hC g A n c E W1 hX1 ho hr.rs (Off.own hr (fun b hg => hX.lt b hg)) hm).mono ?_
 rintro e w' ⟨rfl, G2, D2, hM, hgr, hc⟩
 have hs := hb.size
 have hY2 := hY1.chg hc (fun b hb2 => hX.sub b hb2) hd
 have hlt : ∀ b, G2 b → b < w'.heap.size := by
  obtain ⟨_, _, _, _, hZ⟩ := hM
  exact hZ.lt
 refine ⟨rfl, ⟨G2, D2, Dx, hM, ⟨A', n', c', E', hY2.more hgr.gg hlt (fun y hy => ((hY1.mo y hy).more (fun b hb2 => hgr.gn b hb2)).size hc.size)⟩, ?_, fun b hb2 => (hgr.gn b hb2).elim (h1 b) (fun h => by omega)⟩, hc.below (fun b hD => h1 b (hX.sub b hD)) (by omega)⟩
 intro b hb2 hx
 rcases hgr.dn b hb2 with h | h
 ·exact hd b h hx
 ·have := hY1.lt b (hY1.sub b hx)
  omega
def ltB (L : List OpX) : Bool := (L.take 40).all (fun x => decide (x.n ≤ 100)) && decide (L.length ≤ 40)
theorem ltB_use {L : List OpX} (h : ltB L = true) : L.length ≤ 40 ∧ ∀ x ∈ L, x.n ≤ 100 := by
 unfold ltB at h
 simp only [Bool.and_eq_true, List.all_eq_true, decide_eq_true_eq] at h
 rw [List.take_of_length_le h.2] at h
 exact ⟨h.2, h.1⟩
set_option maxHeartbeats 4000000 in
set_option maxRecDepth 100000 in
theorem light_any (L : List OpX) (A : Option Addr) (n c : Nat) (w : World) (hr : Rs 11 w A n c (L.flatMap OpX.cs)) (hn : n ≤ 9223372036854775807) : Calls Tryz.prog 6 #[.slice A n c] w fun en w' => en = .returned (.bool (ltB L)) ∧ w = w' := by
 have hL : L.length = n := by have := hr.1; rw [flat_len OpX.cs 11 OpX.cs_len] at this; omega
 go_enter Tryz.func6, Tryz.ntmps6
 go_upto_region 2 with (fail)
 go_loop [3] (fun I => ∃ i : Nat, I = .int .i64 (i : Int) ∧ i ≤ n ∧ i ≤ 40 ∧ (L.take i).all (fun x => decide (x.n ≤ 100)) = true) (fun I => n - (intOf I).toNat)
 case atStart => exact ⟨0, rfl, by omega, by omega, by simp⟩
 case round =>
  obtain ⟨i, rfl, hi, h40, hp⟩ := hrel
  by_cases h1 : i < n
  ·have i1 : (i : Int) < (n : Int) := by omega
   by_cases h2 : i < 40
   ·have i2 : (i : Int) < 40 := by omega
    obtain ⟨b, off, rfl, hbl, -⟩ := hr.at_ (by omega) (by decide)
    have q : w.cell? ⟨b, off + i * 11 + 10, none⟩ = some (.slice (L[i]'(by omega)).A (L[i]'(by omega)).n (L[i]'(by omega)).c) := (hr.rangeE OpX.cs_len i (by omega)) 10 _ rfl
    have hsn : L.take (i + 1) = L.take i ++ [L[i]'(by omega)] := by simp
    have hmem : (L[i]'(by omega)) ∈ L.take 40 := List.mem_iff_getElem.2 ⟨i, by rw [List.length_take]; omega, by simp⟩
    have HS := Lib.hid hsn
    have HM := Lib.hid hmem
    clear hsn hmem
    generalize (L[i]'(by omega)) = x at *
    by_cases h3 : x.n ≤ 100
    ·have i3 : ¬ (100 : Int) < (x.n : Int) := by omega
     have hp2 : (L.take (i + 1)).all (fun x => decide (x.n ≤ 100)) = true := by
      rw [HS.out, List.all_append, hp]
      simp [h3]
     have HP := Lib.hid hp2
     clear hp hp2
     go_wp2
     go_round
     case rel => exact ⟨i + 1, by go_num, by omega, by omega, HP.out⟩
     case measure => simp [intOf]; omega
    ·have i3 : (100 : Int) < (x.n : Int) := by omega
     have hz : Hid (ltB L = false) := Lib.hid (by
      unfold ltB
      rw [Bool.and_eq_false_iff]
      left
      rw [List.all_eq_false]
      exact ⟨x, HM.out, by simpa using h3⟩)
     clear hp
     go_wp2
     go_ret
     exact ⟨by rw [hz.out]; rfl, rfl⟩
   ·have i2 : ¬ (i : Int) < 40 := by omega
    have i4 : ¬ (n : Int) ≤ 40 := by omega
    have hz : Hid (ltB L = false) := Lib.hid (by
     unfold ltB
     rw [decide_eq_false (by omega), Bool.and_false])
    clear hp
    go_wp2
    go_ret
    exact ⟨by rw [hz.out]; rfl, rfl⟩
  ·have i1 : ¬ (i : Int) < (n : Int) := by omega
   have hin : i = n := by omega
   have i4 : (n : Int) ≤ 40 := by omega
   have hz : Hid (ltB L = true) := Lib.hid (by
    unfold ltB
    rw [List.take_of_length_le (by omega)] at hp ⊢
    rw [hp, decide_eq_true (by omega)]
    rfl)
   clear hp
   go_wp2
   go_ret
   exact ⟨by rw [hz.out]; rfl, rfl⟩
end

end Go.Proofs.YtljlflmkmjcnnaaGreatDoor
