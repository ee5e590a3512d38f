/- Texts of the law FollowOffers, part 5. -/
import Derived.Test.YtjiiloffgipfhaaGreatDoorZFollowOffers4
set_option linter.unusedVariables false
set_option linter.unusedSimpArgs false
set_option maxHeartbeats 4000000
set_option maxRecDepth 100000
namespace Go.Proofs.YtjiiloffgipfhaaGreatDoor
section
attribute [local go_sem ↓] sliced_cut
attribute [local go_sem] cutA_zero
open Go.RowKit
def vipB (v : Vp) : List UInt8 := placeB v.ad.1 v.ad.2.1 v.ad.2.2 ++ dig v.pt 2 ++ dig v.pr 1 ++ dig v.wy.toNat 1 ++ membersB v.ms ++ dig (stkB v.S).length 2 ++ stkB v.S
def vpL (six : Bool) (ah al pt pr wn : Nat) (A : Option Addr) (n c T : Nat) : List Value := [.bool six, .int .u64 (ah : Int), .int .u64 (al : Int), .int .u16 (pt : Int), .int .u8 (pr : Int), .int .i64 (wn : Int), .slice A n c, .pointer (some ⟨T, 0, none⟩)]
theorem okM_sh {C : Cf} {ms : List (Int × Int)} (h : okM C ms = true) : ms.all (fun p => shB p.1 && shB p.2) = true := by
 rw [List.all_eq_true]
 intro p hp
 obtain ⟨h1, h2, h3⟩ := okM_all h p hp
 have h4 := knC_rg h1
 unfold shB
 rw [decide_eq_true (show 0 ≤ p.1 by omega), decide_eq_true (show p.1 < 256 by omega), decide_eq_true h2, decide_eq_true (show p.2 < 256 by omega)]
 rfl
theorem vipB_len {C : Cf} {v : Vp} (h : VpOk C v) : (vipB v).length ≤ 900 := by
 have h1 := stkB_len h.st
 have h2 := okM_len h.ms
 have h3 := adrB_length v.ad.1 v.ad.2.1 v.ad.2.2
 simp only [vipB, List.length_append, placeB_len, dig_length, membersB, pairsB_len]
 omega
theorem service_l (six : Bool) (ah al pt pr wn : Nat) (ms : List (Int × Int)) (S : Stk) (MA : Option Addr) (mn mc T : Nat) (h1 : ah < 18446744073709551616) (h2 : al < 18446744073709551616) (hpt : pt < 65536) (hpr : pr < 256) (hwn4 : wn ≤ 4) (hms : ms.all (fun p => shB p.1 && shB p.2) = true) (hms64 : ms.length ≤ 64) (hS : StkOk S) (w : World) (hm : Rs 2 w MA mn mc (prs .i64 ms)) (hT : Bk w T 210 (stkC S)) (hTB : TabB w) : Calls Tryz.prog 57 #[.agg (vpL six ah al pt pr wn MA mn mc T).toArray] w (RetRb w (placeB six ah al ++ dig pt 2 ++ dig pr 1 ++ dig wn 1 ++ membersB ms ++ dig (stkB S).length 2 ++ stkB S)) := by
 obtain ⟨da, va1, va2⟩ := rowAdC
 have hn64 : mn ≤ 64 := by have := hm.1; rw [prs_length] at this; omega
 have hlS := stkB_len hS
 have HTL := qy hT.lt
 have HAD := qy (fun w => address_any six ah al w h1 h2)
 have HMB := qy (fun w (h : Rs 2 w MA mn mc (prs .i64 ms)) => members_any ms MA mn mc w h hn64 hms)
 have HSB := qy (fun w h1 h2 => stkBytes_any S hS T w h1 h2)
 have HPpt : Hid (∀ A n c l w, Rb w A n c l → n ≤ 10000 → Calls Tryz.prog 51 #[.slice A n c, .int .u64 ((pt : Nat) : Int), .int .i64 2] w (RetF w (l ++ dig pt 2))) := qy (fun A n c l w h hn => put_full A n c l pt 2 w h (by omega) (by omega) (by omega) (by omega))
 have HPpr : Hid (∀ A n c l w, Rb w A n c l → n ≤ 10000 → Calls Tryz.prog 51 #[.slice A n c, .int .u64 ((pr : Nat) : Int), .int .i64 1] w (RetF w (l ++ dig pr 1))) := qy (fun A n c l w h hn => put_full A n c l pr 1 w h (by omega) (by omega) (by omega) (by omega))
 have HPwy : Hid (∀ A n c l w, Rb w A n c l → n ≤ 10000 → Calls Tryz.prog 51 #[.slice A n c, .int .u64 ((wn : Nat) : Int), .int .i64 1] w (RetF w (l ++ dig wn 1))) := qy (fun A n c l w h hn => put_full A n c l wn 1 w h (by omega) (by omega) (by omega) (by omega))
 have HPL : Hid (∀ A n c l w, Rb w A n c l → n ≤ 10000 → Calls Tryz.prog 51 #[.slice A n c, .int .u64 (((stkB S).length : Nat) : Int), .int .i64 2] w (RetF w (l ++ dig (stkB S).length 2))) := qy (fun A n c l w h hn => put_full A n c l (stkB S).length 2 w h (by omega) (by omega) (by omega) (by omega))
 have hw1 : IntKind.u64.wrap (pt : Int) = (pt : Int) := IntWalk.u64_in _ (by omega)
 have hw2 : IntKind.u64.wrap (pr : Int) = (pr : Int) := IntWalk.u64_in _ (by omega)
 have hw3 : IntKind.u64.wrap (wn : Int) = (wn : Int) := IntWalk.u64_in _ (by omega)
 have HSL := qy hlS
 have hTB0 := hTB
 obtain ⟨dvv1, vv1, vv2⟩ := rowVe
 obtain ⟨bv, be, zV⟩ := box1 w 143 (vpL six ah al pt pr wn MA mn mc T)
 go_enter Tryz.func57, Tryz.ntmps57
 go_upto_region 1 with (fail)
 generalize w.alloc (.cells (vpL six ah al pt pr wn MA mn mc T).toArray 143) = V at *
 replace hm := hm.later be
 replace hT := hT.later be
 replace zV : w.heap.size < V.heap.size := zV
 go_upto_region 1 with (fail)
 refine wp_region_lit ?_
 refine qw ?_
 refine wpList_ldA (t := 143) (cs := vpL six ah al pt pr wn MA mn mc T) 53 (.tmp 5) rfl rfl (adC six ah al) rfl (bv) rfl va1 va2 (szAd _ _ _) ?_
 refine wpq fun K hK => ?_
 go_simp
 refine (HAD.out _).mono ?_
 rintro e w1 ⟨A1, n1, c1, bs1, d1, rfl, rfl, hR1⟩
 with_reducible refine hK _ _ ?_
 clear hK K
 have hn_n1 : n1 ≤ 17 := by have h1 := hR1.1; rw [placeB_len] at h1; have := adrB_length six ah al; omega
 have hb1 := below_plus V bs1 d1
 replace bv := bv.later hb1
 replace hm := hm.later hb1
 replace hT := hT.later hb1
 replace be := be.trans (hb1.mono be.size)
 clear hb1
 generalize plus V bs1 d1 = V1 at *
 refine qw ?_
 go_upto_region 2 with (fail)
 refine wp_region_lit ?_
 iterate 2 (refine qw ?_)
 refine qL 54 (.tmp 9) bv Tryz.underlying54 ?_
 refine qw ?_
 refine wpq fun K hK => ?_
 go_simp
 refine (HPpt.out _ _ _ _ _ hR1 (by omega)).mono ?_
 rintro e w1 ⟨A2, n2, bs1, d1, rfl, rfl, o2⟩
 with_reducible refine hK _ _ ?_
 clear hK K
 have hzz : w.heap.size + 1 ≤ V1.heap.size := bv.lt
 have hn_n2 : n2 ≤ 19 := by have h1 := o2.len; have h2 := hR1.1; rw [List.length_append, dig_length] at h1; omega
 clear hR1
 have hb1 := below_plus V1 bs1 d1
 replace bv := bv.later hb1
 replace hm := hm.later hb1
 replace hT := hT.later hb1
 replace be := be.trans (hb1.mono be.size)
 have hO := o2.mono hzz
 clear o2 hzz
 clear hb1
 generalize plus V1 bs1 d1 = V2 at *
 refine qw ?_
 go_upto_region 3 with (fail)
 refine wp_region_lit ?_
 iterate 2 (refine qw ?_)
 refine qL 5 (.tmp 14) bv Tryz.underlying5 ?_
 refine qw ?_
 refine wpq fun K hK => ?_
 go_simp
 refine (HPpr.out _ _ _ _ _ hO.rb (by omega)).mono ?_
 rintro e w1 ⟨A3, n3, bs1, d1, rfl, rfl, o3⟩
 with_reducible refine hK _ _ ?_
 clear hK K
 have hzz : w.heap.size + 1 ≤ V2.heap.size := bv.lt
 have hn_n3 : n3 ≤ 20 := by have h1 := o3.len; have h2 := hO.len; rw [List.length_append, dig_length] at h1; omega
 clear hO
 have hb1 := below_plus V2 bs1 d1
 replace bv := bv.later hb1
 replace hm := hm.later hb1
 replace hT := hT.later hb1
 replace be := be.trans (hb1.mono be.size)
 have hO := o3.mono hzz
 clear o3 hzz
 clear hb1
 generalize plus V2 bs1 d1 = V3 at *
 refine qw ?_
 go_upto_region 4 with (fail)
 refine wp_region_lit ?_
 iterate 2 (refine qw ?_)
 refine qL 3 (.tmp 19) bv Tryz.underlying3 ?_
 refine qw ?_
 refine wpq fun K hK => ?_
 go_simp
 refine (HPwy.out _ _ _ _ _ hO.rb (by omega)).mono ?_
 rintro e w1 ⟨A4, n4, bs1, d1, rfl, rfl, o4⟩
 with_reducible refine hK _ _ ?_
 clear hK K
 have hzz : w.heap.size + 1 ≤ V3.heap.size := bv.lt
 have hn_n4 : n4 ≤ 21 := by have h1 := o4.len; have h2 := hO.len; rw [List.length_append, dig_length] at h1; omega
 clear hO
 have hb1 := below_plus V3 bs1 d1
 replace bv := bv.later hb1
 replace hm := hm.later hb1
 replace hT := hT.later hb1
 replace be := be.trans (hb1.mono be.size)
 have hO := o4.mono hzz
 clear o4 hzz
 clear hb1
 generalize plus V3 bs1 d1 = V4 at *
 refine qw ?_
 go_upto_region 5 with (fail)
 refine wp_region_lit ?_
 iterate 2 (refine qw ?_)
 refine qL 65 (.tmp 24) bv Tryz.underlying65 ?_
 refine wpq fun K hK => ?_
 go_simp
 refine (HMB.out _ hm).mono ?_
 rintro e w1 ⟨A5, n5, c5, bs1, d1, rfl, rfl, hR5⟩
 with_reducible refine hK _ _ ?_
 clear hK K
 have hn_n5 : n5 ≤ 129 := by have h1 := hR5.1; simp only [membersB, List.length_append, dig_length, pairsB_len] at h1; omega
 have hb1 := below_plus V4 bs1 d1
 replace bv := bv.later hb1
 replace hm := hm.later hb1
 replace hT := hT.later hb1
 replace hO := hO.later hb1
 replace be := be.trans (hb1.mono be.size)
 clear hb1
 generalize plus V4 bs1 d1 = V5 at *
 refine wpList_app bt rfl (.tmp 23) (.tmp 26) rfl rfl hO rfl hR5 (by omega) bv.lt ?_
 intro A6 n6 c6 V6 hO6 hb6 hg6
 refine qw ?_
 replace hT : Bk V6 T 210 (stkC S) := hT.grown hg6 (fun e => by have := (hO.blk _ e).1; have := HTL.out; omega)
 replace bv : Bk V6 w.heap.size 143 (vpL six ah al pt pr wn MA mn mc T) := bv.grown hg6 (fun e => by have := (hO.blk _ e).1; omega)
 replace be := be.trans (hb6.mono (Nat.le_succ _))
 have hn_n6 : n6 ≤ 150 := by have h1 := hO6.len; have h2 := hO.len; rw [List.length_append, h2] at h1; simp only [membersB, List.length_append, dig_length, pairsB_len] at h1; omega
 clear hm hR5 hb6 hg6 hO
 have hO := hO6.mono (Nat.le_succ _)
 clear hO6
 go_upto_region 6 with (fail)
 refine wp_region_lit ?_
 refine qw ?_
 refine qL 141 (.tmp 28) bv Tryz.underlying141 ?_
 refine wpq fun K hK => ?_
 go_simp
 refine (HSB.out _ hT (hTB0.later be)).mono ?_
 rintro e w1 ⟨A7, n7, c7, bs1, d1, rfl, rfl, ho7⟩
 with_reducible refine hK _ _ ?_
 clear hK K
 have hn_n7 : n7 ≤ 700 := by have h1 := ho7.len; have h2 := HSL.out; omega
 have hR7 := ho7.rb
 clear ho7
 have hb1 := below_plus V6 bs1 d1
 replace hO := hO.later hb1
 replace be := be.trans (hb1.mono be.size)
 clear hb1
 generalize plus V6 bs1 d1 = V7 at *
 refine qw ?_
 have hw7 : IntKind.u64.wrap (n7 : Int) = (n7 : Int) := IntWalk.u64_in _ (by omega)
 have hl7 := hR7.1
 rw [hl7] at HPL
 have HL7 := qy hl7
 clear hl7
 go_upto_region 7 with (fail)
 refine wp_region_lit ?_
 iterate 4 (refine qw ?_)
 refine wpq fun K hK => ?_
 go_simp
 refine (HPL.out _ _ _ _ _ hO.rb (by omega)).mono ?_
 rintro e w1 ⟨A8, n8, bs1, d1, rfl, rfl, o8⟩
 with_reducible refine hK _ _ ?_
 clear hK K
 have hzz := be.size
 have hn_n8 : n8 ≤ 152 := by have h1 := o8.len; have h2 := hO.len; rw [List.length_append, dig_length] at h1; omega
 clear hO
 have hb1 := below_plus V7 bs1 d1
 replace hR7 := hR7.later hb1
 replace be := be.trans (hb1.mono be.size)
 have hO := o8.mono hzz
 clear o8 hzz
 clear hb1
 generalize plus V7 bs1 d1 = V8 at *
 refine qw ?_
 go_upto_region 8 with (fail)
 refine wp_region_lit ?_
 iterate 2 (refine qw ?_)
 refine wpList_app bt rfl (.tmp 36) (.tmp 37) rfl rfl hO rfl hR7 (by omega) be.size ?_
 intro A9 n9 c9 V9 hO9 hb9 hg9
 refine qw ?_
 go_wp2
 go_ret
 rw [HL7.out]
 exact RetRb.mk hO9.rb (be.trans hb9)
theorem service_any (C : Cf) (x : Ve) (hv : VpOk C x.1) (w : World) (hm : Rs 2 w x.2.A x.2.n x.2.c (prs .i64 x.1.ms)) (hT : Bk w x.2.T 210 (stkC x.1.S)) (hTB : TabB w) : Calls Tryz.prog 57 #[.agg (veC x).toArray] w (RetRb w (vipB x.1)) := by
 obtain ⟨⟨⟨six, ah, al⟩, pt, pr, wy, ms, S⟩, ⟨MA, mn, mc, T⟩⟩ := x
 obtain ⟨had, hpt, hpr, hwy, hms, hst, hev⟩ := hv
 simp only at *
 obtain ⟨wn, rfl⟩ : ∃ wn : Nat, wy = wn := ⟨wy.toNat, by omega⟩
 exact service_l six ah al pt pr wn ms S MA mn mc T had.2.1 had.2.2 hpt (by omega) (by omega) (okM_sh hms) (okM_len hms) hst w hm hT hTB
def bkB (C : Cf) (n : Nat) : List UInt8 := match C.bk.getD n none with | some a => dig n 1 ++ placeB a.1 a.2.1 a.2.2 | none => []
def bksI (C : Cf) : Nat → List UInt8
 | 0 => []
 | n + 1 => bksI C n ++ bkB C (n + 1)
def vipsB (L : List Vp) : List UInt8 := L.flatMap vipB
def sttB (C : Cf) : List UInt8 := dig C.num 8 ++ (C.key ++ dig C.now 8) ++ bksI C 64 ++ dig 0 1 ++ dig C.vs.length 1 ++ vipsB C.vs
theorem bkB_len (C : Cf) (n : Nat) : (bkB C n).length ≤ 18 := by
 unfold bkB
 split
 ·rename_i a _
  have := adrB_length a.1 a.2.1 a.2.2
  simp only [List.length_append, dig_length, placeB_len]
  omega
 ·simp
theorem bksI_len (C : Cf) : ∀ n, (bksI C n).length ≤ 18 * n
 | 0 => by simp [bksI]
 | n + 1 => by
  have h1 := bksI_len C n
  have h2 := bkB_len C (n + 1)
  simp only [bksI, List.length_append]
  omega
theorem vipsB_len {C : Cf} {L : List Vp} (h : ∀ v ∈ L, VpOk C v) : (vipsB L).length ≤ 900 * L.length := by
 induction L with
 | nil => simp [vipsB]
 | cons a t ih =>
  have h1 := vipB_len (h a (by simp))
  have h2 := ih (fun v hv => h v (by simp [hv]))
  simp only [vipsB, List.flatMap_cons, List.length_append, List.length_cons] at h2 ⊢
  omega
theorem CfX.own_grown {G D : Nat → Prop} {w w' : World} {g : Nat} {C : Cf} {A : Option Addr} {n c : Nat} {E : List Ve} (h : CfX G D w g C A n c E) {row : Option Nat} (hg : w.grownBy w' row) (hr : ∀ b, row = some b → ¬ G b ∧ ∀ x ∈ E, ∀ a, x.2.A = some a → a.block ≠ b) : CfX G D w' g C A n c E := by
 refine ⟨h.vs, h.st.grown hg (fun e => (hr _ e).1 (h.sub _ h.dg)), h.row.grown hg (fun k hk e => (hr _ e).1 (h.sub _ (h.dr k hk))), h.dr, h.dg, fun x hx => (h.tb x hx).grown hg (fun e => (hr _ e).1 (h.sub _ (h.dt x hx))), h.dt, fun x hx => (h.mm x hx).grown hg (fun a ha e => (hr _ e.symm).2 x hx a ha rfl), fun x hx => (h.mo x hx).size hg.size, h.nd, h.sub, fun b hb => Nat.lt_of_lt_of_le (h.lt b hb) hg.size⟩
theorem clM {x : Ve} {w : World} (h : Rs 2 w x.2.A x.2.n x.2.c (prs .i64 x.1.ms)) : Rs 2 w (clV x).2.A (clV x).2.n (clV x).2.c (prs .i64 (clV x).1.ms) := ⟨h.1, Nat.le_refl _, h.2.2⟩
theorem kn_bk (C : Cf) (n : Nat) (h1 : 1 ≤ n) (h2 : n ≤ 64) : knC C (n : Int) = (C.bk.getD n none).isSome ∧ bkA C (n : Int) = (C.bk.getD n none).getD z0 := by
 constructor
 ·unfold knC; rw [decide_eq_true (by omega), decide_eq_true (by omega)]; rfl
 ·exact if_pos ⟨by omega, by omega⟩
def RetOwn (w : World) (l : List UInt8) (e : Ending) (w' : World) : Prop := ∃ A n c bs d, e = .returned (.slice A n c) ∧ w' = plus w bs d ∧ Ob (plus w bs d) w.heap.size A n c l
theorem RetOwn.mk {w w' : World} {l : List UInt8} {A : Option Addr} {n c : Nat} (ho : Ob w' w.heap.size A n c l) (hb : Below w.heap.size w w') : RetOwn w l (.returned (.slice A n c)) w' := by
 obtain ⟨bs, d, rfl⟩ := plus_of hb
 exact ⟨A, n, c, bs, d, rfl, rfl, ho⟩
theorem codecState_own {G D : Nat → Prop} (C : Cf) (hC : CfOk C) (g : Nat) (A : Option Addr) (n c : Nat) (E : List Ve) (w : World) (hX : CfX G D w g C A n c E) (hTB : TabB w) : Calls Tryz.prog 20 #[.pointer (some ⟨g, 0, none⟩)] w (RetOwn w (sttB C)) := by
 obtain ⟨da, va1, va2⟩ := rowAdC
 obtain ⟨dv, vv1, vv2⟩ := rowVe
 obtain ⟨dr, vr1, vr2, vr3⟩ := rowRing
 have hk := hC.key
 have hb := hC.bl
 have hnum := hC.num
 have hn16 : n ≤ 16 := by have := hX.n_; have := hC.vl; omega
 have HNV := qy hX.n_
 have HNEW := qy (show ∀ b, w.heap.size ≤ b → ¬ G b ∧ ∀ x ∈ E, ∀ a, x.2.A = some a → a.block ≠ b from fun b hb => ⟨fun h => by have := hX.lt b h; omega, fun x hx a ha e => by have := (hX.mo x hx a ha).1; omega⟩)
 have HP0 : Hid (∀ A n c l w, Rb w A n c l → n ≤ 100000 → Calls Tryz.prog 51 #[.slice A n c, .int .u64 0, .int .i64 1] w (RetF w (l ++ dig 0 1))) := qy (fun A n c l w h hn => put_full A n c l 0 1 w h (by omega) (by omega) (by omega) (by omega))
 have HP1 := qy (fun w => put_full none 0 0 [] C.num 8 w Rb.nil_ (by omega) (by omega) (by omega) (by omega))
 have HRB := qy (fun w => ringBytes_any C.key hk C.now w hC.now)
 have HBE := qy (fun m w h => backend_any C hk hb A n c g m w h)
 have HLE := qy (fun w h => cfgLen_any C hk hb A n c g w h)
 have HPU : Hid (∀ A n c l v w, Rb w A n c l → n ≤ 100000 → v < 1000 → Calls Tryz.prog 51 #[.slice A n c, .int .u64 ((v : Nat) : Int), .int .i64 1] w (RetF w (l ++ dig v 1))) := qy (fun A n c l v w h hn hv => put_full A n c l v 1 w h (by omega) (by omega) (by omega) (by omega))
 have be := Below.refl w.heap.size w
 go_enter Tryz.func20, Tryz.ntmps20
 go_upto_region 3 with (fail)
 refine wp_relS 10 65 rfl (by kernel_rfl) (by kernel_rfl) ?_
 refine qb 0 1 ?_
 refine qa 0 12 2 ?_
 refine qa 1 13 3 ?_
 refine ql 2 14 4 23 hX.st Tryz.underlying23 ?_ (hv := (stC_num C A n c))
 apply qo (φ := (MP.of w.heap.size (dig C.num 8))) 5 rfl rfl
 ·intro FA x hO hD K hK
  have e15 := qe (hD 3 15)
  clear hO hD
  go_simp
  refine (HP1.out _).mono ?_
  rintro e w1 ⟨A1, n1, bs1, d1, rfl, rfl, ho1⟩
  exact hK.out _ _ (Ex.plus_ _ _ _) ⟨_, _, rfl, ho1.mono (below_plus w x.bs x.d).size⟩
 refine qb 0 6 ?_
 refine qa 5 17 7 ?_
 refine qa 6 18 8 ?_
 apply qm 9 rfl rfl
 ·intro FA x hO hD K hK
  obtain ⟨e19, ev19⟩ := qE (hD 7 19)
  clear hO hD
  refine wanted_if rfl ?_
  refine wp_ldA 90 (.tmp 19) rfl (ringC C.key C.now) ev19.out (hX.st.later bpl) (stC_ring C hk A n c) vr1 vr2 (szRing C.key hk _) ?_
  exact qk hK rfl
 apply qo (φ := (MP.rb (C.key ++ dig C.now 8))) 10 rfl rfl
 ·intro FA x hO hD K hK
  have e20 := qe (hD 8 20)
  clear hO hD
  go_simp
  refine (HRB.out _).mono ?_
  rintro e w1 ⟨A1, n1, c1, bs1, d1, rfl, rfl, ho1⟩
  exact hK.out _ _ (Ex.plus_ _ _ _) ⟨_, _, _, rfl, ho1.rb⟩
 refine Steps.fin_ (fun vs x hp => ?_)
 have p4 := hp 4 qd
 have p9 := hp 9 qd
 simp only [qta, qtb, qda, qdb, putAll, Nat.zero_add, Nat.reduceAdd, Act.put, qsT, qsZ, qsS, qi (hp 0 qd), qi (hp 1 qd), qi (hp 2 qd), qi (hp 3 qd), qi (hp 5 qd), qi (hp 6 qd), qi (hp 7 qd), qi (hp 8 qd)]
 clear hp
 generalize vs 4 = y4 at *
 generalize vs 9 = y9 at *
 clear vs
 obtain ⟨A4, n4, rfl, ho4⟩ := p4
 obtain ⟨A9, n9, c9, rfl, hr9⟩ := p9
 have hb3 := below_plus w x.bs x.d
 replace hX := hX.later hb3
 replace be := be.trans (hb3.mono be.size)
 have hn4 : n4 = 8 := by have := ho4.len; rw [dig_length] at this; omega
 have hn9 : n9 = 24 := by have := hr9.1; rw [List.length_append, dig_length, hk] at this; omega
 clear hb3
 generalize plus w x.bs x.d = V at *
 refine wpList_app bt rfl (.tmp 16) (.tmp 21) rfl rfl ho4 rfl hr9 (by omega) be.size ?_
 intro A5 n5 c5 V5 hO5 hb5 hg5
 refine qw ?_
 replace hX := hX.own_grown hg5 (fun b hb => HNEW.out b (ho4.blk _ hb).1)
 replace be := be.trans hb5
 have hl0 : (dig C.num 8 ++ (C.key ++ dig C.now 8)).length = 32 := by simp only [List.length_append, dig_length, hk]
 generalize hB0 : dig C.num 8 ++ (C.key ++ dig C.now 8) = B0 at *
 have HB0 := qy hB0
 clear hB0 ho4 hr9 hg5 hb5
 go_upto_region 5 with (fail)
 have HST := qy (And.intro hO5 (And.intro hX be))
 clear hO5 hX be
 go_loopw [3, 4] (fun OUT I wr => ∃ (m : Nat) (B : Option Addr) (k d : Nat), I = .int .i64 (m : Int) ∧ OUT = .slice B k d ∧ 1 ≤ m ∧ m ≤ 65 ∧ Ob wr w.heap.size B k d (B0 ++ bksI C (m - 1)) ∧ CfX G D wr g C A n c E ∧ Below w.heap.size w wr) (fun _ I _ => 65 - (intOf I).toNat)
 case atStart => exact ⟨1, _, _, _, rfl, rfl, Nat.le_refl _, by omega, by simpa [bksI] using HST.out.1, HST.out.2.1, HST.out.2.2⟩
 case round =>
  clear HST
  obtain ⟨m, B, k, d, rfl, rfl, hm1, hm65, hO, hX, be⟩ := hrel
  have hk2 : k ≤ 32 + 18 * 64 := by
   have h1 := hO.len
   have h2 := bksI_len C (m - 1)
   rw [List.length_append, hl0] at h1
   omega
  by_cases h64 : m ≤ 64
  ·have i64 : (m : Int) ≤ 64 := by omega
   have HKB := qy (kn_bk C m hm1 h64)
   have hbs : bksI C m = bksI C (m - 1) ++ bkB C m := by
    obtain ⟨q, rfl⟩ : ∃ q, m = q + 1 := ⟨m - 1, by omega⟩
    rfl
   have HBS := qy hbs
   have hwm : IntKind.u64.wrap (m : Int) = (m : Int) := IntWalk.u64_in _ (by omega)
   have hBB0 : bkB C m = match C.bk.getD m none with | some a => dig m 1 ++ placeB a.1 a.2.1 a.2.2 | none => [] := rfl
   have HADK : Hid (∀ a, C.bk.getD m none = some a → adOk a) := qy (fun a ha => hC.bk m a ha)
   have HBB := qy hBB0
   clear hbs hBB0
   go_upto_region 7 with (fail)
   refine wp_region_lit ?_
   iterate 2 (refine qw ?_)
   refine wpq fun K hK => ?_
   go_simp
   refine (HBE.out _ _ hX.st).mono ?_
   rintro e w1 ⟨bs1, d1, rfl, rfl⟩
   with_reducible refine hK _ _ ?_
   clear hK K
   have hb1 := below_plus wr bs1 d1
   replace hX := hX.later hb1
   replace hO := hO.later hb1
   replace be := be.trans (hb1.mono be.size)
   clear hb1
   generalize plus wr bs1 d1 = W at *
   iterate 4 (refine qw ?_)
   refine wpList_stA (t := 53) 53 (.tmp 5) (.tmp 31) rfl rfl (adC (bkA C m).1 (bkA C m).2.1 (bkA C m).2.2) (adC false 0 0) rfl (by simp [adC, Value.oneCell']) rfl rfl (Bk.new _ _ _) (szAd _ _ _) ?_
   intro W4 h4 g4
   refine qw ?_
   have be4 : Below W.heap.size W W4 := below_grown (Below.allocS (Below.refl _ _) _) g4 (Nat.le_refl _)
   replace hX := hX.later be4
   replace hO := hO.later be4
   replace be := be.trans (be4.mono be.size)
   clear be4 g4
   rw [HKB.out.1]
   rw [HKB.out.2] at h4
   have hBB := HBB.out
   cases hq : C.bk.getD m none with
   | none =>
    rw [hq] at hBB
    have HN := qy (show B0 ++ bksI C m = B0 ++ bksI C (m - 1) by rw [HBS.out, hBB]; simp)
    have HH := qy (And.intro hO (And.intro hX be))
    clear hO hX be hBB h4 hq
    go_wp2
    exact ⟨⟨m + 1, B, _, _, by go_num, rfl, by omega, by omega, by simpa [HN.out] using HH.out.1, HH.out.2.1, HH.out.2.2⟩, by simp [intOf]; omega⟩
   | some a =>
    rw [hq] at hBB
    have hao := HADK.out a hq
    have h4 : Bk W4 W.heap.size 53 (adC a.1 a.2.1 a.2.2) := by rw [hq] at h4; exact h4
    have HAA := qy (fun w => address_any a.1 a.2.1 a.2.2 w hao.2.1 hao.2.2)
    have hpl : (placeB a.1 a.2.1 a.2.2).length ≤ 17 := by have := adrB_length a.1 a.2.1 a.2.2; rw [placeB_len]; omega
    have HN := qy (show B0 ++ bksI C m = (B0 ++ bksI C (m - 1) ++ dig m 1) ++ placeB a.1 a.2.1 a.2.2 by rw [HBS.out, hBB]; simp [List.append_assoc])
    clear hBB hq
    go_upto_region 9 with (fail)
    refine wp_relS 6 65 rfl (by kernel_rfl) (by kernel_rfl) ?_
    refine qb 3 1 ?_
    refine qb 4 2 ?_
    refine qa 1 35 3 ?_
    apply qo (φ := (MP.of w.heap.size (B0 ++ bksI C (m - 1) ++ dig m 1))) 4 rfl rfl
    ·intro FA x hO hD K hK
     have e34 := qe (hD 0 34)
     have e36 := qe (hD 2 36)
     clear hO hD
     go_simp
     refine (HPU.out _ _ _ _ _ _ (hO.rb.later bpl) (by omega) (by omega)).mono ?_
     rintro e w1 ⟨A1, n1, bs1, d1, rfl, rfl, ho1⟩
     exact hK.out _ _ (Ex.plus_ _ _ _) ⟨_, _, rfl, ho1.mono (Nat.le_trans be.size (below_plus W4 x.bs x.d).size)⟩
    apply qm 5 rfl rfl
    ·intro FA x hO hD K hK
     have e5 := hO 5
     simp only [eval_tmp, qgT, qgS, qgZ, qoS] at e5
     have ev5 := qy ((eval_tmp FA 5).trans e5)
     clear hO hD
     refine wanted_if rfl ?_
     refine wp_ldA 53 (.tmp 5) rfl (adC a.1 a.2.1 a.2.2) ev5.out (h4.later bpl) rfl va1 va2 (szAd _ _ _) ?_
     exact qk hK rfl
    apply qo (φ := (MP.rb (placeB a.1 a.2.1 a.2.2))) 6 rfl rfl
    ·intro FA x hO hD K hK
     have e38 := qe (hD 4 38)
     clear hO hD
     go_simp
     refine (HAA.out _).mono ?_
     rintro e w1 ⟨A1, n1, c1, bs1, d1, rfl, rfl, ho1⟩
     exact hK.out _ _ (Ex.plus_ _ _ _) ⟨_, _, _, rfl, ho1⟩
    refine Steps.fin_ (fun vs x hp => ?_)
    have p3 := hp 3 qd
    have p5 := hp 5 qd
    simp only [qta, qtb, qda, qdb, putAll, Nat.zero_add, Nat.reduceAdd, Act.put, qsT, qsZ, qsS, qi (hp 0 qd), qi (hp 1 qd), qi (hp 2 qd), qi (hp 4 qd)]
    clear hp
    generalize vs 3 = y3 at *
    generalize vs 5 = y5 at *
    clear vs
    obtain ⟨A6, n6, rfl, ho6⟩ := p3
    obtain ⟨A8, n8, c8, rfl, hr8⟩ := p5
    have hb3 := below_plus W4 x.bs x.d
    replace hX := hX.later hb3
    replace be := be.trans (hb3.mono be.size)
    have hn6 : n6 ≤ 32 + 18 * 64 + 1 := by have h1 := ho6.len; have h2 := hO.len; rw [List.length_append, dig_length] at h1; omega
    have hn8 : n8 ≤ 17 := by have := hr8.1; omega
    clear hb3 h4 hO
    generalize plus W4 x.bs x.d = V7 at *
    refine wpList_app bt rfl (.tmp 37) (.tmp 39) rfl rfl ho6 rfl hr8 (by omega) be.size ?_
    intro A5 n5 c5 V5 hO5 hb5 hg5
    refine qw ?_
    replace hX := hX.own_grown hg5 (fun b hb => HNEW.out b (ho6.blk _ hb).1)
    replace be := be.trans hb5
    have HH := qy (And.intro hO5 (And.intro hX be))
    clear hO5 hX be ho6 hr8 hb5 hg5
    go_wp2
    exact ⟨⟨m + 1, A5, _, c5, by go_num, rfl, by omega, by omega, by simpa [HN.out] using HH.out.1, HH.out.2.1, HH.out.2.2⟩, by simp [intOf]; omega⟩
  ·have i64 : ¬ (m : Int) ≤ 64 := by omega
   obtain rfl : m = 65 := by omega
   replace hO : Ob wr w.heap.size B k d (B0 ++ bksI C 64) := hO
   clear hm1 hm65 h64
   have hwn : IntKind.u64.wrap (n : Int) = (n : Int) := IntWalk.u64_in _ (by omega)
   go_upto_region 11 with (go_at_call 51; refine (HP0.out _ _ _ _ _ hO.rb (by omega)).mono ?_; rintro e w1 ⟨A6, n6, bs6, d6, rfl, rfl, ho6⟩)
   have hb6 := below_plus wr bs6 d6
   have hz6 := be.size
   have hn6 : n6 ≤ 32 + 18 * 64 + 1 := by have h1 := ho6.len; have h2 := hO.len; rw [List.length_append, dig_length] at h1; omega
   replace hX := hX.later hb6
   replace be := be.trans (hb6.mono be.size)
   clear hb6 hO hk2
   generalize plus wr bs6 d6 = V6 at *
   go_upto_region 12 with (first | (go_at_call 55; refine (HLE.out _ hX.st).mono ?_; rintro e w1 ⟨rfl, rfl⟩) | (go_at_call 51; refine (HPU.out _ _ _ _ _ _ ho6.rb (by omega) (by omega)).mono ?_; rintro e w1 ⟨A7, n7, bs7, d7, rfl, rfl, ho7⟩))
   have hb7 := below_plus V6 bs7 d7
   have hz7 := be.size
   have hn7 : n7 ≤ 32 + 18 * 64 + 2 := by have h1 := ho7.len; have h2 := ho6.len; rw [List.length_append, dig_length] at h1; omega
   replace hX := hX.later hb7
   replace be := be.trans (hb7.mono be.size)
   have hO := ho7.mono hz7
   clear hb7 ho6 ho7
   generalize plus V6 bs7 d7 = V7 at *
   go_upto_region 13 with (go_at_call 55; refine (HLE.out _ hX.st).mono ?_; rintro e w1 ⟨rfl, rfl⟩)
   have hl1 : (B0 ++ bksI C 64 ++ dig 0 1 ++ dig n 1).length ≤ 1190 := by
    have h2 := bksI_len C 64
    simp only [List.length_append, dig_length, hl0]
    omega
   have hfin : sttB C = (B0 ++ bksI C 64 ++ dig 0 1 ++ dig n 1) ++ vipsB C.vs := by unfold sttB; rw [HB0.out, HNV.out]
   have HFIN := qy hfin
   clear hfin
   generalize B0 ++ bksI C 64 ++ dig 0 1 ++ dig n 1 = B1 at *
   have HST := qy (And.intro hO (And.intro hX be))
   clear hO hX be
   go_loopw [3, 50] (fun OUT I wr => ∃ (j : Nat) (B : Option Addr) (k d : Nat), I = .int .i64 (j : Int) ∧ OUT = .slice B k d ∧ j ≤ n ∧ Ob wr w.heap.size B k d (B1 ++ vipsB (C.vs.take j)) ∧ CfX G D wr g C A n c E ∧ Below w.heap.size w wr) (fun _ I _ => n - (intOf I).toNat)
   case atStart => exact ⟨0, _, _, _, rfl, rfl, Nat.zero_le _, by simpa [vipsB] using HST.out.1, HST.out.2.1, HST.out.2.2⟩
   case round =>
    clear HST
    obtain ⟨j, B, k, d, rfl, rfl, hj, hO, hX, be⟩ := hrel
    have hk2 : k ≤ 1190 + 900 * 16 := by
     have h1 := hO.len
     have h2 := vipsB_len (L := C.vs.take j) (fun v hv => hC.vs v (List.mem_of_mem_take hv))
     rw [List.length_append] at h1
     rw [List.length_take] at h2
     omega
    by_cases hlt : j < n
    ·have ij : (j : Int) < (n : Int) := by omega
     have hlE : j < E.length := by have := hX.len; have := HNV.out; omega
     have hi : E[j]? = some E[j] := List.getElem?_eq_getElem _
     have hmem : E[j] ∈ E := List.getElem_mem _
     have hvj : C.vs[j]? = some E[j].1 := by rw [← hX.vs, List.getElem?_map, hi]; rfl
     have htk : vipsB (C.vs.take (j + 1)) = vipsB (C.vs.take j) ++ vipB E[j].1 := by
      obtain ⟨h1, h2⟩ := List.getElem?_eq_some_iff.1 hvj
      rw [List.take_succ_eq_append_getElem h1, h2]; unfold vipsB; rw [List.flatMap_append]; simp
     have hvo := hC.vs _ (List.mem_of_getElem? hvj)
     generalize E[j] = x0 at *
     have HTK := qy htk
     have HVI := qy (fun w h => vip_any C hk hb g A n c E j x0 w h hi (G := G) (D := D))
     have HSV := qy (fun w h1 h2 h3 => service_any C (clV x0) hvo w h1 h2 h3)
     have hvl := vipB_len hvo
     clear htk hi hvj hlE
     go_upto_region 15 with (fail)
     refine wp_region_lit ?_
     iterate 2 (refine qw ?_)
     refine wpq fun K hK => ?_
     go_simp
     refine (HVI.out _ hX).mono ?_
     rintro e w1 ⟨bs1, d1, rfl, rfl⟩
     with_reducible refine hK _ _ ?_
     clear hK K
     have hb1 := below_plus wr bs1 d1
     replace hX := hX.later hb1
     replace hO := hO.later hb1
     replace be := be.trans (hb1.mono be.size)
     clear hb1
     generalize plus wr bs1 d1 = W at *
     iterate 4 (refine qw ?_)
     refine wpList_stA (t := 143) 143 (.tmp 8) (.tmp 57) rfl rfl (veC (clV x0)) veZ rfl (veC_one _) rfl rfl (Bk.new _ _ _) (szVe _) ?_
     intro W4 h4 g4
     refine qw ?_
     have be4 : Below W.heap.size W W4 := below_grown (Below.allocS (Below.refl _ _) _) g4 (Nat.le_refl _)
     replace hX := hX.later be4
     replace hO := hO.later be4
     replace be := be.trans (be4.mono be.size)
     have h4 : Bk W4 W.heap.size 143 (veC (clV x0)) := h4
     clear be4 g4 HVI
     go_upto_region 16 with (fail)
     refine wp_region_lit ?_
     refine qw ?_
     refine wpList_ldA (t := 143) 143 (.tmp 8) rfl rfl (veC (clV x0)) rfl h4 rfl vv1 vv2 (szVe _) ?_
     refine wpq fun K hK => ?_
     go_simp
     refine (HSV.out _ (clM (hX.mm x0 hmem)) (hX.tb x0 hmem) (hTB.later be)).mono ?_
     rintro en w1 ⟨A8, n8, c8, bs1, d1, rfl, rfl, hr8⟩
     with_reducible refine hK _ _ ?_
     clear hK K
     have hb1 := below_plus W4 bs1 d1
     replace hX := hX.later hb1
     replace hO := hO.later hb1
     replace be := be.trans (hb1.mono be.size)
     have hn8 : n8 ≤ 900 := by have h1 := hr8.1; have h2 : (vipB x0.1).length = n8 := h1; omega
     clear hb1
     generalize plus W4 bs1 d1 = W6 at *
     refine wpList_app bt rfl (.tmp 59) (.tmp 61) rfl rfl hO rfl hr8 (by omega) be.size ?_
     intro A5 n5 c5 V5 hO5 hb5 hg5
     refine qw ?_
     replace hX := hX.own_grown hg5 (fun b hb => HNEW.out b (hO.blk _ hb).1)
     replace be := be.trans hb5
     have HH := qy (And.intro hO5 (And.intro hX be))
     have HN := qy (show B1 ++ vipsB (C.vs.take (j + 1)) = (B1 ++ vipsB (C.vs.take j)) ++ vipB x0.1 by rw [HTK.out, List.append_assoc])
     clear hO5 hX be hO hr8 hb5 hg5 h4
     go_wp2
     exact ⟨⟨j + 1, A5, _, c5, by go_num, rfl, by omega, by rw [HN.out]; exact HH.out.1, HH.out.2.1, HH.out.2.2⟩, by simp [intOf]; omega⟩
    ·obtain rfl : j = n := by omega
     have ij : ¬ (j : Int) < (j : Int) := by omega
     rw [List.take_of_length_le (by have := HNV.out; omega)] at hO
     clear hj hk2
     go_wp2
     go_ret
     rw [HFIN.out]
     exact RetOwn.mk hO be
theorem run_bMs (k : Int) (nu : Nat) (A : Option Addr) (n c : Nat) (w : World) : (Instr.build 38 #[(0, .int .i64 k), (1, .int .u64 (nu : Int)), (2, .slice A n c)]).run Tryz.prog w = .ok (.agg (msC k nu A n c).toArray) w := by kernel_rfl
def offM (key : List UInt8) (L : List OpR) (s n : Nat) : Int × Nat × List (List UInt8) × Bool := if s ≤ n then (0, 0, [], false) else if n = 0 then (2, s, [sttB (stL key (L.take s))], true) else (1, n, (((L.take s).drop n).map opBs).take 16, true)
def RetOf (w : World) (q : Int × Nat × List (List UInt8) × Bool) (e : Ending) (w' : World) : Prop := ∃ A n c, e = .returned (.tuple #[.agg (msC q.1 q.2.1 A n c).toArray, .bool q.2.2.2]) ∧ RL w' A n c q.2.2.1 ∧ Below w.heap.size w w'
theorem RL.clip {w : World} {A : Option Addr} {n c m : Nat} {T : List (List UInt8)} (h : RL w A n c T) (hm : m ≤ n) : RL w A m m (T.take m) := by
 have hn := h.len
 obtain ⟨S, h1, h2⟩ := h
 have h3 := h2.take hm
 rw [flat_take slV 1 slV_len S m] at h3
 refine ⟨S.take m, ⟨by simp [h1.1], fun i a b => ?_⟩, ⟨h3.1, Nat.le_refl _, h3.2.2⟩⟩
 rw [List.getElem_take, List.getElem_take]
 exact h1.2 i (by simp at a; omega) (by simp at b; omega)
theorem RL.nil_ {w : World} : RL w none 0 0 [] := ⟨[], PtOk.nil_ w, Rs.nil_⟩
theorem offer_any {X : Nat → Prop} {B : Nat} (gc : Nat) (key : List UInt8) (hk : key.length = 16) (L : List OpR) (s : Nat) (k : Int) (gl gd gst gsu gm : Nat) (An : Option Addr) (R : List MvE) (n : Nat) (w : World) (h : CnX X B w gc key L s k gl gd gst gsu gm An R) (hTB : TabB w) (hn : n < 18446744073709551616) : Calls Tryz.prog 7 #[.pointer (some ⟨gc, 0, none⟩), .int .u64 (n : Int)] w (RetOf w (offM key L s n)) := by
 obtain ⟨dvm, vm1, vm2⟩ := rowFm
 have hCk := h.ok.st hk s
 have hll := h.ll
 have hsl := h.sl
 have hws : IntKind.u64.wrap (s : Int) = (s : Int) := IntWalk.u64_in _ (by omega)
 have bz : Bk (w.alloc (.cells (msC 0 0 none 0 0).toArray 38)) w.heap.size 38 (msC 0 0 none 0 0) := Bk.new w 38 (msC 0 0 none 0 0).toArray
 have be : Below w.heap.size w (w.alloc (.cells (msC 0 0 none 0 0).toArray 38)) := Below.allocS (Below.refl _ _) _
 have h1 := h.later be
 replace hTB := hTB.later be
 have zV : w.heap.size + 1 ≤ (w.alloc (.cells (msC 0 0 none 0 0).toArray 38)).heap.size := by simp
 go_enter Tryz.func7, Tryz.ntmps7
 go_upto_region 1 with (fail)
 generalize hV : w.alloc (.cells (msC 0 0 none 0 0).toArray 38) = V at *
 try rw [show w.alloc (.cells #[.int .i64 0, .int .u64 0, .slice none 0 0] 38) = V from hV]
 clear hV
 refine wp_region_lit ?_
 refine qw ?_
 refine wpq fun K hK => ?_
 go_simp
 refine (cLen gc key L s k gl gd gst gsu gm An R _ h1).mono ?_
 rintro e w1 ⟨bs1, d1, rfl, rfl⟩
 with_reducible refine hK _ _ ?_
 clear hK K
 have b2 := below_plus V bs1 d1
 have h2 := h1.later b2
 replace bz := bz.later b2
 replace hTB := hTB.later b2
 have be2 := be.trans (b2.mono be.size)
 replace zV := Nat.le_trans zV b2.size
 generalize plus V bs1 d1 = W2 at *
 iterate 5 (refine qw ?_)
 by_cases hsn : s ≤ n
 ·have isn : (s : Int) ≤ (n : Int) := by omega
  have HQ := qy (show offM key L s n = (0, 0, [], false) from if_pos hsn)
  go_upto_region 3 with (fail)
  refine wp_region_lit ?_
  refine wpList_build 38 [] rfl rfl (.agg (msC 0 0 none 0 0).toArray) (by kernel_rfl) ?_
  simp only [Act.put, qsT, qsZ, qsS]
  refine wpList_stA (t := 38) 38 (.tmp 4) (.tmp 19) rfl rfl (msC 0 0 none 0 0) (msC 0 0 none 0 0) rfl (msC_one _ _ _ _ _) rfl rfl bz (szFm _ _ _ _ _) ?_
  intro W9 h9 g9
  refine qw ?_
  have be9 : Below w.heap.size w W9 := below_grown be2 g9 (Nat.le_refl _)
  go_wp2
  refine bodyPost_agg2 Tryz.results7 rfl rfl h9.range vm1 vm2 (szFm _ _ _ _ _) rfl ?_
  rw [HQ.out]
  exact ⟨_, _, _, rfl, RL.nil_, be9⟩
 have isn : ¬ (s : Int) ≤ (n : Int) := by omega
 by_cases hn0 : n = 0
 ·have HQ := qy (show offM key L s n = (2, s, [sttB (stL key (L.take s))], true) by unfold offM; rw [if_neg hsn, if_pos hn0])
  subst hn0
  go_upto_region 5 with (fail)
  refine wp_region_lit ?_
  iterate 3 (refine qw ?_)
  refine wpq fun K hK => ?_
  go_simp
  refine (cState gc key hk L s k gl gd gst gsu gm An R _ h2).mono ?_
  rintro e w1 ⟨g2, G2, D2, rfl, hb3, A3, n3, c3, E3, hX3⟩
  with_reducible refine hK _ _ ?_
  clear hK K
  replace bz := bz.later hb3
  replace hTB := hTB.later hb3
  have be3 := be2.trans (hb3.mono be2.size)
  have z3 := Nat.le_trans zV hb3.size
  generalize hWW : w1 = W3 at *
  clear hWW
  refine wpq fun K hK => ?_
  go_simp
  refine (codecState_own _ hCk g2 A3 n3 c3 E3 _ hX3 hTB).mono ?_
  rintro e w1 ⟨A4, n4, c4, bs4, d4, rfl, rfl, o4⟩
  with_reducible refine hK _ _ ?_
  clear hK K
  have b4 := below_plus W3 bs4 d4
  replace bz := bz.later b4
  have be4 := be3.trans (b4.mono be3.size)
  generalize plus W3 bs4 d4 = W4 at *
  refine qw ?_
  have z4 := Nat.le_trans z3 b4.size
  have hRLg : ∀ W9, (W4.alloc (.cells #[.slice A4 n4 c4] 28)).grownBy W9 (some w.heap.size) → RL W9 (some ⟨W4.heap.size, 0, none⟩) 1 1 [sttB (stL key (L.take s))] := fun W9 g9 => ⟨[(A4, n4, c4)], ⟨rfl, fun i h1 h2 => by
    match i, h1, h2 with
    | 0, _, _ => exact ((o4.alloc _).grown g9 (fun k hk e => by have := (o4.blk k hk).1; injection e with e; omega)).rb⟩, Rs.of_bk (t := 28) ((Bk.new W4 28 #[.slice A4 n4 c4]).grown g9 (fun e => by injection e with e; omega)) rfl (Nat.le_refl _)⟩
  replace bz := bz.alloc (.cells #[.slice A4 n4 c4] 28)
  have be5 := Below.allocS be4 (.cells #[.slice A4 n4 c4] 28)
  generalize W4.alloc (.cells #[.slice A4 n4 c4] 28) = W5 at *
  generalize W4.heap.size = gr at *
  refine wpList_build 38 [(0, .const (.int .i64 2)), (1, .tmp 23), (2, .tmp 27)] rfl rfl (.agg (msC 2 s (some ⟨gr, 0, none⟩) 1 1).toArray) (run_bMs _ _ _ _ _ _) ?_
  simp only [Act.put, qsT, qsZ, qsS]
  refine wpList_stA (t := 38) 38 (.tmp 4) (.tmp 28) rfl rfl (msC 2 s (some ⟨gr, 0, none⟩) 1 1) (msC 0 0 none 0 0) rfl (msC_one _ _ _ _ _) rfl rfl bz (szFm _ _ _ _ _) ?_
  intro W9 h9 g9
  refine qw ?_
  have be9 : Below w.heap.size w W9 := below_grown be5 g9 (Nat.le_refl _)
  go_wp2
  refine bodyPost_agg2 Tryz.results7 rfl rfl h9.range vm1 vm2 (szFm _ _ _ _ _) rfl ?_
  rw [HQ.out]
  exact ⟨_, _, _, rfl, hRLg _ g9, be9⟩
 ·have in0 : ((n : Int) == 0) = false := by simp; omega
  have HQ := qy (show offM key L s n = (1, n, (((L.take s).drop n).map opBs).take 16, true) by unfold offM; rw [if_neg hsn, if_neg hn0])
  go_upto_region 6 with (fail)
  refine wp_region_lit ?_
  iterate 2 (refine qw ?_)
  refine wpq fun K hK => ?_
  go_simp
  refine (cSince gc key L s k gl gd gst gsu gm An R n _ h2 (by omega)).mono ?_
  rintro e w1 ⟨A3, n3, c3, rfl, hRL, hb3, hRg⟩
  with_reducible refine hK _ _ ?_
  clear hK K
  replace bz := bz.later hb3
  have be3 := be2.trans (hb3.mono be2.size)
  generalize hWW : w1 = W3 at *
  clear hWW
  have HN3 := qy hRL.len
  refine qw ?_
  have hc3 : n3 ≤ c3 := by obtain ⟨S, h1, h2⟩ := hRL; exact h2.2.1
  have HTL := qy (show (((L.take s).drop n).map opBs).length = s - n by simp; omega)
  have hn100 : n3 ≤ 100 := by have := HN3.out; have := HTL.out; omega
  have hend : ∀ (m : Nat), m ≤ n3 → (((L.take s).drop n).map opBs).take m = (((L.take s).drop n).map opBs).take 16 → ∀ W9, W3.grownBy W9 (some w.heap.size) → RL W9 A3 m m ((((L.take s).drop n).map opBs).take 16) := fun m hm e W9 g9 => by
   rw [← e]
   exact (hRg _ (by omega) W9 g9).clip hm
  by_cases h16 : n3 ≤ 16
  ·have hc3' : (n3 : Int) ≤ (c3 : Int) := by omega
   have i16 : ¬ (16 : Int) < (n3 : Int) := by omega
   go_upto_region 7 with (fail)
   refine wp_region_lit ?_
   iterate 4 (refine qw ?_)
   go_upto_region 8 with (fail)
   refine wp_region_lit ?_
   iterate 5 (refine qw ?_)
   refine wpList_build 38 [(0, .const (.int .i64 1)), (1, .tmp 35), (2, .tmp 39)] rfl rfl (.agg (msC 1 n A3 n3 n3).toArray) (run_bMs _ _ _ _ _ _) ?_
   simp only [Act.put, qsT, qsZ, qsS]
   refine wpList_stA (t := 38) 38 (.tmp 4) (.tmp 40) rfl rfl (msC 1 n A3 n3 n3) (msC 0 0 none 0 0) rfl (msC_one _ _ _ _ _) rfl rfl bz (szFm _ _ _ _ _) ?_
   intro W9 h9 g9
   refine qw ?_
   have be9 : Below w.heap.size w W9 := below_grown be3 g9 (Nat.le_refl _)
   go_wp2
   refine bodyPost_agg2 Tryz.results7 rfl rfl h9.range vm1 vm2 (szFm _ _ _ _ _) rfl ?_
   rw [HQ.out]
   exact ⟨_, _, _, rfl, hend n3 (Nat.le_refl _) (by have h7 := HN3.out; exact (List.take_of_length_le (by omega)).trans (List.take_of_length_le (by omega)).symm) W9 g9, be9⟩
  ·have i16 : (16 : Int) < (n3 : Int) := by omega
   have hc16 : (16 : Int) ≤ (c3 : Int) := by omega
   go_upto_region 7 with (fail)
   refine wp_region_lit ?_
   iterate 4 (refine qw ?_)
   go_upto_region 8 with (fail)
   refine wp_region_lit ?_
   iterate 5 (refine qw ?_)
   refine wpList_build 38 [(0, .const (.int .i64 1)), (1, .tmp 35), (2, .tmp 39)] rfl rfl (.agg (msC 1 n A3 16 16).toArray) (run_bMs _ _ _ _ _ _) ?_
   simp only [Act.put, qsT, qsZ, qsS]
   refine wpList_stA (t := 38) 38 (.tmp 4) (.tmp 40) rfl rfl (msC 1 n A3 16 16) (msC 0 0 none 0 0) rfl (msC_one _ _ _ _ _) rfl rfl bz (szFm _ _ _ _ _) ?_
   intro W9 h9 g9
   refine qw ?_
   have be9 : Below w.heap.size w W9 := below_grown be3 g9 (Nat.le_refl _)
   go_wp2
   refine bodyPost_agg2 Tryz.results7 rfl rfl h9.range vm1 vm2 (szFm _ _ _ _ _) rfl ?_
   rw [HQ.out]
   exact ⟨_, _, _, rfl, hend 16 (by omega) rfl W9 g9, be9⟩
end

section
open Go.RowKit Go.Lib
def adF (a : Adr) : List Value := adC a.1 a.2.1 a.2.2
theorem adF_len (a : Adr) : (adF a).length = 3 := rfl
def adZ (o : Option Adr) : Adr := o.getD (false, 0, 0)
def rcL (num : Nat) (key : List UInt8) (now : Nat) (al : List Adr) (bs : List Bool) (A : Option Addr) (n c : Nat) : List Value := .int .u64 (num : Int) :: (ringC key now ++ (al.flatMap adF ++ (bs.map Value.bool ++ [.slice A n c])))
def rcC (C : Cf) (A : Option Addr) (n c : Nat) : List Value := rcL C.num C.key C.now (C.bk.map adZ) (C.bk.map Option.isSome) A n c
section
variable (num : Nat) (key : List UInt8) (now : Nat) (al : List Adr) (bs : List Bool) (A : Option Addr) (n c : Nat)
theorem rcL_len (hk : key.length = 16) (ha : al.length = 65) (hb : bs.length = 65) : (rcL num key now al bs A n c).length = 279 := by
 simp [rcL, ringC, bcs_length, hk, flat_len adF 3 adF_len, ha, hb]
theorem rcL_one : ∀ u ∈ rcL num key now al bs A n c, u.oneCell' = true := by
 intro u hu
 unfold rcL at hu
 rcases List.mem_cons.1 hu with rfl | hu
 ·rfl
 rcases List.mem_append.1 hu with hu | hu
 ·exact ringC_one _ _ u hu
 rcases List.mem_append.1 hu with hu | hu
 ·obtain ⟨a, _, ha⟩ := List.mem_flatMap.1 hu
  simp [adF, adC] at ha
  rcases ha with rfl | rfl | rfl <;> rfl
 rcases List.mem_append.1 hu with hu | hu
 ·obtain ⟨b, _, rfl⟩ := List.mem_map.1 hu
  rfl
 ·simp at hu
  subst hu
  rfl
theorem rcL_ring (hk : key.length = 16) : ((rcL num key now al bs A n c).drop 1).take (ringC key now).length = ringC key now := by
 unfold rcL
 rw [List.drop_succ_cons, List.drop_zero, List.take_left]
theorem rcL_now (hk : key.length = 16) : (rcL num key now al bs A n c)[17]? = some (.int .u64 (now : Int)) := by
 unfold rcL
 rw [List.getElem?_cons_succ, List.getElem?_append_left (by simp [ringC, bcs_length, hk])]
 exact ringC_16 key hk now
theorem rcL_setNow (hk : key.length = 16) (m : Nat) : (rcL num key now al bs A n c).set 17 (.int .u64 (m : Int)) = rcL num key m al bs A n c := by
 unfold rcL
 rw [List.set_cons_succ, List.set_append_left _ _ (by simp [ringC, bcs_length, hk])]
 congr 2
 unfold ringC
 rw [List.set_append_right _ _ (by simp [bcs_length, hk])]
 simp [bcs_length, hk]
theorem rcL_vips (hk : key.length = 16) (ha : al.length = 65) (hb : bs.length = 65) : (rcL num key now al bs A n c)[278]? = some (.slice A n c) := by
 unfold rcL
 rw [List.getElem?_cons_succ, List.getElem?_append_right (by simp [ringC, bcs_length, hk]), List.getElem?_append_right (by simp [ringC, bcs_length, hk, flat_len adF 3 adF_len, ha]), List.getElem?_append_right (by simp [ringC, bcs_length, hk, flat_len adF 3 adF_len, ha, hb])]
 simp [ringC, bcs_length, hk, flat_len adF 3 adF_len, ha, hb]
theorem rcL_setVips (hk : key.length = 16) (ha : al.length = 65) (hb : bs.length = 65) (A' : Option Addr) (n' c' : Nat) : (rcL num key now al bs A n c).set 278 (.slice A' n' c') = rcL num key now al bs A' n' c' := by
 unfold rcL
 rw [List.set_cons_succ, List.set_append_right _ _ (by simp [ringC, bcs_length, hk]), List.set_append_right _ _ (by simp [ringC, bcs_length, hk, flat_len adF 3 adF_len, ha]), List.set_append_right _ _ (by simp [ringC, bcs_length, hk, flat_len adF 3 adF_len, ha, hb])]
 simp [ringC, bcs_length, hk, flat_len adF 3 adF_len, ha, hb]
theorem rcL_bool (hk : key.length = 16) (ha : al.length = 65) (hb : bs.length = 65) (i : Nat) (hi : i < 65) : (rcL num key now al bs A n c)[213 + i]? = some (.bool (bs.getD i false)) := by
 unfold rcL
 rw [show 213 + i = (212 + i) + 1 by omega, List.getElem?_cons_succ, List.getElem?_append_right (by simp [ringC, bcs_length, hk]; omega), List.getElem?_append_right (by simp [ringC, bcs_length, hk, flat_len adF 3 adF_len, ha]; omega), List.getElem?_append_left (by simp [ringC, bcs_length, hk, flat_len adF 3 adF_len, ha, hb]; omega)]
 have e : 212 + i - (ringC key now).length - (al.flatMap adF).length = i := by simp [ringC, bcs_length, hk, flat_len adF 3 adF_len, ha]; omega
 rw [e, List.getElem?_map, List.getElem?_eq_getElem (by omega), List.getD_eq_getElem?_getD, List.getElem?_eq_getElem (by omega)]
 rfl
theorem rcL_setBool (hk : key.length = 16) (ha : al.length = 65) (hb : bs.length = 65) (i : Nat) (hi : i < 65) (b : Bool) : (rcL num key now al bs A n c).set (213 + i) (.bool b) = rcL num key now al (bs.set i b) A n c := by
 unfold rcL
 rw [show 213 + i = (212 + i) + 1 by omega, List.set_cons_succ, List.set_append_right _ _ (by simp [ringC, bcs_length, hk]; omega), List.set_append_right _ _ (by simp [ringC, bcs_length, hk, flat_len adF 3 adF_len, ha]; omega), List.set_append_left _ _ (by simp [ringC, bcs_length, hk, flat_len adF 3 adF_len, ha, hb]; omega)]
 have e : 212 + i - (ringC key now).length - (al.flatMap adF).length = i := by simp [ringC, bcs_length, hk, flat_len adF 3 adF_len, ha]; omega
 rw [e, List.map_set]
theorem rcL_setAd (hk : key.length = 16) (ha : al.length = 65) (i : Nat) (hi : i < 65) (a : Adr) : splice (rcL num key now al bs A n c) (18 + i * 3) (adF a) = rcL num key now (al.set i a) bs A n c := by
 unfold rcL
 rw [show 18 + i * 3 = 1 + (17 + i * 3) by omega, splice_cons]
 congr 1
 have hr : (ringC key now).length = 17 := by simp [ringC, bcs_length, hk]
 have hf := flat_len adF 3 adF_len al
 have e : splice (ringC key now ++ (al.flatMap adF ++ (bs.map Value.bool ++ [.slice A n c]))) (17 + i * 3) (adF a) = ringC key now ++ splice (al.flatMap adF ++ (bs.map Value.bool ++ [.slice A n c])) (i * 3) (adF a) := by
  unfold splice
  rw [← hr, List.take_length_add_append, List.append_assoc]
  congr 3
  rw [Nat.add_assoc, List.drop_length_add_append]
 rw [e, splice_app _ _ _ _ (by rw [adF_len, hf]; omega), flat_splice adF 3 adF_len _ _ (by omega)]
end
structure Rx where
 A : Option Addr
 n : Nat
 c : Nat
 B : Option Addr
 m : Nat
 d : Nat
abbrev Re := Vp × Rx
def rvC (x : Re) : List Value := adF x.1.ad ++ ([.int .u16 (x.1.pt : Int), .int .u8 (x.1.pr : Int), .int .i64 x.1.wy, .slice x.2.A x.2.n x.2.c] ++ rstC x.2.B x.2.m x.2.d x.1.S)
theorem rvC_len (x : Re) : (rvC x).length = 81 := by simp [rvC, adF_len, rstC_len]
theorem rvC_one (x : Re) : ∀ u ∈ rvC x, u.oneCell' = true := by
 intro u hu
 unfold rvC at hu
 rcases List.mem_append.1 hu with hu | hu
 ·simp [adF, adC] at hu
  rcases hu with rfl | rfl | rfl <;> rfl
 rcases List.mem_append.1 hu with hu | hu
 ·simp at hu
  rcases hu with rfl | rfl | rfl | rfl <;> rfl
 ·exact rstC_one _ _ _ _ u hu
structure RcX (G : Nat → Prop) (w : World) (C : Cf) (A : Option Addr) (n c : Nat) (E : List Re) : Prop where
 vs : E.map (·.1) = C.vs
 row : Rs 81 w A n c (E.flatMap rvC)
 off : Off G w A
 mm : ∀ x ∈ E, Rs 2 w x.2.A x.2.n x.2.c (prs .i64 x.1.ms)
 mo : ∀ x ∈ E, Off G w x.2.A
 ss : ∀ x ∈ E, RSt G w x.1.S.lv x.2.B x.2.m x.2.d
section
variable {G : Nat → Prop} {w w' : World} {C : Cf} {A : Option Addr} {n c : Nat} {E : List Re}
theorem RcX.len (h : RcX G w C A n c E) : E.length = C.vs.length := by rw [← h.vs]; simp
theorem RcX.n_ (h : RcX G w C A n c E) : n = C.vs.length := by
 have := h.row.1
 rw [flat_len rvC 81 rvC_len] at this
 have := h.len
 omega
theorem RcX.later (h : RcX G w C A n c E) (hb : Below w.heap.size w w') : RcX G w' C A n c E :=
 ⟨h.vs, h.row.later hb, h.off.size hb.size, fun x hx => (h.mm x hx).later hb, fun x hx => (h.mo x hx).size hb.size, fun x hx => (h.ss x hx).later hb⟩
theorem RcX.chg {D : Nat → Prop} (h : RcX G w C A n c E) (hc : Chg D w w') (hd : ∀ b, D b → G b) : RcX G w' C A n c E :=
 ⟨h.vs, h.row.chg hc (fun a ha hD => (h.off a ha).2 (hd _ hD)), h.off.size hc.size, fun x hx => (h.mm x hx).chg hc (fun a ha hD => (h.mo x hx a ha).2 (hd _ hD)), fun x hx => (h.mo x hx).size hc.size, fun x hx => (h.ss x hx).chg ⟨hc.os, hc.tape, hc.output, hc.size, fun b hb hn => hc.block b hb (fun hD => hn (hd b hD))⟩⟩
theorem RcX.more {G' : Nat → Prop} (h : RcX G w C A n c E) (hd : ∀ b, G' b → G b ∨ w.heap.size ≤ b) : RcX G' w C A n c E :=
 ⟨h.vs, h.row, h.off.more hd, h.mm, fun x hx => (h.mo x hx).more hd, fun x hx => (h.ss x hx).more hd⟩
end
end

section
attribute [local go_sem ↓] sliced_cut
attribute [local go_sem] cutA_zero
open Go.Lib
open Go.RowKit
theorem rowRcS : ∃ d, Tryz.prog.underlying 83 = some d ∧ d.isRow = true := ⟨_, Tryz.underlying83, rfl⟩
theorem szRcS (C : Cf) (hk : C.key.length = 16) (hb : C.bk.length = 65) (A : Option Addr) (n c : Nat) : (Tryz.prog.info? 83).map (·.size) = some (rcC C A n c).length := by rw [show (rcC C A n c).length = 279 from rcL_len _ _ _ _ _ _ _ _ hk (by simp [hb]) (by simp [hb])]; kernel_rfl
theorem rowRv : ∃ d, Tryz.prog.underlying 154 = some d ∧ d.isRow = true := ⟨_, Tryz.underlying154, rfl⟩
theorem szRv (x : Re) : (Tryz.prog.info? 154).map (·.size) = some (rvC x).length := by rw [rvC_len]; kernel_rfl
theorem rcC_vips (C : Cf) (hk : C.key.length = 16) (hb : C.bk.length = 65) (A : Option Addr) (n c : Nat) : (rcC C A n c)[278]? = some (.slice A n c) := rcL_vips _ _ _ _ _ _ _ _ hk (by simp [hb]) (by simp [hb])
theorem rcC_bool (C : Cf) (hk : C.key.length = 16) (hb : C.bk.length = 65) (A : Option Addr) (n c i : Nat) (h0 : 1 ≤ i) (h64 : i ≤ 64) : (rcC C A n c)[213 + i]? = some (.bool (knC C (i : Int))) := by
 have h := rcL_bool C.num C.key C.now (C.bk.map adZ) (C.bk.map Option.isSome) A n c hk (by simp [hb]) (by simp [hb]) i (by omega)
 have e : (C.bk.map Option.isSome).getD i false = knC C (i : Int) := by
  unfold knC
  rw [decide_eq_true (by omega), decide_eq_true (by omega), List.getD_eq_getElem?_getD, List.getElem?_map, Int.toNat_natCast, List.getD_eq_getElem?_getD]
  cases C.bk[i]? <;> rfl
 rw [← e]
 exact h
theorem refKnown_any (C : Cf) (hk : C.key.length = 16) (hb : C.bk.length = 65) (A : Option Addr) (n c : Nat) (v : Int) (w : World) : Calls Tryz.prog 149 #[.agg (rcC C A n c).toArray, .int .i64 v] w (RetV w (.bool (knC C v))) := by
 by_cases h1 : 1 ≤ v
 ·by_cases h2 : v ≤ 64
  ·obtain ⟨i, rfl⟩ : ∃ i : Nat, v = i := ⟨v.toNat, by omega⟩
   have i65 : (i : Int) < 65 := by omega
   obtain ⟨dvs1, vs1, vs2⟩ := rowRcS
   obtain ⟨bs, be, zV⟩ := box1 w 83 (rcC C A n c)
   go_enter Tryz.func149, Tryz.ntmps149
   go_upto_region 1 with (fail)
   generalize w.alloc (.cells (rcC C A n c).toArray 83) = V at *
   have q0 : V.cell? ⟨w.heap.size, 213 + i, none⟩ = some (.bool (knC C (i : Int))) := (bs.cell _).trans (rcC_bool C hk hb A n c i (by omega) (by omega))
   generalize knC C (i : Int) = kb at *
   clear bs
   go_wp2
   go_ret
   exact RetV.is_ rfl be
  ·have hh := qy (show knC C v = false by unfold knC; rw [decide_eq_false h2]; simp)
   obtain ⟨dvs1, vs1, vs2⟩ := rowRcS
   obtain ⟨bs, be, zV⟩ := box1 w 83 (rcC C A n c)
   go_enter Tryz.func149, Tryz.ntmps149
   go_upto_region 1 with (fail)
   generalize w.alloc (.cells (rcC C A n c).toArray 83) = V at *
   clear bs
   go_wp2
   go_ret
   rw [hh.out]
   exact RetV.is_ rfl be
 ·have hh := qy (show knC C v = false by unfold knC; rw [decide_eq_false h1]; rfl)
  obtain ⟨dvs1, vs1, vs2⟩ := rowRcS
  obtain ⟨bs, be, zV⟩ := box1 w 83 (rcC C A n c)
  go_enter Tryz.func149, Tryz.ntmps149
  go_upto_region 1 with (fail)
  generalize w.alloc (.cells (rcC C A n c).toArray 83) = V at *
  clear bs
  go_wp2
  go_ret
  rw [hh.out]
  exact RetV.is_ rfl be
theorem rng_rv {w : World} {b o : Nat} {x : Re} (h : w.rangeAt b o (rvC x)) : w.rangeAt b o (adC x.1.ad.1 x.1.ad.2.1 x.1.ad.2.2) ∧ w.cell? ⟨b, o + 3, none⟩ = some (.int .u16 (x.1.pt : Int)) ∧ w.cell? ⟨b, o + 4, none⟩ = some (.int .u8 (x.1.pr : Int)) :=
 ⟨fun i u hu => h i u (by
  have hk3 := (List.getElem?_eq_some_iff.1 hu).1
  rw [← hu]
  match i, hk3 with
  | 0, _ => rfl
  | 1, _ => rfl
  | 2, _ => rfl), h 3 _ rfl, h 4 _ rfl⟩
section
attribute [local go_sem ↓] eqC_ad
theorem rcFind_any (C : Cf) (hk : C.key.length = 16) (hb : C.bk.length = 65) (A : Option Addr) (n c : Nat) (E : List Re) (hE0 : E.map (·.1) = C.vs) (six : Bool) (ah al : Nat) (pt pr : Nat) (w : World) (hr : Rs 81 w A n c (E.flatMap rvC)) (hn : n ≤ 1000) : Calls Tryz.prog 148 #[.agg (rcC C A n c).toArray, .agg (adC six ah al).toArray, .int .u16 (pt : Int), .int .u8 (pr : Int)] w (RetV w (.int .i64 (fdI C (six, ah, al) pt pr))) := by
 have hlE : E.length = C.vs.length := by rw [← hE0]; simp
 have hln : E.length = n := by have := hr.1; rw [flat_len rvC 81 rvC_len] at this; omega
 obtain ⟨dvs1, vs1, vs2⟩ := rowRcS
 obtain ⟨dva1, va1, va2⟩ := rowAdC
 obtain ⟨bs, ba, be, zV⟩ := box2 w 83 53 (rcC C A n c) (adC six ah al)
 go_enter Tryz.func148, Tryz.ntmps148
 go_upto_region 1 with (fail)
 generalize (w.alloc (.cells (rcC C A n c).toArray 83)).alloc (.cells (adC six ah al).toArray 53) = V at *
 have HS := qy bs
 have HF := qy ba
 have HB := qy be
 have hlt0 : fdC C (six, ah, al) pt pr ≤ C.vs.length := List.findIdx_le_length
 clear ba be bs
 go_upto_region 2 with (fail)
 go_loopw [9] (fun I wr => ∃ i : Nat, i ≤ n ∧ i ≤ fdC C (six, ah, al) pt pr ∧ I = .int .i64 (i : Int) ∧ Below w.heap.size w wr ∧ Bk wr w.heap.size 83 (rcC C A n c) ∧ Bk wr (w.heap.size + 1) 53 (adC six ah al)) (fun I _ => n - (intOf I).toNat)
 case atStart => exact ⟨0, Nat.zero_le _, Nat.zero_le _, rfl, HB.out, HS.out, HF.out⟩
 case round =>
  clear HF HB HS
  obtain ⟨i, hi, hif, rfl, hE, bs, ba⟩ := hrel
  have q0 : wr.cell? ⟨w.heap.size, 278, none⟩ = some (.slice A n c) := (bs.cell _).trans (rcC_vips C hk hb _ n c)
  by_cases hlt : i < n
  ·have ii : (i : Int) < (n : Int) := by omega
   obtain ⟨b, off, rfl, hbl, -⟩ := hr.at_ (by omega) (by decide)
   have hst := fdC_step C (six, ah, al) pt pr i hif (by omega)
   have hrg : ∀ W, Below w.heap.size w W → W.rangeAt b (off + i * 81) (rvC E[i]) := fun W h => (hr.later h).rangeE rvC_len i (by omega)
   have hCi : C.vs[i]'(by omega) = E[i].1 := by simp [← hE0]
   rw [hCi] at hst
   have HQ := qy (fun W h => rng_rv (hrg W h))
   have H8 := qy (fun W (h : Below wr.heap.size wr W) => show W.cell? ⟨w.heap.size, 278, none⟩ = some (.slice (some ⟨b, off, none⟩) n c) from ((bs.later h).cell _).trans (rcC_vips C hk hb _ n c))
   clear hrg hCi
   generalize E[i].1 = v at *
   have hcase : (eqAd v.ad.1 v.ad.2.1 v.ad.2.2 six ah al = true ∧ decide (v.ad = (six, ah, al)) = true ∧ ((v.pt : Int) == (pt : Int)) = true ∧ ((v.pr : Int) == (pr : Int)) = true ∧ Hid (fdI C (six, ah, al) pt pr = (i : Int))) ∨
     (eqAd v.ad.1 v.ad.2.1 v.ad.2.2 six ah al = true ∧ decide (v.ad = (six, ah, al)) = true ∧ ((v.pt : Int) == (pt : Int)) = true ∧ ((v.pr : Int) == (pr : Int)) = false ∧ i + 1 ≤ fdC C (six, ah, al) pt pr) ∨
     (eqAd v.ad.1 v.ad.2.1 v.ad.2.2 six ah al = true ∧ decide (v.ad = (six, ah, al)) = true ∧ ((v.pt : Int) == (pt : Int)) = false ∧ i + 1 ≤ fdC C (six, ah, al) pt pr) ∨
     (eqAd v.ad.1 v.ad.2.1 v.ad.2.2 six ah al = false ∧ decide (v.ad = (six, ah, al)) = false ∧ i + 1 ≤ fdC C (six, ah, al) pt pr) := by
    by_cases h1 : v.ad = (six, ah, al)
    ·by_cases h2 : v.pt = pt
     ·by_cases h3 : v.pr = pr
      ·have he := hst.1 (decide_eq_true ⟨h1, h2, h3⟩)
       exact .inl ⟨decide_eq_true h1, decide_eq_true h1, by simp [h2], by simp [h3], qy (by unfold fdI; rw [he, if_pos (by omega)])⟩
      ·exact .inr (.inl ⟨decide_eq_true h1, decide_eq_true h1, by simp [h2], by simp; omega, hst.2 (decide_eq_false (fun h => h3 h.2.2))⟩)
     ·exact .inr (.inr (.inl ⟨decide_eq_true h1, decide_eq_true h1, by simp; omega, hst.2 (decide_eq_false (fun h => h2 h.2.1))⟩))
    ·exact .inr (.inr (.inr ⟨decide_eq_false h1, decide_eq_false h1, hst.2 (decide_eq_false (fun h => h1 h.1))⟩))
   clear hst
   rcases hcase with ⟨hc1, hc1', hc2, hc3, HV⟩ | ⟨hc1, hc1', hc2, hc3, he⟩ | ⟨hc1, hc1', hc2, he⟩ | ⟨hc1, hc1', he⟩
   all_goals
    go_upto_region 4 with (fail)
    refine wp_relS 28 46 rfl (by kernel_rfl) (by kernel_rfl) ?_
    refine qb 4 1 ?_
    apply qm 2 rfl rfl
    ·intro FA x hO hD K hK
     have e17 := qe (hD 0 17)
     clear hO hD
     have q1 := H8.out (plus wr x.bs x.d) bpl
     go_simp
     exact qk hK rfl
    refine qb 9 3 ?_
    refine qc 1 18 2 19 4 ?_
    refine qa 3 20 5 ?_
    apply qm 6 rfl rfl
    ·intro FA x hO hD K hK
     obtain ⟨e21, ev21⟩ := qE (hD 4 21)
     clear hO hD
     refine wanted_if rfl ?_
     refine wp_load_mid 53 (.tmp 21) rfl b (off + i * 81) ev21.out (adC v.ad.1 v.ad.2.1 v.ad.2.2) _ (HQ.out _ (belowP hE x.bs x.d)).1 va1 va2 (szAd _ _ _) ?_
     exact qk hK rfl
    apply qm 7 rfl rfl
    ·intro FA x hO hD K hK
     have e5 := hO 5
     simp only [eval_tmp, qgT, qgS, qgZ, qoS] at e5
     have ev5 := qy ((eval_tmp FA 5).trans e5)
     clear hO hD
     refine wanted_if rfl ?_
     refine wp_ldA 53 (.tmp 5) rfl (adC six ah al) ev5.out (ba.later bpl) rfl va1 va2 (szAd _ _ _) ?_
     exact qk hK rfl
    refine qc 5 22 6 23 8 ?_
    refine qa 7 24 9 ?_
    refine qf 4 8 25 10 ?_
    apply qm 11 rfl rfl
    ·intro FA x hO hD K hK
     have e26 := qe (hD 9 26)
     have e25 := qe (hD 8 25)
     first | have ge25 := slot_of e25 | have ge25 := slot_un e25
     clear hO hD
     have q1 := H8.out (plus wr x.bs x.d) bpl
     go_simp
     exact qk hK rfl
    refine qf 9 8 25 12 ?_
    refine qh 10 27 11 28 8 25 13 ?_
    refine qg 12 29 8 25 14 ?_
    apply qm 15 rfl rfl
    ·intro FA x hO hD K hK
     have e30 := qe (hD 13 30)
     have e25 := qe (hD 8 25)
     first | have ge25 := slot_of e25 | have ge25 := slot_un e25
     clear hO hD
     first | (have hq := (HQ.out (plus wr x.bs x.d) (belowP hE x.bs x.d)).2; go_simp; exact qk hK rfl) | (go_simp; exact qk hK rfl) | (rcases ge25 with ge25 | ge25 <;> (go_simp; exact qk hK rfl))
    refine qf 2 8 25 16 ?_
    refine qh 14 31 15 32 8 25 17 ?_
    refine qc 8 25 16 33 18 ?_
    refine qa 17 34 19 ?_
    refine qf 4 18 35 20 ?_
    apply qm 21 rfl rfl
    ·intro FA x hO hD K hK
     have e36 := qe (hD 19 36)
     have e35 := qe (hD 18 35)
     first | have ge35 := slot_of e35 | have ge35 := slot_un e35
     clear hO hD
     have q1 := H8.out (plus wr x.bs x.d) bpl
     go_simp
     exact qk hK rfl
    refine qf 9 18 35 22 ?_
    refine qh 20 37 21 38 18 35 23 ?_
    refine qg 22 39 18 35 24 ?_
    apply qm 25 rfl rfl
    ·intro FA x hO hD K hK
     have e40 := qe (hD 23 40)
     have e35 := qe (hD 18 35)
     first | have ge35 := slot_of e35 | have ge35 := slot_un e35
     clear hO hD
     first | (have hq := (HQ.out (plus wr x.bs x.d) (belowP hE x.bs x.d)).2; go_simp; exact qk hK rfl) | (go_simp; exact qk hK rfl) | (rcases ge35 with ge35 | ge35 <;> (go_simp; exact qk hK rfl))
    refine qf 3 18 35 26 ?_
    refine qh 24 41 25 42 18 35 27 ?_
    refine qc 18 35 26 43 28 ?_
    refine Steps.fin_ (fun vs x hp => ?_)
    simp only [qta, qtb, qda, qdb, putAll, Nat.zero_add, Nat.reduceAdd, Act.put, qsT, qsZ, qsS, qi (hp 0 qd), qi (hp 1 qd), qi (hp 2 qd), qi (hp 3 qd), qi (hp 4 qd), qi (hp 5 qd), qi (hp 6 qd), qi (hp 7 qd), qi (hp 8 qd), qi (hp 9 qd), qi (hp 10 qd), qi (hp 11 qd), qi (hp 12 qd), qi (hp 13 qd), qi (hp 14 qd), qi (hp 15 qd), qi (hp 16 qd), qi (hp 17 qd), qi (hp 18 qd), qi (hp 19 qd), qi (hp 20 qd), qi (hp 21 qd), qi (hp 22 qd), qi (hp 23 qd), qi (hp 24 qd), qi (hp 25 qd), qi (hp 26 qd), qi (hp 27 qd)]
    clear hp
    clear vs
    go_wp2
   ·go_ret
    rw [HV.out]
    exact RetV.is_ rfl (belowP hE _ _)
   ·exact ⟨⟨i + 1, by omega, by omega, by go_num, belowP hE _ _, bs.later bpl, ba.later bpl⟩, by simp [intOf]; omega⟩
   ·exact ⟨⟨i + 1, by omega, by omega, by go_num, belowP hE _ _, bs.later bpl, ba.later bpl⟩, by simp [intOf]; omega⟩
   ·exact ⟨⟨i + 1, by omega, by omega, by go_num, belowP hE _ _, bs.later bpl, ba.later bpl⟩, by simp [intOf]; omega⟩
  ·have HV := qy (show fdI C (six, ah, al) pt pr = -1 from if_neg (by omega))
   have ii : ¬ (i : Int) < (n : Int) := by omega
   clear hif hlt0
   go_wp2
   go_ret
   rw [HV.out]
   exact RetV.is_ rfl hE
end
theorem rcRight_any (C : Cf) (hk : C.key.length = 16) (hb : C.bk.length = 65) (A : Option Addr) (n c : Nat) (ms : List (Int × Int)) (B : Option Addr) (m d : Nat) (w : World) (hr : Rs 2 w B m d (prs .i64 ms)) (hm : m ≤ 1000000) : Calls Tryz.prog 152 #[.agg (rcC C A n c).toArray, .slice B m d] w (RetV w (.bool (okM C ms))) := by
 have hml : ms.length = m := by have := hr.1; rw [prs_length] at this; omega
 have HOK := qy (show okM C ms = okM C ms from rfl)
 obtain ⟨R0, hR0⟩ : ∃ R0, R0 = okM C ms := ⟨_, rfl⟩
 have HR0 := qy hR0
 rw [← hR0]
 clear hR0
 obtain ⟨dvs1, vs1, vs2⟩ := rowRcS
 obtain ⟨bs, be, zV⟩ := box1 w 83 (rcC C A n c)
 go_enter Tryz.func152, Tryz.ntmps152
 go_upto_region 1 with (fail)
 generalize w.alloc (.cells (rcC C A n c).toArray 83) = V at *
 have HS := qy bs
 have HB := qy be
 clear be bs
 go_upto_region 2 with (fail)
 go_loopw [5] (fun I wr => ∃ i : Nat, i ≤ m ∧ I = .int .i64 (i : Int) ∧ Hid (okM C (ms.take i) = true) ∧ Below w.heap.size w wr ∧ Bk wr w.heap.size 83 (rcC C A n c)) (fun I _ => m - (intOf I).toNat)
 case atStart => exact ⟨0, Nat.zero_le _, rfl, qy rfl, HB.out, HS.out⟩
 case round =>
  clear HB HS
  obtain ⟨i, hi, rfl, hok, hE, bs⟩ := hrel
  by_cases hlt : i < m
  ·have ii : (i : Int) < (m : Int) := by omega
   obtain ⟨bl, ol, rfl, hbl, -⟩ := hr.at_ (by omega) (by decide)
   have H5 := qy (fun W (h : Below w.heap.size w W) => show W.cell? ⟨bl, ol + i * 2, none⟩ = some (.int .i64 (ms[i]'(by omega)).1) ∧ W.cell? ⟨bl, ol + i * 2 + 1, none⟩ = some (.int .i64 (ms[i]'(by omega)).2) from (hr.later h).range2 i (by omega))
   have hsn : ms.take (i + 1) = ms.take i ++ [ms[i]'(by omega)] := by simp
   have hmi : ms[i]? = some (ms[i]'(by omega)) := List.getElem?_eq_getElem (by omega)
   have HOI := qy ((congrArg (okM C) hsn).trans (okM_snoc C (ms.take i) _))
   have HBADX := qy (fun h : okM C (ms.take (i + 1)) = false => show R0 = false from (by
    rw [HR0.out]
    cases hq : okM C ms with
    | false => rfl
    | true => rw [okM_take hq (i + 1)] at h; cases h))
   have HMI := qy hmi
   clear hsn hmi
   generalize (ms[i]'(by omega)) = p at *
   obtain ⟨xm, ym⟩ := p
   have HKX := qy (fun W => refKnown_any C hk hb A n c xm W)
   generalize hkx : knC C xm = kx at *
   have hcase : (kx = false ∧ Hid (R0 = false)) ∨ (kx = true ∧ ym < 0 ∧ Hid (R0 = false)) ∨ (kx = true ∧ 100 < ym ∧ 0 ≤ ym ∧ Hid (R0 = false)) ∨ (kx = true ∧ 0 ≤ ym ∧ ym ≤ 100 ∧ Hid (wtB ym = true)) := by
    cases hk3 : kx with
    | false => exact .inl ⟨rfl, qy (HBADX.out (by rw [HOI.out, hk3]; simp))⟩
    | true =>
     rcases (by omega : ym < 0 ∨ (100 < ym ∧ 0 ≤ ym) ∨ (0 ≤ ym ∧ ym ≤ 100)) with h | ⟨h, h'⟩ | ⟨h, h'⟩
     ·exact .inr (.inl ⟨rfl, h, qy (HBADX.out (by rw [HOI.out]; unfold wtB; rw [decide_eq_false (show ¬ 0 ≤ ym by omega)]; simp))⟩)
     ·exact .inr (.inr (.inl ⟨rfl, h, h', qy (HBADX.out (by rw [HOI.out]; unfold wtB; rw [decide_eq_false (show ¬ ym ≤ 100 by omega)]; simp))⟩))
     ·exact .inr (.inr (.inr ⟨rfl, h, h', qy (by unfold wtB; rw [decide_eq_true h, decide_eq_true h']; rfl)⟩))
   have HKT := qy hkx
   clear hkx
   rcases hcase with ⟨rfl, HBAD⟩ | ⟨rfl, hy0, HBAD⟩ | ⟨rfl, hy1, hy0, HBAD⟩ | ⟨rfl, hy0, hy1, hwt⟩
   all_goals
    go_upto_region 4 with (fail)
    refine wp_relS 24 56 rfl (by kernel_rfl) (by kernel_rfl) ?_
    apply qm 1 rfl rfl
    ·intro FA x hO hD K hK
     have e2 := hO 2
     simp only [eval_tmp, qgT, qgS, qgZ, qoS] at e2
     have ev2 := qy ((eval_tmp FA 2).trans e2)
     clear hO hD
     refine wanted_if rfl ?_
     refine wp_ldA 83 (.tmp 2) rfl (rcC C A n c) ev2.out (bs.later bpl) (whole_ _) vs1 vs2 (szRcS C hk hb A n c) ?_
     exact qk hK rfl
    refine qb 1 2 ?_
    refine qb 5 3 ?_
    refine qc 1 14 2 15 4 ?_
    refine qa 3 16 5 ?_
    apply qm 6 rfl rfl
    ·intro FA x hO hD K hK
     have e17 := qe (hD 4 17)
     clear hO hD
     have q5 := H5.out (plus wr x.bs x.d) (belowP hE x.bs x.d)
     go_simp
     exact qk hK rfl
    apply qm 7 rfl rfl
    ·intro FA x hO hD K hK
     have e13 := qe (hD 0 13)
     have e18 := qe (hD 5 18)
     clear hO hD
     go_simp
     refine (HKX.out _).mono ?_
     rintro e w2 ⟨bs2, d2, rfl, rfl⟩
     exact hK.out _ _ (Ex.plus_ _ _ _) rfl
    refine qa 6 19 8 ?_
    refine qa 7 20 9 ?_
    refine qf 1 8 21 10 ?_
    refine qf 5 8 21 11 ?_
    refine qh 9 22 10 23 8 21 12 ?_
    refine qg 11 24 8 21 13 ?_
    apply qm 14 rfl rfl
    ·intro FA x hO hD K hK
     have e25 := qe (hD 12 25)
     have e21 := qe (hD 8 21)
     first | have ge21 := slot_of e21 | have ge21 := slot_un e21
     clear hO hD
     have q5 := H5.out (plus wr x.bs x.d) (belowP hE x.bs x.d)
     go_simp
     exact qk hK rfl
    refine qg 13 26 8 21 15 ?_
    refine qc 8 21 14 27 16 ?_
    refine qa 15 28 17 ?_
    refine qf 1 16 29 18 ?_
    refine qf 5 16 29 19 ?_
    refine qh 17 30 18 31 16 29 20 ?_
    refine qg 19 32 16 29 21 ?_
    apply qm 22 rfl rfl
    ·intro FA x hO hD K hK
     have e33 := qe (hD 20 33)
     have e29 := qe (hD 16 29)
     first | have ge29 := slot_of e29 | have ge29 := slot_un e29
     clear hO hD
     have q5 := H5.out (plus wr x.bs x.d) (belowP hE x.bs x.d)
     go_simp
     exact qk hK rfl
    refine qg 21 34 16 29 23 ?_
    refine qc 16 29 22 35 24 ?_
    refine Steps.fin_ (fun vs x hp => ?_)
    simp only [qta, qtb, qda, qdb, putAll, Nat.zero_add, Nat.reduceAdd, Act.put, qsT, qsZ, qsS, qi (hp 0 qd), qi (hp 1 qd), qi (hp 2 qd), qi (hp 3 qd), qi (hp 4 qd), qi (hp 5 qd), qi (hp 6 qd), qi (hp 7 qd), qi (hp 8 qd), qi (hp 9 qd), qi (hp 10 qd), qi (hp 11 qd), qi (hp 12 qd), qi (hp 13 qd), qi (hp 14 qd), qi (hp 15 qd), qi (hp 16 qd), qi (hp 17 qd), qi (hp 18 qd), qi (hp 19 qd), qi (hp 20 qd), qi (hp 21 qd), qi (hp 22 qd), qi (hp 23 qd)]
    clear hp
    clear vs
   iterate 3
    focus
     go_wp2
     go_ret
     rw [HBAD.out]
     exact RetV.is_ rfl (belowP hE _ _)
   focus
      skip
      have hE4 := belowP hE x.bs x.d
      have bs4 := bs.later (below_plus wr x.bs x.d)
      generalize plus wr x.bs x.d = W5 at *
      clear bs hE
      go_upto_region 7 with (fail)
      have HS4 := qy (And.intro hE4 bs4)
      clear hE4 bs4
      go_loopw [6] (fun K w2 => ∃ k : Nat, k ≤ i ∧ K = .int .i64 (k : Int) ∧ Hid (xm ∉ (ms.take k).map (·.1)) ∧ Below w.heap.size w w2 ∧ Bk w2 w.heap.size 83 (rcC C A n c)) (fun K _ => i - (intOf K).toNat)
      case atStart => exact ⟨0, Nat.zero_le _, rfl, qy (by simp), HS4.out.1, HS4.out.2⟩
      case round =>
       clear HS4
       obtain ⟨k, hki, rfl, hno, hE2, bs2⟩ := hrel
       by_cases hlk : k < i
       ·have kk : (k : Int) < (i : Int) := by omega
        have km : (k : Int) < (m : Int) := by omega
        have km2 : k < m := by omega
        have H6 := qy (fun W (h : Below w.heap.size w W) => show W.cell? ⟨bl, ol + k * 2, none⟩ = some (.int .i64 (ms[k]'(by omega)).1) from ((hr.later h).range2 k (by omega)).1)
        have hsk : ms.take (k + 1) = ms.take k ++ [ms[k]'(by omega)] := by simp
        have hmem : (ms[k]'(by omega)) ∈ ms.take i := List.mem_iff_getElem.2 ⟨k, by rw [List.length_take]; omega, by simp⟩
        have HSK := qy (And.intro hsk hmem)
        clear hsk hmem
        generalize (ms[k]'(by omega)) = q at *
        obtain ⟨xq, yq⟩ := q
        have hcase2 : (((xq : Int) == xm) = true ∧ Hid (R0 = false)) ∨ (((xq : Int) == xm) = false ∧ Hid (xm ∉ (ms.take (k + 1)).map (·.1))) := by
         by_cases heq : xq = xm
         ·exact .inl ⟨by simp [heq], qy (HBADX.out (by
           rw [HOI.out, decide_eq_true (show xm ∈ (ms.take i).map (·.1) from List.mem_map.2 ⟨(xq, yq), HSK.out.2, heq⟩)]
           simp))⟩
         ·refine .inr ⟨by simp [heq], qy ?_⟩
          rw [HSK.out.1, List.map_append]
          intro hm
          rcases List.mem_append.1 hm with h | h
          ·exact hno.out h
          ·simp at h; exact heq h.symm
        clear hno
        rcases hcase2 with ⟨hbq, HBAD⟩ | ⟨hbq, HN⟩
        all_goals
         go_upto_region 9 with (fail)
         refine wp_relS 11 56 rfl (by kernel_rfl) (by kernel_rfl) ?_
         refine qb 1 1 ?_
         refine qb 6 2 ?_
         refine qc 0 42 1 43 3 ?_
         refine qa 2 44 4 ?_
         apply qm 5 rfl rfl
         ·intro FA x hO hD K hK
          have e45 := qe (hD 3 45)
          clear hO hD
          have q5 := H5.out (plus wr x.bs x.d) (belowP hE2 x.bs x.d)
          have q6 := H6.out (plus wr x.bs x.d) (belowP hE2 x.bs x.d)
          go_simp
          exact qk hK rfl
         refine qb 1 6 ?_
         refine qb 5 7 ?_
         refine qc 5 47 6 48 8 ?_
         refine qa 7 49 9 ?_
         apply qm 10 rfl rfl
         ·intro FA x hO hD K hK
          have e50 := qe (hD 8 50)
          clear hO hD
          have q5 := H5.out (plus wr x.bs x.d) (belowP hE2 x.bs x.d)
          have q6 := H6.out (plus wr x.bs x.d) (belowP hE2 x.bs x.d)
          go_simp
          exact qk hK rfl
         refine qc 4 46 9 51 11 ?_
         refine Steps.fin_ (fun vs x hp => ?_)
         simp only [qta, qtb, qda, qdb, putAll, Nat.zero_add, Nat.reduceAdd, Act.put, qsT, qsZ, qsS, qi (hp 0 qd), qi (hp 1 qd), qi (hp 2 qd), qi (hp 3 qd), qi (hp 4 qd), qi (hp 5 qd), qi (hp 6 qd), qi (hp 7 qd), qi (hp 8 qd), qi (hp 9 qd), qi (hp 10 qd)]
         clear hp
         clear vs
         go_wp2
        ·go_ret
         rw [HBAD.out]
         exact RetV.is_ rfl (belowP hE2 _ _)
        ·exact ⟨⟨k + 1, by omega, by go_num, HN, belowP hE2 _ _, bs2.later bpl⟩, by simp [intOf]; omega⟩
       ·have kk : ¬ (k : Int) < (i : Int) := by omega
        have hke : k = i := by omega
        have HN := qy (show okM C (ms.take (i + 1)) = true by
         have h := hno.out
         rw [hke] at h
         rw [HOI.out, hok.out, decide_eq_false h, hwt.out]
         rfl)
        clear hno hke
        go_wp2
        exact ⟨⟨i + 1, by omega, by go_num, HN, hE2, bs2⟩, by simp [intOf]; omega⟩
  ·have hmi : ¬ (i : Int) < (m : Int) := by omega
   have him : i = m := by omega
   have hall : okM C ms = true := by
    have := hok.out
    rwa [List.take_of_length_le (by omega)] at this
   have h64 := okM_len hall
   have hm64 : (m : Int) ≤ 64 := by omega
   have HV := qy (show R0 = true from HR0.out.trans hall)
   clear hall h64 hi
   go_wp2
   go_ret
   rw [HV.out]
   exact RetV.is_ rfl hE
theorem rcC_len (C : Cf) (hk : C.key.length = 16) (hb : C.bk.length = 65) (A : Option Addr) (n c : Nat) : (rcC C A n c).length = 279 := rcL_len _ _ _ _ _ _ _ _ hk (by simp [hb]) (by simp [hb])
theorem etRv : ET Tryz.prog 81 154 (.agg (rvC (⟨(false, 0, 0), 0, 0, 0, [], ⟨[], 0, 0⟩⟩, ⟨none, 0, 0, none, 0, 0⟩)).toArray) 81 168 := ⟨Tryz.underlying81, by kernel_rfl, by kernel_rfl, by decide, by decide⟩
theorem rcC_set (C : Cf) (hk : C.key.length = 16) (hb : C.bk.length = 65) (A A' : Option Addr) (n c n' c' : Nat) : (rcC C A n c).set 278 (.slice A' n' c') = rcC C A' n' c' := rcL_setVips _ _ _ _ _ _ _ _ hk (by simp [hb]) (by simp [hb]) _ _ _
def RcO (G : Nat → Prop) (base : Nat) (w : World) (C : Cf) (A : Option Addr) (n c : Nat) (E : List Re) : Prop :=
 ∃ b cs, A = some ⟨b, 0, none⟩ ∧ base ≤ b ∧ ¬ G b ∧ Bk w b 154 (E.flatMap rvC ++ cs) ∧ RcX G w C A n c E ∧ (∀ x ∈ E, Off (fun k => G k ∨ k = b) w x.2.A) ∧ ∀ x ∈ E, RSt (fun k => G k ∨ k = b) w x.1.S.lv x.2.B x.2.m x.2.d
section
variable {G : Nat → Prop} {base : Nat} {w w' : World} {C : Cf} {A : Option Addr} {n c : Nat} {E : List Re}
theorem RcO.x (h : RcO G base w C A n c E) : RcX G w C A n c E := by
 obtain ⟨b, cs, h1, h2, h3, h4, h5, h6, h7⟩ := h
 exact h5
theorem RcO.base_ {base' : Nat} (h : RcO G base w C A n c E) (hb : base' ≤ base) : RcO G base' w C A n c E := by
 obtain ⟨b, cs, h1, h2, h3, h4, h5, h6, h7⟩ := h
 exact ⟨b, cs, h1, Nat.le_trans hb h2, h3, h4, h5, h6, h7⟩
theorem RcO.later (h : RcO G base w C A n c E) (hb : Below w.heap.size w w') : RcO G base w' C A n c E := by
 obtain ⟨b, cs, h1, h2, h3, h4, h5, h6, h7⟩ := h
 exact ⟨b, cs, h1, h2, h3, h4.later hb, h5.later hb, fun x hx => (h6 x hx).size hb.size, fun x hx => (h7 x hx).later hb⟩
theorem RcO.chg {D : Nat → Prop} (h : RcO G base w C A n c E) (hc : Chg D w w') (hd : ∀ b, D b → G b) : RcO G base w' C A n c E := by
 obtain ⟨b, cs, h1, h2, h3, h4, h5, h6, h7⟩ := h
 exact ⟨b, cs, h1, h2, h3, h4.chg hc (fun h => h3 (hd _ h)), h5.chg hc hd, fun x hx => (h6 x hx).size hc.size, fun x hx => (h7 x hx).chg ⟨hc.os, hc.tape, hc.output, hc.size, fun k hk hn => hc.block k hk (fun hD => hn (.inl (hd k hD)))⟩⟩
theorem RcO.more {G' : Nat → Prop} (h : RcO G base w C A n c E) (hd : ∀ b, G' b → G b ∨ w.heap.size ≤ b) : RcO G' base w C A n c E := by
 obtain ⟨b, cs, h1, h2, h3, h4, h5, h6, h7⟩ := h
 have hl := h4.lt
 exact ⟨b, cs, h1, h2, fun h => (hd _ h).elim h3 (fun h => by omega), h4, h5.more hd, fun x hx => (h6 x hx).more (fun k hk => hk.elim (fun h => (hd _ h).elim (fun h => .inl (.inl h)) .inr) (fun h => .inl (.inr h))), fun x hx => (h7 x hx).more (fun k hk => hk.elim (fun h => (hd _ h).elim (fun h => .inl (.inl h)) .inr) (fun h => .inl (.inr h)))⟩
end
theorem rcWith_own {G : Nat → Prop} (C : Cf) (hk : C.key.length = 16) (hb : C.bk.length = 65) (A : Option Addr) (n c : Nat) (E : List Re) (i : Nat) (y : Re) (w : World) (hG : ∀ b, G b → b < w.heap.size) (hX : RcX G w C A n c E) (hi : i < n) (hn : n ≤ 16) (h1 : Rs 2 w y.2.A y.2.n y.2.c (prs .i64 y.1.ms)) (h2 : Off G w y.2.A) (h3 : RSt G w y.1.S.lv y.2.B y.2.m y.2.d) : Calls Tryz.prog 126 #[.agg (rcC C A n c).toArray, .int .i64 (i : Int), .agg (rvC y).toArray] w fun e w' => ∃ A' c', e = .returned (.agg (rcC { C with vs := C.vs.set i y.1 } A' n c').toArray) ∧ RcO G w.heap.size w' { C with vs := C.vs.set i y.1 } A' n c' (E.set i y) ∧ Below w.heap.size w w' := by
 have HX0 := qy hX
 have H10 := qy h1
 have H20 := qy h2
 have H30 := qy h3
 clear h1 h2 h3
 obtain ⟨dvs1, vs1, vs2⟩ := rowRcS
 obtain ⟨dvr1, vr1, vr2⟩ := rowRv
 obtain ⟨bs, by_, be, zV⟩ := box2 w 83 154 (rcC C A n c) (rvC y)
 go_enter Tryz.func126, Tryz.ntmps126
 go_upto_region 1 with (fail)
 have HVe := qy (show ((w.alloc (.cells (rcC C A n c).toArray 83)).alloc (.cells (rvC y).toArray 154)).heap.size = w.heap.size + 1 + 1 by simp)
 generalize (w.alloc (.cells (rcC C A n c).toArray 83)).alloc (.cells (rvC y).toArray 154) = V at *
 replace hX := hX.later be
 have hnE : E.length = n := by have := hX.n_; have := hX.len; omega
 have hz := Bk.newK 83 (Tryz.zeroCells83) _ HVe.out.symm rfl
 have hzl : (Tryz.zeroCells83).toList.length = 279 := by kernel_rfl
 have hbz : Below V.heap.size V (V.alloc (.cells (Tryz.zeroCells83) 83)) := Below.allocS (Below.refl _ _) _
 go_upto_region 1 with (fail)
 have hVs : w.heap.size + 2 ≤ V.heap.size := by have := by_.lt; omega
 generalize hV2 : V.alloc (.cells (Tryz.zeroCells83) 83) = V2 at *
 have hV2s : V2.heap.size = V.heap.size + 1 := by rw [← hV2]; simp
 clear hV2
 generalize (Tryz.zeroCells83).toList = zl0 at *
 replace hX := hX.later hbz
 replace bs := bs.later hbz
 replace by_ := by_.later hbz
 replace be := be.trans (hbz.mono be.size)
 have hV2g : V.heap.size + 1 ≤ V2.heap.size := by omega
 clear hbz hV2s
 refine wp_region_lit ?_
 iterate 2 (refine qw ?_)
 refine wpList_ld1 (t := 83) (cs := rcC C A n c) 81 (.tmp 8) rfl (by rfl) rfl (bs.alloc _) (rcC_vips C hk hb A n c) Tryz.underlying81 rfl ?_
 simp only [Act.put, qsT, qsZ, qsS]
 refine wpList_appS etRv rfl (.tmp 7) (.tmp 9) rfl rfl (Os.lit V2 (Nat.le_refl _) #[] 0 rfl (Nat.zero_le _)) rfl (hX.row.alloc _) (flat_one rvC rvC_one _) (by omega) (by simp) ?_
 intro A2 n2 c2 w4 hn2 hO4 hb4 hg4
 obtain rfl : n = n2 := by omega
 clear hn2
 simp only [Act.put, qsT, qsZ, qsS]
 have hb4W : Below V2.heap.size V2 w4 := (Below.allocS (Below.refl _ _) _).trans hb4
 simp only [List.nil_append, Nat.zero_add] at hO4
 replace bs := bs.later hb4W
 replace by_ := by_.later hb4W
 replace hz := hz.later hb4W
 replace be := be.trans (hb4W.mono be.size)
 refine qw ?_
 refine wpList_st1 (v := .slice A2 n c2) (t := 83) (cs := rcC C A n c) (off := 278) 81 (.tmp 11) (.tmp 10) rfl rfl rfl rfl bs (by rw [rcC_len C hk hb]; omega) rfl (by kernel_rfl) ?_
 intro W6 h6 g6
 simp only [Act.put, qsT, qsZ, qsS]
 obtain ⟨b2, cur, rfl, hob, hcur, hcl, hct, hnc, hcm⟩ := hO4.bk (by omega)
 have hb2 := (hO4.blk _ hob).1
 replace hcur := hcur.grown g6 (fun e => by injection e with e; have := by_.lt; omega)
 rw [rcC_set C hk hb] at h6
 have hsp : cur = E.flatMap rvC ++ cur.drop (n * 81) := by rw [← hct, List.take_append_drop]
 have hfl : (E.flatMap rvC).length = n * 81 := by rw [flat_len rvC 81 rvC_len, hnE]
 have hnew : splice cur (i * 81) (rvC y) = (E.set i y).flatMap rvC ++ cur.drop (n * 81) := by
  rw [hsp, splice_app _ _ _ _ (by rw [rvC_len, hfl]; omega), flat_splice rvC 81 rvC_len _ _ (by omega), ← hsp]
 have HNEW := qy hnew
 replace by_ := by_.grown g6 (fun e => by injection e with e; omega)
 replace hz := hz.grown g6 (fun e => by injection e with e; omega)
 replace be := below_grown be g6 (Nat.le_refl _)
 have hcul : i * 81 + 81 ≤ cur.length := by omega
 have ii : (i : Int) < (n : Int) := by omega
 clear hnew hsp bs g6 hb4 hg4 hb4W hX hct hcl hfl
 go_upto_region 2 with (fail)
 refine wp_region_lit ?_
 refine qw ?_
 refine wpList_ld1 (t := 83) (cs := rcC C (some ⟨b2, 0, none⟩) n c2) 81 (.tmp 12) rfl (by rfl) rfl h6 (rcC_vips C hk hb _ n c2) Tryz.underlying81 rfl ?_
 refine qw ?_
 refine qA 154 (.tmp 5) by_ vr1 vr2 (szRv y) ?_
 refine qw ?_
 refine wpList_stM (t := 154) (off := i * 81) 154 (.tmp 16) (.tmp 15) rfl rfl (rvC y) cur (by rw [rvC_len]; omega) (rvC_one _) rfl rfl hcur (szRv y) ?_
 intro W8 h8 g8
 simp only [Act.put, qsT, qsZ, qsS]
 replace h6 := h6.grown g8 (fun e => by injection e with e; omega)
 replace hz := hz.grown g8 (fun e => by injection e with e; omega)
 replace be := below_grown be g8 (by omega)
 rw [HNEW.out] at h8
 clear g8 hcur by_
 go_upto_region 3 with (fail)
 refine wp_region_lit ?_
 refine qA 83 (.tmp 3) h6 vs1 vs2 (szRcS C hk hb _ n c2) ?_
 simp only [Act.put, qsT, qsZ, qsS]
 refine wpList_stA (t := 83) 83 (.tmp 6) (.tmp 17) rfl rfl (rcC C (some ⟨b2, 0, none⟩) n c2) zl0 (hzl.trans (rcC_len C hk hb _ _ _).symm).symm (rcL_one _ _ _ _ _ _ _ _) rfl rfl hz (szRcS C hk hb _ n c2) ?_
 intro W9 h9 g9
 simp only [Act.put, qsT, qsZ, qsS]
 replace h8 := h8.grown g9 (fun e => by injection e with e; omega)
 replace be := below_grown be g9 (by omega)
 go_wp2
 refine bodyPost_agg Tryz.results126 rfl h9.range vs1 vs2 (szRcS C hk hb _ n c2) rfl ?_
 have hX := HX0.out
 have hmem : ∀ x ∈ E.set i y, x ∈ E ∨ x = y := fun x hx => List.mem_or_eq_of_mem_set hx
 have hGb : ¬ G b2 := fun hg => by have hgb : b2 < w.heap.size := hG _ hg; omega
 refine ⟨some ⟨b2, 0, none⟩, c2, rfl, ⟨b2, _, rfl, by omega, hGb, h8, ⟨?_, ?_, ?_, ?_, ?_, ?_⟩, ?_, ?_⟩, be⟩
 ·rw [List.map_set, hX.vs]
 ·refine ⟨by rw [flat_len rvC 81 rvC_len, List.length_set, hnE], hnc, .inr ⟨b2, 0, rfl, h8.lt, fun j u hu => ?_⟩⟩
  rw [Nat.zero_add]
  exact (h8.cell j).trans (by rw [List.getElem?_append_left (List.getElem?_eq_some_iff.1 hu).1]; exact hu)
 ·intro a ha
  injection ha with ha
  subst ha
  exact ⟨h8.lt, fun hg => by have hgb : b2 < w.heap.size := hG _ hg; omega⟩
 ·intro x hx
  rcases hmem x hx with h | rfl
  ·exact (hX.mm x h).later be
  ·exact H10.out.later be
 ·intro x hx
  rcases hmem x hx with h | rfl
  ·exact (hX.mo x h).size be.size
  ·exact H20.out.size be.size
 ·intro x hx
  rcases hmem x hx with h | rfl
  ·exact (hX.ss x h).later be
  ·exact H30.out.later be
 ·intro x hx
  rcases hmem x hx with h | rfl
  ·exact ((hX.mo x h).more (fun k hk => hk.elim .inl (fun e => .inr (by omega)))).size be.size
  ·exact (H20.out.more (fun k hk => hk.elim .inl (fun e => .inr (by omega)))).size be.size
 ·intro x hx
  rcases hmem x hx with h | rfl
  ·exact ((hX.ss x h).more (fun k hk => hk.elim .inl (fun e => .inr (by omega)))).later be
  ·exact (H30.out.more (fun k hk => hk.elim .inl (fun e => .inr (by omega)))).later be
theorem rcWith_any {G : Nat → Prop} (C : Cf) (hk : C.key.length = 16) (hb : C.bk.length = 65) (A : Option Addr) (n c : Nat) (E : List Re) (i : Nat) (y : Re) (w : World) (hG : ∀ b, G b → b < w.heap.size) (hX : RcX G w C A n c E) (hi : i < n) (hn : n ≤ 16) (h1 : Rs 2 w y.2.A y.2.n y.2.c (prs .i64 y.1.ms)) (h2 : Off G w y.2.A) (h3 : RSt G w y.1.S.lv y.2.B y.2.m y.2.d) : Calls Tryz.prog 126 #[.agg (rcC C A n c).toArray, .int .i64 (i : Int), .agg (rvC y).toArray] w fun e w' => ∃ A' c', e = .returned (.agg (rcC { C with vs := C.vs.set i y.1 } A' n c').toArray) ∧ RcX G w' { C with vs := C.vs.set i y.1 } A' n c' (E.set i y) ∧ Below w.heap.size w w' :=
 (rcWith_own C hk hb A n c E i y w hG hX hi hn h1 h2 h3).mono (fun _ _ ⟨A', c', h1, h2, h3⟩ => ⟨A', c', h1, h2.x, h3⟩)
end

section
open Go.RowKit
theorem run_bs1 {P : Program} {w : World} {ts e : TypeId} {z : Value} {s by_ : Nat} (et : ET P ts e z s by_) (cs : List Value) (hl : cs.length = s) (hs : s ≤ 16777216) :
  (Instr.buildSlice ts 1 #[(0, .agg cs.toArray)]).run P w = .ok (.slice (some ⟨w.heap.size, 0, none⟩) 1 1) (w.alloc (.cells cs.toArray e)) := by
 have hp := et.pos
 have hz := et.zs
 obtain ⟨i, hi, hz0, hz1, hz2⟩ := info_parts et.info
 have hsl := et.sl
 clear et
 obtain rfl : i.size = s := hz1
 have h1 : ¬ 16777216 < i.size := by omega
 have h2 : ¬ i.size = 0 := by omega
 have hf := fill_cons (fun k => some (k * i.size, i.size)) ((List.range i.size).map (fun k => z.cells[k % z.cells.size]!)) 0 (.agg cs.toArray) [] 0 i.size cs (by simp) rfl hl (by simp)
 have hsp : splice ((List.range i.size).map (fun k => z.cells[k % z.cells.size]!)) 0 cs = cs := by
  unfold splice
  simp [hl]
 rw [hsp, fill_nil] at hf
 have ha : ((Array.range i.size).map (fun x => z.cells[x % z.cells.size]!)) = ((List.range i.size).map (fun k => z.cells[k % z.cells.size]!)).toArray := by
  apply Array.ext'
  simp
 rw [← ha] at hf
 unfold Instr.buildSlice
 simp only [Sem.run_bind, run_underlying hsl, Result.andThen_ok, sizeOf, typeInfo, zeroValue, Sem.run_pure]
 simp [hi, hz0, h1, h2, hf, newRow]
theorem wp_bs1 {P : Program} {Q : Exit → Act → World → Prop} {w : World} {o : Oper} {a : Act} {K : Act → World → Prop} {ts e : TypeId} {z : Value} {s by_ : Nat} (et : ET P ts e z s by_) (x : Operand) (ho : o.op = .buildSlice ts 1 #[(0, x)]) (cs : List Value) (hl : cs.length = s) (hs : s ≤ 16777216) (hx : a.eval x = .agg cs.toArray)
  (h : K (a.put o.dst (.slice (some ⟨w.heap.size, 0, none⟩) 1 1)) (w.alloc (.cells cs.toArray e))) : o.wp P a w K Q := by
 unfold Oper.wp execOp
 simp only [ho, Sem.run_bind, List.map_toArray, List.map_cons, List.map_nil, hx, run_bs1 et cs hl hs, Result.andThen_ok, Sem.run_pure]
 exact h
end

section
attribute [local go_sem ↓] sliced_cut
attribute [local go_sem] cutA_zero
open Go.Lib
open Go.RowKit
def RetRc (G : Nat → Prop) (w : World) (C' : Cf) (v : Nat) (e : Ending) (w' : World) : Prop := ∃ A n c E, e = .returned (.tuple #[.agg (rcC C' A n c).toArray, .int .i64 (v : Nat)]) ∧ RcX G w' C' A n c E ∧ Below w.heap.size w w'
theorem RetRc.no {G : Nat → Prop} {w w' : World} {C C' : Cf} {A : Option Addr} {n c : Nat} {E : List Re} {v v' : Nat} (h : RcX G w C A n c E) (hv : v' = v) (hC : C' = C) (hb : Below w.heap.size w w') : RetRc G w C' v' (.returned (.tuple #[.agg (rcC C A n c).toArray, .int .i64 (v : Nat)])) w' := by
 subst hv hC
 exact ⟨A, n, c, E, rfl, h.later hb, hb⟩
def Own.holdR {prot : Nat → Prop} (base : Nat) (t e : TypeId) (s : Nat) (cs : Value → List Value) (l : List Value) : Own prot := ⟨fun v u w => ∃ g A n c, u = .pointer (some ⟨g, 0, none⟩) ∧ v = .slice A n c ∧ Bk w g t (cs v) ∧ Os e s w base A n c l,
 fun v u b => u = .pointer (some ⟨b, 0, none⟩) ∨ v.ownBlock = some b,
 fun v u w b ⟨g, A, n, c, h1, h2, h3, h4⟩ h => (by
  rcases h with h | h
  ·rw [h1] at h; rw [← own_ptr h]; exact h3.lt
  ·subst h2; exact (h4.blk b h).2),
 fun v u w w' ⟨g, A, n, c, h1, h2, h3, h4⟩ hk => ⟨g, A, n, c, h1, h2, h3.kept hk (.inl (.inl h1)), h4.kept hk (fun b hb => .inl (.inr (by subst h2; exact hb)))⟩⟩
theorem run_buildRv (six : Bool) (ah al pt pr : Nat) (wy : Int) (w : World) : (Instr.build 154 #[(0, .agg (adC six ah al).toArray), (1, .int .u16 (pt : Int)), (2, .int .u8 (pr : Int)), (3, .int .i64 wy)]).run Tryz.prog w = .ok (.agg (rvC ((⟨(six, ah, al), pt, pr, wy, [], ⟨[], 0, 0⟩⟩, ⟨none, 0, 0, none, 0, 0⟩) : Re)).toArray) w := by kernel_rfl
theorem szEv (S : Stk) : (Tryz.prog.info? 80).map (·.size) = some ((refEv S).map Value.bool).length := by rw [show ((refEv S).map Value.bool).length = 65 by simp [refEv]]; kernel_rfl
theorem rowBl : ∃ d, Tryz.prog.underlying 80 = some d ∧ d.isRow = true := ⟨_, Tryz.underlying80, rfl⟩
theorem rvC_ev (x : Re) (i : Nat) (u : Value) (h : ((refEv x.1.S).map Value.bool)[i]? = some u) : (rvC x)[8 + i]? = some u := by
 unfold rvC rstC
 rw [List.getElem?_append_right (by rw [adF_len]; omega), adF_len, List.getElem?_append_right (by simp; omega)]
 rw [show 8 + i - 3 - [Value.int .u16 (x.1.pt : Int), .int .u8 (x.1.pr : Int), .int .i64 x.1.wy, .slice x.2.A x.2.n x.2.c].length = i + 1 by simp; omega, List.getElem?_cons_succ, List.getElem?_append_left (List.getElem?_eq_some_iff.1 h).1]
 exact h
theorem rvC_setEv (x : Re) (S' : Stk) (hb : refBz S' = refBz x.1.S) : splice (rvC x) 8 ((refEv S').map Value.bool) = rvC ({ x.1 with S := S' }, x.2) := by
 unfold rvC rstC splice
 rw [hb]
 simp [adF, adC, refEv]
def addR (C : Cf) (o : OpR) : Cf := if addE C o = 0 then { C with vs := C.vs ++ [newV C o] } else C
theorem added_cases (C : Cf) (k v b e : Int) (six : Bool) (ah al pt pr : Nat) (wy : Int) (ms : List (Int × Int)) : (adG six ah al = false ∧ addE C ⟨k, v, b, e, six, ah, al, pt, pr, wy, ms⟩ = 1) ∨ (adG six ah al = true ∧ ((pr : Int) == 6) = false ∧ ((pr : Int) == 17) = false ∧ addE C ⟨k, v, b, e, six, ah, al, pt, pr, wy, ms⟩ = 1) ∨
  (adG six ah al = true ∧ ((pr : Int) == 6) = true ∧ wy < 1 ∧ addE C ⟨k, v, b, e, six, ah, al, pt, pr, wy, ms⟩ = 1) ∨ (adG six ah al = true ∧ ((pr : Int) == 6) = true ∧ 4 < wy ∧ addE C ⟨k, v, b, e, six, ah, al, pt, pr, wy, ms⟩ = 1) ∨
  (adG six ah al = true ∧ ((pr : Int) == 6) = false ∧ ((pr : Int) == 17) = true ∧ wy < 1 ∧ addE C ⟨k, v, b, e, six, ah, al, pt, pr, wy, ms⟩ = 1) ∨ (adG six ah al = true ∧ ((pr : Int) == 6) = false ∧ ((pr : Int) == 17) = true ∧ 4 < wy ∧ addE C ⟨k, v, b, e, six, ah, al, pt, pr, wy, ms⟩ = 1) ∨
  (adG six ah al = true ∧ ((pr : Int) == 6) = true ∧ 1 ≤ wy ∧ wy ≤ 4 ∧ (adG six ah al && (decide (pr = 6 ∨ pr = 17) && wyB wy)) = true) ∨ (adG six ah al = true ∧ ((pr : Int) == 6) = false ∧ ((pr : Int) == 17) = true ∧ 1 ≤ wy ∧ wy ≤ 4 ∧ (adG six ah al && (decide (pr = 6 ∨ pr = 17) && wyB wy)) = true) := by
 have hbad : (adG six ah al && (decide (pr = 6 ∨ pr = 17) && wyB wy)) = false → addE C ⟨k, v, b, e, six, ah, al, pt, pr, wy, ms⟩ = 1 := fun h => by unfold addE; simp only; rw [if_pos h]
 have w1 : wy < 1 → wyB wy = false := fun h => by unfold wyB; rw [decide_eq_false (show ¬ 1 ≤ wy by omega)]; rfl
 have w4 : 4 < wy → wyB wy = false := fun h => by unfold wyB; rw [decide_eq_false (show ¬ wy ≤ 4 by omega)]; simp
 have wg : 1 ≤ wy → wy ≤ 4 → wyB wy = true := fun h1 h4 => by unfold wyB; rw [decide_eq_true h1, decide_eq_true h4]; rfl
 cases hg : adG six ah al with
 | false => exact .inl ⟨rfl, hbad (by rw [hg]; rfl)⟩
 | true =>
  rw [hg] at hbad
  refine .inr ?_
  have p6 : ((pr : Int) == 6) = decide (pr = 6) := by rw [Bool.eq_iff_iff]; simp; omega
  have p17 : ((pr : Int) == 17) = decide (pr = 17) := by rw [Bool.eq_iff_iff]; simp; omega
  rw [p6, p17]
  by_cases h6 : pr = 6
  ·subst h6
   rcases (by omega : wy < 1 ∨ 4 < wy ∨ (1 ≤ wy ∧ wy ≤ 4)) with h | h | ⟨h, h'⟩
   ·exact .inr (.inl ⟨rfl, rfl, h, hbad (by rw [w1 h]; simp)⟩)
   ·exact .inr (.inr (.inl ⟨rfl, rfl, h, hbad (by rw [w4 h]; simp)⟩))
   ·exact .inr (.inr (.inr (.inr (.inr (.inl ⟨rfl, rfl, h, h', by rw [wg h h']; rfl⟩)))))
  ·by_cases h17 : pr = 17
   ·subst h17
    rcases (by omega : wy < 1 ∨ 4 < wy ∨ (1 ≤ wy ∧ wy ≤ 4)) with h | h | ⟨h, h'⟩
    ·exact .inr (.inr (.inr (.inl ⟨rfl, rfl, rfl, h, hbad (by rw [w1 h]; simp)⟩)))
    ·exact .inr (.inr (.inr (.inr (.inl ⟨rfl, rfl, rfl, h, hbad (by rw [w4 h]; simp)⟩))))
    ·exact .inr (.inr (.inr (.inr (.inr (.inr ⟨rfl, rfl, rfl, h, h', by rw [wg h h']; rfl⟩)))))
   ·exact .inl ⟨rfl, decide_eq_false h6, decide_eq_false h17, hbad (by rw [decide_eq_false (by omega)]; rfl)⟩
theorem rcAdded_any {G : Nat → Prop} (k v b e : Int) (six : Bool) (ah al pt pr : Nat) (wy : Int) (ms : List (Int × Int)) (B : Option Addr) (m d : Nat) (C : Cf) (hC : CfOk C) (A : Option Addr) (n c : Nat) (E : List Re) (w : World) (hG : ∀ b, G b → b < w.heap.size) (hX : RcX G w C A n c E) (hal : al < 18446744073709551616) : Calls Tryz.prog 121 #[.agg (rcC C A n c).toArray, .agg (opC k v b e six ah al pt pr wy B m d).toArray] w (RetRc G w (addR C ⟨k, v, b, e, six, ah, al, pt, pr, wy, ms⟩) (addE C ⟨k, v, b, e, six, ah, al, pt, pr, wy, ms⟩)) := by
 obtain ⟨dva1, va1, va2⟩ := rowAdC
 obtain ⟨dvr1, vr1, vr2⟩ := rowRv
 obtain ⟨dub1, ub1, ub2⟩ := rowBl
 have hk := hC.key
 have hb := hC.bl
 have HX0 := qy hX
 have HRR := qy (fun W => refAdrRightC six ah al W hal)
 obtain ⟨ag, hag⟩ : ∃ x, x = adG six ah al := ⟨_, rfl⟩
 rw [← hag] at HRR
 have HC := added_cases C k v b e six ah al pt pr wy ms
 rw [← hag] at HC
 rcases HC with ⟨rfl, HE⟩ | ⟨rfl, q6, q17, HE⟩ | ⟨rfl, q6, q1, HE⟩ | ⟨rfl, q6, q1, HE⟩ | ⟨rfl, q6, q17, q1, HE⟩ | ⟨rfl, q6, q17, q1, HE⟩ | ⟨rfl, q6, q1, q4, hgood⟩ | ⟨rfl, q6, q17, q1, q4, hgood⟩
 all_goals first | (have r6 : ((pr : Int) != 6) = false := (by rw [bne, q6]; rfl)) | (have r6 : ((pr : Int) != 6) = true := (by rw [bne, q6]; rfl); have n6 : ¬ (pr : Int) = 6 := (by simpa using q6)) | skip
 all_goals first | (have r17 : ((pr : Int) != 17) = false := (by rw [bne, q17]; rfl)) | (have r17 : ((pr : Int) != 17) = true := (by rw [bne, q17]; rfl); have n17 : ¬ (pr : Int) = 17 := (by simpa using q17)) | skip
 all_goals first | (have q9 : 1 ≤ wy := (by omega)) | skip
 iterate 6
  focus
   have HAP := qy (show addR C ⟨k, v, b, e, six, ah, al, pt, pr, wy, ms⟩ = C by unfold addR; rw [HE]; rfl)
   have HE0 := qy HE
   clear HE hag
   obtain ⟨dvs1, vs1, vs2⟩ := rowRcS
   obtain ⟨dvo1, vo1, vo2⟩ := rowRo
   obtain ⟨bs, bo, be, zV⟩ := box2 w 83 57 (rcC C A n c) (opC k v b e six ah al pt pr wy B m d)
   go_enter Tryz.func121, Tryz.ntmps121
   go_upto_region 1 with (fail)
   have HVe := qy (show ((w.alloc (.cells (rcC C A n c).toArray 83)).alloc (.cells (opC k v b e six ah al pt pr wy B m d).toArray 57)).heap.size = w.heap.size + 1 + 1 by simp)
   generalize (w.alloc (.cells (rcC C A n c).toArray 83)).alloc (.cells (opC k v b e six ah al pt pr wy B m d).toArray 57) = V at *
   have hz := Bk.newK 83 (Tryz.zeroCells83) _ HVe.out.symm rfl
   have hzl : (Tryz.zeroCells83).toList.length = 279 := by kernel_rfl
   have hbz : Below V.heap.size V (V.alloc (.cells (Tryz.zeroCells83) 83)) := Below.allocS (Below.refl _ _) _
   go_upto_region 1 with (fail)
   have hVs : w.heap.size + 2 ≤ V.heap.size := by have := bo.lt; omega
   generalize hV2 : V.alloc (.cells (Tryz.zeroCells83) 83) = V2 at *
   clear hV2
   generalize (Tryz.zeroCells83).toList = zl0 at *
   replace bs := bs.later hbz
   replace bo := bo.later hbz
   replace be := be.trans (hbz.mono be.size)
   have hVz := hbz.size
   clear hbz
   refine wp_region_lit ?_
   refine qw ?_
   refine wpList_ldA (t := 57) (cs := opC k v b e six ah al pt pr wy B m d) 53 (.tmp 7) rfl rfl (adC six ah al) rfl (bo) rfl va1 va2 (szAd _ _ _) ?_
   refine wpq fun K hK => ?_
   go_simp
   refine (HRR.out _).mono ?_
   rintro e w1 ⟨bs1, d1, rfl, rfl⟩
   with_reducible refine hK _ _ ?_
   clear hK K
   have hb1 := below_plus V2 bs1 d1
   replace bs := bs.later hb1
   replace bo := bo.later hb1
   replace hz := hz.later hb1
   replace be := be.trans (hb1.mono be.size)
   clear hb1
   generalize plus V2 bs1 d1 = V3 at *
   iterate 2 (refine qw ?_)
   first | ((with_reducible refine wpList_skip ?_ ?_); (· first | (go_simp; done) | (go_simp; intro h; cases h)); simp only [Act.put, qsT, qsZ, qsS]) | (refine wpList_step (fun K hK => ?_); go_simp; (with_reducible refine hK _ _ ?_); clear hK K)
   first | ((with_reducible refine wpList_skip ?_ ?_); (· first | (go_simp; done) | (go_simp; intro h; cases h)); simp only [Act.put, qsT, qsZ, qsS]) | (refine wpList_ld1 (t := 57) (cs := opC k v b e six ah al pt pr wy B m d) 5 (.tmp 12) rfl (by go_simp) rfl (bo) rfl Tryz.underlying5 rfl ?_; simp only [Act.put, qsT, qsZ, qsS])
   first | ((with_reducible refine wpList_skip ?_ ?_); (· first | (go_simp; done) | (go_simp; intro h; cases h)); simp only [Act.put, qsT, qsZ, qsS]) | (refine wpList_step (fun K hK => ?_); go_simp; (with_reducible refine hK _ _ ?_); clear hK K)
   first | ((with_reducible refine wpList_skip ?_ ?_); (· first | (go_simp; done) | (go_simp; intro h; cases h)); simp only [Act.put, qsT, qsZ, qsS]) | (refine wpList_step (fun K hK => ?_); go_simp; (with_reducible refine hK _ _ ?_); clear hK K)
   first | ((with_reducible refine wpList_skip ?_ ?_); (· first | (go_simp; done) | (go_simp; intro h; cases h)); simp only [Act.put, qsT, qsZ, qsS]) | (refine wpList_step (fun K hK => ?_); go_simp; (with_reducible refine hK _ _ ?_); clear hK K)
   first | ((with_reducible refine wpList_skip ?_ ?_); (· first | (go_simp; done) | (go_simp; intro h; cases h)); simp only [Act.put, qsT, qsZ, qsS]) | (refine wpList_ld1 (t := 57) (cs := opC k v b e six ah al pt pr wy B m d) 5 (.tmp 16) rfl (by go_simp) rfl (bo) rfl Tryz.underlying5 rfl ?_; simp only [Act.put, qsT, qsZ, qsS])
   first | ((with_reducible refine wpList_skip ?_ ?_); (· first | (go_simp; done) | (go_simp; intro h; cases h)); simp only [Act.put, qsT, qsZ, qsS]) | (refine wpList_step (fun K hK => ?_); go_simp; (with_reducible refine hK _ _ ?_); clear hK K)
   first | ((with_reducible refine wpList_skip ?_ ?_); (· first | (go_simp; done) | (go_simp; intro h; cases h)); simp only [Act.put, qsT, qsZ, qsS]) | (refine wpList_step (fun K hK => ?_); go_simp; (with_reducible refine hK _ _ ?_); clear hK K)
   iterate 2 (refine qw ?_)
   first | ((with_reducible refine wpList_skip ?_ ?_); (· first | (go_simp; done) | (go_simp; intro h; cases h)); simp only [Act.put, qsT, qsZ, qsS]) | (refine wpList_step (fun K hK => ?_); go_simp; (with_reducible refine hK _ _ ?_); clear hK K)
   first | ((with_reducible refine wpList_skip ?_ ?_); (· first | (go_simp; done) | (go_simp; intro h; cases h)); simp only [Act.put, qsT, qsZ, qsS]) | (refine wpList_ld1 (t := 57) (cs := opC k v b e six ah al pt pr wy B m d) 3 (.tmp 22) rfl (by go_simp) rfl (bo) rfl Tryz.underlying3 rfl ?_; simp only [Act.put, qsT, qsZ, qsS])
   first | ((with_reducible refine wpList_skip ?_ ?_); (· first | (go_simp; done) | (go_simp; intro h; cases h)); simp only [Act.put, qsT, qsZ, qsS]) | (refine wpList_step (fun K hK => ?_); go_simp; (with_reducible refine hK _ _ ?_); clear hK K)
   iterate 2 (refine qw ?_)
   first | ((with_reducible refine wpList_skip ?_ ?_); (· first | (go_simp; done) | (go_simp; intro h; cases h)); simp only [Act.put, qsT, qsZ, qsS]) | (refine wpList_step (fun K hK => ?_); go_simp; (with_reducible refine hK _ _ ?_); clear hK K)
   first | ((with_reducible refine wpList_skip ?_ ?_); (· first | (go_simp; done) | (go_simp; intro h; cases h)); simp only [Act.put, qsT, qsZ, qsS]) | (refine wpList_ld1 (t := 57) (cs := opC k v b e six ah al pt pr wy B m d) 3 (.tmp 27) rfl (by go_simp) rfl (bo) rfl Tryz.underlying3 rfl ?_; simp only [Act.put, qsT, qsZ, qsS])
   first | ((with_reducible refine wpList_skip ?_ ?_); (· first | (go_simp; done) | (go_simp; intro h; cases h)); simp only [Act.put, qsT, qsZ, qsS]) | (refine wpList_step (fun K hK => ?_); go_simp; (with_reducible refine hK _ _ ?_); clear hK K)
   refine qw ?_
   go_upto_region 2 with (fail)
   refine wp_region_lit ?_
   refine qA 83 (.tmp 2) bs vs1 vs2 (szRcS C hk hb A n c) ?_
   simp only [Act.put, qsT, qsZ, qsS]
   refine wpList_stA (t := 83) 83 (.tmp 4) (.tmp 31) rfl rfl (rcC C A n c) zl0 (hzl.trans (rcC_len C hk hb _ _ _).symm).symm (rcL_one _ _ _ _ _ _ _ _) rfl rfl hz (szRcS C hk hb _ _ _) ?_
   intro W9 h9 g9
   refine qw ?_
   replace be := below_grown be g9 (by omega)
   go_wp2
   refine bodyPost_agg2 Tryz.results121 rfl rfl h9.range vs1 vs2 (szRcS C hk hb _ _ _) rfl ?_
   exact RetRc.no HX0.out HE0.out HAP.out be
 iterate 2
  focus
   have hE1 : addE C ⟨k, v, b, e, six, ah, al, pt, pr, wy, ms⟩ = if fdC C (six, ah, al) pt pr < C.vs.length then 7 else if 16 ≤ C.vs.length then 23 else 0 := by
    unfold addE
    simp only
    rw [← hag, hgood]
    simp
   have hnv := hX.n_
   have hvl := hC.vl
   have hlt0 : fdC C (six, ah, al) pt pr ≤ C.vs.length := List.findIdx_le_length
   have HFI := qy (fun W (h : RcX G W C A n c E) => rcFind_any C hk hb A n c E h.vs six ah al pt pr W h.row (by omega))
   have HN := qy hnv
   obtain ⟨fz, hfz⟩ : ∃ z, z = fdI C (six, ah, al) pt pr := ⟨_, rfl⟩
   rw [← hfz] at HFI
   have HFZ := qy hfz
   have HE1 := qy hE1
   have HN16 := qy hvl
   clear hE1 hgood hag hlt0 hnv hfz hvl
   obtain ⟨dvs1, vs1, vs2⟩ := rowRcS
   obtain ⟨dvo1, vo1, vo2⟩ := rowRo
   obtain ⟨bs, bo, be, zV⟩ := box2 w 83 57 (rcC C A n c) (opC k v b e six ah al pt pr wy B m d)
   go_enter Tryz.func121, Tryz.ntmps121
   go_upto_region 1 with (fail)
   have HVe := qy (show ((w.alloc (.cells (rcC C A n c).toArray 83)).alloc (.cells (opC k v b e six ah al pt pr wy B m d).toArray 57)).heap.size = w.heap.size + 1 + 1 by simp)
   generalize (w.alloc (.cells (rcC C A n c).toArray 83)).alloc (.cells (opC k v b e six ah al pt pr wy B m d).toArray 57) = V at *
   have hz := Bk.newK 83 (Tryz.zeroCells83) _ HVe.out.symm rfl
   have hzl : (Tryz.zeroCells83).toList.length = 279 := by kernel_rfl
   have hbz : Below V.heap.size V (V.alloc (.cells (Tryz.zeroCells83) 83)) := Below.allocS (Below.refl _ _) _
   go_upto_region 1 with (fail)
   have hVs : w.heap.size + 2 ≤ V.heap.size := by have := bo.lt; omega
   generalize hV2 : V.alloc (.cells (Tryz.zeroCells83) 83) = V2 at *
   clear hV2
   generalize (Tryz.zeroCells83).toList = zl0 at *
   replace bs := bs.later hbz
   replace bo := bo.later hbz
   replace be := be.trans (hbz.mono be.size)
   have hVz := hbz.size
   clear hbz
   replace hX := (HX0.out).later be
   refine wp_region_lit ?_
   refine qw ?_
   refine wpList_ldA (t := 57) (cs := opC k v b e six ah al pt pr wy B m d) 53 (.tmp 7) rfl rfl (adC six ah al) rfl (bo) rfl va1 va2 (szAd _ _ _) ?_
   refine wpq fun K hK => ?_
   go_simp
   refine (HRR.out _).mono ?_
   rintro e w1 ⟨bs1, d1, rfl, rfl⟩
   with_reducible refine hK _ _ ?_
   clear hK K
   have hb1 := below_plus V2 bs1 d1
   replace bs := bs.later hb1
   replace bo := bo.later hb1
   replace hz := hz.later hb1
   replace be := be.trans (hb1.mono be.size)
   clear hb1
   generalize plus V2 bs1 d1 = V3 at *
   iterate 2 (refine qw ?_)
   first | ((with_reducible refine wpList_skip ?_ ?_); (· first | (go_simp; done) | (go_simp; intro h; cases h)); simp only [Act.put, qsT, qsZ, qsS]) | (refine wpList_step (fun K hK => ?_); go_simp; (with_reducible refine hK _ _ ?_); clear hK K)
   first | ((with_reducible refine wpList_skip ?_ ?_); (· first | (go_simp; done) | (go_simp; intro h; cases h)); simp only [Act.put, qsT, qsZ, qsS]) | (refine wpList_ld1 (t := 57) (cs := opC k v b e six ah al pt pr wy B m d) 5 (.tmp 12) rfl (by go_simp) rfl (bo) rfl Tryz.underlying5 rfl ?_; simp only [Act.put, qsT, qsZ, qsS])
   first | ((with_reducible refine wpList_skip ?_ ?_); (· first | (go_simp; done) | (go_simp; intro h; cases h)); simp only [Act.put, qsT, qsZ, qsS]) | (refine wpList_step (fun K hK => ?_); go_simp; (with_reducible refine hK _ _ ?_); clear hK K)
   first | ((with_reducible refine wpList_skip ?_ ?_); (· first | (go_simp; done) | (go_simp; intro h; cases h)); simp only [Act.put, qsT, qsZ, qsS]) | (refine wpList_step (fun K hK => ?_); go_simp; (with_reducible refine hK _ _ ?_); clear hK K)
   first | ((with_reducible refine wpList_skip ?_ ?_); (· first | (go_simp; done) | (go_simp; intro h; cases h)); simp only [Act.put, qsT, qsZ, qsS]) | (refine wpList_step (fun K hK => ?_); go_simp; (with_reducible refine hK _ _ ?_); clear hK K)
   first | ((with_reducible refine wpList_skip ?_ ?_); (· first | (go_simp; done) | (go_simp; intro h; cases h)); simp only [Act.put, qsT, qsZ, qsS]) | (refine wpList_ld1 (t := 57) (cs := opC k v b e six ah al pt pr wy B m d) 5 (.tmp 16) rfl (by go_simp) rfl (bo) rfl Tryz.underlying5 rfl ?_; simp only [Act.put, qsT, qsZ, qsS])
   first | ((with_reducible refine wpList_skip ?_ ?_); (· first | (go_simp; done) | (go_simp; intro h; cases h)); simp only [Act.put, qsT, qsZ, qsS]) | (refine wpList_step (fun K hK => ?_); go_simp; (with_reducible refine hK _ _ ?_); clear hK K)
   first | ((with_reducible refine wpList_skip ?_ ?_); (· first | (go_simp; done) | (go_simp; intro h; cases h)); simp only [Act.put, qsT, qsZ, qsS]) | (refine wpList_step (fun K hK => ?_); go_simp; (with_reducible refine hK _ _ ?_); clear hK K)
   iterate 2 (refine qw ?_)
   first | ((with_reducible refine wpList_skip ?_ ?_); (· first | (go_simp; done) | (go_simp; intro h; cases h)); simp only [Act.put, qsT, qsZ, qsS]) | (refine wpList_step (fun K hK => ?_); go_simp; (with_reducible refine hK _ _ ?_); clear hK K)
   first | ((with_reducible refine wpList_skip ?_ ?_); (· first | (go_simp; done) | (go_simp; intro h; cases h)); simp only [Act.put, qsT, qsZ, qsS]) | (refine wpList_ld1 (t := 57) (cs := opC k v b e six ah al pt pr wy B m d) 3 (.tmp 22) rfl (by go_simp) rfl (bo) rfl Tryz.underlying3 rfl ?_; simp only [Act.put, qsT, qsZ, qsS])
   first | ((with_reducible refine wpList_skip ?_ ?_); (· first | (go_simp; done) | (go_simp; intro h; cases h)); simp only [Act.put, qsT, qsZ, qsS]) | (refine wpList_step (fun K hK => ?_); go_simp; (with_reducible refine hK _ _ ?_); clear hK K)
   iterate 2 (refine qw ?_)
   first | ((with_reducible refine wpList_skip ?_ ?_); (· first | (go_simp; done) | (go_simp; intro h; cases h)); simp only [Act.put, qsT, qsZ, qsS]) | (refine wpList_step (fun K hK => ?_); go_simp; (with_reducible refine hK _ _ ?_); clear hK K)
   first | ((with_reducible refine wpList_skip ?_ ?_); (· first | (go_simp; done) | (go_simp; intro h; cases h)); simp only [Act.put, qsT, qsZ, qsS]) | (refine wpList_ld1 (t := 57) (cs := opC k v b e six ah al pt pr wy B m d) 3 (.tmp 27) rfl (by go_simp) rfl (bo) rfl Tryz.underlying3 rfl ?_; simp only [Act.put, qsT, qsZ, qsS])
   first | ((with_reducible refine wpList_skip ?_ ?_); (· first | (go_simp; done) | (go_simp; intro h; cases h)); simp only [Act.put, qsT, qsZ, qsS]) | (refine wpList_step (fun K hK => ?_); go_simp; (with_reducible refine hK _ _ ?_); clear hK K)
   refine qw ?_
   replace hX := (HX0.out).later be
   go_upto_region 3 with (fail)
   refine wp_region_lit ?_
   refine qA 83 (.tmp 2) bs vs1 vs2 (szRcS C hk hb A n c) ?_
   refine qw ?_
   refine wpList_ldA (t := 57) (cs := opC k v b e six ah al pt pr wy B m d) 53 (.tmp 33) rfl rfl (adC six ah al) rfl (bo) rfl va1 va2 (szAd _ _ _) ?_
   refine qw ?_
   refine qL 54 (.tmp 35) bo Tryz.underlying54 ?_
   refine qw ?_
   refine qL 5 (.tmp 37) bo Tryz.underlying5 ?_
   refine wpq fun K hK => ?_
   go_simp
   refine (HFI.out _ hX).mono ?_
   rintro e w1 ⟨bs2, d2, rfl, rfl⟩
   with_reducible refine hK _ _ ?_
   clear hK K
   have hb1 := below_plus V3 bs2 d2
   replace bs := bs.later hb1
   replace bo := bo.later hb1
   replace hz := hz.later hb1
   replace hX := hX.later hb1
   replace be := be.trans (hb1.mono be.size)
   clear hb1
   generalize plus V3 bs2 d2 = V4 at *
   refine qw ?_
   have hvl := HN16.out
   by_cases hf : fdC C (six, ah, al) pt pr < C.vs.length
   ·have HE0 := qy (HE1.out.trans (if_pos hf))
    have HAP := qy (show addR C ⟨k, v, b, e, six, ah, al, pt, pr, wy, ms⟩ = C by unfold addR; rw [HE0.out]; rfl)
    have hfi0 : (0 : Int) ≤ fz := by have h1 := HFZ.out; unfold fdI at h1; rw [if_pos hf] at h1; omega
    clear hf
    go_upto_region 4 with (fail)
    refine wp_region_lit ?_
    refine qA 83 (.tmp 2) bs vs1 vs2 (szRcS C hk hb A n c) ?_
    simp only [Act.put, qsT, qsZ, qsS]
    refine wpList_stA (t := 83) 83 (.tmp 4) (.tmp 41) rfl rfl (rcC C A n c) zl0 (hzl.trans (rcC_len C hk hb _ _ _).symm).symm (rcL_one _ _ _ _ _ _ _ _) rfl rfl hz (szRcS C hk hb _ _ _) ?_
    intro W9 h9 g9
    refine qw ?_
    replace be := below_grown be g9 (by omega)
    go_wp2
    refine bodyPost_agg2 Tryz.results121 rfl rfl h9.range vs1 vs2 (szRcS C hk hb _ _ _) rfl ?_
    exact RetRc.no HX0.out HE0.out HAP.out be
   ·have hfi0 : ¬ (0 : Int) ≤ fz := by have h1 := HFZ.out; unfold fdI at h1; rw [if_neg hf] at h1; omega
    have q278 : V4.cell? ⟨w.heap.size, 278, none⟩ = some (.slice A n c) := (bs.cell _).trans (rcC_vips C hk hb A n c)
    by_cases h16 : 16 ≤ C.vs.length
    ·have HE0 := qy (HE1.out.trans ((if_neg hf).trans (if_pos h16)))
     have HAP := qy (show addR C ⟨k, v, b, e, six, ah, al, pt, pr, wy, ms⟩ = C by unfold addR; rw [HE0.out]; rfl)
     have n16 : (16 : Int) ≤ (n : Int) := by have := HN.out; omega
     clear hf h16
     go_upto_region 6 with (fail)
     refine wp_region_lit ?_
     refine qA 83 (.tmp 2) bs vs1 vs2 (szRcS C hk hb A n c) ?_
     simp only [Act.put, qsT, qsZ, qsS]
     refine wpList_stA (t := 83) 83 (.tmp 4) (.tmp 46) rfl rfl (rcC C A n c) zl0 (hzl.trans (rcC_len C hk hb _ _ _).symm).symm (rcL_one _ _ _ _ _ _ _ _) rfl rfl hz (szRcS C hk hb _ _ _) ?_
     intro W9 h9 g9
     refine qw ?_
     replace be := below_grown be g9 (by omega)
     go_wp2
     refine bodyPost_agg2 Tryz.results121 rfl rfl h9.range vs1 vs2 (szRcS C hk hb _ _ _) rfl ?_
     exact RetRc.no HX0.out HE0.out HAP.out be
    ·have HE0 := qy (HE1.out.trans ((if_neg hf).trans (if_neg h16)))
     have HAP := qy (show addR C ⟨k, v, b, e, six, ah, al, pt, pr, wy, ms⟩ = { C with vs := C.vs ++ [newV C ⟨k, v, b, e, six, ah, al, pt, pr, wy, ms⟩] } by unfold addR; rw [HE0.out]; rfl)
     have n16 : ¬ (16 : Int) ≤ (n : Int) := by have := HN.out; omega
     clear hf h16
     go_upto_region 7 with (fail)
     have hv81 : (Tryz.zeroCells154).toList.length = 81 := by kernel_rfl
     refine wp_region_lit ?_
     refine qw ?_
     refine wpList_ldA (t := 57) (cs := opC k v b e six ah al pt pr wy B m d) 53 (.tmp 47) rfl rfl (adC six ah al) rfl (bo) rfl va1 va2 (szAd _ _ _) ?_
     refine qw ?_
     refine qL 54 (.tmp 49) bo Tryz.underlying54 ?_
     refine qw ?_
     refine qL 5 (.tmp 51) bo Tryz.underlying5 ?_
     refine qw ?_
     refine qL 3 (.tmp 53) bo Tryz.underlying3 ?_
     simp only [Act.put, qsT, qsZ, qsS]
     refine wpList_build 154 [(0, .tmp 48), (1, .tmp 50), (2, .tmp 52), (3, .tmp 54)] rfl rfl (.agg (rvC ((⟨(six, ah, al), pt, pr, wy, [], ⟨[], 0, 0⟩⟩, ⟨none, 0, 0, none, 0, 0⟩) : Re)).toArray) (run_buildRv _ _ _ _ _ _ _) ?_
     refine qw ?_
     refine wpList_stA (t := 154) 154 (.tmp 6) (.tmp 55) rfl rfl (rvC ((⟨(six, ah, al), pt, pr, wy, [], ⟨[], 0, 0⟩⟩, ⟨none, 0, 0, none, 0, 0⟩) : Re)) (Tryz.zeroCells154).toList (by rw [rvC_len]; exact hv81.symm) (rvC_one _) rfl rfl (Bk.new _ _ _) (szRv _) ?_
     intro W7 h7 g7
     simp only [Act.put, qsT, qsZ, qsS]
     replace h7 := h7
     have be7 : Below w.heap.size w W7 := below_grown (Below.allocS be _) g7 (by have := be.size; omega)
     have bs7 := (bs.alloc (.cells (Tryz.zeroCells154) 154)).grown g7 (fun e => by injection e with e; have := bs.lt; omega)
     have hz7 := (hz.alloc (.cells (Tryz.zeroCells154) 154)).grown g7 (fun e => by injection e with e; have := hz.lt; omega)
     have hgv : V4.heap.size ≠ w.heap.size := by have := bs.lt; omega
     have hgz : V4.heap.size ≠ w.heap.size + 1 + 1 := by have := hz.lt; omega
     have hgl : w.heap.size ≤ V4.heap.size := be.size
     clear bs hz be bo q278 hX
     generalize V4.heap.size = gv at *
     have q278 : W7.cell? ⟨w.heap.size, 278, none⟩ = some (.slice A n c) := (bs7.cell _).trans (rcC_vips C hk hb A n c)
     clear g7
     by_cases h0 : n = 0
     focus
      have h0i : ¬ (0 : Int) < (n : Int) := by omega
      obtain ⟨y1, hy1⟩ : ∃ y : Re, y = ((newV C ⟨k, v, b, e, six, ah, al, pt, pr, wy, ms⟩, ⟨none, 0, 0, none, 0, 0⟩) : Re) := ⟨_, rfl⟩
      have HY1 := qy hy1
      have hvs : C.vs = [] := List.eq_nil_of_length_eq_zero (by have := HN.out; omega)
      have hy : Bk W7 gv 154 (rvC y1) := by
       rw [hy1]
       have e0 : ev0 C = 0 := by unfold ev0; rw [hvs]; rfl
       unfold newV
       rw [e0]
       exact h7
      clear hvs hy1 h7
      have bs := bs7
      have hz := hz7
      have be := be7
      clear bs7 hz7 be7
      go_upto_region 10 with (fail)
      generalize W7 = W at *
      clear q278
     rotate_left
     focus
      have h0i : (0 : Int) < (n : Int) := by omega
      have h0n : 0 < n := by omega
      have hXr := (HX0.out).later be7
      have hlE := hXr.len
      have hNn := HN.out
      obtain ⟨bl, ol, hAe, hbl, -⟩ := hXr.row.at_ h0n (by decide)
      have hrow := hXr.row
      rw [hAe] at hrow q278
      have hr0 := hrow.rangeE rvC_len 0 (by omega)
      rw [Nat.zero_mul, Nat.add_zero] at hr0
      have hE0v : (E[0]'(by omega)).1.S.ev = ev0 C := by
       unfold ev0
       rw [← hXr.vs, List.head?_map, List.head?_eq_getElem?, List.getElem?_eq_getElem (by omega)]
       rfl
      generalize (E[0]'(by omega)) = u0 at *
      have hrg : W7.rangeAt bl (ol + 8) ((refEv u0.1.S).map Value.bool) := fun i u hu => by
       rw [Nat.add_assoc]
       exact hr0 (8 + i) u (rvC_ev u0 i u hu)
      have hspl : splice (rvC ((⟨(six, ah, al), pt, pr, wy, [], ⟨[], 0, 0⟩⟩, ⟨none, 0, 0, none, 0, 0⟩) : Re)) 8 ((refEv u0.1.S).map Value.bool) = rvC ((newV C ⟨k, v, b, e, six, ah, al, pt, pr, wy, ms⟩, ⟨none, 0, 0, none, 0, 0⟩) : Re) := by
       have h1 : refEv u0.1.S = refEv ⟨[], ev0 C, 0⟩ := by unfold refEv deadS; rw [hE0v]
       rw [h1]
       exact rvC_setEv ((⟨(six, ah, al), pt, pr, wy, [], ⟨[], 0, 0⟩⟩, ⟨none, 0, 0, none, 0, 0⟩) : Re) ⟨[], ev0 C, 0⟩ rfl
      obtain ⟨y1, hy1⟩ : ∃ y : Re, y = ((newV C ⟨k, v, b, e, six, ah, al, pt, pr, wy, ms⟩, ⟨none, 0, 0, none, 0, 0⟩) : Re) := ⟨_, rfl⟩
      rw [← hy1] at hspl
      have HY1 := qy hy1
      have hgl7 := h7.lt
      clear hXr hlE hNn hAe hrow hr0 hE0v hy1
      go_upto_region 9 with (fail)
      refine wp_region_lit ?_
      iterate 5 (refine qw ?_)
      refine wpList_load_mid rfl 80 (.tmp 64) rfl bl (ol + 8) rfl ((refEv u0.1.S).map Value.bool) _ hrg ub1 ub2 (szEv _) ?_
      iterate 2 (refine qw ?_)
      refine wpList_stM (t := 154) (off := 8) 80 (.tmp 67) (.tmp 65) rfl rfl ((refEv u0.1.S).map Value.bool) (rvC ((⟨(six, ah, al), pt, pr, wy, [], ⟨[], 0, 0⟩⟩, ⟨none, 0, 0, none, 0, 0⟩) : Re)) (by rw [rvC_len]; simp [refEv]) (by intro u hu; obtain ⟨x, _, rfl⟩ := List.mem_map.1 hu; rfl) rfl rfl h7 (szEv _) ?_
      intro W9 h9 g9
      simp only [Act.put, qsT, qsZ, qsS]
      rw [hspl] at h9
      have hy := h9
      have bs := bs7.grown g9 (fun e => by injection e with e; omega)
      have hz := hz7.grown g9 (fun e => by injection e with e; omega)
      have be := below_grown be7 g9 hgl
      clear bs7 hz7 be7 h9 g9 h7 hspl hrg q278 hgl7
      go_upto_region 10 with (fail)
      generalize W9 = W at *
     iterate 2
      focus
       replace hX := (HX0.out).later be
       have hA6 := HX0.out.off
       have hrP : ∀ a, A = some a → a.block < W.heap.size → a.block ≠ w.heap.size ∧ a.block < W.heap.size := fun a ha h => ⟨by have := (hA6 a ha).1; omega, h⟩
       have hyP : gv ≠ w.heap.size ∧ gv < W.heap.size := ⟨hgv, hy.lt⟩
       have hzlt := hz.lt
       have hbs_ := be.size
       have hE16 : E.length ≤ 16 := by have := hX.len; omega
       go_upto_region 10 with (fail)
       refine wp_own (fun b => b ≠ w.heap.size ∧ b < W.heap.size) 9 1 77 2 (fun i => match i with | 8 => 9 | i => i) (fun i => match i with | 3 => [0] | 6 => [3, 5] | 8 => [6, 9] | _ => []) (fun i => match i with | 9 => .pointer (some ⟨w.heap.size, 0, none⟩) | _ => undef) rfl (by kernel_rfl) (by kernel_rfl) (fun i => match i with | 0 => Own.osr 154 81 W.heap.size ([]) | 1 => Own.eq (.pointer (some ⟨w.heap.size, 278, none⟩)) | 2 => Own.eq (.slice A n c) | 3 => Own.osr 154 81 W.heap.size ([] ++ E.flatMap rvC) | 4 => Own.eq (.agg (rvC y1).toArray) | 5 => Own.osr 154 81 W.heap.size (rvC y1) | 6 => Own.osr 154 81 W.heap.size (([] ++ E.flatMap rvC) ++ rvC y1) | 7 => Own.eq (.pointer (some ⟨w.heap.size, 278, none⟩)) | 8 => Own.holdR W.heap.size 83 154 81 (fun v => match v with | .slice A n c => rcC C A n c | _ => []) (([] ++ E.flatMap rvC) ++ rvC y1) | 9 => Own.blk 83 (rcC C A n c) | _ => Own.any) (fun b h => h.2) ?_ ?_ ?_ ?_ ?_
       ·exact fun t ht => by obtain rfl : t = 0 := (by omega); exact ⟨_, rfl, bs⟩
       ·exact fun t t' h1 h2 hne => absurd (show t = t' by omega) hne
       ·exact fun t ht b hb hp => by obtain rfl : t = 0 := (by omega); exact hp.1 (own_ptr hb).symm
       ·intro i hi o ho FA w' vs H K hK
        match i, hi, ho, H, hK with
        | 0, _, ho, H, hK => 
         obtain rfl := qoi ho
         go_simp
         have ho1 := Os.lit (s := 81) (e := 154) w' (Nat.le_refl _) #[] 0 rfl (by decide)
         exact hK.out _ _ (chgX (Ex.alloc _ _)) ⟨_, _, _, rfl, ho1.mono H.kept.size⟩ (fun b hb => .inr (ho1.blk b hb).1)
        | 1, _, ho, H, hK => 
         obtain rfl := qoi ho
         have ev2 : FA.eval (.tmp 2) = .pointer (some ⟨w.heap.size, 0, none⟩) := H.out 2 (by kernel_rfl)
         have e2 : FA.tmps[2]?.getD undef = .pointer (some ⟨w.heap.size, 0, none⟩) := by simpa [Act.eval] using ev2
         replace ev2 := qy ev2
         go_simp
         exact hK.out _ _ (chgX (Ex.refl _)) rfl (fun _ h => h.elim)
        | 2, _, ho, H, hK => 
         obtain rfl := qoi ho
         have ev69 : FA.eval (.tmp 69) = .pointer (some ⟨w.heap.size, 278, none⟩) := (H.dep 1 69 (by kernel_rfl)).trans (H.word 1 (by omega) (by kernel_rfl))
         have e69 : FA.tmps[69]?.getD undef = .pointer (some ⟨w.heap.size, 278, none⟩) := by simpa [Act.eval] using ev69
         replace ev69 := qy ev69
         obtain ⟨g0, hg0, hb0⟩ := H.word 9 (by omega) (by kernel_rfl)
         have hv0 : vs 9 = .pointer (some ⟨w.heap.size, 0, none⟩) := H.virt 9 (by omega)
         obtain rfl := own_ptr (hv0.symm.trans hg0)
         refine wanted_if rfl ?_
         refine wp_ld1 81 (.tmp 69) rfl ev69.out hb0 (rcC_vips C hk hb A n c) Tryz.underlying81 rfl ?_
         exact hK.out _ _ (chgX (Ex.refl _)) rfl (fun _ h => h.elim)
        | 3, _, ho, H, hK => 
         obtain rfl := qoi ho
         clear ho
         have ev68 := H.dep 0 68 (by kernel_rfl)
         have e68 : FA.tmps[68]?.getD undef = vs 0 := by simpa [Act.eval] using ev68
         replace ev68 := qy ev68
         have ev70 : FA.eval (.tmp 70) = .slice A n c := (H.dep 2 70 (by kernel_rfl)).trans (H.word 2 (by omega) (by kernel_rfl))
         have e70 : FA.tmps[70]?.getD undef = .slice A n c := by simpa [Act.eval] using ev70
         replace ev70 := qy ev70
         obtain ⟨A1, n1, c1, hv1, h1⟩ := H.word 0 (by omega) (by kernel_rfl)
         have hn1 : n1 = 0 := by have := h1.rs.1; simp at this; omega
         subst hn1
         refine wanted_if rfl ?_
         refine own_appS etRv (.tmp 68) (.tmp 70) rfl (ev68.out.trans hv1) h1 ev70.out (hX.row.kept H.kept hrP) (flat_one rvC rvC_one _) (by omega) H.kept.size ?_
         intro A3 n3 c3 w3 hn3 ho3 hg3 hf3
         refine hK.out _ _ (Chg.grown hg3 (fun k hk => ⟨0, rfl, by show (vs 0).ownBlock = some k; rw [hv1]; exact hk⟩)) ⟨_, _, _, rfl, ho3⟩ (fun b hb => ?_)
         rcases hf3 b hb with h | h
         ·exact .inl ⟨0, rfl, by show (vs 0).ownBlock = some b; rw [hv1]; exact h⟩
         ·exact .inr h
        | 4, _, ho, H, hK => 
         obtain rfl := qoi ho
         have ev6 : FA.eval (.tmp 6) = .pointer (some ⟨gv, 0, none⟩) := H.out 6 (by kernel_rfl)
         have e6 : FA.tmps[6]?.getD undef = .pointer (some ⟨gv, 0, none⟩) := by simpa [Act.eval] using ev6
         replace ev6 := qy ev6
         refine wanted_if rfl ?_
         refine wp_ldA 154 (.tmp 6) rfl (rvC y1) ev6.out (hy.kept H.kept hyP) (whole_ _) vr1 vr2 (szRv _) ?_
         exact hK.out _ _ (chgX (Ex.refl _)) rfl (fun _ h => h.elim)
        | 5, _, ho, H, hK => 
         obtain rfl := qoi ho
         have ev72 : FA.eval (.tmp 72) = .agg (rvC y1).toArray := (H.dep 4 72 (by kernel_rfl)).trans (H.word 4 (by omega) (by kernel_rfl))
         have e72 : FA.tmps[72]?.getD undef = .agg (rvC y1).toArray := by simpa [Act.eval] using ev72
         replace ev72 := qy ev72
         refine wanted_if rfl ?_
         refine wp_bs1 etRv (.tmp 72) rfl (rvC y1) (rvC_len _) (by decide) ev72.out ?_
         have ho1 := Os.lit (s := 81) (e := 154) w' (Nat.le_refl _) (rvC y1).toArray 1 (by rw [List.size_toArray, rvC_len]) (by decide)
         exact hK.out _ _ (chgX (Ex.alloc _ _)) ⟨_, _, _, rfl, ho1.mono H.kept.size⟩ (fun b hb => .inr (ho1.blk b hb).1)
        | 6, _, ho, H, hK => 
         obtain rfl := qoi ho
         clear ho
         have ev71 := H.dep 3 71 (by kernel_rfl)
         have e71 : FA.tmps[71]?.getD undef = vs 3 := by simpa [Act.eval] using ev71
         replace ev71 := qy ev71
         have ev73 := H.dep 5 73 (by kernel_rfl)
         have e73 : FA.tmps[73]?.getD undef = vs 5 := by simpa [Act.eval] using ev73
         replace ev73 := qy ev73
         obtain ⟨A1, n1, c1, hv1, h1⟩ := H.word 3 (by omega) (by kernel_rfl)
         obtain ⟨A2, n2, c2, hv2, h2⟩ := H.word 5 (by omega) (by kernel_rfl)
         have hn1 : n1 ≤ 2000 := by have := h1.rs.1; rw [List.nil_append, flat_len rvC 81 rvC_len] at this; omega
         have hn2 : n2 ≤ 2000 := by have := h2.rs.1; rw [rvC_len] at this; omega
         refine wanted_if rfl ?_
         refine own_appS etRv (.tmp 71) (.tmp 73) rfl (ev71.out.trans hv1) h1 (ev73.out.trans hv2) h2.rs (rvC_one _) (by omega) H.kept.size ?_
         intro A3 n3 c3 w3 hn3 ho3 hg3 hf3
         refine hK.out _ _ (Chg.grown hg3 (fun k hk => ⟨3, rfl, by show (vs 3).ownBlock = some k; rw [hv1]; exact hk⟩)) ⟨_, _, _, rfl, ho3⟩ (fun b hb => ?_)
         rcases hf3 b hb with h | h
         ·exact .inl ⟨3, rfl, by show (vs 3).ownBlock = some b; rw [hv1]; exact h⟩
         ·exact .inr h
        | 7, _, ho, H, hK => 
         obtain rfl := qoi ho
         have ev2 : FA.eval (.tmp 2) = .pointer (some ⟨w.heap.size, 0, none⟩) := H.out 2 (by kernel_rfl)
         have e2 : FA.tmps[2]?.getD undef = .pointer (some ⟨w.heap.size, 0, none⟩) := by simpa [Act.eval] using ev2
         replace ev2 := qy ev2
         go_simp
         exact hK.out _ _ (chgX (Ex.refl _)) rfl (fun _ h => h.elim)
        | 8, _, ho, H, hK => 
         obtain rfl := qoi ho
         clear ho
         have ev75 : FA.eval (.tmp 75) = .pointer (some ⟨w.heap.size, 278, none⟩) := (H.dep 7 75 (by kernel_rfl)).trans (H.word 7 (by omega) (by kernel_rfl))
         have e75 : FA.tmps[75]?.getD undef = .pointer (some ⟨w.heap.size, 278, none⟩) := by simpa [Act.eval] using ev75
         replace ev75 := qy ev75
         have ev74 := H.dep 6 74 (by kernel_rfl)
         have e74 : FA.tmps[74]?.getD undef = vs 6 := by simpa [Act.eval] using ev74
         replace ev74 := qy ev74
         obtain ⟨g0, hg0, hb0⟩ := H.word 9 (by omega) (by kernel_rfl)
         have hv0 : vs 9 = .pointer (some ⟨w.heap.size, 0, none⟩) := H.virt 9 (by omega)
         obtain rfl := own_ptr (hv0.symm.trans hg0)
         obtain ⟨A6, n6, c6, hv6, h6⟩ := H.word 6 (by omega) (by kernel_rfl)
         have hdd := H.dis 6 9 (by omega) (by omega) (by omega) (by kernel_rfl) (by kernel_rfl)
         refine wanted_if rfl ?_
         refine wp_st1 (v := .slice A6 n6 c6) 81 (.tmp 75) (.tmp 74) rfl ev75.out (ev74.out.trans hv6) hb0 (by rw [rcC_len C hk hb]; omega) rfl (by kernel_rfl) ?_
         intro w'' hn hgr
         have hne : ∀ k, (Value.slice A6 n6 c6).ownBlock = some k → some w.heap.size ≠ some k := fun k hk2 e2 => hdd k (by show (vs 6).ownBlock = some k; rw [hv6]; exact hk2) (by show vs 9 = _; rw [hv0]; injection e2 with e2; rw [e2])
         refine hK.out (.slice A6 n6 c6) _ (Chg.one hgr ⟨9, rfl, hv0⟩) ⟨_, _, _, _, hv0, rfl, ?_, h6.grown hgr hne⟩ (fun b hb => .inl ?_)
         ·show Bk w'' w.heap.size _ ((fun (v : Value) => match v with | .slice A n c => rcC C A n c | _ => []) (.slice A6 n6 c6))
          rw [rcC_set C hk hb] at hn
          exact hn
         ·rcases hb with hb | hb
          ·exact ⟨9, rfl, hb⟩
          ·exact ⟨6, rfl, by show (vs 6).ownBlock = some b; rw [hv6]; exact hb⟩
        | (k + 9), hi, _, _, _ => exact absurd hi (by omega)
       intro vs w' hC hV hW hDis hFr
       have p1 : vs 1 = .pointer (some ⟨w.heap.size, 278, none⟩) := hW 1 (by omega) (by kernel_rfl)
       have p2 : vs 2 = .slice A n c := hW 2 (by omega) (by kernel_rfl)
       have p4 : vs 4 = .agg (rvC y1).toArray := hW 4 (by omega) (by kernel_rfl)
       have p7 : vs 7 = .pointer (some ⟨w.heap.size, 278, none⟩) := hW 7 (by omega) (by kernel_rfl)
       have p8 := hW 8 (by omega) (by kernel_rfl)
       clear hW
       simp only [qta, qtb, qda, qdb, putAll, Nat.zero_add, Nat.reduceAdd, Act.put, qsT, qsZ, qsS, p1, p2, p4, p7]
       obtain ⟨g0, A9, n9, c9, hg0, hv9, hbS, ho9⟩ := p8
       replace hg0 : vs 9 = .pointer (some ⟨g0, 0, none⟩) := hg0
       have hv0 : vs 9 = .pointer (some ⟨w.heap.size, 0, none⟩) := hV 9 (by omega)
       obtain rfl := own_ptr (hv0.symm.trans hg0)
       replace hbS : Bk w' w.heap.size 83 (rcC C A9 n9 c9) := by rw [hv9] at hbS; exact hbS
       clear hDis hFr hV hv9 hg0 hv0
       have hzz := hz.kept hC (by refine ⟨?_, hz.lt⟩; omega)
       replace hz := hzz
       replace be := be.trans (hC.below (B := w.heap.size) be.size (fun b hb => ⟨by omega, by omega⟩))
       simp only [List.nil_append] at ho9
       have ho9W := fun k hk2 => ho9.blk k hk2
       replace ho9 := ho9.mono hbs_
       have hne9 : ∀ k, (Value.slice A9 n9 c9).ownBlock = some k → some (w.heap.size + 1 + 1) ≠ some k := fun k hk2 e2 => by have h1 := (ho9W k hk2).1; injection e2 with e2; omega
       clear hzz hC
       go_upto_region 11 with (fail)
       refine wp_region_lit ?_
       refine qA 83 (.tmp 2) hbS vs1 vs2 (szRcS C hk hb A9 n9 c9) ?_
       simp only [Act.put, qsT, qsZ, qsS]
       refine wpList_stA (t := 83) 83 (.tmp 4) (.tmp 76) rfl rfl (rcC C A9 n9 c9) zl0 (hzl.trans (rcC_len C hk hb _ _ _).symm).symm (rcL_one _ _ _ _ _ _ _ _) rfl rfl hz (szRcS C hk hb _ _ _) ?_
       intro W9 h9 g9
       refine qw ?_
       replace be := below_grown be g9 (by omega)
       go_wp2
       refine bodyPost_agg2 Tryz.results121 rfl rfl h9.range vs1 vs2 (szRcS C hk hb _ _ _) rfl ?_
       rw [HE0.out, HAP.out]
       have hX9 := HX0.out.later be
       refine ⟨A9, n9, c9, E ++ [y1], rfl, ⟨?_, ?_, ?_, ?_, ?_, ?_⟩, be⟩
       ·rw [List.map_append, hX9.vs, HY1.out]; rfl
       ·have := (ho9.grown g9 hne9).rs
        rw [List.flatMap_append]
        simpa using this
       ·exact (Off.own ho9 (fun b hb => hG b hb)).size g9.size
       ·intro x hx
        rcases List.mem_append.1 hx with hx | hx
        ·exact hX9.mm x hx
        ·obtain rfl := List.mem_singleton.1 hx
         rw [HY1.out]; exact Rs.nil_
       ·intro x hx
        rcases List.mem_append.1 hx with hx | hx
        ·exact hX9.mo x hx
        ·obtain rfl := List.mem_singleton.1 hx
         rw [HY1.out]; exact Off.none_
       ·intro x hx
        rcases List.mem_append.1 hx with hx | hx
        ·exact hX9.ss x hx
        ·obtain rfl := List.mem_singleton.1 hx
         rw [HY1.out]; exact RSt.nil_
def RetRx (G : Nat → Prop) (w : World) (C' : Cf) (v : Nat) (e : Ending) (w' : World) : Prop := ∃ C'' A n c E, e = .returned (.tuple #[.agg (rcC C'' A n c).toArray, .int .i64 (v : Nat)]) ∧ RcX G w' C'' A n c E ∧ Below w.heap.size w w' ∧ C''.key.length = 16 ∧ C''.bk.length = 65 ∧ (v = 0 → C'' = C')
theorem RetRx.no {G : Nat → Prop} {w w' : World} {C C' : Cf} {A : Option Addr} {n c : Nat} {E : List Re} {v v' : Nat} (h : RcX G w C A n c E) (hv : v' = v) (hk : C.key.length = 16) (hb : C.bk.length = 65) (h0 : v ≠ 0) (hbw : Below w.heap.size w w') : RetRx G w C' v' (.returned (.tuple #[.agg (rcC C A n c).toArray, .int .i64 (v : Nat)])) w' := by
 subst hv
 exact ⟨C, A, n, c, E, rfl, h.later hbw, hbw, hk, hb, fun h => absurd h h0⟩
theorem rvC_stk (x : Re) : ((rvC x).drop 7).take (rstC x.2.B x.2.m x.2.d x.1.S).length = rstC x.2.B x.2.m x.2.d x.1.S := by
 have e : (rvC x).drop 7 = rstC x.2.B x.2.m x.2.d x.1.S := rfl
 rw [e, List.take_length]
theorem rvC_setStk (x : Re) (A : Option Addr) (n c : Nat) (S' : Stk) : splice (rvC x) 7 (rstC A n c S') = rvC ({ x.1 with S := S' }, { x.2 with B := A, m := n, d := c }) := by
 unfold splice
 rw [List.drop_of_length_le (by rw [rvC_len, rstC_len]; omega), List.append_nil]
 rfl
def mkI (L : List Vp) (k b : Int) (i : Nat) : List Vp := (L.take i).map (mrkV k b) ++ L.drop i
theorem mkI_0 (L : List Vp) (k b : Int) : mkI L k b 0 = L := by simp [mkI]
theorem mkI_len (L : List Vp) (k b : Int) (i : Nat) : (mkI L k b i).length = L.length := by simp [mkI]; omega
theorem mkI_all (L : List Vp) (k b : Int) : mkI L k b L.length = L.map (mrkV k b) := by simp [mkI]
theorem mkI_at (L : List Vp) (k b : Int) (i : Nat) (h : i < L.length) : (mkI L k b i)[i]? = some L[i] := by
 unfold mkI
 rw [List.getElem?_append_right (by simp; omega)]
 simp [Nat.min_eq_left (Nat.le_of_lt h)]
theorem mkI_step (L : List Vp) (k b : Int) (i : Nat) (h : i < L.length) : (mkI L k b i).set i (mrkV k b L[i]) = mkI L k b (i + 1) := by
 have e : L.drop i = L[i] :: L.drop (i + 1) := List.drop_eq_getElem_cons h
 have e2 : ((L.take i).map (mrkV k b)).length = i := by simp; omega
 unfold mkI
 rw [List.set_append_right _ _ (by omega), e2, Nat.sub_self, e, List.set_cons_zero, List.take_succ_eq_append_getElem h, List.map_append, List.append_assoc]
 rfl
def mrkL (L : List Vp) (k b : Int) : Nat := match L with | [] => 1 | v :: _ => mrkE v.S k b
def mrk0 (C : Cf) (k b : Int) : Nat := mrkL C.vs k b
theorem mrkL_at (L : List Vp) (k b : Int) (h : 0 < L.length) : mrkL L k b = mrkE (L[0]).S k b := by
 cases L with
 | nil => cases h
 | cons v t => rfl
theorem mrk0_at (C : Cf) (k b : Int) (h : 0 < C.vs.length) : mrk0 C k b = mrkE (C.vs[0]).S k b := mrkL_at C.vs k b h
theorem rcEvicted_any {G : Nat → Prop} (k v b e : Int) (six : Bool) (ah al pt pr : Nat) (wy : Int) (B : Option Addr) (m d : Nat) (C : Cf) (hC : CfOk C) (A : Option Addr) (n c : Nat) (E : List Re) (w : World) (hG : ∀ b, G b → b < w.heap.size) (hX : RcX G w C A n c E) (hk67 : k = 6 ∨ k = 7) : Calls Tryz.prog 122 #[.agg (rcC C A n c).toArray, .agg (opC k v b e six ah al pt pr wy B m d).toArray] w (RetRx G w { C with vs := C.vs.map (mrkV k b) } (markE C k b)) := by
 obtain ⟨dvr1, vr1, vr2⟩ := rowRv
 obtain ⟨dvt1, vt1, vt2⟩ := rowRst
 have hk := hC.key
 have hb := hC.bl
 have HVS := qy hC.vs
 have HX0 := qy hX
 have HN := qy hX.n_
 have HKN := qy (fun W => refKnown_any C hk hb A n c b W)
 have HK67 : Hid (((k == 6) = true ∧ ¬ k = 7) ∨ ((k == 6) = false ∧ k = 7)) := qy (hk67.elim (fun h => .inl ⟨by simp [h], by omega⟩) (fun h => .inr ⟨by simp [h], h⟩))
 clear hk67
 cases hkn : knC C b with
 | false =>
  have HE0 := qy (show markE C k b = 6 by unfold markE; rw [if_pos hkn])
  rw [hkn] at HKN
  clear hkn
  obtain ⟨dvs1, vs1, vs2⟩ := rowRcS
  obtain ⟨dvo1, vo1, vo2⟩ := rowRo
  obtain ⟨bs, bo, be, zV⟩ := box2 w 83 57 (rcC C A n c) (opC k v b e six ah al pt pr wy B m d)
  go_enter Tryz.func122, Tryz.ntmps122
  go_upto_region 1 with (fail)
  have HVe := qy (show ((w.alloc (.cells (rcC C A n c).toArray 83)).alloc (.cells (opC k v b e six ah al pt pr wy B m d).toArray 57)).heap.size = w.heap.size + 1 + 1 by simp)
  generalize (w.alloc (.cells (rcC C A n c).toArray 83)).alloc (.cells (opC k v b e six ah al pt pr wy B m d).toArray 57) = V at *
  have hz := Bk.newK 83 (Tryz.zeroCells83) _ HVe.out.symm rfl
  have hzl : (Tryz.zeroCells83).toList.length = 279 := by kernel_rfl
  have hv81 : (Tryz.zeroCells154).toList.length = 81 := by kernel_rfl
  have hbz : Below V.heap.size V (V.alloc (.cells (Tryz.zeroCells83) 83)) := Below.allocS (Below.refl _ _) _
  go_upto_region 1 with (fail)
  have hVs : w.heap.size + 2 ≤ V.heap.size := by have := bo.lt; omega
  generalize hV2 : V.alloc (.cells (Tryz.zeroCells83) 83) = V2 at *
  clear hV2
  generalize (Tryz.zeroCells83).toList = zl0 at *
  replace bs := bs.later hbz
  replace bo := bo.later hbz
  replace be := be.trans (hbz.mono be.size)
  have hVz := hbz.size
  clear hbz
  refine wp_region_lit ?_
  refine qA 83 (.tmp 2) bs vs1 vs2 (szRcS C hk hb A n c) ?_
  refine qw ?_
  refine qL 3 (.tmp 11) bo Tryz.underlying3 ?_
  refine wpq fun K hK => ?_
  go_simp
  refine (HKN.out _).mono ?_
  rintro e w1 ⟨bs1, d1, rfl, rfl⟩
  with_reducible refine hK _ _ ?_
  clear hK K
  have hb1 := below_plus V2 bs1 d1
  replace bs := bs.later hb1
  replace bo := bo.later hb1
  replace hz := hz.later hb1
  replace be := be.trans (hb1.mono be.size)
  clear hb1
  generalize plus V2 bs1 d1 = V3 at *
  refine qw ?_
  go_upto_region 2 with (fail)
  refine wp_region_lit ?_
  refine qA 83 (.tmp 2) bs vs1 vs2 (szRcS C hk hb A n c) ?_
  simp only [Act.put, qsT, qsZ, qsS]
  refine wpList_stA (t := 83) 83 (.tmp 4) (.tmp 15) rfl rfl (rcC C A n c) zl0 (hzl.trans (rcC_len C hk hb _ _ _).symm).symm (rcL_one _ _ _ _ _ _ _ _) rfl rfl hz (szRcS C hk hb _ _ _) ?_
  intro W9 h9 g9
  refine qw ?_
  replace be := below_grown be g9 (by omega)
  go_wp2
  refine bodyPost_agg2 Tryz.results122 rfl rfl h9.range vs1 vs2 (szRcS C hk hb _ _ _) rfl ?_
  exact RetRx.no HX0.out HE0.out hk hb (by decide) be
 | true =>
  rw [hkn] at HKN
  by_cases hn0 : n = 0
  ·have HE0 := qy (show markE C k b = 1 by
    have hvs : C.vs = [] := List.eq_nil_of_length_eq_zero (by have := HN.out; omega)
    unfold markE; rw [if_neg (by rw [hkn]; decide), hvs])
   have hn0i : ((n : Int) == 0) = true := by simp [hn0]
   clear hkn hn0
   obtain ⟨dvs1, vs1, vs2⟩ := rowRcS
   obtain ⟨dvo1, vo1, vo2⟩ := rowRo
   obtain ⟨bs, bo, be, zV⟩ := box2 w 83 57 (rcC C A n c) (opC k v b e six ah al pt pr wy B m d)
   go_enter Tryz.func122, Tryz.ntmps122
   go_upto_region 1 with (fail)
   have HVe := qy (show ((w.alloc (.cells (rcC C A n c).toArray 83)).alloc (.cells (opC k v b e six ah al pt pr wy B m d).toArray 57)).heap.size = w.heap.size + 1 + 1 by simp)
   generalize (w.alloc (.cells (rcC C A n c).toArray 83)).alloc (.cells (opC k v b e six ah al pt pr wy B m d).toArray 57) = V at *
   have hz := Bk.newK 83 (Tryz.zeroCells83) _ HVe.out.symm rfl
   have hzl : (Tryz.zeroCells83).toList.length = 279 := by kernel_rfl
   have hv81 : (Tryz.zeroCells154).toList.length = 81 := by kernel_rfl
   have hbz : Below V.heap.size V (V.alloc (.cells (Tryz.zeroCells83) 83)) := Below.allocS (Below.refl _ _) _
   go_upto_region 1 with (fail)
   have hVs : w.heap.size + 2 ≤ V.heap.size := by have := bo.lt; omega
   generalize hV2 : V.alloc (.cells (Tryz.zeroCells83) 83) = V2 at *
   clear hV2
   generalize (Tryz.zeroCells83).toList = zl0 at *
   replace bs := bs.later hbz
   replace bo := bo.later hbz
   replace be := be.trans (hbz.mono be.size)
   have hVz := hbz.size
   clear hbz
   refine wp_region_lit ?_
   refine qA 83 (.tmp 2) bs vs1 vs2 (szRcS C hk hb A n c) ?_
   refine qw ?_
   refine qL 3 (.tmp 11) bo Tryz.underlying3 ?_
   refine wpq fun K hK => ?_
   go_simp
   refine (HKN.out _).mono ?_
   rintro e w1 ⟨bs1, d1, rfl, rfl⟩
   with_reducible refine hK _ _ ?_
   clear hK K
   have hb1 := below_plus V2 bs1 d1
   replace bs := bs.later hb1
   replace bo := bo.later hb1
   replace hz := hz.later hb1
   replace be := be.trans (hb1.mono be.size)
   clear hb1
   generalize plus V2 bs1 d1 = V3 at *
   refine qw ?_
   have q278 : V3.cell? ⟨w.heap.size, 278, none⟩ = some (.slice A n c) := (bs.cell _).trans (rcC_vips C hk hb A n c)
   go_upto_region 4 with (fail)
   refine wp_region_lit ?_
   refine qA 83 (.tmp 2) bs vs1 vs2 (szRcS C hk hb A n c) ?_
   simp only [Act.put, qsT, qsZ, qsS]
   refine wpList_stA (t := 83) 83 (.tmp 4) (.tmp 20) rfl rfl (rcC C A n c) zl0 (hzl.trans (rcC_len C hk hb _ _ _).symm).symm (rcL_one _ _ _ _ _ _ _ _) rfl rfl hz (szRcS C hk hb _ _ _) ?_
   intro W9 h9 g9
   refine qw ?_
   replace be := below_grown be g9 (by omega)
   go_wp2
   refine bodyPost_agg2 Tryz.results122 rfl rfl h9.range vs1 vs2 (szRcS C hk hb _ _ _) rfl ?_
   exact RetRx.no HX0.out HE0.out hk hb (by decide) be
  ·have hn0i : ((n : Int) == 0) = false := by simp [hn0]
   have HME := qy (show markE C k b = mrk0 C k b by unfold markE mrk0 mrkL; rw [if_neg (by rw [hkn]; decide)]; cases C.vs <;> rfl)
   have HN0 := qy hn0
   clear hkn hn0
   obtain ⟨dvs1, vs1, vs2⟩ := rowRcS
   obtain ⟨dvo1, vo1, vo2⟩ := rowRo
   obtain ⟨bs, bo, be, zV⟩ := box2 w 83 57 (rcC C A n c) (opC k v b e six ah al pt pr wy B m d)
   go_enter Tryz.func122, Tryz.ntmps122
   go_upto_region 1 with (fail)
   have HVe := qy (show ((w.alloc (.cells (rcC C A n c).toArray 83)).alloc (.cells (opC k v b e six ah al pt pr wy B m d).toArray 57)).heap.size = w.heap.size + 1 + 1 by simp)
   generalize (w.alloc (.cells (rcC C A n c).toArray 83)).alloc (.cells (opC k v b e six ah al pt pr wy B m d).toArray 57) = V at *
   have hz := Bk.newK 83 (Tryz.zeroCells83) _ HVe.out.symm rfl
   have hzl : (Tryz.zeroCells83).toList.length = 279 := by kernel_rfl
   have hv81 : (Tryz.zeroCells154).toList.length = 81 := by kernel_rfl
   have hbz : Below V.heap.size V (V.alloc (.cells (Tryz.zeroCells83) 83)) := Below.allocS (Below.refl _ _) _
   go_upto_region 1 with (fail)
   have hVs : w.heap.size + 2 ≤ V.heap.size := by have := bo.lt; omega
   generalize hV2 : V.alloc (.cells (Tryz.zeroCells83) 83) = V2 at *
   clear hV2
   generalize (Tryz.zeroCells83).toList = zl0 at *
   replace bs := bs.later hbz
   replace bo := bo.later hbz
   replace be := be.trans (hbz.mono be.size)
   have hVz := hbz.size
   clear hbz
   refine wp_region_lit ?_
   refine qA 83 (.tmp 2) bs vs1 vs2 (szRcS C hk hb A n c) ?_
   refine qw ?_
   refine qL 3 (.tmp 11) bo Tryz.underlying3 ?_
   refine wpq fun K hK => ?_
   go_simp
   refine (HKN.out _).mono ?_
   rintro e w1 ⟨bs1, d1, rfl, rfl⟩
   with_reducible refine hK _ _ ?_
   clear hK K
   have hb1 := below_plus V2 bs1 d1
   replace bs := bs.later hb1
   replace bo := bo.later hb1
   replace hz := hz.later hb1
   replace be := be.trans (hb1.mono be.size)
   clear hb1
   generalize plus V2 bs1 d1 = V3 at *
   refine qw ?_
   have q278 : V3.cell? ⟨w.heap.size, 278, none⟩ = some (.slice A n c) := (bs.cell _).trans (rcC_vips C hk hb A n c)
   obtain ⟨G1, hG1⟩ : ∃ G1 : Nat → Prop, G1 = fun b => G b ∨ (w.heap.size ≤ b ∧ b < w.heap.size + 3) := ⟨_, rfl⟩
   have hXs : RcX G1 V3 { C with vs := mkI C.vs k b 0 } A n c E := by
    rw [mkI_0, hG1]
    exact (HX0.out.more (fun b hb => hb.elim .inl (fun h => .inr h.1))).later be
   have HST := qy (And.intro hXs (And.intro bs (And.intro bo (And.intro hz be))))
   have HG1 := qy (show ∀ b, G1 b → b < w.heap.size + 3 by
    intro b hb
    rw [hG1] at hb
    rcases hb with h | h
    ·have := hG b h; omega
    ·omega)
   have HG1s := qy (show ∀ b, w.heap.size ≤ b → b < w.heap.size + 3 → G1 b by intro b h1 h2; rw [hG1]; exact .inr ⟨h1, h2⟩)
   have HG1g := qy (show ∀ b, G b → G1 b by intro b h; rw [hG1]; exact .inl h)
   have HN16 := qy (show n ≤ 16 by have := hC.vl; have := HN.out; omega)
   clear hG1 hXs bs bo hz be
   go_upto_region 5 with (fail)
   clear q278
   go_upto_region 7 with (fail)
   go_loopw [6, 7] (fun FV I wr => ∃ (f i : Nat) (Ai : Option Addr) (ci : Nat) (Ei : List Re), FV = .int .i64 (f : Int) ∧ I = .int .i64 (i : Int) ∧ i ≤ n ∧ ((i = 0 → f = 0) ∧ (0 < i → f = mrk0 C k b)) ∧ RcX G1 wr { C with vs := mkI C.vs k b i } Ai n ci Ei ∧ Bk wr w.heap.size 83 (rcC C Ai n ci) ∧ Bk wr (w.heap.size + 1) 57 (opC k v b e six ah al pt pr wy B m d) ∧ Bk wr (w.heap.size + 1 + 1) 83 zl0 ∧ Below w.heap.size w wr) (fun _ I _ => n - (intOf I).toNat)
   case atStart => exact ⟨0, 0, A, c, E, rfl, rfl, by omega, ⟨fun _ => rfl, fun h => absurd h (by omega)⟩, HST.out.1, HST.out.2.1, HST.out.2.2.1, HST.out.2.2.2.1, HST.out.2.2.2.2⟩
   case round =>
    clear HST
    obtain ⟨f, i, Ai, ci, Ei, rfl, rfl, hin, hfv, hX, bs, bo, hz, hE⟩ := hrel
    have hzz := hz.lt
    by_cases hil : i < n
    ·have hi1 : (i : Int) < (n : Int) := by omega
     have q278 : wr.cell? ⟨w.heap.size, 278, none⟩ = some (.slice Ai n ci) := (bs.cell _).trans (rcC_vips C hk hb Ai n ci)
     have hlE : Ei.length = n := by have := hX.len; have h2 := mkI_len C.vs k b i; simp only [] at this; have := HN.out; omega
     obtain ⟨bl, ol, hAe, hbl, -⟩ := hX.row.at_ (by omega) (by decide)
     have hrow := hX.row
     rw [hAe] at hrow q278
     have hrg := hrow.rangeE rvC_len i (by omega)
     have hum : Ei[i]'(by omega) ∈ Ei := List.getElem_mem _
     have hui : (Ei[i]'(by omega)).1 = C.vs[i]'(by have := HN.out; omega) := by
      have h1 : (Ei.map (·.1))[i]? = some (Ei[i]'(by omega)).1 := by rw [List.getElem?_map, List.getElem?_eq_getElem (by omega)]; rfl
      rw [hX.vs] at h1
      have h2 := mkI_at C.vs k b i (by have := HN.out; omega)
      rw [h2] at h1
      exact (Option.some.inj h1).symm
     have HOK := qy (show StkOk (Ei[i]'(by omega)).1.S by rw [hui]; exact (HVS.out _ (List.getElem_mem _)).st)
     have HSTEP := qy (show (mkI C.vs k b i).set i (mrkV k b (Ei[i]'(by omega)).1) = mkI C.vs k b (i + 1) by rw [hui]; exact mkI_step C.vs k b i (by have := HN.out; omega))
     have HF0 := qy (show i = 0 → mrkE (Ei[i]'(by omega)).1.S k b = mrk0 C k b by intro h; rw [hui]; subst h; exact (mrk0_at C k b (by have := HN.out; omega)).symm)
     obtain ⟨u, hu⟩ : ∃ u, u = Ei[i]'(by omega) := ⟨_, rfl⟩
     rw [← hu] at hrg hum HOK HSTEP HF0
     clear hAe hrow hui hu
     have hmm := hX.mm u hum
     have hmo := hX.mo u hum
     have hss := hX.ss u hum
     have HX := qy hX
     clear hX hum
     go_upto_region 9 with (fail)
     refine wp_region_lit ?_
     iterate 4 (refine qw ?_)
     refine wpList_load_mid rfl 154 (.tmp 31) rfl bl (ol + i * 81) rfl (rvC u) _ hrg vr1 vr2 (szRv u) ?_
     refine qw ?_
     refine wpList_stA (t := 154) 154 (.tmp 8) (.tmp 32) rfl rfl (rvC u) (Tryz.zeroCells154).toList (by rw [rvC_len]; exact hv81.symm) (rvC_one _) rfl rfl (Bk.new _ _ _) (szRv _) ?_
     intro W7 h7 g7
     simp only [Act.put, qsT, qsZ, qsS]
     have hbw : Below wr.heap.size wr W7 := below_grown (Below.allocS (Below.refl _ _) _) g7 (Nat.le_refl _)
     replace bs := bs.later hbw
     replace bo := bo.later hbw
     replace hz := hz.later hbw
     have hG2 : ∀ b, (G1 b ∨ b = wr.heap.size) → b < W7.heap.size := fun b hb => hb.elim (fun h => by have := HG1.out b h; have := hbw.size; omega) (fun h => by have := h7.lt; omega)
     have hst7 : RSt (fun b => G1 b ∨ b = wr.heap.size) W7 u.1.S.lv u.2.B u.2.m u.2.d := (hss.more (fun b hb => hb.elim .inl (fun h => .inr (by omega)))).later hbw
     have hgl := h7.lt
     clear q278 hrg g7 hss
     go_upto_region 11 with (fail)
     refine wp_region_lit ?_
     refine qw ?_
     refine qL 3 (.tmp 33) bo Tryz.underlying3 ?_
     refine qw ?_
     rcases HK67.out with ⟨k6, k6n⟩ | ⟨k6, k6n⟩
     ·have HEVI := qy (fun W {D : Nat → Prop} (hD : ∀ b, D b → b < W.heap.size) (hR : RSt D W u.1.S.lv u.2.B u.2.m u.2.d) => show Calls Tryz.prog 150 #[.agg (rstC u.2.B u.2.m u.2.d u.1.S).toArray, .int .i64 b] W (RetRS D W (mrkS u.1.S k b) (fun x => .tuple #[x, .int .i64 (mrkE u.1.S k b : Nat)])) by unfold mrkS mrkE; rw [if_neg k6n, if_neg k6n]; exact refEvict_any u.1.S u.2.B u.2.m u.2.d b W hD hR)
      clear k6n
      go_upto_region 12 with (fail)
      refine wp_region_lit ?_
      refine qw ?_
      refine wpList_ldA (t := 154) (cs := rvC u) 152 (.tmp 37) rfl rfl (rstC u.2.B u.2.m u.2.d u.1.S) rfl h7 (rvC_stk u) vt1 vt2 (szRst _ _ _ _) ?_
      refine qw ?_
      refine qL 3 (.tmp 39) bo Tryz.underlying3 ?_
      refine wpq fun K hK => ?_
      go_simp
      refine (HEVI.out _ hG2 hst7).mono ?_
      rintro ee w1 ⟨A7, n7, c7, bs7, d7, rfl, rfl, hst8⟩
      with_reducible refine hK _ _ ?_
      clear hK K
      have hb8 := below_plus W7 bs7 d7
      replace bs := bs.later hb8
      replace bo := bo.later hb8
      replace hz := hz.later hb8
      replace h7 := h7.later hb8
      replace hbw := hbw.trans (hb8.mono hbw.size)
      clear hb8
      generalize plus W7 bs7 d7 = W8 at *
      iterate 4 (refine qw ?_)
      refine wpList_stM (t := 154) (off := 7) 152 (.tmp 44) (.tmp 42) rfl rfl (rstC A7 n7 c7 (mrkS u.1.S k b)) (rvC u) (by rw [rvC_len, rstC_len]; decide) (rstC_one _ _ _ _) rfl rfl h7 (szRst _ _ _ _) ?_
      intro W9 h9 g9
      refine qw ?_
      have hst9 : RSt (fun b => G1 b ∨ b = wr.heap.size) W9 (mrkS u.1.S k b).lv A7 n7 c7 := hst8.chg (Chg.one g9 (.inr rfl))
      replace hst9 := hst9.more (D' := G1) (fun b hb => .inl (.inl hb))
      rw [rvC_setStk] at h9
      obtain ⟨y, hy⟩ : ∃ y : Re, y = ({ u.1 with S := mrkS u.1.S k b }, { u.2 with B := A7, m := n7, d := c7 }) := ⟨_, rfl⟩
      rw [← hy] at h9
      have hyv : y.1 = mrkV k b u.1 := by rw [hy]; rfl
      have hbw9 : Below wr.heap.size wr W9 := below_grown hbw g9 (by omega)
      have bs9 := bs.grown g9 (fun e => by injection e with e; omega)
      have bo9 := bo.grown g9 (fun e => by injection e with e; omega)
      have hz9 := hz.grown g9 (fun e => by injection e with e; omega)
      have hXw := HX.out.later hbw9
      have h1w : Rs 2 W9 y.2.A y.2.n y.2.c (prs .i64 y.1.ms) := by rw [hy]; exact hmm.later hbw9
      have h2w : Off G1 W9 y.2.A := by rw [hy]; exact hmo.size hbw9.size
      have h3w : RSt G1 W9 y.1.S.lv y.2.B y.2.m y.2.d := by rw [hy]; exact hst9
      have hEw : Below w.heap.size w W9 := hE.trans (hbw9.mono hE.size)
      clear hy hst8 hst7 hst9 hG2 bs bo hz hmm hmo g9 h7 hbw
      have bs := bs9
      have bo := bo9
      have hz := hz9
      have hbw := hbw9
      clear bs9 bo9 hz9 hbw9
      have HWI := qy (fun W (h : RcX G1 W { C with vs := mkI C.vs k b i } Ai n ci Ei) (h1 : Rs 2 W y.2.A y.2.n y.2.c (prs .i64 y.1.ms)) (h2 : Off G1 W y.2.A) (h3 : RSt G1 W y.1.S.lv y.2.B y.2.m y.2.d) (hs : w.heap.size + 3 ≤ W.heap.size) => rcWith_any { C with vs := mkI C.vs k b i } hk hb Ai n ci Ei i y W (fun b hb => Nat.lt_of_lt_of_le (HG1.out b hb) hs) h hil HN16.out h1 h2 h3)
      have hsV : w.heap.size + 3 ≤ W9.heap.size := by have := hbw.size; omega
      have hcase : (((i : Int) == 0) = true ∧ Hid (mrkE u.1.S k b = mrk0 C k b)) ∨ (((i : Int) == 0) = false ∧ Hid (f = mrk0 C k b)) := by
       by_cases i0 : i = 0
       ·exact .inl ⟨by simp [i0], qy (HF0.out i0)⟩
       ·exact .inr ⟨by simp [i0], qy (hfv.2 (by omega))⟩
      clear hfv
      rcases hcase with ⟨i0i, hfm⟩ | ⟨i0i, hfm⟩
      all_goals
       go_upto_region 16 with (fail)
       refine wp_region_lit ?_
       refine qA 83 (.tmp 2) bs vs1 vs2 (szRcS C hk hb Ai n ci) ?_
       refine qw ?_
       refine qA 154 (.tmp 8) h9 vr1 vr2 (szRv y) ?_
       refine wpq fun K hK => ?_
       go_simp
       refine (HWI.out _ hXw h1w h2w h3w hsV).mono ?_
       rintro e w1 ⟨A8, c8, rfl, hX8, hb9⟩
       with_reducible refine hK _ _ ?_
       clear hK K
       replace bs := bs.later hb9
       replace bo := bo.later hb9
       replace hz := hz.later hb9
       replace hEw := hEw.trans (hb9.mono hEw.size)
       generalize hWW : w1 = W10 at *
       clear hWW
       refine wpList_stA (t := 83) 83 (.tmp 2) (.tmp 60) rfl rfl (rcC C A8 n c8) (rcC C Ai n ci) (by rw [rcC_len C hk hb, rcC_len C hk hb]) (rcL_one _ _ _ _ _ _ _ _) rfl rfl bs (szRcS C hk hb _ _ _) ?_
       intro W11 h11 g11
       simp only [Act.put, qsT, qsZ, qsS]
       clear HWI
       have hX8' := hX8
       simp only [] at hX8'
       rw [hyv, HSTEP.out] at hX8'
       have hX9 := hX8'.chg (Chg.one (D := fun b => b = w.heap.size) g11 rfl) (fun b h => HG1s.out b (by omega) (by omega))
       have bo11 := bo.grown g11 (fun e => by injection e with e; omega)
       have hz11 := hz.grown g11 (fun e => by injection e with e; omega)
       have hE11 := below_grown hEw g11 (Nat.le_refl _)
       clear hX8' hX8 bo hz hEw bs
       have n16 := HN16.out
       go_wp2
       exact ⟨⟨_, i + 1, A8, c8, _, rfl, by go_num, by omega, ⟨fun h => absurd h (by omega), fun _ => hfm.out⟩, hX9, h11, bo11, hz11, hE11⟩, by simp [intOf]; omega⟩
     ·have HADM := qy (fun (hok : StkOk u.1.S) W {D : Nat → Prop} (hD : ∀ b, D b → b < W.heap.size) (hR : RSt D W u.1.S.lv u.2.B u.2.m u.2.d) => show Calls Tryz.prog 151 #[.agg (rstC u.2.B u.2.m u.2.d u.1.S).toArray, .int .i64 b] W (RetRS D W (mrkS u.1.S k b) (fun x => .tuple #[x, .int .i64 (mrkE u.1.S k b : Nat)])) by unfold mrkS mrkE; rw [if_pos k6n, if_pos k6n]; exact refAdmit_any u.1.S hok u.2.B u.2.m u.2.d b W hD hR)
      clear k6n
      go_upto_region 13 with (fail)
      refine wp_region_lit ?_
      refine qw ?_
      refine wpList_ldA (t := 154) (cs := rvC u) 152 (.tmp 46) rfl rfl (rstC u.2.B u.2.m u.2.d u.1.S) rfl h7 (rvC_stk u) vt1 vt2 (szRst _ _ _ _) ?_
      refine qw ?_
      refine qL 3 (.tmp 48) bo Tryz.underlying3 ?_
      refine wpq fun K hK => ?_
      go_simp
      refine (HADM.out HOK.out _ hG2 hst7).mono ?_
      rintro ee w1 ⟨A7, n7, c7, bs7, d7, rfl, rfl, hst8⟩
      with_reducible refine hK _ _ ?_
      clear hK K
      have hb8 := below_plus W7 bs7 d7
      replace bs := bs.later hb8
      replace bo := bo.later hb8
      replace hz := hz.later hb8
      replace h7 := h7.later hb8
      replace hbw := hbw.trans (hb8.mono hbw.size)
      clear hb8
      generalize plus W7 bs7 d7 = W8 at *
      iterate 4 (refine qw ?_)
      refine wpList_stM (t := 154) (off := 7) 152 (.tmp 53) (.tmp 51) rfl rfl (rstC A7 n7 c7 (mrkS u.1.S k b)) (rvC u) (by rw [rvC_len, rstC_len]; decide) (rstC_one _ _ _ _) rfl rfl h7 (szRst _ _ _ _) ?_
      intro W9 h9 g9
      refine qw ?_
      have hst9 : RSt (fun b => G1 b ∨ b = wr.heap.size) W9 (mrkS u.1.S k b).lv A7 n7 c7 := hst8.chg (Chg.one g9 (.inr rfl))
      replace hst9 := hst9.more (D' := G1) (fun b hb => .inl (.inl hb))
      rw [rvC_setStk] at h9
      obtain ⟨y, hy⟩ : ∃ y : Re, y = ({ u.1 with S := mrkS u.1.S k b }, { u.2 with B := A7, m := n7, d := c7 }) := ⟨_, rfl⟩
      rw [← hy] at h9
      have hyv : y.1 = mrkV k b u.1 := by rw [hy]; rfl
      have hbw9 : Below wr.heap.size wr W9 := below_grown hbw g9 (by omega)
      have bs9 := bs.grown g9 (fun e => by injection e with e; omega)
      have bo9 := bo.grown g9 (fun e => by injection e with e; omega)
      have hz9 := hz.grown g9 (fun e => by injection e with e; omega)
      have hXw := HX.out.later hbw9
      have h1w : Rs 2 W9 y.2.A y.2.n y.2.c (prs .i64 y.1.ms) := by rw [hy]; exact hmm.later hbw9
      have h2w : Off G1 W9 y.2.A := by rw [hy]; exact hmo.size hbw9.size
      have h3w : RSt G1 W9 y.1.S.lv y.2.B y.2.m y.2.d := by rw [hy]; exact hst9
      have hEw : Below w.heap.size w W9 := hE.trans (hbw9.mono hE.size)
      clear hy hst8 hst7 hst9 hG2 bs bo hz hmm hmo g9 h7 hbw
      have bs := bs9
      have bo := bo9
      have hz := hz9
      have hbw := hbw9
      clear bs9 bo9 hz9 hbw9
      have HWI := qy (fun W (h : RcX G1 W { C with vs := mkI C.vs k b i } Ai n ci Ei) (h1 : Rs 2 W y.2.A y.2.n y.2.c (prs .i64 y.1.ms)) (h2 : Off G1 W y.2.A) (h3 : RSt G1 W y.1.S.lv y.2.B y.2.m y.2.d) (hs : w.heap.size + 3 ≤ W.heap.size) => rcWith_any { C with vs := mkI C.vs k b i } hk hb Ai n ci Ei i y W (fun b hb => Nat.lt_of_lt_of_le (HG1.out b hb) hs) h hil HN16.out h1 h2 h3)
      have hsV : w.heap.size + 3 ≤ W9.heap.size := by have := hbw.size; omega
      have hcase : (((i : Int) == 0) = true ∧ Hid (mrkE u.1.S k b = mrk0 C k b)) ∨ (((i : Int) == 0) = false ∧ Hid (f = mrk0 C k b)) := by
       by_cases i0 : i = 0
       ·exact .inl ⟨by simp [i0], qy (HF0.out i0)⟩
       ·exact .inr ⟨by simp [i0], qy (hfv.2 (by omega))⟩
      clear hfv
      rcases hcase with ⟨i0i, hfm⟩ | ⟨i0i, hfm⟩
      all_goals
       go_upto_region 16 with (fail)
       refine wp_region_lit ?_
       refine qA 83 (.tmp 2) bs vs1 vs2 (szRcS C hk hb Ai n ci) ?_
       refine qw ?_
       refine qA 154 (.tmp 8) h9 vr1 vr2 (szRv y) ?_
       refine wpq fun K hK => ?_
       go_simp
       refine (HWI.out _ hXw h1w h2w h3w hsV).mono ?_
       rintro e w1 ⟨A8, c8, rfl, hX8, hb9⟩
       with_reducible refine hK _ _ ?_
       clear hK K
       replace bs := bs.later hb9
       replace bo := bo.later hb9
       replace hz := hz.later hb9
       replace hEw := hEw.trans (hb9.mono hEw.size)
       generalize hWW : w1 = W10 at *
       clear hWW
       refine wpList_stA (t := 83) 83 (.tmp 2) (.tmp 60) rfl rfl (rcC C A8 n c8) (rcC C Ai n ci) (by rw [rcC_len C hk hb, rcC_len C hk hb]) (rcL_one _ _ _ _ _ _ _ _) rfl rfl bs (szRcS C hk hb _ _ _) ?_
       intro W11 h11 g11
       simp only [Act.put, qsT, qsZ, qsS]
       clear HWI
       have hX8' := hX8
       simp only [] at hX8'
       rw [hyv, HSTEP.out] at hX8'
       have hX9 := hX8'.chg (Chg.one (D := fun b => b = w.heap.size) g11 rfl) (fun b h => HG1s.out b (by omega) (by omega))
       have bo11 := bo.grown g11 (fun e => by injection e with e; omega)
       have hz11 := hz.grown g11 (fun e => by injection e with e; omega)
       have hE11 := below_grown hEw g11 (Nat.le_refl _)
       clear hX8' hX8 bo hz hEw bs
       have n16 := HN16.out
       go_wp2
       exact ⟨⟨_, i + 1, A8, c8, _, rfl, by go_num, by omega, ⟨fun h => absurd h (by omega), fun _ => hfm.out⟩, hX9, h11, bo11, hz11, hE11⟩, by simp [intOf]; omega⟩
    ·have hi1 : ¬ (i : Int) < (n : Int) := by omega
     have q278 : wr.cell? ⟨w.heap.size, 278, none⟩ = some (.slice Ai n ci) := (bs.cell _).trans (rcC_vips C hk hb Ai n ci)
     have hall := qy (show mkI C.vs k b i = C.vs.map (mrkV k b) by rw [show i = C.vs.length by have := HN.out; omega]; exact mkI_all _ _ _)
     have hfm := qy (hfv.2 (by have := HN0.out; omega))
     clear hil hfv hin
     go_upto_region 17 with (fail)
     refine wp_region_lit ?_
     refine qA 83 (.tmp 2) bs vs1 vs2 (szRcS C hk hb Ai n ci) ?_
     refine qw ?_
     refine wpList_stA (t := 83) 83 (.tmp 4) (.tmp 61) rfl rfl (rcC C Ai n ci) zl0 (hzl.trans (rcC_len C hk hb _ _ _).symm).symm (rcL_one _ _ _ _ _ _ _ _) rfl rfl hz (szRcS C hk hb _ _ _) ?_
     intro W9 h9 g9
     refine qw ?_
     have hE9 := below_grown hE g9 (by omega)
     go_wp2
     refine bodyPost_agg2 Tryz.results122 rfl rfl h9.range vs1 vs2 (szRcS C hk hb _ _ _) rfl ?_
     have hX9 := hX.chg (Chg.one (D := fun b => b = w.heap.size + 1 + 1) g9 rfl) (fun b h => HG1s.out b (by omega) (by omega))
     rw [HME.out, ← hfm.out]
     refine ⟨{ C with vs := mkI C.vs k b i }, Ai, n, ci, Ei, rfl, hX9.more (fun b h => .inl (HG1g.out b h)), hE9, hk, hb, fun _ => ?_⟩
     rw [hall.out]
end

section
open Go.RowKit
def MP.fullO (base : Nat) (l : List UInt8) : MP := ⟨fun v w => ∃ A n, v = .slice A n n ∧ Ob w base A n n l, fun _ _ _ ⟨A, n, h1, h2⟩ h => ⟨A, n, h1, h2.later h.below⟩⟩
theorem run_appFO {P : Program} (w : World) {ts ty : TypeId} (bt : BT P ts 5) {base : Nat} {A : Option Addr} {n : Nat} {l : List UInt8} (ho : Ob w base A n n l)
  {A2 : Option Addr} {n2 c2 : Nat} {l2 : List UInt8} (hr2 : Rb w A2 n2 c2 l2) (hm : n + n2 ≤ 1099511627776) (hbase : base ≤ w.heap.size) :
  ∃ A' n' c' w', (Builtin.append_ #[ts, ts] ty #[.slice A n n, .slice A2 n2 c2]).run P w = .ok (.slice A' n' c') w' ∧ Ob w' base A' n' c' (l ++ l2) ∧ Ex w w' := by
 obtain ⟨A1, n1, c1, w1, h1, h2, _⟩ := run_app (P := P) w (ty := ty) bt ho hr2 hm hbase
 obtain ⟨A3, n3, c3, w3, h3, _, h4, _⟩ := run_appF (P := P) w (ty := ty) bt ho.rb hr2 hm
 rw [h1] at h3
 injection h3 with e1 e2
 subst e2
 exact ⟨A1, n1, c1, w1, h1, h2, h4⟩
theorem rel_appO {P : Program} {Q : Exit → Act → World → Prop} {w : World} {o : Oper} {a : Act} {K : Act → World → Prop} {ts : TypeId} (bt : BT P ts 5) (s x : Operand) (base : Nat)
  (ho : o.op = .call { callee := .builtin .append, args := #[s, x], argTypes := #[ts, ts] }) {A : Option Addr} {n : Nat} {l : List UInt8} (hs : a.eval s = .slice A n n) (hr : Ob w base A n n l) (hbase : base ≤ w.heap.size)
  {A2 : Option Addr} {n2 c2 : Nat} {l2 : List UInt8} (hx : a.eval x = .slice A2 n2 c2) (hr2 : Rb w A2 n2 c2 l2) (hm : n + n2 ≤ 1099511627776)
  (h : ∀ A' n' c' w', Ex w w' → Ob w' base A' n' c' (l ++ l2) → K (a.put o.dst (.slice A' n' c')) w') : o.wp P a w K Q := by
 obtain ⟨A', n', c', w', hrun, h2, h3⟩ := run_appFO (P := P) w (ty := o.type) bt hr hr2 hm hbase
 unfold Oper.wp execOp
 simp only [ho, resolve, invoke, builtin, Sem.run_bind, Sem.run_pure, Result.andThen_ok, List.map_toArray, List.map_cons, List.map_nil, hs, hx, hrun]
 exact h A' n' c' w' h3 h2
end

section
attribute [local go_sem ↓] sliced_cut
attribute [local go_sem] cutA_zero
open Go.RowKit
theorem refRingBytes_any (key : List UInt8) (hk : K16 key) (n : Nat) (w : World) (hn : n < 18446744073709551616) : Calls Tryz.prog 59 #[.agg (ringC key n).toArray] w (RetB w (key ++ dig n 8)) := by
 have q := ringC_16 key hk n
 have hrk := ring_rb (w := w) hk n 78
 go_enter Tryz.func59, Tryz.ntmps59
 go_wp2
 refine wp_relE 7 11 [1, 4] rfl (by kernel_rfl) (by kernel_rfl) (fun i => match i with | 0 => MP.fullO (w.heap.size + 1) [] | 1 => MP.eq (.pointer (some ⟨w.heap.size, 0, none⟩)) | 2 => MP.eq (.slice (some ⟨w.heap.size, 0, none⟩) 16 16) | 3 => MP.ob (w.heap.size + 1) key | 4 => MP.eq (.pointer (some ⟨w.heap.size, 16, none⟩)) | 5 => MP.eq (.int .u64 (n : Int)) | 6 => MP.ob (w.heap.size + 1) (dig n 8) | _ => MP.any) ?_ ?_
 ·intro i hi o ho FA x hO hD
  match i, hi, ho, hO, hD with
  | 0, _, ho, hO, hD => 
   obtain rfl := qoi ho
   clear hO hD ho
   rw [if_neg (by decide)]
   intro K hK
   go_simp
   refine hK.out _ _ (Ex.alloc _ _) ⟨_, _, rfl, ?_⟩
   have := Ob.lit (plus (w.alloc (.cells (ringC key n).toArray 78)) x.bs x.d) (base := w.heap.size + 1) (by simp [size_plus]) #[] [] 0 rfl (Nat.zero_le _) rfl
   simpa [size_plus] using this
  | 1, _, ho, hO, hD => 
   obtain rfl := qoi ho
   have ev1 : FA.eval (.tmp 1) = .pointer (some ⟨w.heap.size, 0, none⟩) := hO 1 (by kernel_rfl)
   have e1 : FA.tmps[1]?.getD undef = .pointer (some ⟨w.heap.size, 0, none⟩) := by simpa [Act.eval] using ev1
   replace ev1 := qy ev1
   clear hO hD ho
   rw [if_pos (by decide)]
   refine ⟨.pointer (some ⟨w.heap.size, 0, none⟩), .inl ⟨by simp [Region.wanted], fun w => ?_⟩, rfl⟩
   go_simp
  | 2, _, ho, hO, hD => 
   obtain rfl := qoi ho
   have ev4 : FA.eval (.tmp 4) = .pointer (some ⟨w.heap.size, 0, none⟩) := hD 1 4 (by kernel_rfl)
   have e4 : FA.tmps[4]?.getD undef = .pointer (some ⟨w.heap.size, 0, none⟩) := by simpa [Act.eval] using ev4
   replace ev4 := qy ev4
   clear hO hD ho
   rw [if_neg (by decide)]
   intro K hK
   go_simp
   exact qk hK rfl
  | 3, _, ho, hO, hD => 
   obtain rfl := qoi ho
   have f3 := hD 0 3 (by kernel_rfl)
   generalize eu3 : FA.eval (.tmp 3) = u3 at f3
   have e3 : FA.tmps[3]?.getD undef = u3 := by rw [← eu3]; simp [Act.eval]
   have ev3 := qy eu3
   clear eu3
   have ev5 : FA.eval (.tmp 5) = .slice (some ⟨w.heap.size, 0, none⟩) 16 16 := hD 2 5 (by kernel_rfl)
   have e5 : FA.tmps[5]?.getD undef = .slice (some ⟨w.heap.size, 0, none⟩) 16 16 := by simpa [Act.eval] using ev5
   replace ev5 := qy ev5
   clear hO hD ho
   rw [if_neg (by decide)]
   intro K hK
   obtain ⟨A1, n1, rfl, ho1⟩ := f3
   refine wanted_if rfl ?_
   refine rel_appO bt (.tmp 3) (.tmp 5) (w.heap.size + 1) rfl ev3.out ho1 (by simp [size_plus]) ev5.out (hrk.plus_ _ _) (by have := ho1.len; simp at this; omega) ?_
   intro A' n' c' w' hex ho
   exact hK.out _ _ hex ⟨_, _, _, rfl, by simpa using ho⟩
  | 4, _, ho, hO, hD => 
   obtain rfl := qoi ho
   have ev1 : FA.eval (.tmp 1) = .pointer (some ⟨w.heap.size, 0, none⟩) := hO 1 (by kernel_rfl)
   have e1 : FA.tmps[1]?.getD undef = .pointer (some ⟨w.heap.size, 0, none⟩) := by simpa [Act.eval] using ev1
   replace ev1 := qy ev1
   clear hO hD ho
   rw [if_pos (by decide)]
   refine ⟨.pointer (some ⟨w.heap.size, 16, none⟩), .inl ⟨by simp [Region.wanted], fun w => ?_⟩, rfl⟩
   go_simp
  | 5, _, ho, hO, hD => 
   obtain rfl := qoi ho
   have ev7 : FA.eval (.tmp 7) = .pointer (some ⟨w.heap.size, 16, none⟩) := hD 4 7 (by kernel_rfl)
   have e7 : FA.tmps[7]?.getD undef = .pointer (some ⟨w.heap.size, 16, none⟩) := by simpa [Act.eval] using ev7
   replace ev7 := qy ev7
   clear hO hD ho
   rw [if_neg (by decide)]
   intro K hK
   go_simp
   exact qk hK rfl
  | 6, _, ho, hO, hD => 
   obtain rfl := qoi ho
   have ev8 : FA.eval (.tmp 8) = .int .u64 (n : Int) := hD 5 8 (by kernel_rfl)
   have e8 : FA.tmps[8]?.getD undef = .int .u64 (n : Int) := by simpa [Act.eval] using ev8
   replace ev8 := qy ev8
   clear hO hD ho
   rw [if_neg (by decide)]
   intro K hK
   go_simp
   refine (refBytes_any n 8 _ hn (by omega)).mono ?_
   rintro e w1 ⟨A2, n2, c2, bs2, d2, rfl, rfl, ho2⟩
   exact hK.out _ _ (Ex.plus_ _ _ _) ⟨_, _, _, rfl, ho2.mono (by simp [size_plus])⟩
  | (k + 7), hi, _, _, _ => exact absurd hi (by omega)
 intro vs x hp
 have p0 := hp 0 (by omega)
 have p1 : vs 1 = .pointer (some ⟨w.heap.size, 0, none⟩) := hp 1 (by omega)
 have p2 : vs 2 = .slice (some ⟨w.heap.size, 0, none⟩) 16 16 := hp 2 (by omega)
 have p3 := hp 3 (by omega)
 have p4 : vs 4 = .pointer (some ⟨w.heap.size, 16, none⟩) := hp 4 (by omega)
 have p5 : vs 5 = .int .u64 (n : Int) := hp 5 (by omega)
 have p6 := hp 6 (by omega)
 clear hp
 simp only [qta, qtb, qda, qdb, putAll, Nat.zero_add, Nat.reduceAdd, Act.put, qsT, qsZ, qsS, p1, p2, p4, p5]
 clear p1 p2 p4 p5
 generalize vs 0 = y0 at *
 generalize vs 3 = y3 at *
 generalize vs 6 = y6 at *
 clear vs
 obtain ⟨A1, n1, c1, rfl, ho1⟩ := p3
 obtain ⟨A2, n2, c2, rfl, ho2⟩ := p6
 have l1 : n1 = 16 := by have := ho1.len; rw [show key.length = 16 from hk] at this; omega
 have l2 : n2 = 8 := by have := ho2.len; simp [dig_length] at this; omega
 go_wp2_with (at_builtin; refine wpList_app bt rfl (.tmp 6) (.tmp 9) rfl rfl ho1 rfl ho2.rb (by omega) (by simp [size_plus]) ?_; intro A3 n3 c3 w3 ho3 hb3 _)
 refine NoPanic.normal ?_
 go_wp2
 go_ret
 refine RetB.mk (ho3.mono (by omega)) ?_
 exact (belowP ((Below.refl _ _).alloc (Nat.le_refl _) _) _ _).trans (hb3.mono (by omega))
end

section
open Go.RowKit
def MP.rdl (L : List (List UInt8)) : MP := ⟨fun v w => ∃ A m c, v = .slice A m c ∧ RdL w A m L, fun _ _ _ ⟨A, m, c, h1, cs, h2, h3, h4, h5⟩ h => ⟨A, m, c, h1, cs, h2, h3, (h4.below h.below).more h.below.size, fun i u hu => by
 obtain ⟨A', n, c, e, l, hl, hr⟩ := h5 i u hu
 exact ⟨A', n, c, e, l, hl, hr.later h.below⟩⟩⟩
inductive Rows_ (w : World) : List Value → List (List UInt8) → Prop
 | nil : Rows_ w [] []
 | cons {v : Value} {l : List UInt8} {vs : List Value} {L : List (List UInt8)} (h : ∃ A n c, v = .slice A n c ∧ Rb w A n c l) (r : Rows_ w vs L) : Rows_ w (v :: vs) (l :: L)
theorem Rows_.len {w : World} {vs : List Value} {L : List (List UInt8)} (h : Rows_ w vs L) : vs.length = L.length := by
 induction h with
 | nil => rfl
 | cons _ _ ih => simp [ih]
theorem Rows_.get {w : World} {vs : List Value} {L : List (List UInt8)} (h : Rows_ w vs L) : ∀ (i : Nat) (u : Value), vs[i]? = some u → ∃ (A' : Option Addr) (n c : Nat), u = Value.slice A' n c ∧ ∃ l, L[i]? = some l ∧ Rb w A' n c l := by
 induction h with
 | nil => intro i u hu; simp at hu
 | cons h _ ih =>
  intro i u hu
  cases i with
  | zero =>
   simp only [List.getElem?_cons_zero, Option.some.injEq] at hu
   subst hu
   obtain ⟨A, n, c, h1, h2⟩ := h
   exact ⟨A, n, c, h1, _, rfl, h2⟩
  | succ i => exact ih i u (by simpa using hu)
theorem RdL.litW {w : World} {k m : Nat} {t : TypeId} (cs : List Value) (L : List (List UInt8)) (hk : k = w.heap.size) (h : Rows_ w cs L) (hm : m = cs.length := by rfl) : RdL (w.alloc (.cells cs.toArray t)) (some ⟨k, 0, none⟩) m L := by
 subst hk hm
 refine ⟨cs, rfl, h.len.symm, .inr ⟨w.heap.size, 0, rfl, by simp, fun i u hu => ?_⟩, fun i u hu => ?_⟩
 ·have := (Bk.new w t cs.toArray).cell i
  rw [Nat.zero_add, this]
  simpa using hu
 ·obtain ⟨A', n, c, e, l, hl, hr⟩ := h.get i u hu
  exact ⟨A', n, c, e, l, hl, hr.alloc _⟩
end

section
attribute [local go_sem ↓] sliced_cut
attribute [local go_sem] cutA_zero
open Go.Lib
open Go.RowKit
theorem place_own (six : Bool) (ah al : Nat) (w : World) (h1 : ah < 18446744073709551616) (h2 : al < 18446744073709551616) : Calls Tryz.prog 60 #[.agg (adC six ah al).toArray] w (RetB w (placeB six ah al)) := by
 obtain ⟨da, a1, a2⟩ : ∃ d, Tryz.prog.underlying 53 = some d ∧ d.isRow = true := ⟨_, Tryz.underlying53, rfl⟩
 obtain ⟨z, hz⟩ : ∃ z, sizeA six = z := ⟨_, rfl⟩
 have hzz : z ≤ 16 := by rw [← hz]; cases six <;> simp [sizeA]
 have hlen : (adrB six ah al).length = z := by rw [← hz]; cases six <;> simp [sizeA, adrB, dig_length]
 have HAB := qy (fun w => refAdrBytes six ah al w h1 h2)
 unfold placeB
 rw [hz]
 clear hz
 generalize adrB six ah al = l at *
 obtain ⟨b1, be, zV⟩ := box1 w 53 (adC six ah al)
 go_enter Tryz.func60, Tryz.ntmps60
 go_upto_region 1 with (fail)
 generalize w.alloc (.cells (adC six ah al).toArray 53) = V at *
 have zV1 := b1.lt
 go_upto_region 2 with (first
  | (refine at_op (.load 53 (.tmp 1)) rfl ?_; refine qA 53 (.tmp 1) b1 a1 a2 (szAd _ _ _) ?_)
  | (go_at_call 99; refine (HAB.out _).mono ?_; rintro e w1 ⟨A2, n2, c2, bs2, d2, rfl, rfl, ho2⟩))
 have hn2 : n2 = z := by have := ho2.rb.1; omega
 subst hn2
 replace be := belowP be bs2 d2
 have zbe := be.size
 replace ho2 := ho2.rb
 generalize plus V bs2 d2 = V2 at *
 have hw8 : IntKind.u8.wrap (n2 : Int) = (n2 : Int) := IntWalk.u8_in _ (by omega)
 have hlit : Ob (V2.alloc (.cells #[.int .u8 (n2 : Int)] 5)) w.heap.size (some ⟨V2.heap.size, 0, none⟩) 1 1 (dig n2 1) := Ob.of_bk (by rw [bcs_dig1 n2 (by omega)]; exact Bk.new _ _ _) zbe (by simp [dig_length]) (by simp [maxLen])
 go_wp2_with (at_builtin; refine wpList_app bt rfl (.tmp 9) (.tmp 10) rfl rfl hlit rfl (ho2.alloc _) (by omega) (by simp; omega) ?_; intro A3 n3 c3 w3 ho3 hb3 hg3)
 go_ret
 exact RetB.mk ho3 (be.trans (((Below.refl V2.heap.size V2).alloc (Nat.le_refl _) _ |>.mono zbe).trans hb3))
theorem place_rb (six : Bool) (ah al : Nat) (w : World) (h1 : ah < 18446744073709551616) (h2 : al < 18446744073709551616) : Calls Tryz.prog 60 #[.agg (adC six ah al).toArray] w (RetRb w (placeB six ah al)) := (place_own six ah al w h1 h2).mono (fun _ _ ⟨A, n, c, bs, d, e1, e2, e3⟩ => ⟨A, n, c, bs, d, e1, e2, e3.rb⟩)
theorem szRg (key : List UInt8) (hk : key.length = 16) (m : Nat) : (Tryz.prog.info? 78).map (·.size) = some (ringC key m).length := by rw [show (ringC key m).length = 17 by simp [ringC, bcs_length, hk]]; kernel_rfl
theorem rowRg : ∃ d, Tryz.prog.underlying 78 = some d ∧ d.isRow = true := ⟨_, Tryz.underlying78, rfl⟩
theorem rcC_ad (C : Cf) (hk : C.key.length = 16) (hb : C.bk.length = 65) (A : Option Addr) (n c i : Nat) (hi : i < 65) (a : Adr) (h : C.bk.getD i none = some a) (j : Nat) (u : Value) (hu : (adC a.1 a.2.1 a.2.2)[j]? = some u) : (rcC C A n c)[18 + i * 3 + j]? = some u := by
 have hj := (List.getElem?_eq_some_iff.1 hu).1
 have hj3 : j < 3 := by simpa [adC] using hj
 unfold rcC rcL
 rw [show 18 + i * 3 + j = (17 + (i * 3 + j)) + 1 by omega, List.getElem?_cons_succ, List.getElem?_append_right (by simp [ringC, bcs_length, hk])]
 rw [show 17 + (i * 3 + j) - (ringC C.key C.now).length = i * 3 + j by simp [ringC, bcs_length, hk], List.getElem?_append_left (by rw [flat_len adF 3 adF_len, List.length_map, hb]; omega)]
 refine flat_at adF 3 adF_len (C.bk.map adZ) i (by simp [hb]; exact hi) j u ?_
 have : (C.bk.map adZ)[i]'(by simp [hb]; exact hi) = a := by
  rw [List.getElem_map]
  rw [List.getD_eq_getElem?_getD, List.getElem?_eq_getElem (by omega)] at h
  simp only [Option.getD_some] at h
  rw [h]; rfl
 rw [this]
 exact hu
theorem refState_any {G : Nat → Prop} (C : Cf) (hC : CfOk C) (A : Option Addr) (n c : Nat) (E : List Re) (w : World) (hX : RcX G w C A n c E) : Calls Tryz.prog 24 #[.agg (rcC C A n c).toArray] w (RetB w (sttB C)) := by
 obtain ⟨dvg1, vg1, vg2⟩ := rowRg
 obtain ⟨dva1, va1, va2⟩ := rowAdC
 obtain ⟨dvr1, vr1, vr2⟩ := rowRv
 obtain ⟨dvt1, vt1, vt2⟩ := rowRst
 have hk := hC.key
 have hb := hC.bl
 have HX0 := qy hX
 have HN := qy hX.n_
 obtain ⟨dvs1, vs1, vs2⟩ := rowRcS
 obtain ⟨bs, be, zV⟩ := box1 w 83 (rcC C A n c)
 go_enter Tryz.func24, Tryz.ntmps24
 go_upto_region 1 with (fail)
 generalize w.alloc (.cells (rcC C A n c).toArray 83) = V at *
 go_upto_region 1 with (fail)
 refine wp_relS 6 81 rfl (by kernel_rfl) (by kernel_rfl) ?_
 refine qb 1 1 ?_
 refine ql 0 8 2 23 bs Tryz.underlying23 ?_
 apply qo (φ := (MP.ob V.heap.size (dig C.num 8))) 3 rfl rfl
 ·intro FA x hO hD K hK
  have e9 := qe (hD 1 9)
  clear hO hD
  go_simp
  refine (refBytes_any C.num 8 _ hC.num (by omega)).mono ?_
  rintro e w1 ⟨A1, n1, c1, bs1, d1, rfl, rfl, ho1⟩
  exact hK.out _ _ (Ex.plus_ _ _ _) ⟨_, _, _, rfl, ho1.mono (below_plus V x.bs x.d).size⟩
 refine qb 1 4 ?_
 apply qm 5 rfl rfl
 ·intro FA x hO hD K hK
  obtain ⟨e11, ev11⟩ := qE (hD 3 11)
  clear hO hD
  refine wanted_if rfl ?_
  refine wp_ldA (cs := rcC C A n c) 78 (.tmp 11) rfl (ringC C.key C.now) ev11.out (bs.later bpl) (rcL_ring _ _ _ _ _ _ _ _ hk) vg1 vg2 (szRg C.key hk C.now) ?_
  exact qk hK rfl
 apply qo (φ := (MP.rb (C.key ++ dig C.now 8))) 6 rfl rfl
 ·intro FA x hO hD K hK
  have e12 := qe (hD 4 12)
  clear hO hD
  go_simp
  refine (refRingBytes_any C.key hk C.now _ hC.now).mono ?_
  rintro e w1 ⟨A1, n1, c1, bs1, d1, rfl, rfl, ho1⟩
  exact hK.out _ _ (Ex.plus_ _ _ _) ⟨_, _, _, rfl, ho1.rb⟩
 refine Steps.fin_ (fun vs x hp => ?_)
 have p2 := hp 2 qd
 have p5 := hp 5 qd
 simp only [qta, qtb, qda, qdb, putAll, Nat.zero_add, Nat.reduceAdd, Act.put, qsT, qsZ, qsS, qi (hp 0 qd), qi (hp 1 qd), qi (hp 3 qd), qi (hp 4 qd)]
 clear hp
 generalize vs 2 = y2 at *
 generalize vs 5 = y5 at *
 clear vs
 obtain ⟨A2, n2, c2, rfl, ho2⟩ := p2
 obtain ⟨A6, n6, c6, rfl, hr5⟩ := p5
 have hl2 : n2 ≤ 8 := by have h1 := ho2.len; rw [dig_length] at h1; omega
 have hl5 : n6 ≤ 24 := by have h1 := hr5.1; rw [List.length_append, dig_length, hk] at h1; omega
 refine wpList_app bt rfl (.tmp 10) (.tmp 13) rfl rfl ho2 rfl hr5 (by omega) (below_plus V x.bs x.d).size ?_
 intro A5 n5 c5 V5 hO5 hb5 hg5
 refine qw ?_
 have hE5 : Below V.heap.size V V5 := (below_plus V x.bs x.d).trans hb5
 obtain ⟨B0, hB0⟩ : ∃ B, B = dig C.num 8 ++ (C.key ++ dig C.now 8) := ⟨_, rfl⟩
 rw [← hB0] at hO5
 have hB0l : B0.length = 32 := by rw [hB0]; simp [dig_length, hk]
 have HB0 := qy hB0
 have HST := qy (And.intro hO5 hE5)
 have HBS := qy (And.intro bs be)
 have hbs := be.size
 have HKN := qy (fun (i : Nat) (h1 : 1 ≤ i) (h64 : i ≤ 64) W (h : Below V.heap.size V W) => show W.cell? ⟨w.heap.size, 213 + i, none⟩ = some (.bool (knC C (i : Int))) from ((HBS.out.1.later h).cell _).trans (rcC_bool C hk hb A n c i h1 h64))
 clear hB0 hO5 hE5 bs be hb5 hg5 ho2 hr5 hl2 hl5
 go_upto_region 3 with (fail)
 go_loopw [3, 4] (fun OUT I wr => ∃ (m : Nat) (Bq : Option Addr) (kk dk : Nat), OUT = .slice Bq kk dk ∧ I = .int .i64 (m : Int) ∧ 1 ≤ m ∧ m ≤ 65 ∧ Ob wr V.heap.size Bq kk dk (B0 ++ bksI C (m - 1)) ∧ Below V.heap.size V wr) (fun _ I _ => 65 - (intOf I).toNat)
 case atStart => exact ⟨1, A5, _, c5, rfl, rfl, by omega, by omega, by simpa [bksI] using HST.out.1, HST.out.2⟩
 case round =>
  clear HST
  obtain ⟨m, Bq, kk, dk, rfl, rfl, hm1, hm, hO, hEV⟩ := hrel
  have hkl := hO.len
  have hB1 : (B0 ++ bksI C (m - 1)).length ≤ 2000 := by rw [List.length_append, hB0l]; have := bksI_len C (m - 1); omega
  by_cases hm64 : m ≤ 64
  ·have hmi : (m : Int) ≤ 64 := by omega
   have hmi2 : (m : Int) < 65 := by omega
   have hmi3 : m < 65 := by omega
   have hq := HKN.out m hm1 hm64 wr hEV
   have hbk : bksI C m = bksI C (m - 1) ++ bkB C m := by
    cases m with
    | zero => omega
    | succ p => rfl
   obtain ⟨hkb, -⟩ := kn_bk C m hm1 hm64
   cases hbm : C.bk.getD m none with
   | none =>
    rw [hbm] at hkb
    have hkb' : knC C (m : Int) = false := hkb
    rw [hkb'] at hq
    have HBK := qy (show bksI C (m + 1 - 1) = bksI C (m - 1) by rw [Nat.add_sub_cancel, hbk]; unfold bkB; rw [hbm]; simp)
    clear hbk hkb hkb' hbm
    go_wp2
    exact ⟨⟨m + 1, Bq, kk, dk, rfl, by go_num, by omega, by omega, by rw [HBK.out]; exact hO, hEV⟩, by simp [intOf]; omega⟩
   | some a =>
    rw [hbm] at hkb
    have hkb' : knC C (m : Int) = true := hkb
    rw [hkb'] at hq
    have hao := hC.bk m a hbm
    obtain ⟨six, ah, al⟩ := a
    have HBK := qy (show bksI C (m + 1 - 1) = bksI C (m - 1) ++ (dig m 1 ++ placeB six ah al) by rw [Nat.add_sub_cancel, hbk]; unfold bkB; rw [hbm])
    have HAD := qy (fun W (h : Below V.heap.size wr W) => show W.rangeAt w.heap.size (18 + m * 3) (adC six ah al) from fun j u hu => by
     have h1 := (HBS.out.1.later (hEV.trans h)).cell (18 + m * 3 + j)
     exact h1.trans (rcC_ad C hk hb A n c m hmi3 (six, ah, al) hbm j u hu))
    have HPL := qy (fun W => place_own six ah al W hao.2.1 hao.2.2)
    have HKB := qy (fun W (h : Kept (fun b => b < V.heap.size) wr W) => (h.below hEV.size (fun b hb => hb) : Below V.heap.size wr W))
    have e5 : IntKind.u8.wrap (m : Int) = (m : Int) := by rw [IntKind.wrap_u8]; omega
    have hdm := qy (dig1_bcs m (by omega))
    clear hbk hkb hkb' hbm hao
    obtain ⟨B1, hB1e⟩ : ∃ B, B = B0 ++ bksI C (m - 1) := ⟨_, rfl⟩
    rw [← hB1e] at hO hkl hB1
    have HB1 := qy hB1e
    clear hB1e
    go_upto_region 6 with (fail)
    refine wp_own (fun b => b < V.heap.size) 12 1 81 2 (fun i => match i with | i => i) (fun i => match i with | 0 => [12] | 4 => [0] | 10 => [4] | 11 => [10] | _ => []) (fun i => match i with | 12 => .slice Bq kk dk | _ => undef) rfl (by kernel_rfl) (by kernel_rfl) (fun i => match i with | 0 => Own.ob V.heap.size B1 | 1 => Own.eq (.int .i64 (m : Int)) | 2 => Own.eq (.int .u8 (m : Int)) | 3 => Own.ob V.heap.size (dig m 1) | 4 => Own.ob V.heap.size (B1 ++ dig m 1) | 5 => Own.eq (.int .i64 (m : Int)) | 6 => Own.eq (.pointer (some ⟨w.heap.size, 18, none⟩)) | 7 => Own.eq (.pointer (some ⟨w.heap.size, 18 + m * 3, none⟩)) | 8 => Own.eq (.agg (adC six ah al).toArray) | 9 => Own.ob V.heap.size (placeB six ah al) | 10 => Own.ob V.heap.size ((B1 ++ dig m 1) ++ placeB six ah al) | 11 => Own.ob V.heap.size ((B1 ++ dig m 1) ++ placeB six ah al) | 12 => Own.ob V.heap.size B1 | _ => Own.any) (fun b h => Nat.lt_of_lt_of_le h hEV.size) ?_ ?_ ?_ ?_ ?_
    ·exact fun t ht => by obtain rfl : t = 0 := (by omega); exact ⟨_, _, _, rfl, hO⟩
    ·exact fun t t' h1 h2 hne => absurd (show t = t' by omega) hne
    ·exact fun t ht b hb hp => by obtain rfl : t = 0 := (by omega); have h1 := (hO.blk b hb).1; have h2 : b < V.heap.size := hp; omega
    ·intro i hi o ho FA w' vs H K hK
     match i, hi, ho, H, hK with
     | 0, _, ho, H, hK => 
      obtain rfl := qoi ho
      have ev3 : FA.eval (.tmp 3) = .slice Bq kk dk := H.out 3 (by kernel_rfl)
      have e3 : FA.tmps[3]?.getD undef = .slice Bq kk dk := by simpa [Act.eval] using ev3
      replace ev3 := qy ev3
      have hv0 : vs 12 = .slice Bq kk dk := H.virt 12 (by omega)
      have hw := H.word 12 (by omega) (by kernel_rfl)
      rw [hv0] at hw
      go_simp
      exact hK.out _ _ (chgX (Ex.refl _)) hw (fun b hb => .inl ⟨12, rfl, by show (vs 12).ownBlock = some b; rw [hv0]; exact hb⟩)
     | 1, _, ho, H, hK => 
      obtain rfl := qoi ho
      have ev4 : FA.eval (.tmp 4) = .int .i64 (m : Int) := H.out 4 (by kernel_rfl)
      have e4 : FA.tmps[4]?.getD undef = .int .i64 (m : Int) := by simpa [Act.eval] using ev4
      replace ev4 := qy ev4
      go_simp
      exact hK.out _ _ (chgX (Ex.refl _)) rfl (fun _ h => h.elim)
     | 2, _, ho, H, hK => 
      obtain rfl := qoi ho
      have ev24 : FA.eval (.tmp 24) = .int .i64 (m : Int) := (H.dep 1 24 (by kernel_rfl)).trans (H.word 1 (by omega) (by kernel_rfl))
      have e24 : FA.tmps[24]?.getD undef = .int .i64 (m : Int) := by simpa [Act.eval] using ev24
      replace ev24 := qy ev24
      go_simp
      exact hK.out _ _ (chgX (Ex.refl _)) rfl (fun _ h => h.elim)
     | 3, _, ho, H, hK => 
      obtain rfl := qoi ho
      have ev25 : FA.eval (.tmp 25) = .int .u8 (m : Int) := (H.dep 2 25 (by kernel_rfl)).trans (H.word 2 (by omega) (by kernel_rfl))
      have e25 : FA.tmps[25]?.getD undef = .int .u8 (m : Int) := by simpa [Act.eval] using ev25
      replace ev25 := qy ev25
      go_simp
      have ho1 := Ob.lit w' (Nat.le_refl _) #[.int .u8 (m : Int)] (dig m 1) 1 (by simp [dig_length]) (by decide) hdm.out
      exact hK.out _ _ (chgX (Ex.alloc _ _)) ⟨_, _, _, rfl, ho1.mono (Nat.le_trans hEV.size H.kept.size)⟩ (fun b hb => .inr (ho1.blk b hb).1)
     | 4, _, ho, H, hK => 
      obtain rfl := qoi ho
      clear ho
      have ev23 := H.dep 0 23 (by kernel_rfl)
      have e23 : FA.tmps[23]?.getD undef = vs 0 := by simpa [Act.eval] using ev23
      replace ev23 := qy ev23
      have ev26 := H.dep 3 26 (by kernel_rfl)
      have e26 : FA.tmps[26]?.getD undef = vs 3 := by simpa [Act.eval] using ev26
      replace ev26 := qy ev26
      obtain ⟨A1, n1, c1, hv1, h1⟩ := H.word 0 (by omega) (by kernel_rfl)
      obtain ⟨A2, n2, c2, hv2, h2⟩ := H.word 3 (by omega) (by kernel_rfl)
      have hn1 : n1 ≤ 3000 := by rw [← h1.1]; omega
      have hn2 : n2 ≤ 100 := by rw [← h2.1]; simp [dig_length]
      refine wanted_if rfl ?_
      refine own_app bt (.tmp 23) (.tmp 26) rfl (ev23.out.trans hv1) h1 (ev26.out.trans hv2) h2.rb (by omega) (Nat.le_trans hEV.size H.kept.size) ?_
      intro A3 n3 c3 w3 ho3 hg3 hf3
      refine hK.out _ _ (Chg.grown hg3 (fun k hk => ⟨0, rfl, by show (vs 0).ownBlock = some k; rw [hv1]; exact hk⟩)) ⟨_, _, _, rfl, ho3⟩ (fun b hb => ?_)
      rcases hf3 b hb with h | h
      ·exact .inl ⟨0, rfl, by show (vs 0).ownBlock = some b; rw [hv1]; exact h⟩
      ·exact .inr h
     | 5, _, ho, H, hK => 
      obtain rfl := qoi ho
      have ev4 : FA.eval (.tmp 4) = .int .i64 (m : Int) := H.out 4 (by kernel_rfl)
      have e4 : FA.tmps[4]?.getD undef = .int .i64 (m : Int) := by simpa [Act.eval] using ev4
      replace ev4 := qy ev4
      go_simp
      exact hK.out _ _ (chgX (Ex.refl _)) rfl (fun _ h => h.elim)
     | 6, _, ho, H, hK => 
      obtain rfl := qoi ho
      have ev1 : FA.eval (.tmp 1) = .pointer (some ⟨w.heap.size, 0, none⟩) := H.out 1 (by kernel_rfl)
      have e1 : FA.tmps[1]?.getD undef = .pointer (some ⟨w.heap.size, 0, none⟩) := by simpa [Act.eval] using ev1
      replace ev1 := qy ev1
      go_simp
      exact hK.out _ _ (chgX (Ex.refl _)) rfl (fun _ h => h.elim)
     | 7, _, ho, H, hK => 
      obtain rfl := qoi ho
      have ev29 : FA.eval (.tmp 29) = .pointer (some ⟨w.heap.size, 18, none⟩) := (H.dep 6 29 (by kernel_rfl)).trans (H.word 6 (by omega) (by kernel_rfl))
      have e29 : FA.tmps[29]?.getD undef = .pointer (some ⟨w.heap.size, 18, none⟩) := by simpa [Act.eval] using ev29
      replace ev29 := qy ev29
      have ev28 : FA.eval (.tmp 28) = .int .i64 (m : Int) := (H.dep 5 28 (by kernel_rfl)).trans (H.word 5 (by omega) (by kernel_rfl))
      have e28 : FA.tmps[28]?.getD undef = .int .i64 (m : Int) := by simpa [Act.eval] using ev28
      replace ev28 := qy ev28
      go_simp
      exact hK.out _ _ (chgX (Ex.refl _)) rfl (fun _ h => h.elim)
     | 8, _, ho, H, hK => 
      obtain rfl := qoi ho
      have ev30 : FA.eval (.tmp 30) = .pointer (some ⟨w.heap.size, 18 + m * 3, none⟩) := (H.dep 7 30 (by kernel_rfl)).trans (H.word 7 (by omega) (by kernel_rfl))
      have e30 : FA.tmps[30]?.getD undef = .pointer (some ⟨w.heap.size, 18 + m * 3, none⟩) := by simpa [Act.eval] using ev30
      replace ev30 := qy ev30
      refine wanted_if rfl ?_
      refine wp_load_mid 53 (.tmp 30) rfl (w.heap.size) (18 + m * 3) ev30.out (adC six ah al) _ (HAD.out w' (HKB.out _ H.kept)) va1 va2 (szAd _ _ _) ?_
      exact hK.out _ _ (chgX (Ex.refl _)) rfl (fun _ h => h.elim)
     | 9, _, ho, H, hK => 
      obtain rfl := qoi ho
      have ev31 : FA.eval (.tmp 31) = .agg (adC six ah al).toArray := (H.dep 8 31 (by kernel_rfl)).trans (H.word 8 (by omega) (by kernel_rfl))
      have e31 : FA.tmps[31]?.getD undef = .agg (adC six ah al).toArray := by simpa [Act.eval] using ev31
      replace ev31 := qy ev31
      go_simp
      refine (HPL.out w').mono ?_
      rintro e w1 ⟨A1, n1, c1, bs2, d2, rfl, rfl, ho1⟩
      exact hK.out _ _ (chgX (Ex.plus_ _ _ _)) ⟨_, _, _, rfl, ho1.mono (Nat.le_trans hEV.size H.kept.size)⟩ (fun b hb => .inr (ho1.blk b hb).1)
     | 10, _, ho, H, hK => 
      obtain rfl := qoi ho
      clear ho
      have ev27 := H.dep 4 27 (by kernel_rfl)
      have e27 : FA.tmps[27]?.getD undef = vs 4 := by simpa [Act.eval] using ev27
      replace ev27 := qy ev27
      have ev32 := H.dep 9 32 (by kernel_rfl)
      have e32 : FA.tmps[32]?.getD undef = vs 9 := by simpa [Act.eval] using ev32
      replace ev32 := qy ev32
      obtain ⟨A1, n1, c1, hv1, h1⟩ := H.word 4 (by omega) (by kernel_rfl)
      obtain ⟨A2, n2, c2, hv2, h2⟩ := H.word 9 (by omega) (by kernel_rfl)
      have hn1 : n1 ≤ 3000 := by rw [← h1.1]; rw [List.length_append, dig_length]; omega
      have hn2 : n2 ≤ 100 := by rw [← h2.1]; have := adrB_length six ah al; rw [placeB_len]; omega
      refine wanted_if rfl ?_
      refine own_app bt (.tmp 27) (.tmp 32) rfl (ev27.out.trans hv1) h1 (ev32.out.trans hv2) h2.rb (by omega) (Nat.le_trans hEV.size H.kept.size) ?_
      intro A3 n3 c3 w3 ho3 hg3 hf3
      refine hK.out _ _ (Chg.grown hg3 (fun k hk => ⟨4, rfl, by show (vs 4).ownBlock = some k; rw [hv1]; exact hk⟩)) ⟨_, _, _, rfl, ho3⟩ (fun b hb => ?_)
      rcases hf3 b hb with h | h
      ·exact .inl ⟨4, rfl, by show (vs 4).ownBlock = some b; rw [hv1]; exact h⟩
      ·exact .inr h
     | 11, _, ho, H, hK => 
      obtain rfl := qoi ho
      clear ho
      have ev33 := H.dep 10 33 (by kernel_rfl)
      have e33 : FA.tmps[33]?.getD undef = vs 10 := by simpa [Act.eval] using ev33
      replace ev33 := qy ev33
      have hw := H.word 10 (by omega) (by kernel_rfl)
      go_simp
      exact hK.out _ _ (chgX (Ex.refl _)) hw (fun b hb => .inl ⟨10, rfl, hb⟩)
     | (k + 12), hi, _, _, _ => exact absurd hi (by omega)
    intro vs w' hC hV hW hDis hFr
    have p1 : vs 1 = .int .i64 (m : Int) := hW 1 (by omega) (by kernel_rfl)
    have p2 : vs 2 = .int .u8 (m : Int) := hW 2 (by omega) (by kernel_rfl)
    have p3 := hW 3 (by omega) (by kernel_rfl)
    have p5 : vs 5 = .int .i64 (m : Int) := hW 5 (by omega) (by kernel_rfl)
    have p6 : vs 6 = .pointer (some ⟨w.heap.size, 18, none⟩) := hW 6 (by omega) (by kernel_rfl)
    have p7 : vs 7 = .pointer (some ⟨w.heap.size, 18 + m * 3, none⟩) := hW 7 (by omega) (by kernel_rfl)
    have p8 : vs 8 = .agg (adC six ah al).toArray := hW 8 (by omega) (by kernel_rfl)
    have p9 := hW 9 (by omega) (by kernel_rfl)
    have p11 := hW 11 (by omega) (by kernel_rfl)
    clear hW
    simp only [qta, qtb, qda, qdb, putAll, Nat.zero_add, Nat.reduceAdd, Act.put, qsT, qsZ, qsS, p1, p2, p5, p6, p7, p8]
    obtain ⟨A6, n6, c6, hA6, ho6⟩ := p11
    replace hA6 : vs 11 = .slice A6 n6 c6 := hA6
    clear p3 p9 hDis hFr hV
    rw [hA6]
    have hE6 := hEV.trans (hC.below hEV.size (fun b hb => hb) : Below V.heap.size wr w')
    rw [List.append_assoc, HB1.out, List.append_assoc, ← HBK.out] at ho6
    go_wp2
    exact ⟨⟨m + 1, A6, n6, c6, rfl, by go_num, by omega, by omega, ho6, hE6⟩, by simp [intOf]; omega⟩
  ·have hmi : ¬ (m : Int) ≤ 64 := by omega
   have hm65 : m - 1 = 64 := by omega
   rw [hm65] at hO hkl hB1
   clear hm1 hm hm64 hm65
   have hn16 : n ≤ 16 := by have := hC.vl; have := HN.out; omega
   have q278 : wr.cell? ⟨w.heap.size, 278, none⟩ = some (.slice A n c) := ((HBS.out.1.later hEV).cell _).trans (rcC_vips C hk hb A n c)
   have e5 : IntKind.u8.wrap (n : Int) = (n : Int) := by rw [IntKind.wrap_u8]; omega
   have hd2 := qy (show [Value.int .u8 0, .int .u8 (n : Int)] = bcs (dig 0 1 ++ dig n 1) by simp [bcs, dig]; omega)
   go_upto_region 7 with (fail)
   refine wp_region_lit ?_
   iterate 6 (refine qw ?_)
   refine wpList_app bt rfl (.tmp 34) (.tmp 39) rfl rfl (hO.later (Below.allocS (Below.refl _ _) _)) rfl (Ob.lit wr (Nat.le_refl _) _ (dig 0 1 ++ dig n 1) 2 (by simp [dig_length]) (by decide) hd2.out).rb (by omega) (by have := hEV.size; simp; omega) ?_
   intro A7 n7 c7 w7 hO7 hb7 hg7
   refine qw ?_
   have hE7 : Below V.heap.size V w7 := (hEV.trans ((Below.allocS (Below.refl _ _) _).mono hEV.size)).trans hb7
   obtain ⟨B2, hB2⟩ : ∃ B, B = B0 ++ bksI C 64 ++ (dig 0 1 ++ dig n 1) := ⟨_, rfl⟩
   rw [← hB2] at hO7
   have hB2l : B2.length ≤ 2002 := by rw [hB2, List.length_append]; simp only [List.length_append, dig_length] at hB1 ⊢; omega
   have HST := qy (And.intro (hO7.mono hbs) hE7)
   have HB2 := qy hB2
   have HQ := qy (fun W (h : Below V.heap.size V W) => show W.cell? ⟨w.heap.size, 278, none⟩ = some (.slice A n c) from ((HBS.out.1.later h).cell _).trans (rcC_vips C hk hb A n c))
   have HXV := qy (fun W (h : Below V.heap.size V W) => HX0.out.later (HBS.out.2.trans (h.mono hbs)))
   have HV81 := qy (show (Tryz.zeroCells154).toList.length = 81 by kernel_rfl)
   have HVS := qy hC.vs
   clear hO hEV q278 hd2 hO7 hb7 hg7 hE7 hB1 hkl hB2
   go_upto_region 9 with (fail)
   go_loopw [3, 5] (fun OUT I wr => ∃ (i : Nat) (Bq : Option Addr) (kk dk : Nat), OUT = .slice Bq kk dk ∧ I = .int .i64 (i : Int) ∧ i ≤ n ∧ Ob wr w.heap.size Bq kk dk (B2 ++ vipsB (C.vs.take i)) ∧ Below V.heap.size V wr) (fun _ I _ => n - (intOf I).toNat)
   case atStart => exact ⟨0, A7, _, c7, rfl, rfl, Nat.zero_le _, by simpa [vipsB] using HST.out.1, HST.out.2⟩
   case round =>
    clear HST
    obtain ⟨i, Bq, kk, dk, rfl, rfl, hi, hO, hEV⟩ := hrel
    have q278 := HQ.out wr hEV
    have hkl := hO.len
    have hB3 : (B2 ++ vipsB (C.vs.take i)).length ≤ 20000 := by
     rw [List.length_append]
     have h1 := vipsB_len (C := C) (L := C.vs.take i) (fun v hv => HVS.out v (List.mem_of_mem_take hv))
     have h2 : (C.vs.take i).length ≤ 16 := by simp; omega
     omega
    by_cases hil : i < n
    ·have hi1 : (i : Int) < (n : Int) := by omega
     have hX := HXV.out wr hEV
     have hlE := hX.len
     have hiv : i < C.vs.length := by have := HN.out; omega
     obtain ⟨bl, ol, hAe, hbl, -⟩ := hX.row.at_ (by omega) (by decide)
     have hrow := hX.row
     rw [hAe] at hrow q278
     have hrg := hrow.rangeE rvC_len i (by omega)
     have hum : E[i]'(by omega) ∈ E := List.getElem_mem _
     have hui : (E[i]'(by omega)).1 = C.vs[i]'hiv := by
      have h1 : (E.map (·.1))[i]? = some (E[i]'(by omega)).1 := by rw [List.getElem?_map, List.getElem?_eq_getElem (by omega)]; rfl
      rw [hX.vs, List.getElem?_eq_getElem hiv] at h1
      exact (Option.some.inj h1).symm
     have htk : vipsB (C.vs.take (i + 1)) = vipsB (C.vs.take i) ++ vipB (C.vs[i]'hiv) := by unfold vipsB; rw [List.take_succ_eq_append_getElem hiv, List.flatMap_append]; simp
     have hvo := HVS.out _ (List.getElem_mem hiv)
     rw [← hui] at htk hvo
     obtain ⟨u, hu⟩ : ∃ u, u = E[i]'(by omega) := ⟨_, rfl⟩
     rw [← hu] at hrg hum htk hvo
     have HSS := qy (fun W (h : Below V.heap.size V W) => (HXV.out W h).ss u hum)
     have HMM := qy (fun W (h : Below V.heap.size V W) => (HXV.out W h).mm u hum)
     obtain ⟨⟨⟨six, ah, al⟩, pt, pr, wy, ms, S⟩, MA, mn, mc, SB, sm, sd⟩ := u
     obtain ⟨had, hpt, hpr, hwy, hms, hst, -⟩ := hvo
     simp only [] at had hpt hpr hwy hms hst
     obtain ⟨wn, rfl⟩ : ∃ wn : Nat, wy = wn := ⟨wy.toNat, by omega⟩
     have HSB := qy (fun W (h : RSt G W S.lv SB sm sd) => refStkBytes_any S hst SB sm sd W h)
     have HPL := qy (fun W => place_rb six ah al W had.2.1 had.2.2)
     have hms64 := okM_len hms
     have hmn : mn ≤ 64 := by have h1 := (HMM.out wr hEV).1; rw [prs_length] at h1; simp only [] at h1; omega
     have HMB := qy (fun W (h : Rs 2 W MA mn mc (prs .i64 ms)) => refMembers_any ms MA mn mc W h hmn (okM_sh hms))
     have hstl := stkB_len hst
     have HTK := qy htk
     have hpr9 : pr < 256 := by omega
     clear hlE hAe hrow hum hui htk hu hst hms hpr hX
     go_upto_region 11 with (fail)
     refine wp_region_lit ?_
     iterate 4 (refine qw ?_)
     refine wpList_load_mid rfl 154 (.tmp 51) rfl bl (ol + i * 81) rfl (rvC ((⟨(six, ah, al), pt, pr, (wn : Int), ms, S⟩, ⟨MA, mn, mc, SB, sm, sd⟩) : Re)) _ hrg vr1 vr2 (szRv _) ?_
     refine qw ?_
     refine wpList_stA (t := 154) 154 (.tmp 6) (.tmp 52) rfl rfl (rvC ((⟨(six, ah, al), pt, pr, (wn : Int), ms, S⟩, ⟨MA, mn, mc, SB, sm, sd⟩) : Re)) (Tryz.zeroCells154).toList (by rw [rvC_len]; exact HV81.out.symm) (rvC_one _) rfl rfl (Bk.new _ _ _) (szRv _) ?_
     intro W7 h7 g7
     simp only [Act.put, qsT, qsZ, qsS]
     have hE7 : Below V.heap.size V W7 := (hEV.trans ((Below.allocS (Below.refl _ _) _).mono hEV.size)).trans (below_of_grown g7 (by have := hEV.size; simp; omega) (fun k hk => by injection hk with hk; have := hEV.size; omega))
     have hOw : Ob W7 w.heap.size Bq kk dk (B2 ++ vipsB (C.vs.take i)) := (hO.later (Below.allocS (Below.refl _ _) _)).grown g7 (fun k hk e => by have := (hO.blk k hk).2; injection e with e; omega)
     have hgvw : w.heap.size < wr.heap.size := by have := hEV.size; have := HBS.out.1.lt; omega
     clear hO g7 hEV hrg q278
     have hO := hOw
     clear hOw
     generalize wr.heap.size = gv at *
     go_upto_region 12 with (fail)
     refine wp_region_lit ?_
     refine qw ?_
     refine wpList_ldA (t := 154) (cs := rvC ((⟨(six, ah, al), pt, pr, (wn : Int), ms, S⟩, ⟨MA, mn, mc, SB, sm, sd⟩) : Re)) 152 (.tmp 53) rfl rfl (rstC SB sm sd S) rfl h7 (rvC_stk ((⟨(six, ah, al), pt, pr, (wn : Int), ms, S⟩, ⟨MA, mn, mc, SB, sm, sd⟩) : Re)) vt1 vt2 (szRst _ _ _ _) ?_
     refine wpq fun K hK => ?_
     go_simp
     refine (HSB.out _ (HSS.out _ hE7)).mono ?_
     rintro e w1 ⟨At, nt, ct, bs1, d1, rfl, rfl, hot⟩
     with_reducible refine hK _ _ ?_
     clear hK K
     have hb1 := below_plus W7 bs1 d1
     replace h7 := h7.later hb1
     replace hO := hO.later hb1
     have hE8 : Below V.heap.size V (plus W7 bs1 d1) := hE7.trans (hb1.mono hE7.size)
     have hot8 := hot.rb
     clear hb1 hE7 hot
     generalize plus W7 bs1 d1 = W8 at *
     refine qw ?_
     have hnt : nt = (stkB S).length := hot8.1.symm
     have hnt700 : nt ≤ 1000 := by omega
     obtain ⟨B3, hB3e⟩ : ∃ B, B = B2 ++ vipsB (C.vs.take i) := ⟨_, rfl⟩
     rw [← hB3e] at hO hB3 hkl
     have HT : Hid ((([B3, (placeB six ah al), (dig (pt) 2), [UInt8.ofNat (pr), UInt8.ofNat (wn)], (membersB ms), (dig (nt) 2), (stkB S)]).flatten).length ≤ 549755813888) := qy (by
      have := adrB_length six ah al
      simp [dig_length, placeB_len, membersB, pairsB_len]
      omega)
     have HE : Hid (([B3, (placeB six ah al), (dig (pt) 2), [UInt8.ofNat (pr), UInt8.ofNat (wn)], (membersB ms), (dig (nt) 2), (stkB S)]).flatten = B2 ++ vipsB (C.vs.take (i + 1))) := qy (by
      have d1 : ∀ x : Nat, dig x 1 = [UInt8.ofNat x] := fun x => by
       simp [dig]
       try (apply ofNat_eq; omega)
      rw [HTK.out, hB3e]
      simp [vipB, d1, hnt])
     have HW8 := qy hE8.size
     have hwW8 : w.heap.size ≤ W8.heap.size := by have := hE8.size; omega
     have hw0 : IntKind.u64.wrap (pt : Int) = (pt : Int) := IntWalk.u64_in _ (by omega)
     have hw1 : IntKind.u8.wrap (wn : Int) = (wn : Int) := IntWalk.u8_in _ (by omega)
     have hw2 : IntKind.u64.wrap (nt : Int) = (nt : Int) := IntWalk.u64_in _ (by omega)
     clear hB3e hnt
     go_upto_region 13 with (fail)
     refine wp_relS 25 81 rfl (by kernel_rfl) (by kernel_rfl) ?_
     refine qb 3 1 ?_
     refine qb 6 2 ?_
     apply qo (φ := (MP.eq (.agg (adC six ah al).toArray))) 3 rfl rfl
     ·intro FA x hO hD K hK
      obtain ⟨e57, ev57⟩ := qE (hD 1 57)
      clear hO hD
      refine wanted_if rfl ?_
      refine wp_ldA 53 (.tmp 57) rfl (adC six ah al) ev57.out (h7.later bpl) rfl va1 va2 (szAd _ _ _) ?_
      exact qk hK rfl
     apply qo (φ := (MP.rb (placeB six ah al))) 4 rfl rfl
     ·intro FA x hO hD K hK
      have e58 := qe (hD 2 58)
      clear hO hD
      go_simp
      refine (HPL.out _).mono ?_
      rintro e w1 ⟨A2, n2, c2, bs2, d2, rfl, rfl, hx2⟩
      exact hK.out _ _ (Ex.plus_ _ _ _) ⟨_, _, _, rfl, hx2⟩
     refine qb 6 5 ?_
     refine ql 4 60 6 54 h7 Tryz.underlying54 ?_
     refine qa 5 61 7 ?_
     apply qo (φ := (MP.rb (dig (pt) 2))) 8 rfl rfl
     ·intro FA x hO hD K hK
      have e62 := qe (hD 6 62)
      clear hO hD
      go_simp
      refine (refBytes_any (pt) 2 _ (by omega) (by omega)).mono ?_
      rintro e w1 ⟨A2, n2, c2, bs2, d2, rfl, rfl, ho2⟩
      exact hK.out _ _ (Ex.plus_ _ _ _) ⟨_, _, _, rfl, ho2.rb⟩
     refine qb 6 9 ?_
     refine ql 8 64 10 5 h7 Tryz.underlying5 ?_
     refine qb 6 11 ?_
     refine ql 10 66 12 3 h7 Tryz.underlying3 ?_
     refine qa 11 67 13 ?_
     apply qo (φ := (MP.rb [UInt8.ofNat (pr), UInt8.ofNat (wn)])) 14 rfl rfl
     ·intro FA x hO hD K hK
      have e65 := qe (hD 9 65)
      have e68 := qe (hD 12 68)
      clear hO hD
      go_simp
      refine hK.out _ _ (Ex.alloc _ _) ⟨_, _, _, rfl, ?_⟩
      refine Rb.litW _ [UInt8.ofNat (pr), UInt8.ofNat (wn)] ?_ rfl (by decide) ?_
      ·simp [size_plus]
      ·simp [bcs]; try omega
     refine qb 6 15 ?_
     refine ql 14 70 16 55 h7 Tryz.underlying55 ?_
     apply qo (φ := (MP.rb (membersB ms))) 17 rfl rfl
     ·intro FA x hO hD K hK
      have e71 := qe (hD 15 71)
      clear hO hD
      go_simp
      refine (HMB.out _ (HMM.out _ (hE8.trans (bpl.mono hE8.size)))).mono ?_
      rintro e w1 ⟨A2, n2, c2, bs2, d2, rfl, rfl, hx2⟩
      exact hK.out _ _ (Ex.plus_ _ _ _) ⟨_, _, _, rfl, hx2⟩
     refine qb 7 18 ?_
     refine qa 17 73 19 ?_
     refine qa 18 74 20 ?_
     apply qo (φ := (MP.rb (dig (nt) 2))) 21 rfl rfl
     ·intro FA x hO hD K hK
      have e75 := qe (hD 19 75)
      clear hO hD
      go_simp
      refine (refBytes_any (nt) 2 _ (by omega) (by omega)).mono ?_
      rintro e w1 ⟨A2, n2, c2, bs2, d2, rfl, rfl, ho2⟩
      exact hK.out _ _ (Ex.plus_ _ _ _) ⟨_, _, _, rfl, ho2.rb⟩
     refine qb 7 22 ?_
     apply qo (φ := (MP.rdl [B3, (placeB six ah al), (dig (pt) 2), [UInt8.ofNat (pr), UInt8.ofNat (wn)], (membersB ms), (dig (nt) 2), (stkB S)])) 23 rfl rfl
     ·intro FA x hO hD K hK
      have e56 := qe (hD 0 56)
      obtain ⟨u59, f59, e59, ev59⟩ := qG (hD 3 59)
      obtain ⟨u63, f63, e63, ev63⟩ := qG (hD 7 63)
      obtain ⟨u69, f69, e69, ev69⟩ := qG (hD 13 69)
      obtain ⟨u72, f72, e72, ev72⟩ := qG (hD 16 72)
      obtain ⟨u76, f76, e76, ev76⟩ := qG (hD 20 76)
      have e77 := qe (hD 21 77)
      clear hO hD
      obtain ⟨A59, n59, c59, rfl, h59⟩ := f59
      obtain ⟨A63, n63, c63, rfl, h63⟩ := f63
      obtain ⟨A69, n69, c69, rfl, h69⟩ := f69
      obtain ⟨A72, n72, c72, rfl, h72⟩ := f72
      obtain ⟨A76, n76, c76, rfl, h76⟩ := f76
      go_simp
      refine hK.out _ _ (Ex.alloc _ _) ⟨_, _, _, rfl, ?_⟩
      refine RdL.litW _ _ ?_ ?_
      ·simp [size_plus]
      ·exact .cons ⟨_, _, _, rfl, hO.rb.later bpl⟩ (.cons ⟨_, _, _, rfl, h59⟩ (.cons ⟨_, _, _, rfl, h63⟩ (.cons ⟨_, _, _, rfl, h69⟩ (.cons ⟨_, _, _, rfl, h72⟩ (.cons ⟨_, _, _, rfl, h76⟩ (.cons ⟨_, _, _, rfl, hot8.later bpl⟩ (.nil)))))))
     apply qo (φ := (MP.ob w.heap.size ([B3, (placeB six ah al), (dig (pt) 2), [UInt8.ofNat (pr), UInt8.ofNat (wn)], (membersB ms), (dig (nt) 2), (stkB S)]).flatten)) 24 rfl rfl
     ·intro FA x hO hD K hK
      obtain ⟨u78, f78, e78, ev78⟩ := qG (hD 22 78)
      clear hO hD
      obtain ⟨A1, m1, c1, rfl, hl1⟩ := f78
      have hm1 : m1 ≤ 100 := by obtain ⟨_, _, h2, _⟩ := hl1; simp only [List.length_cons, List.length_nil] at h2; omega
      go_simp
      refine (refJoin_any A1 m1 c1 _ _ hl1 (by omega) HT.out).mono ?_
      rintro e w1 ⟨A2, n2, c2, bs2, d2, rfl, rfl, ho2⟩
      exact hK.out _ _ (Ex.plus_ _ _ _) ⟨_, _, _, rfl, ho2.mono (by simp [size_plus]; omega)⟩
     apply qo (φ := (MP.ob w.heap.size ([B3, (placeB six ah al), (dig (pt) 2), [UInt8.ofNat (pr), UInt8.ofNat (wn)], (membersB ms), (dig (nt) 2), (stkB S)]).flatten)) 25 rfl rfl
     ·intro FA x hO hD K hK
      obtain ⟨u79, f79, e79, ev79⟩ := qG (hD 23 79)
      clear hO hD
      go_simp
      exact qk hK f79
     refine Steps.fin_ (fun vs x hp => ?_)
     have p3 := hp 3 qd
     have p7 := hp 7 qd
     have p13 := hp 13 qd
     have p16 := hp 16 qd
     have p20 := hp 20 qd
     have p22 := hp 22 qd
     have p23 := hp 23 qd
     have p24 := hp 24 qd
     simp only [qta, qtb, qda, qdb, putAll, Nat.zero_add, Nat.reduceAdd, Act.put, qsT, qsZ, qsS, qi (hp 0 qd), qi (hp 1 qd), qi (hp 2 qd), qi (hp 4 qd), qi (hp 5 qd), qi (hp 6 qd), qi (hp 8 qd), qi (hp 9 qd), qi (hp 10 qd), qi (hp 11 qd), qi (hp 12 qd), qi (hp 14 qd), qi (hp 15 qd), qi (hp 17 qd), qi (hp 18 qd), qi (hp 19 qd), qi (hp 21 qd)]
     clear hp
     generalize vs 3 = y3 at *
     generalize vs 7 = y7 at *
     generalize vs 13 = y13 at *
     generalize vs 16 = y16 at *
     generalize vs 20 = y20 at *
     generalize vs 22 = y22 at *
     generalize vs 23 = y23 at *
     generalize vs 24 = y24 at *
     clear vs
     obtain ⟨A9, n9, c9, rfl, h9⟩ := p24
     rw [HE.out] at h9
     have hE9 : Below V.heap.size V (plus W8 x.bs x.d) := hE8.trans (bpl.mono hE8.size)
     go_wp2
     exact ⟨⟨i + 1, A9, n9, c9, rfl, by go_num, by omega, h9, hE9⟩, by simp [intOf]; omega⟩
    ·have hi1 : ¬ (i : Int) < (n : Int) := by omega
     rw [List.take_of_length_le (by have := HN.out; omega)] at hO
     clear hi hil hB3 hkl
     go_wp2
     go_ret
     have hS : sttB C = B2 ++ vipsB C.vs := by unfold sttB; rw [HB2.out, HB0.out, ← HN.out]; simp only [List.append_assoc]
     rw [hS]
     exact RetB.mk hO (HBS.out.2.trans (hEV.mono hbs))
end

section
attribute [local go_sem ↓] sliced_cut
attribute [local go_sem] cutA_zero
open Go.RowKit
def rdC (As : Option Addr) (ns cs : Nat) (Al : Option Addr) (nl cl : Nat) (mo sy : Int) : List Value := [.slice As ns cs, .slice Al nl cl, .int .i64 mo, .int .i64 sy]
theorem rdC_one (As : Option Addr) (ns cs : Nat) (Al : Option Addr) (nl cl : Nat) (mo sy : Int) : ∀ u ∈ rdC As ns cs Al nl cl mo sy, u.oneCell' = true := by simp [rdC, Value.oneCell']
theorem szRdk (As : Option Addr) (ns cs : Nat) (Al : Option Addr) (nl cl : Nat) (mo sy : Int) : (Tryz.prog.info? 30).map (·.size) = some (rdC As ns cs Al nl cl mo sy).length := by kernel_rfl
theorem rowRdk : ∃ d, Tryz.prog.underlying 30 = some d ∧ d.isRow = true := ⟨_, Tryz.underlying30, rfl⟩
theorem refAll (As : Option Addr) (ns cs : Nat) (Al : Option Addr) (nl cl : Nat) (mo sy : Int) (ls ll : List UInt8) (w : World) (hs : Rb w As ns cs ls) (hl : Rb w Al nl cl ll) (h1 : ns ≤ 1000000) (h2 : nl ≤ 1000000) : Calls Tryz.prog 37 #[.agg (rdC As ns cs Al nl cl mo sy).toArray] w (RetB w (ls ++ ll)) := by
 obtain ⟨dvr1, vr1, vr2⟩ := rowRdk
 obtain ⟨bo, be, zV⟩ := box1 w 30 (rdC As ns cs Al nl cl mo sy)
 replace hs := (hs.alloc (.cells (rdC As ns cs Al nl cl mo sy).toArray 30))
 replace hl := (hl.alloc (.cells (rdC As ns cs Al nl cl mo sy).toArray 30))
 go_enter Tryz.func37, Tryz.ntmps37
 go_upto_region 1 with (fail)
 generalize w.alloc (.cells (rdC As ns cs Al nl cl mo sy).toArray 30) = V at *
 refine wp_relS 6 10 rfl (by kernel_rfl) (by kernel_rfl) ?_
 apply qo (φ := (MP.fullO V.heap.size [])) 1 rfl rfl
 ·intro FA x hO hD K hK
  clear hO hD
  go_simp
  exact hK.out _ _ (Ex.alloc _ _) ⟨_, _, rfl, Ob.of_bk (Bk.newK _ _ _ (by simp [size_plus]) rfl) (by simp [size_plus]) rfl (by simp [maxLen])⟩
 refine qb 1 2 ?_
 refine ql 1 4 3 28 bo Tryz.underlying28 ?_
 apply qo (φ := (MP.ob V.heap.size ([] ++ ls))) 4 rfl rfl
 ·intro FA x hO hD K hK
  obtain ⟨u3, f3, e3, ev3⟩ := qG (hD 0 3)
  obtain ⟨e5, ev5⟩ := qE (hD 2 5)
  clear hO hD
  obtain ⟨A1, n1, rfl, ho1⟩ := f3
  refine wanted_if rfl ?_
  refine rel_appO bt (.tmp 3) (.tmp 5) V.heap.size rfl ev3.out ho1 (by simp [size_plus]) ev5.out (hs.later bpl) (by have h1 := ho1.rb.1; simp at h1; omega) ?_
  intro A' n' c' w' hex ho
  exact hK.out _ _ hex ⟨_, _, _, rfl, ho⟩
 refine qb 1 5 ?_
 refine ql 4 7 6 28 bo Tryz.underlying28 ?_
 refine Steps.fin_ (fun vs x hp => ?_)
 have p0 := hp 0 qd
 have p3 := hp 3 qd
 simp only [qta, qtb, qda, qdb, putAll, Nat.zero_add, Nat.reduceAdd, Act.put, qsT, qsZ, qsS, qi (hp 1 qd), qi (hp 2 qd), qi (hp 4 qd), qi (hp 5 qd)]
 clear hp
 generalize vs 0 = y0 at *
 generalize vs 3 = y3 at *
 clear vs
 obtain ⟨A3, n3, c3, rfl, ho3⟩ := p3
 have b1 := below_plus V x.bs x.d
 clear p0
 generalize plus V x.bs x.d = W at *
 refine wpList_app bt rfl (.tmp 6) (.tmp 8) rfl rfl ho3 rfl (hl.later b1) (by have h1 := ho3.rb.1; have := hs.1; simp at h1; omega) b1.size ?_
 intro A7 n7 c7 W7 ho7 hb7 hg7
 refine qw ?_
 go_wp2
 go_ret
 exact RetB.mk (ho7.mono be.size) ((be.trans (b1.mono be.size)).trans (hb7.mono be.size))
def RetDsk (w : World) (As : Option Addr) (ns cs nl m : Nat) (mo sy : Int) (l : List UInt8) (e : Ending) (w' : World) : Prop := ∃ A c, e = .returned (.tuple #[.agg (rdC As ns cs A (nl + m) c mo sy).toArray, .int .i64 0]) ∧ Ob w' w.heap.size A (nl + m) c l ∧ Below w.heap.size w w'
theorem refDApp_full (As : Option Addr) (ns cs : Nat) (Al : Option Addr) (nl cl : Nat) (mo sy : Int) (Ab : Option Addr) (m cb : Nat) (w : World) (h1 : ns ≤ 1000000) (h2 : nl ≤ 1000000) (h3 : m ≤ 1000000) (hf : mo < (ns : Int) + (nl : Int) + (m : Int)) : Calls Tryz.prog 47 #[.agg (rdC As ns cs Al nl cl mo sy).toArray, .slice Ab m cb] w (RetV w (.tuple #[.agg (rdC As ns cs Al nl cl mo sy).toArray, .int .i64 23])) := by
 have w1 : IntKind.i64.wrap ((ns : Int) + (nl : Int)) = (ns : Int) + (nl : Int) := IntWalk.i64_in _ (by omega)
 have w2 : IntKind.i64.wrap ((ns : Int) + (nl : Int) + (m : Int)) = (ns : Int) + (nl : Int) + (m : Int) := IntWalk.i64_in _ (by omega)
 obtain ⟨dvr1, vr1, vr2⟩ := rowRdk
 obtain ⟨bo, bz, be, zV⟩ := box2 w 30 30 (rdC As ns cs Al nl cl mo sy) ([.slice none 0 0, .slice none 0 0, .int .i64 0, .int .i64 0])
 go_enter Tryz.func47, Tryz.ntmps47
 go_upto_region 1 with (fail)
 generalize (w.alloc (.cells (rdC As ns cs Al nl cl mo sy).toArray 30)).alloc (.cells ([.slice none 0 0, .slice none 0 0, .int .i64 0, .int .i64 0]).toArray 30) = V at *
 replace bz : Bk V (w.heap.size + 1) 30 (rdC none 0 0 none 0 0 0 0) := bz
 refine wp_region_lit ?_
 refine qw ?_
 refine qL 28 (.tmp 6) bo Tryz.underlying28 ?_
 iterate 2 (refine qw ?_)
 refine qL 28 (.tmp 9) bo Tryz.underlying28 ?_
 iterate 6 (refine qw ?_)
 refine qL 3 (.tmp 16) bo Tryz.underlying3 ?_
 refine qw ?_
 go_upto_region 2 with (fail)
 refine wp_region_lit ?_
 refine qA 30 (.tmp 2) bo vr1 vr2 (szRdk _ _ _ _ _ _ _ _) ?_
 simp only [Act.put, qsT, qsZ, qsS]
 refine wpList_stA (t := 30) 30 (.tmp 4) (.tmp 19) rfl rfl (rdC As ns cs Al nl cl mo sy) (rdC none 0 0 none 0 0 0 0) rfl (rdC_one _ _ _ _ _ _ _ _) rfl rfl bz (szRdk _ _ _ _ _ _ _ _) ?_
 intro W9 h9 g9
 refine qw ?_
 go_wp2
 refine bodyPost_agg2 Tryz.results47 rfl rfl h9.range vr1 vr2 (szRdk _ _ _ _ _ _ _ _) rfl ?_
 exact RetV.is_ rfl (below_grown be g9 (by omega))
theorem refDApp_ok (As : Option Addr) (ns cs : Nat) (Al : Option Addr) (nl cl : Nat) (mo sy : Int) (Ab : Option Addr) (m cb : Nat) (ll lb : List UInt8) (w : World) (hl : Rb w Al nl cl ll) (hb : Rb w Ab m cb lb) (h1 : ns ≤ 1000000) (h2 : nl ≤ 1000000) (h3 : m ≤ 1000000) (hf : ¬ mo < (ns : Int) + (nl : Int) + (m : Int)) : Calls Tryz.prog 47 #[.agg (rdC As ns cs Al nl cl mo sy).toArray, .slice Ab m cb] w (RetDsk w As ns cs nl m mo sy (ll ++ lb)) := by
 have w1 : IntKind.i64.wrap ((ns : Int) + (nl : Int)) = (ns : Int) + (nl : Int) := IntWalk.i64_in _ (by omega)
 have w2 : IntKind.i64.wrap ((ns : Int) + (nl : Int) + (m : Int)) = (ns : Int) + (nl : Int) + (m : Int) := IntWalk.i64_in _ (by omega)
 obtain ⟨dvr1, vr1, vr2⟩ := rowRdk
 obtain ⟨bo, bz, be, zV⟩ := box2 w 30 30 (rdC As ns cs Al nl cl mo sy) ([.slice none 0 0, .slice none 0 0, .int .i64 0, .int .i64 0])
 replace hl := ((hl.alloc (.cells (rdC As ns cs Al nl cl mo sy).toArray 30)).alloc (.cells ([.slice none 0 0, .slice none 0 0, .int .i64 0, .int .i64 0]).toArray 30))
 replace hb := ((hb.alloc (.cells (rdC As ns cs Al nl cl mo sy).toArray 30)).alloc (.cells ([.slice none 0 0, .slice none 0 0, .int .i64 0, .int .i64 0]).toArray 30))
 go_enter Tryz.func47, Tryz.ntmps47
 go_upto_region 1 with (fail)
 generalize (w.alloc (.cells (rdC As ns cs Al nl cl mo sy).toArray 30)).alloc (.cells ([.slice none 0 0, .slice none 0 0, .int .i64 0, .int .i64 0]).toArray 30) = V at *
 replace bz : Bk V (w.heap.size + 1) 30 (rdC none 0 0 none 0 0 0 0) := bz
 refine wp_region_lit ?_
 refine qw ?_
 refine qL 28 (.tmp 6) bo Tryz.underlying28 ?_
 iterate 2 (refine qw ?_)
 refine qL 28 (.tmp 9) bo Tryz.underlying28 ?_
 iterate 6 (refine qw ?_)
 refine qL 3 (.tmp 16) bo Tryz.underlying3 ?_
 refine qw ?_
 go_upto_region 3 with (fail)
 refine wp_region_lit ?_
 refine qw ?_
 have ho0 : Ob (V.alloc (.cells #[] 5)) V.heap.size (some ⟨V.heap.size, 0, none⟩) 0 0 [] := Ob.lit V (Nat.le_refl _) #[] [] 0 rfl (Nat.zero_le _) rfl
 have b1 := Below.allocS (Below.refl V.heap.size V) (.cells #[] 5)
 have bo1 := bo.later b1
 have z1 := b1.size
 generalize V.alloc (.cells #[] 5) = W1 at *
 refine qw ?_
 refine qL 28 (.tmp 21) bo1 Tryz.underlying28 ?_
 simp only [Act.put, qsT, qsZ, qsS]
 refine wpList_app bt rfl (.tmp 20) (.tmp 22) rfl rfl ho0 rfl (hl.later b1) (by omega) z1 ?_
 intro A2 n2 c2 W2 ho2 hb2 hg2
 obtain rfl : n2 = nl := by rw [← ho2.1]; simpa using hl.1
 have b12 := b1.trans hb2
 refine qw ?_
 refine wpList_app bt rfl (.tmp 23) (.tmp 24) rfl rfl ho2 rfl (hb.later b12) (by omega) (Nat.le_trans z1 hb2.size) ?_
 intro A3 n3 c3 W3 ho3 hb3 hg3
 obtain rfl : n3 = n2 + m := by rw [← ho3.1, List.length_append, hb.1]; simpa using hl.1
 have b13 := b12.trans hb3
 have bo3 := bo.later b13
 have bz3 := bz.later b13
 refine qw ?_
 refine wpList_st1 (v := .slice A3 (n2 + m) c3) (t := 30) (cs := rdC As ns cs Al n2 cl mo sy) (off := 1) 28 (.tmp 26) (.tmp 25) rfl rfl rfl rfl bo3 (Nat.le_of_ble_eq_true rfl) rfl (by kernel_rfl) ?_
 intro W4 h4 g4
 simp only [Act.put, qsT, qsZ, qsS]
 have bz4 := bz3.grown g4 (fun e => by injection e with e; omega)
 have ho4 := (ho3.grown g4 (fun k hk e => by have := (ho3.blk k hk).1; injection e with e; omega))
 have be4 := below_grown (be.trans (b13.mono be.size)) g4 (Nat.le_refl _)
 replace h4 : Bk W4 w.heap.size 30 (rdC As ns cs A3 (n2 + m) c3 mo sy) := h4
 go_upto_region 4 with (fail)
 refine wp_region_lit ?_
 refine qA 30 (.tmp 2) h4 vr1 vr2 (szRdk _ _ _ _ _ _ _ _) ?_
 simp only [Act.put, qsT, qsZ, qsS]
 refine wpList_stA (t := 30) 30 (.tmp 4) (.tmp 27) rfl rfl (rdC As ns cs A3 (n2 + m) c3 mo sy) (rdC none 0 0 none 0 0 0 0) rfl (rdC_one _ _ _ _ _ _ _ _) rfl rfl bz4 (szRdk _ _ _ _ _ _ _ _) ?_
 intro W9 h9 g9
 refine qw ?_
 have ho9 := (ho4.grown g9 (fun k hk e => by have := (ho4.blk k hk).1; injection e with e; omega))
 go_wp2
 refine bodyPost_agg2 Tryz.results47 rfl rfl h9.range vr1 vr2 (szRdk _ _ _ _ _ _ _ _) rfl ?_
 exact ⟨A3, c3, rfl, by simpa using ho9.mono (show w.heap.size ≤ V.heap.size by omega), below_grown be4 g9 (by omega)⟩
theorem run_bRd (A : Option Addr) (n c : Nat) (mo sy : Int) (w : World) : (Instr.build 30 #[(0, .slice A n c), (1, .slice none 0 0), (2, .int .i64 mo), (3, .int .i64 sy)]).run Tryz.prog w = .ok (.agg (rdC A n c none 0 0 mo sy).toArray) w := by kernel_rfl
def MP.rdk (B : Nat) (l : List UInt8) (mo sy : Int) : MP := ⟨fun v w => ∃ A n c, v = .agg (rdC A n c none 0 0 mo sy).toArray ∧ Ob w B A n c l, fun _ _ _ ⟨A, n, c, h1, h2⟩ h => ⟨A, n, c, h1, h2.later h.below⟩⟩
def MP.rb0 (B : Nat) : MP := ⟨fun v w => ∃ A c, v = .slice A 0 c ∧ Ob w B A 0 c [], fun _ _ _ ⟨A, c, h1, h2⟩ h => ⟨A, c, h1, h2.later h.below⟩⟩
def MP.rdk0 (B : Nat) (mo sy : Int) : MP := ⟨fun v w => ∃ A c, v = .agg (rdC A 0 c none 0 0 mo sy).toArray ∧ Ob w B A 0 c [], fun _ _ _ ⟨A, c, h1, h2⟩ h => ⟨A, c, h1, h2.later h.below⟩⟩
def RetDy (w : World) (mo sy : Int) (l : List UInt8) (e : Ending) (w' : World) : Prop := ∃ A n c, e = .returned (.agg (rdC A n c none 0 0 mo sy).toArray) ∧ Ob w' w.heap.size A n c l ∧ Below w.heap.size w w'
theorem refDSync (As : Option Addr) (ns cs : Nat) (Al : Option Addr) (nl cl : Nat) (mo sy : Int) (ls ll : List UInt8) (w : World) (hs : Rb w As ns cs ls) (hl : Rb w Al nl cl ll) (h1 : ns ≤ 1000000) (h2 : nl ≤ 1000000) (hsy : 0 ≤ sy ∧ sy ≤ 1000000) : Calls Tryz.prog 50 #[.agg (rdC As ns cs Al nl cl mo sy).toArray] w (RetDy w mo (sy + 1) (ls ++ ll)) := by
 have hw : IntKind.i64.wrap (sy + 1) = sy + 1 := IntWalk.i64_in _ (by omega)
 obtain ⟨dvr1, vr1, vr2⟩ := rowRdk
 obtain ⟨bo, bz, be, zV⟩ := box2 w 30 30 (rdC As ns cs Al nl cl mo sy) ([.slice none 0 0, .slice none 0 0, .int .i64 0, .int .i64 0])
 replace hs := ((hs.alloc (.cells (rdC As ns cs Al nl cl mo sy).toArray 30)).alloc (.cells ([.slice none 0 0, .slice none 0 0, .int .i64 0, .int .i64 0]).toArray 30))
 replace hl := ((hl.alloc (.cells (rdC As ns cs Al nl cl mo sy).toArray 30)).alloc (.cells ([.slice none 0 0, .slice none 0 0, .int .i64 0, .int .i64 0]).toArray 30))
 go_enter Tryz.func50, Tryz.ntmps50
 go_upto_region 1 with (fail)
 generalize (w.alloc (.cells (rdC As ns cs Al nl cl mo sy).toArray 30)).alloc (.cells ([.slice none 0 0, .slice none 0 0, .int .i64 0, .int .i64 0]).toArray 30) = V at *
 replace bz : Bk V (w.heap.size + 1) 30 (rdC none 0 0 none 0 0 0 0) := bz
 refine wp_relS 8 11 rfl (by kernel_rfl) (by kernel_rfl) ?_
 apply qm 1 rfl rfl
 ·intro FA x hO hD K hK
  have e1 := hO 1
  simp only [eval_tmp, qgT, qgS, qgZ, qoS] at e1
  have ev1 := qy ((eval_tmp FA 1).trans e1)
  clear hO hD
  refine wanted_if rfl ?_
  refine wp_ldA 30 (.tmp 1) rfl (rdC As ns cs Al nl cl mo sy) ev1.out (bo.later bpl) (whole_ _) vr1 vr2 (szRdk _ _ _ _ _ _ _ _) ?_
  exact qk hK rfl
 apply qo (φ := (MP.ob V.heap.size (ls ++ ll))) 2 rfl rfl
 ·intro FA x hO hD K hK
  have e3 := qe (hD 0 3)
  clear hO hD
  go_simp
  refine (refAll As ns cs Al nl cl mo sy ls ll _ (hs.later bpl) (hl.later bpl) h1 h2).mono ?_
  rintro e9 w9 ⟨A9, n9, c9, bs9, d9, rfl, rfl, o9⟩
  exact hK.out _ _ (Ex.plus_ _ _ _) ⟨_, _, _, rfl, o9.mono (below_plus V x.bs x.d).size⟩
 refine qb 1 3 ?_
 refine ql 2 5 4 3 bo Tryz.underlying3 ?_
 refine qb 1 5 ?_
 refine ql 4 7 6 3 bo Tryz.underlying3 ?_
 refine qa 5 8 7 ?_
 apply qo (φ := (MP.rdk V.heap.size (ls ++ ll) mo (sy + 1))) 8 rfl rfl
 ·intro FA x hO hD K hK
  obtain ⟨u4, f4, e4, ev4⟩ := qG (hD 1 4)
  obtain ⟨e6, ev6⟩ := qE (hD 3 6)
  obtain ⟨e9, ev9⟩ := qE (hD 6 9)
  clear hO hD
  obtain ⟨A9, n9, c9, rfl, o9⟩ := f4
  refine wanted_if rfl ?_
  refine wp_buildV 30 [(0, .tmp 4), (1, .const (.slice none 0 0)), (2, .tmp 6), (3, .tmp 9)] rfl (.agg (rdC A9 n9 c9 none 0 0 mo (sy + 1)).toArray) (by simp only [List.map_cons, List.map_nil, ev4.out, ev6.out, ev9.out]; exact run_bRd _ _ _ _ _ _) ?_
  exact qk hK ⟨_, _, _, rfl, o9⟩
 refine Steps.fin_ (fun vs x hp => ?_)
 have p1 := hp 1 qd
 have p7 := hp 7 qd
 simp only [qta, qtb, qda, qdb, putAll, Nat.zero_add, Nat.reduceAdd, Act.put, qsT, qsZ, qsS, qi (hp 0 qd), qi (hp 2 qd), qi (hp 3 qd), qi (hp 4 qd), qi (hp 5 qd), qi (hp 6 qd)]
 clear hp
 generalize vs 1 = y1 at *
 generalize vs 7 = y7 at *
 clear vs
 obtain ⟨A9, n9, c9, rfl, o9⟩ := p7
 have b1 := below_plus V x.bs x.d
 have bz1 := bz.later b1
 have be1 := be.trans (b1.mono be.size)
 clear p1
 generalize plus V x.bs x.d = W1 at *
 refine wpList_stA (t := 30) 30 (.tmp 2) (.tmp 10) rfl rfl (rdC A9 n9 c9 none 0 0 mo (sy + 1)) (rdC none 0 0 none 0 0 0 0) rfl (rdC_one _ _ _ _ _ _ _ _) rfl rfl bz1 (szRdk _ _ _ _ _ _ _ _) ?_
 intro W9 h9 g9
 simp only [Act.put, qsT, qsZ, qsS]
 have o99 := o9.grown g9 (fun k hk e9 => by have := (o9.blk k hk).1; injection e9 with e9; omega)
 go_wp2
 refine bodyPost_agg Tryz.results50 rfl h9.range vr1 vr2 (szRdk _ _ _ _ _ _ _ _) rfl ?_
 exact ⟨A9, n9, c9, rfl, o99.mono (show w.heap.size ≤ V.heap.size by omega), below_grown be1 g9 (by omega)⟩
def RetDc (w : World) (mo sy : Int) (e : Ending) (w' : World) : Prop := ∃ A c, e = .returned (.tuple #[.agg (rdC A 0 c none 0 0 mo sy).toArray, .int .i64 0]) ∧ Ob w' w.heap.size A 0 c [] ∧ Below w.heap.size w w'
theorem refDCut0 (mo sy : Int) (w : World) : Calls Tryz.prog 38 #[.agg (rdC none 0 0 none 0 0 mo sy).toArray, .int .i64 0] w (RetDc w mo sy) := by
 obtain ⟨dvr1, vr1, vr2⟩ := rowRdk
 obtain ⟨bo, bz, be, zV⟩ := box2 w 30 30 (rdC none 0 0 none 0 0 mo sy) ([.slice none 0 0, .slice none 0 0, .int .i64 0, .int .i64 0])
 go_enter Tryz.func38, Tryz.ntmps38
 go_upto_region 1 with (fail)
 generalize (w.alloc (.cells (rdC none 0 0 none 0 0 mo sy).toArray 30)).alloc (.cells ([.slice none 0 0, .slice none 0 0, .int .i64 0, .int .i64 0]).toArray 30) = V at *
 replace bz : Bk V (w.heap.size + 1) 30 (rdC none 0 0 none 0 0 0 0) := bz
 refine wp_region_lit ?_
 iterate 3 (refine qw ?_)
 refine wpList_step (fun K hK => ?_); go_simp; with_reducible refine hK _ _ ?_; clear hK K
 refine wpList_ldG (t := 30) 30 (.tmp 2) rfl (by go_simp) (rdC none 0 0 none 0 0 mo sy) rfl (bo) (whole_ _) vr1 vr2 (szRdk _ _ _ _ _ _ _ _) ?_
 refine wpList_step (fun K hK => ?_)
 go_simp
 refine (refAll none 0 0 none 0 0 mo sy [] [] _ Rb.nil_ Rb.nil_ (by decide) (by decide)).mono ?_
 rintro e w1 ⟨A5, n5, c5, bs5, d5, rfl, rfl, o5⟩
 with_reducible refine hK _ _ ?_
 clear hK K
 obtain rfl : n5 = 0 := by rw [← o5.1]; rfl
 have b5 := below_plus V bs5 d5
 replace bo := bo.later b5
 replace bz := bz.later b5
 have be5 := be.trans (b5.mono be.size)
 generalize plus V bs5 d5 = W5 at *
 iterate 2 (refine wpList_step (fun K hK => ?_); go_simp; with_reducible refine hK _ _ ?_; clear hK K)
 refine qw ?_
 go_upto_region 3 with (fail)
 refine wp_relS 9 25 rfl (by kernel_rfl) (by kernel_rfl) ?_
 apply qm 1 rfl rfl
 ·intro FA x hO hD K hK
  have e2 := hO 2
  simp only [eval_tmp, qgT, qgS, qgZ, qoS] at e2
  have ev2 := qy ((eval_tmp FA 2).trans e2)
  clear hO hD
  refine wanted_if rfl ?_
  refine wp_ldA 30 (.tmp 2) rfl (rdC none 0 0 none 0 0 mo sy) ev2.out (bo.later bpl) (whole_ _) vr1 vr2 (szRdk _ _ _ _ _ _ _ _) ?_
  exact qk hK rfl
 apply qo (φ := (MP.rb0 W5.heap.size)) 2 rfl rfl
 ·intro FA x hO hD K hK
  have e16 := qe (hD 0 16)
  clear hO hD
  go_simp
  refine (refAll none 0 0 none 0 0 mo sy [] [] _ Rb.nil_ Rb.nil_ (by decide) (by decide)).mono ?_
  rintro e9 w9 ⟨A9, n9, c9, bs9, d9, rfl, rfl, o9⟩
  obtain rfl : n9 = 0 := by rw [← o9.1]; rfl
  exact hK.out _ _ (Ex.plus_ _ _ _) ⟨_, _, rfl, o9.mono (below_plus W5 x.bs x.d).size⟩
 refine qb 1 3 ?_
 apply qo (φ := (MP.rb0 W5.heap.size)) 4 rfl rfl
 ·intro FA x hO hD K hK
  obtain ⟨u17, f17, e17, ev17⟩ := qG (hD 1 17)
  have e18 := qe (hD 2 18)
  clear hO hD
  obtain ⟨A9, c9, rfl, o9⟩ := f17
  have hc9 := o9.rb.2.1
  go_simp
  exact qk hK ⟨_, _, rfl, o9⟩
 refine qb 2 5 ?_
 refine ql 4 20 6 3 bo Tryz.underlying3 ?_
 refine qb 2 7 ?_
 refine ql 6 22 8 3 bo Tryz.underlying3 ?_
 apply qo (φ := (MP.rdk0 W5.heap.size mo sy)) 9 rfl rfl
 ·intro FA x hO hD K hK
  obtain ⟨u19, f19, e19, ev19⟩ := qG (hD 3 19)
  obtain ⟨e21, ev21⟩ := qE (hD 5 21)
  obtain ⟨e23, ev23⟩ := qE (hD 7 23)
  clear hO hD
  obtain ⟨A9, c9, rfl, o9⟩ := f19
  refine wanted_if rfl ?_
  refine wp_buildV 30 [(0, .tmp 19), (1, .const (.slice none 0 0)), (2, .tmp 21), (3, .tmp 23)] rfl (.agg (rdC A9 0 c9 none 0 0 mo sy).toArray) (by simp only [List.map_cons, List.map_nil, ev19.out, ev21.out, ev23.out]; exact run_bRd _ _ _ _ _ _) ?_
  exact qk hK ⟨_, _, rfl, o9⟩
 refine Steps.fin_ (fun vs x hp => ?_)
 have p1 := hp 1 qd
 have p3 := hp 3 qd
 have p8 := hp 8 qd
 simp only [qta, qtb, qda, qdb, putAll, Nat.zero_add, Nat.reduceAdd, Act.put, qsT, qsZ, qsS, qi (hp 0 qd), qi (hp 2 qd), qi (hp 4 qd), qi (hp 5 qd), qi (hp 6 qd), qi (hp 7 qd)]
 clear hp
 generalize vs 1 = y1 at *
 generalize vs 3 = y3 at *
 generalize vs 8 = y8 at *
 clear vs
 obtain ⟨A9, c9, rfl, o9⟩ := p8
 have b1 := below_plus W5 x.bs x.d
 have bz1 := bz.later b1
 have be1 := be5.trans (b1.mono be5.size)
 have z5 := Nat.le_trans zV b5.size
 clear p1 p3
 generalize plus W5 x.bs x.d = W1 at *
 refine wpList_stA (t := 30) 30 (.tmp 4) (.tmp 24) rfl rfl (rdC A9 0 c9 none 0 0 mo sy) (rdC none 0 0 none 0 0 0 0) rfl (rdC_one _ _ _ _ _ _ _ _) rfl rfl bz1 (szRdk _ _ _ _ _ _ _ _) ?_
 intro W9 h9 g9
 refine qw ?_
 have o99 := o9.grown g9 (fun k hk e9 => by have := (o9.blk k hk).1; injection e9 with e9; omega)
 go_wp2
 refine bodyPost_agg2 Tryz.results38 rfl rfl h9.range vr1 vr2 (szRdk _ _ _ _ _ _ _ _) rfl ?_
 exact ⟨A9, c9, rfl, o99.mono (by omega), below_grown be1 g9 (by omega)⟩
theorem refCrc (A : Option Addr) (n c : Nat) (l : List UInt8) (w : World) (h : Rb w A n c l) (hn : n ≤ 1000000) : Calls Tryz.prog 92 #[.slice A n c] w (RetZ w) := by
 have hl := h.1
 go_enter Tryz.func92, Tryz.ntmps92
 go_upto_region 3 with (fail)
 go_loop [4, 3] (fun I C => ∃ (i : Nat) (z : Int), I = .int .i64 (i : Int) ∧ i ≤ n ∧ C = .int .u32 z ∧ 0 ≤ z ∧ z ≤ 4294967295) (fun I _ => n - (intOf I).toNat)
 case atStart => exact ⟨0, _, rfl, by omega, rfl, by omega, by omega⟩
 case round =>
  obtain ⟨i, z, rfl, hi, rfl, hz0, hz1⟩ := hrel
  by_cases hli : i < n
  ·have ii : (i : Int) < (n : Int) := by omega
   have hil : i < l.length := by omega
   obtain ⟨bb, ob, rfl, _, hcb⟩ := h.2.2.at_ (by rw [bcs_length]; omega)
   have qb := hcb i _ (bcs_get l i hil)
   generalize l[i] = x at *
   have hx := x.toNat_lt
   have hw8 : IntKind.u32.wrap (x.toNat : Int) = (x.toNat : Int) := IntWalk.u32_in _ (by omega)
   go_upto_region 7 with (fail)
   go_loop [5, 3] (fun K C => ∃ (k : Nat) (z : Int), K = .int .i64 (k : Int) ∧ k ≤ 8 ∧ C = .int .u32 z ∧ 0 ≤ z ∧ z ≤ 4294967295) (fun K _ => 8 - (intOf K).toNat)
   case atStart => exact ⟨0, _, rfl, by omega, rfl, bits_lo_u32 _ _ _, bits_hi_u32 _ _ _⟩
   case round =>
    clear hz0 hz1
    obtain ⟨k, z, rfl, hk, rfl, hz0, hz1⟩ := hrel
    by_cases hlk : k < 8
    ·have ik : (k : Int) < 8 := by omega
     go_wp2
     ·exact ⟨⟨k + 1, _, by go_num, by omega, rfl, bits_lo_u32 _ _ _, bits_hi_u32 _ _ _⟩, by simp [intOf]; omega⟩
     ·exact ⟨⟨k + 1, _, by go_num, by omega, rfl, by omega, by omega⟩, by simp [intOf]; omega⟩
    ·have ik : ¬ (k : Int) < 8 := by omega
     go_wp2
     exact ⟨⟨i + 1, z, by go_num, by omega, rfl, hz0, hz1⟩, by simp [intOf]; omega⟩
  ·have ii : ¬ (i : Int) < (n : Int) := by omega
   go_wp2
   go_ret
   obtain ⟨zz, hzz⟩ := Int.eq_ofNat_of_zero_le (bits_lo_u32 .xor IntKind.u32.max z)
   have hz9 := bits_hi_u32 .xor IntKind.u32.max z
   exact ⟨zz, by omega, RetV.is_ (by simp [hzz]) (Below.refl _ _)⟩
theorem refFrame (num : Nat) (hnum : num < 18446744073709551616) (A : Option Addr) (n c : Nat) (l : List UInt8) (w : World) (hb : Rb w A n c l) (hn : n ≤ 4096) : Calls Tryz.prog 48 #[.int .u64 (num : Int), .slice A n c] w (RetFr w n) := by
 have hwn : IntKind.u64.wrap (n : Int) = (n : Int) := IntWalk.u64_in _ (by omega)
 go_enter Tryz.func48, Tryz.ntmps48
 go_upto_region 1 with (fail)
 refine wp_region_lit ?_
 refine qw ?_
 refine wpq fun K hK => ?_
 go_simp
 refine (refBytes_any num 8 _ hnum (by decide)).mono ?_
 rintro e w1 ⟨A5, n5, c5, bs5, d5, rfl, rfl, o5⟩
 with_reducible refine hK _ _ ?_
 clear hK K
 obtain rfl : n5 = 8 := by rw [← o5.1]; simp [dig_length]
 have be1 := below_plus w bs5 d5
 generalize plus w bs5 d5 = W1 at *
 iterate 3 (refine qw ?_)
 refine wpq fun K hK => ?_
 go_simp
 refine (refBytes_any n 2 _ (by omega) (by decide)).mono ?_
 rintro e w1 ⟨A6, n6, c6, bs6, d6, rfl, rfl, o6⟩
 with_reducible refine hK _ _ ?_
 clear hK K
 obtain rfl : n6 = 2 := by rw [← o6.1]; simp [dig_length]
 have o52 := o5.later (below_plus W1 bs6 d6)
 have be2 := be1.trans ((below_plus W1 bs6 d6).mono be1.size)
 generalize plus W1 bs6 d6 = W2 at *
 refine wpList_app bt rfl (.tmp 8) (.tmp 12) rfl rfl o52 rfl o6.rb (by omega) be2.size ?_
 intro A7 n7 c7 W3 o7 b7 g7
 obtain rfl : n7 = 10 := by rw [← o7.1]; simp [dig_length]
 have be3 := be2.trans b7
 refine qw ?_
 obtain ⟨f10, hf10⟩ : ∃ f, dig num 8 ++ dig n 2 = f := ⟨_, rfl⟩
 rw [hf10] at o7
 have hfl : f10.length = 10 := o7.1
 clear hf10 o5 o52 o6
 go_upto_region 2 with (fail)
 refine wp_region_lit ?_
 refine qw ?_
 have o0 : Ob (W3.alloc (.cells #[] 5)) W3.heap.size (some ⟨W3.heap.size, 0, none⟩) 0 0 [] := Ob.lit W3 (Nat.le_refl _) #[] [] 0 rfl (Nat.zero_le _) rfl
 have b4 := Below.allocS (Below.refl W3.heap.size W3) (.cells #[] 5)
 have z4 := b4.size
 generalize W3.alloc (.cells #[] 5) = W4 at *
 refine qw ?_
 refine wpList_app bt rfl (.tmp 14) (.tmp 15) rfl rfl o0 rfl (o7.rb.later b4) (by omega) z4 ?_
 intro A8 n8 c8 W5 o8 b8 g8
 have b5 := b4.trans b8
 obtain rfl : n8 = 10 := by rw [← o8.1, List.length_append, o7.1]; rfl
 refine qw ?_
 refine wpList_app bt rfl (.tmp 16) (.tmp 17) rfl rfl o8 rfl (hb.later (be3.trans (b5.mono be3.size))) (by omega) (Nat.le_trans z4 b8.size) ?_
 intro A9 n9 c9 W6 o9 b9 g9
 have b6 := b5.trans b9
 have hn9 : n9 ≤ 5000 := by rw [← o9.1, List.length_append, hb.1, o8.1]; omega
 refine wpq fun K hK => ?_
 go_simp
 refine (refCrc A9 n9 c9 _ _ o9.rb (by omega)).mono ?_
 rintro e w1 ⟨z, hz, bs1, d1, rfl, rfl⟩
 with_reducible refine hK _ _ ?_
 clear hK K
 have b61 := b6.trans ((below_plus W6 bs1 d1).mono b6.size)
 generalize plus W6 bs1 d1 = W7 at *
 refine qw ?_
 have hwz : IntKind.u64.wrap (z : Int) = (z : Int) := IntWalk.u64_in _ (by omega)
 have be7 := be3.trans (b61.mono be3.size)
 have hb7 := hb.later be7
 go_upto_region 3 with (fail)
 refine wp_region_lit ?_
 iterate 3 (refine qw ?_)
 refine wpq fun K hK => ?_
 go_simp
 refine (refBytes_any z 4 _ (by omega) (by decide)).mono ?_
 rintro e w1 ⟨A4, n4, c4, bs4, d4, rfl, rfl, o4⟩
 with_reducible refine hK _ _ ?_
 clear hK K
 obtain rfl : n4 = 4 := by rw [← o4.1]; simp [dig_length]
 have b8' := below_plus W7 bs4 d4
 have be8 := be7.trans (b8'.mono be7.size)
 have o78 := (o7.rb.later b61).later b8'
 have hb8 := hb7.later b8'
 generalize plus W7 bs4 d4 = W8 at *
 iterate 2 (refine qw ?_)
 have hl3 : RdL (W8.alloc (.cells ([.slice A7 10 c7, .slice A4 4 c4, .slice A n c] : List Value).toArray 28)) (some ⟨W8.heap.size, 0, none⟩) 3 [f10, dig z 4, l] := RdL.litW _ _ rfl (.cons ⟨_, _, _, rfl, o78⟩ (.cons ⟨_, _, _, rfl, o4.rb⟩ (.cons ⟨_, _, _, rfl, hb8⟩ .nil)))
 refine wpq fun K hK => ?_
 go_simp
 refine (refJoin_any _ 3 3 _ _ (by simpa using hl3) (by omega) (by have := hb.1; simp [hfl, dig_length]; omega)).mono ?_
 rintro e w1 ⟨Aj, nj, kj, bsj, dj, rfl, rfl, hoj⟩
 with_reducible refine hK _ _ ?_
 clear hK K
 refine qw ?_
 go_wp2
 go_ret
 have ba := Below.allocS be8 (.cells ([.slice A7 10 c7, .slice A4 4 c4, .slice A n c] : List Value).toArray 28)
 exact ⟨_, by simp [hfl, dig_length, hb.1]; omega, RetB.mk (hoj.mono ba.size) (ba.trans ((below_plus _ bsj dj).mono ba.size))⟩
end

section
open Go.RowKit Go.ChangeShapes Go.WideShapes Go.Deep
theorem prs_fn (F : Nat → Int × Int) : ∀ (n i : Nat) (u : Value), (prs .i64 ((List.range n).map F))[i]? = some u → i < n * 2 ∧ (i % 2 = 0 ∧ u = .int .i64 (F (i / 2)).1 ∨ i % 2 = 1 ∧ u = .int .i64 (F (i / 2)).2) := by
 intro n i u hu
 have hi : i < (prs .i64 ((List.range n).map F)).length := (List.getElem?_eq_some_iff.1 hu).1
 rw [prs_length, List.length_map, List.length_range] at hi
 have hk : i / 2 < ((List.range n).map F).length := by rw [List.length_map, List.length_range]; omega
 have h := prs_at .i64 ((List.range n).map F) (i / 2) hk
 simp only [List.getElem_map, List.getElem_range] at h
 refine ⟨hi, ?_⟩
 rcases Nat.mod_two_eq_zero_or_one i with h0 | h0
 ·rw [show 2 * (i / 2) = i by omega] at h
  exact .inl ⟨h0, (Option.some.inj (hu.symm.trans h.1))⟩
 ·rw [show 2 * (i / 2) + 1 = i by omega] at h
  exact .inr ⟨h0, (Option.some.inj (hu.symm.trans h.2))⟩
end

section
open Go.RowKit Go.ChangeShapes Go.WideShapes
theorem listN9 {α : Type} {l : List α} (h : l.length = 9) : ∃ a0 a1 a2 a3 a4 a5 a6 a7 a8, l = [a0, a1, a2, a3, a4, a5, a6, a7, a8] := by
 match l, h with
 | [a0, a1, a2, a3, a4, a5, a6, a7, a8], _ => exact ⟨a0, a1, a2, a3, a4, a5, a6, a7, a8, rfl⟩
theorem listN11 {α : Type} {l : List α} (h : l.length = 11) : ∃ a0 a1 a2 a3 a4 a5 a6 a7 a8 a9 a10, l = [a0, a1, a2, a3, a4, a5, a6, a7, a8, a9, a10] := by
 match l, h with
 | [a0, a1, a2, a3, a4, a5, a6, a7, a8, a9, a10], _ => exact ⟨a0, a1, a2, a3, a4, a5, a6, a7, a8, a9, a10, rfl⟩
theorem list3 {α : Type} {l : List α} (h : l.length = 3) : ∃ a b c, l = [a, b, c] := by
 match l, h with
 | [a, b, c], _ => exact ⟨a, b, c, rfl⟩
theorem open_adr_cells {H : Type} {enc : TypeId × Value → H} {W : World} {m : Nat} {cs : List Value} {y : DataW H × List MemPlace}
  (hf : DataW.trod enc Tryz.prog W 0 (fun _ => true) true m 53 cs = some y) : ∃ six, ∃ ah al : Nat, cs = [.bool six, .int .u64 ah, .int .u64 al] ∧ ah < 18446744073709551616 ∧ al < 18446744073709551616 := by
 obtain ⟨xs, n, _, _, hl, hlen, hg⟩ := DataW.trod_struct Tryz.underlying53 hf
 have hC0 : Tryz.prog.cellsOf 4 = 1 := by kernel_rfl
 have hC1 : Tryz.prog.cellsOf 23 = 1 := by kernel_rfl
 have hCR : Tryz.prog.cellsOf 53 = 3 := by kernel_rfl
 rw [hCR] at hl
 obtain ⟨c0, c1, c2, rfl⟩ := list3 hl
 have hx : xs.length = 3 := by rw [hlen]; rfl
 obtain ⟨x0, x1, x2, rfl⟩ := list3 hx
 have h0 := hg 0 _ rfl
 have h1 := hg 1 _ rfl
 have h2 := hg 2 _ rfl
 simp only [List.getElem_toArray, List.getElem_cons_zero, List.getElem_cons_succ, hC0, hC1, List.drop_zero, List.drop_succ_cons, List.take_succ_cons, List.take_zero, List.getElem?_cons_zero, List.getElem?_cons_succ] at h0 h1 h2
 obtain ⟨b, hb, _⟩ := DataW.trod_bool Tryz.underlying4 h0
 obtain ⟨z1, hz1, _, hw1⟩ := DataW.trod_int Tryz.underlying23 h1
 obtain ⟨z2, hz2, _, hw2⟩ := DataW.trod_int Tryz.underlying23 h2
 have b1 := bounds_u64 hw1
 have b2 := bounds_u64 hw2
 simp only [List.cons.injEq, and_true] at hb hz1 hz2
 subst hb hz1 hz2
 exact ⟨b, z1.toNat, z2.toNat, by simp; omega, by omega, by omega⟩
end

section
open Go.RowKit Go.ChangeShapes Go.WideShapes Go.Deep
theorem open_rows {X : Type} [Inhabited X] (encX : X → List Value) (ok : X → Prop) (c : Nat) (hlen : ∀ x, (encX x).length = c) (hpos : 0 < c) {H : Type} {enc : TypeId × Value → H} {P : Program} {W : World} {base : Nat} {t e : TypeId} {v : Value} {d : DataW H} {p : List MemPlace}
  (ht : P.underlying t = some (.slice e)) (ce : P.cellsOf e = c) (each : ∀ m cs y, DataW.trod enc P W 0 (fun _ => true) true m e cs = some y → ∃ x, cs = encX x ∧ ok x) (hv : Value.okWide P W .any base t v)
  (h : DataW.Trod enc P W 0 (fun _ => true) true t v d p) :
  ∃ A k, ∃ L : List X, v = .slice A L.length k ∧ L.length ≤ k ∧ k ≤ maxLen ∧ Rd W W.heap.size A (L.flatMap encX) ∧ ∀ x ∈ L, ok x := by
 obtain ⟨a0, len, cap, rfl⟩ := okWide_slice ht hv
 obtain ⟨fuel, hf⟩ := h
 rcases open_slice ht hf with ⟨hcs, _⟩ | ⟨a, l', c', m, n, D, Pl, hcs, _, hl, hm, hmm, _, hx⟩
 ·simp [Value.cells] at hcs
  obtain ⟨rfl, rfl, rfl⟩ := hcs
  exact ⟨none, 0, [], rfl, by simp, by simp, .inl rfl, fun q hq => by simp at hq⟩
 ·simp [Value.cells] at hcs
  obtain ⟨rfl, rfl, rfl⟩ := hcs
  have hlm : len ≤ m := by rw [hmm]; split <;> omega
  have each2 : ∀ i, i < len → ∃ q : X, ok q ∧ ∀ j, j < c → W.cell? ((a.add (i * c)).add j) = (encX q)[j]? := by
   intro i hi
   obtain ⟨cs', h1, h2⟩ := hx i (by omega)
   rw [ce] at h1
   obtain ⟨_, hlen', hcell⟩ := World.cells?_some h1
   obtain ⟨q, rfl, hq⟩ := each _ _ _ h2
   exact ⟨q, hq, hcell⟩
  obtain ⟨F, hF⟩ := choose_lt each2
  have hFl : ∀ (n i : Nat) (u : Value), (((List.range n).map F).flatMap encX)[i]? = some u → i / c < n ∧ (encX (F (i / c)))[i % c]? = some u := by
   intro n
   induction n with
   | zero => intro i u hu; simp at hu
   | succ n ih =>
    intro i u hu
    rw [List.range_succ, List.map_append, List.flatMap_append] at hu
    have hln : (((List.range n).map F).flatMap encX).length = n * c := by
     clear hu ih
     induction n with
     | zero => simp
     | succ n ih => rw [List.range_succ, List.map_append, List.flatMap_append, List.length_append, ih]; simp [hlen, Nat.add_mul]
    by_cases hi : i < n * c
    ·rw [List.getElem?_append_left (by rw [hln]; exact hi)] at hu
     have := ih i u hu
     exact ⟨by omega, this.2⟩
    ·rw [List.getElem?_append_right (by rw [hln]; omega), hln] at hu
     simp only [List.map_cons, List.map_nil, List.flatMap_cons, List.flatMap_nil, List.append_nil] at hu
     have h3 := (List.getElem?_eq_some_iff.1 hu).1
     rw [hlen] at h3
     obtain ⟨r, rfl⟩ : ∃ r, i = n * c + r := ⟨i - n * c, by omega⟩
     have e0 : n * c + r - n * c = r := by omega
     rw [e0] at hu h3
     have e1 : (n * c + r) / c = n := by
      rw [Nat.add_comm, Nat.add_mul_div_right _ _ hpos, Nat.div_eq_of_lt h3]; omega
     have e2 : (n * c + r) % c = r := by rw [Nat.add_comm, Nat.add_mul_mod_self_right, Nat.mod_eq_of_lt h3]
     rw [e1, e2]
     exact ⟨by omega, hu⟩
  refine ⟨some a, cap, (List.range len).map F, by simp, by simpa using hl, hm, ?_, ?_⟩
  ·rcases Nat.eq_zero_or_pos len with h0 | h0
   ·exact .inl (by simp [h0])
   ·have hc0 := (hF 0 h0).2 0 hpos
    obtain ⟨b, off, spot⟩ := a
    have h1 : 0 < (encX (F 0)).length := by rw [hlen]; exact hpos
    rw [List.getElem?_eq_getElem h1] at hc0
    have hspot : spot = none := by simpa [Addr.add] using World.cell?_spot hc0
    subst hspot
    refine .inr ⟨b, off, rfl, by have := lt_of_cell hc0; simpa [Addr.add] using this, fun i u hu => ?_⟩
    obtain ⟨hi, h⟩ := hFl len i u hu
    have hF' := (hF (i / c) hi).2 (i % c) (Nat.mod_lt _ hpos)
    rw [add_plain, add_plain, h] at hF'
    rw [← hF']
    congr 2
    have := Nat.div_add_mod i c
    rw [Nat.mul_comm] at this
    omega
  ·intro q hq
   obtain ⟨i, hi, rfl⟩ := List.mem_map.1 hq
   exact (hF i (List.mem_range.1 hi)).1
theorem open_prs_cell {H : Type} {enc : TypeId × Value → H} {P : Program} {W : World} {t e : TypeId} {mm : Nat} {f0 f1 : Field} {v : Value} {y : DataW H × List MemPlace}
  (ht : P.underlying t = some (.slice e)) (he : P.underlying e = some (.struct #[f0, f1])) (ce : P.cellsOf e = 2) (o0 : f0.offset = 0) (o1 : f1.offset = 1) (c0 : P.cellsOf f0.type = 1) (c1 : P.cellsOf f1.type = 1)
  (k0 : P.underlying f0.type = some (.int .i64)) (k1 : P.underlying f1.type = some (.int .i64))
  (hf : DataW.trod enc P W 0 (fun _ => true) true mm t [v] = some y) :
  ∃ A c, ∃ L : List (Int × Int), v = .slice A L.length c ∧ L.length ≤ c ∧ c ≤ maxLen ∧ Rd W W.heap.size A (prs .i64 L) ∧ ∀ q ∈ L, (Lit.int .i64 q.1).wf = true ∧ (Lit.int .i64 q.2).wf = true := by
 rcases open_slice_pairs ht he ce o0 o1 c0 c1 hf with ⟨hcs, _⟩ | ⟨a, l', c', m, n, V0, V1, D0, D1, P0, P1, hcs, _, hl, hm, hmm, _, hx⟩
 ·simp at hcs
  exact ⟨none, 0, [], hcs, by simp, by simp, .inl rfl, fun q hq => by simp at hq⟩
 ·simp at hcs
  have hlm : l' ≤ m := by rw [hmm]; split <;> omega
  have each : ∀ i, i < l' → ∃ q : Int × Int, W.cell? (a.add (i * 2)) = some (.int .i64 q.1) ∧ W.cell? (a.add (i * 2 + 1)) = some (.int .i64 q.2) ∧ (Lit.int .i64 q.1).wf = true ∧ (Lit.int .i64 q.2).wf = true := by
   intro i hi
   obtain ⟨h0, h1, t0, t1⟩ := hx i (by omega)
   obtain ⟨n0, e0, _, w0⟩ := DataW.trod_int k0 t0
   obtain ⟨n1, e1, _, w1⟩ := DataW.trod_int k1 t1
   injection e0 with e0
   injection e1 with e1
   exact ⟨(n0, n1), by rw [← e0]; exact h0, by rw [← e1]; exact h1, w0, w1⟩
  obtain ⟨F, hF⟩ := choose_lt each
  refine ⟨some a, c', (List.range l').map F, by simpa using hcs, by simpa using hl, hm, ?_, ?_⟩
  ·rcases Nat.eq_zero_or_pos l' with h0 | h0
   ·exact .inl (by simp [h0, prs])
   ·have hc0 := (hF 0 h0).1
    obtain ⟨b, off, spot⟩ := a
    have hspot : spot = none := by simpa [Addr.add] using World.cell?_spot hc0
    subst hspot
    refine .inr ⟨b, off, rfl, lt_of_cell hc0, fun i u hu => ?_⟩
    obtain ⟨hi, h⟩ := prs_fn F l' i u hu
    have hF' := hF (i / 2) (by omega)
    rw [add_plain, add_plain] at hF'
    rcases h with ⟨hm2, rfl⟩ | ⟨hm2, rfl⟩
    ·rw [show off + i = off + i / 2 * 2 by omega]; exact hF'.1
    ·rw [show off + i = off + (i / 2 * 2 + 1) by omega]; exact hF'.2.1
  ·intro q hq
   obtain ⟨i, hi, rfl⟩ := List.mem_map.1 hq
   exact ⟨(hF i (List.mem_range.1 hi)).2.2.1, (hF i (List.mem_range.1 hi)).2.2.2⟩
structure OpX where
 k : Int
 v : Int
 b : Int
 e : Int
 six : Bool
 ah : Nat
 al : Nat
 pt : Nat
 pr : Nat
 wy : Int
 ms : List (Int × Int)
 A : Option Addr
 n : Nat
 c : Nat
instance : Inhabited OpX := ⟨⟨0, 0, 0, 0, false, 0, 0, 0, 0, 0, [], none, 0, 0⟩⟩
def OpX.cs (x : OpX) : List Value := opC x.k x.v x.b x.e x.six x.ah x.al x.pt x.pr x.wy x.A x.n x.c
theorem OpX.cs_len (x : OpX) : x.cs.length = 11 := rfl
def OpX.ok (W : World) (x : OpX) : Prop := ((-9223372036854775808 ≤ x.k ∧ x.k ≤ 9223372036854775807) ∧ (-9223372036854775808 ≤ x.v ∧ x.v ≤ 9223372036854775807) ∧ (-9223372036854775808 ≤ x.b ∧ x.b ≤ 9223372036854775807) ∧ (-9223372036854775808 ≤ x.e ∧ x.e ≤ 9223372036854775807) ∧ (-9223372036854775808 ≤ x.wy ∧ x.wy ≤ 9223372036854775807)) ∧ x.ah < 18446744073709551616 ∧ x.al < 18446744073709551616 ∧ x.pt < 65536 ∧ x.pr < 256 ∧ Rs 2 W x.A x.n x.c (prs .i64 x.ms) ∧ x.c ≤ maxLen ∧ ∀ q ∈ x.ms, (Lit.int .i64 q.1).wf = true ∧ (Lit.int .i64 q.2).wf = true
theorem open_opx {H : Type} {enc : TypeId × Value → H} {W : World} {m : Nat} {cs : List Value} {y : DataW H × List MemPlace}
  (hf : DataW.trod enc Tryz.prog W 0 (fun _ => true) true m 57 cs = some y) : ∃ x : OpX, cs = x.cs ∧ x.ok W := by
 obtain ⟨xs, nn, _, _, hl, hlen, hg⟩ := DataW.trod_struct Tryz.underlying57 hf
 have hCadr : Tryz.prog.cellsOf 53 = 3 := by kernel_rfl
 have hCint : Tryz.prog.cellsOf 3 = 1 := by kernel_rfl
 have hCu16 : Tryz.prog.cellsOf 54 = 1 := by kernel_rfl
 have hCu8 : Tryz.prog.cellsOf 5 = 1 := by kernel_rfl
 have hCsl : Tryz.prog.cellsOf 55 = 1 := by kernel_rfl
 have hCR : Tryz.prog.cellsOf 57 = 11 := by kernel_rfl
 rw [hCR] at hl
 obtain ⟨c0, c1, c2, c3, c4, c5, c6, c7, c8, c9, c10, rfl⟩ := listN11 hl
 have hx : xs.length = 9 := by rw [hlen]; rfl
 obtain ⟨x0, x1, x2, x3, x4, x5, x6, x7, x8, rfl⟩ := listN9 hx
 have h0 := hg 0 _ rfl
 have h1 := hg 1 _ rfl
 have h2 := hg 2 _ rfl
 have h3 := hg 3 _ rfl
 have h4 := hg 4 _ rfl
 have h5 := hg 5 _ rfl
 have h6 := hg 6 _ rfl
 have h7 := hg 7 _ rfl
 have h8 := hg 8 _ rfl
 simp only [List.getElem_toArray, List.getElem_cons_zero, List.getElem_cons_succ, hCadr, hCint, hCu16, hCu8, hCsl, List.drop_zero, List.drop_succ_cons, List.take_succ_cons, List.take_zero, List.getElem?_cons_zero, List.getElem?_cons_succ] at h0 h1 h2 h3 h4 h5 h6 h7 h8
 obtain ⟨k, e0, -, w0⟩ := DataW.trod_int Tryz.underlying3 h0
 have b0 := bounds_i64 w0
 obtain ⟨v, e1, -, w1⟩ := DataW.trod_int Tryz.underlying3 h1
 have b1 := bounds_i64 w1
 obtain ⟨b, e2, -, w2⟩ := DataW.trod_int Tryz.underlying3 h2
 have b2 := bounds_i64 w2
 obtain ⟨e, e3, -, w3⟩ := DataW.trod_int Tryz.underlying3 h3
 have b3 := bounds_i64 w3
 obtain ⟨a6, ah, al, e4, p4, q4⟩ := open_adr_cells h4
 obtain ⟨zpt, e5, -, w5⟩ := DataW.trod_int Tryz.underlying54 h5
 have b5 := bounds_u16 w5
 obtain ⟨zpr, e6, -, w6⟩ := DataW.trod_int Tryz.underlying5 h6
 have b6 := bounds_u8 w6
 obtain ⟨wy, e7, -, w7⟩ := DataW.trod_int Tryz.underlying3 h7
 have b7 := bounds_i64 w7
 obtain ⟨A, c, ms, rfl, hlm, hcm, hrd, hwf⟩ := open_prs_cell Tryz.underlying55 Tryz.underlying127 (by kernel_rfl) rfl rfl (by kernel_rfl) (by kernel_rfl) Tryz.underlying3 Tryz.underlying3 h8
 simp only [List.cons.injEq, and_true] at e0 e1 e2 e3 e4 e5 e6 e7
 subst e0
 subst e1
 subst e2
 subst e3
 obtain ⟨rfl, rfl, rfl⟩ := e4
 subst e5
 subst e6
 subst e7
 refine ⟨⟨k, v, b, e, a6, ah, al, zpt.toNat, zpr.toNat, wy, ms, A, ms.length, c⟩, ?_, ?_⟩
 rotate_left
 ·show ((-9223372036854775808 ≤ k ∧ k ≤ 9223372036854775807) ∧ (-9223372036854775808 ≤ v ∧ v ≤ 9223372036854775807) ∧ (-9223372036854775808 ≤ b ∧ b ≤ 9223372036854775807) ∧ (-9223372036854775808 ≤ e ∧ e ≤ 9223372036854775807) ∧ (-9223372036854775808 ≤ wy ∧ wy ≤ 9223372036854775807)) ∧ ah < 18446744073709551616 ∧ al < 18446744073709551616 ∧ zpt.toNat < 65536 ∧ zpr.toNat < 256 ∧ Rs 2 W A ms.length c (prs .i64 ms) ∧ c ≤ maxLen ∧ _
  exact ⟨⟨by omega, by omega, by omega, by omega, by omega⟩, p4, q4, by omega, by omega, ⟨by simp only [prs_length], hlm, hrd⟩, hcm, hwf⟩
 simp only [OpX.cs, opC]
 rw [Int.toNat_of_nonneg (show 0 ≤ zpt by omega), Int.toNat_of_nonneg (show 0 ≤ zpr by omega)]
theorem open_ops {H : Type} {enc : TypeId × Value → H} {W : World} {base : Nat} {v : Value} {dt : DataW H} {p : List MemPlace} (hv : Value.okWide Tryz.prog W .any base 22 v) (h : DataW.Trod enc Tryz.prog W 0 (fun _ => true) true 22 v dt p) :
  ∃ A k, ∃ L : List OpX, v = .slice A L.length k ∧ L.length ≤ k ∧ k ≤ maxLen ∧ Rd W W.heap.size A (L.flatMap OpX.cs) ∧ ∀ x ∈ L, x.ok W :=
 open_rows OpX.cs (OpX.ok W) 11 OpX.cs_len (by decide) Tryz.underlying22 (by kernel_rfl) (fun m cs y hy => open_opx hy) hv h
end

end Go.Proofs.YtjiiloffgipfhaaGreatDoor
