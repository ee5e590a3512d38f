/- Texts of the law CodecStates, part 4. -/
import Derived.Test.YtljlflmkmjcnnaaGreatDoorZCodecStates3
set_option linter.unusedVariables false
set_option linter.unusedSimpArgs false
namespace Go.Proofs.YtljlflmkmjcnnaaGreatDoor
section
open Go.RowKit
attribute [local go_sem ↓] sliced_cut
attribute [local go_sem] cutA_zero
theorem CfX.own_ne_g {G D : Nat → Prop} {w : World} {g : Nat} {C : Cf} {A : Option Addr} {n c : Nat} {E : List Ve} (h : CfX G D w g C A n c E) : (Value.slice A n c).ownBlock ≠ some g := fun e => by
 rcases h.row.2 with ⟨hv, _⟩ | ⟨b, cap, cur, hv, _, hr, _⟩
 ·injection hv with h1 _ _; subst h1; cases e
 ·injection hv with h1 _ _
  subst h1
  injection e with e
  subst e
  have := h.st
  unfold Bk at this
  rw [hr] at this
  injection this with this
  injection this with _ this _
  revert this
  decide
def addS (C : Cf) (o : OpR) : Cf := if addE C o = 0 then { C with vs := C.vs ++ [newV C o] } else C
set_option maxHeartbeats 4000000
set_option maxRecDepth 100000
theorem run_buildVe (six : Bool) (ah al pt pr : Nat) (wy : Int) (T : Nat) (v0 : Vp) (h1 : v0.ad = (six, ah, al)) (h2 : v0.pt = pt) (h3 : v0.pr = pr) (h4 : v0.wy = wy) (w : World) : (Instr.build 96 #[(0, .agg (adC six ah al).toArray), (1, .int .u16 (pt : Int)), (2, .int .u8 (pr : Int)), (3, .int .i64 wy), (5, .pointer (some ⟨T, 0, none⟩))]).run Tryz.prog w = .ok (.agg (veC (v0, ⟨none, 0, 0, T⟩)).toArray) w := by
 obtain ⟨ad, p1, p2, w1, ms, S⟩ := v0
 subst h1 h2 h3 h4
 kernel_rfl
theorem foldVe (x : Ve) : List.foldl (fun (cs : Array Value) (x : Value × Nat) => cs.setIfInBounds x.snd x.fst) #[.bool false, .int .u64 0, .int .u64 0, .int .u16 0, .int .u8 0, .int .i64 0, .slice none 0 0, .pointer none] (veC x).zipIdx = (veC x).toArray := by simp [veC, List.zipIdx]
attribute [local go_sem] foldVe
theorem addVip_any {G D : Nat → Prop} (k v b e : Int) (six : Bool) (ah al pt pr : Nat) (wy : Int) (ms : List (Int × Int)) (B : Option Addr) (mm d : Nat) (C : Cf) (hC : CfOk C) (g : Nat) (A : Option Addr) (n c : Nat) (E : List Ve) (w : World) (hX : CfX G D w g C A n c E) (hal : al < 18446744073709551616) (hpr : pr < 256) : Calls Tryz.prog 63 #[.pointer (some ⟨g, 0, none⟩), .agg (opC k v b e six ah al pt pr wy B mm d).toArray] w (RetCf G D w g (addS C (⟨k, v, b, e, six, ah, al, pt, pr, wy, ms⟩ : OpR)) (.int .i64 (addE C (⟨k, v, b, e, six, ah, al, pt, pr, wy, ms⟩ : OpR) : Nat))) := by
 have hX0 := Lib.hid hX
 obtain ⟨da, va1, va2⟩ := rowAdC
 obtain ⟨do1, vo1, vo2⟩ := rowOpC
 have hk := hC.key
 have hb := hC.bl
 have HA := Lib.hid (fun w => adrRightC six ah al w hal)
 have HW := Lib.hid (fun w => polRight_any wy w)
 have hn16 : n ≤ 16 := by have := hX.n_; have := hC.vl; omega
 have hn1000 : n ≤ 1000 := by omega
 have HNV := Lib.hid hX.n_
 have hev64 : ev0 C < 18446744073709551616 := by
  unfold ev0
  cases hc : C.vs with
  | nil => simp
  | cons a t => exact (hC.vs a (by simp [hc])).st.ev
 have hcases : (adG six ah al = false ∧ Hid (addE C (⟨k, v, b, e, six, ah, al, pt, pr, wy, ms⟩ : OpR) = 1)) ∨ (adG six ah al = true ∧ ((pr : Int) != 6) = false ∧ wyB wy = false ∧ Hid (addE C (⟨k, v, b, e, six, ah, al, pt, pr, wy, ms⟩ : OpR) = 1)) ∨
   (adG six ah al = true ∧ ((pr : Int) != 6) = true ∧ ((pr : Int) != 17) = false ∧ wyB wy = false ∧ Hid (addE C (⟨k, v, b, e, six, ah, al, pt, pr, wy, ms⟩ : OpR) = 1)) ∨ (adG six ah al = true ∧ ((pr : Int) != 6) = true ∧ ((pr : Int) != 17) = true ∧ Hid (addE C (⟨k, v, b, e, six, ah, al, pt, pr, wy, ms⟩ : OpR) = 1)) ∨
   (adG six ah al = true ∧ ((pr : Int) != 6) = false ∧ wyB wy = true ∧ Hid (decide (pr = 6 ∨ pr = 17) = true)) ∨ (adG six ah al = true ∧ ((pr : Int) != 6) = true ∧ ((pr : Int) != 17) = false ∧ wyB wy = true ∧ Hid (decide (pr = 6 ∨ pr = 17) = true)) := by
  cases hg : adG six ah al with
  | false => exact .inl ⟨rfl, Lib.hid (by unfold addE; rw [if_pos (by simp [hg])])⟩
  | true =>
   by_cases h6 : pr = 6
   ·have h6i : ((pr : Int) != 6) = false := by simp; omega
    cases hwb : wyB wy with
    | false => exact .inr (.inl ⟨rfl, h6i, rfl, Lib.hid (by unfold addE; rw [if_pos (by simp [hwb])])⟩)
    | true => exact .inr (.inr (.inr (.inr (.inl ⟨rfl, h6i, rfl, Lib.hid (by simp [h6])⟩))))
   ·have h6i : ((pr : Int) != 6) = true := by simp; omega
    by_cases h17 : pr = 17
    ·have h17i : ((pr : Int) != 17) = false := by simp; omega
     cases hwb : wyB wy with
     | false => exact .inr (.inr (.inl ⟨rfl, h6i, h17i, rfl, Lib.hid (by unfold addE; rw [if_pos (by simp [hwb])])⟩))
     | true => exact .inr (.inr (.inr (.inr (.inr ⟨rfl, h6i, h17i, rfl, Lib.hid (by simp [h17])⟩))))
    ·have h17i : ((pr : Int) != 17) = true := by simp; omega
     exact .inr (.inr (.inr (.inl ⟨rfl, h6i, h17i, Lib.hid (by unfold addE; rw [if_pos (by simp [h6, h17])])⟩)))
 rcases hcases with ⟨hg, he⟩ | ⟨hg, h6i, hwb, he⟩ | ⟨hg, h6i, h17i, hwb, he⟩ | ⟨hg, h6i, h17i, he⟩ | ⟨hg, h6i, hwb, HP⟩ | ⟨hg, h6i, h17i, hwb, HP⟩
 all_goals rw [hg] at HA
 all_goals first | rw [hwb] at HW | skip
 iterate 4
  focus
   have hcs := Lib.hid (show addS C (⟨k, v, b, e, six, ah, al, pt, pr, wy, ms⟩ : OpR) = C from if_neg (by rw [he.out]; decide))
   obtain ⟨bo, be, zV⟩ := box1 w 43 (opC k v b e six ah al pt pr wy B mm d)
   go_enter Tryz.func63, Tryz.ntmps63
   go_upto_region 1 with (fail)
   generalize w.alloc (.cells (opC k v b e six ah al pt pr wy B mm d).toArray 43) = V at *
   replace hX := hX.later be
   refine wp_region_lit ?_
   refine wpList_plain rfl (fun K hK => ?_); go_simp; with_reducible refine hK _ _ ?_; clear hK K
   refine wpList_ldA (t := 43) (cs := opC k v b e six ah al pt pr wy B mm d) 32 (.tmp 7) rfl rfl (adC six ah al) rfl (bo) rfl va1 va2 (szAd _ _ _) ?_
   refine wpList_plain rfl (fun K hK => ?_)
   go_simp
   refine (HA.out _).mono ?_
   rintro e w1 ⟨bs1, d1, rfl, rfl⟩
   with_reducible refine hK _ _ ?_
   clear hK K
   have hb1 := below_plus V bs1 d1
   replace hX := hX.later hb1
   replace bo := bo.later hb1
   replace be := be.trans (hb1.mono be.size)
   clear hb1
   generalize plus V bs1 d1 = V1 at *
   iterate 2 (refine wpList_plain rfl (fun K hK => ?_); go_simp; with_reducible refine hK _ _ ?_; clear hK K)
   first | ((with_reducible refine wpList_skip ?_ ?_); (· first | (go_simp; done) | (go_simp; intro h; cases h)); simp only [Act.put, qsT, qsZ, qsS]) | (refine wpList_step (fun K hK => ?_); go_simp; (with_reducible refine hK _ _ ?_); clear hK K)
   first | ((with_reducible refine wpList_skip ?_ ?_); (· first | (go_simp; done) | (go_simp; intro h; cases h)); simp only [Act.put, qsT, qsZ, qsS]) | (refine wpList_ld1 (t := 43) (cs := opC k v b e six ah al pt pr wy B mm d) 5 (.tmp 12) rfl (by go_simp) rfl (bo) rfl Tryz.underlying5 rfl ?_; simp only [Act.put, qsT, qsZ, qsS])
   first | ((with_reducible refine wpList_skip ?_ ?_); (· first | (go_simp; done) | (go_simp; intro h; cases h)); simp only [Act.put, qsT, qsZ, qsS]) | (refine wpList_step (fun K hK => ?_); go_simp; (with_reducible refine hK _ _ ?_); clear hK K)
   first | ((with_reducible refine wpList_skip ?_ ?_); (· first | (go_simp; done) | (go_simp; intro h; cases h)); simp only [Act.put, qsT, qsZ, qsS]) | (refine wpList_step (fun K hK => ?_); go_simp; (with_reducible refine hK _ _ ?_); clear hK K)
   first | ((with_reducible refine wpList_skip ?_ ?_); (· first | (go_simp; done) | (go_simp; intro h; cases h)); simp only [Act.put, qsT, qsZ, qsS]) | (refine wpList_step (fun K hK => ?_); go_simp; (with_reducible refine hK _ _ ?_); clear hK K)
   first | ((with_reducible refine wpList_skip ?_ ?_); (· first | (go_simp; done) | (go_simp; intro h; cases h)); simp only [Act.put, qsT, qsZ, qsS]) | (refine wpList_ld1 (t := 43) (cs := opC k v b e six ah al pt pr wy B mm d) 5 (.tmp 16) rfl (by go_simp) rfl (bo) rfl Tryz.underlying5 rfl ?_; simp only [Act.put, qsT, qsZ, qsS])
   first | ((with_reducible refine wpList_skip ?_ ?_); (· first | (go_simp; done) | (go_simp; intro h; cases h)); simp only [Act.put, qsT, qsZ, qsS]) | (refine wpList_step (fun K hK => ?_); go_simp; (with_reducible refine hK _ _ ?_); clear hK K)
   first | ((with_reducible refine wpList_skip ?_ ?_); (· first | (go_simp; done) | (go_simp; intro h; cases h)); simp only [Act.put, qsT, qsZ, qsS]) | (refine wpList_step (fun K hK => ?_); go_simp; (with_reducible refine hK _ _ ?_); clear hK K)
   iterate 2 (refine wpList_plain rfl (fun K hK => ?_); go_simp; with_reducible refine hK _ _ ?_; clear hK K)
   first | ((with_reducible refine wpList_skip ?_ ?_); (· first | (go_simp; done) | (go_simp; intro h; cases h)); simp only [Act.put, qsT, qsZ, qsS]) | (refine wpList_step (fun K hK => ?_); go_simp; (with_reducible refine hK _ _ ?_); clear hK K)
   first | ((with_reducible refine wpList_skip ?_ ?_); (· first | (go_simp; done) | (go_simp; intro h; cases h)); simp only [Act.put, qsT, qsZ, qsS]) | (refine wpList_ld1 (t := 43) (cs := opC k v b e six ah al pt pr wy B mm d) 3 (.tmp 22) rfl (by go_simp) rfl (bo) rfl Tryz.underlying3 rfl ?_; simp only [Act.put, qsT, qsZ, qsS])
   first | ((with_reducible refine wpList_skip ?_ ?_); (· first | (go_simp; done) | (go_simp; intro h; cases h)); simp only [Act.put, qsT, qsZ, qsS]) | (refine wpList_step (fun K hK => ?_); go_simp; refine (HW.out _).mono ?_; rintro e w1 ⟨rfl, rfl⟩; (with_reducible refine hK _ _ ?_); clear hK K)
   first | ((with_reducible refine wpList_skip ?_ ?_); (· first | (go_simp; done) | (go_simp; intro h; cases h)); simp only [Act.put, qsT, qsZ, qsS]) | (refine wpList_step (fun K hK => ?_); go_simp; (with_reducible refine hK _ _ ?_); clear hK K)
   refine wpList_plain rfl (fun K hK => ?_); go_simp; with_reducible refine hK _ _ ?_; clear hK K
   go_wp2
   go_ret
   exact ⟨by rw [he.out]; rfl, G, D, ⟨A, n, c, E, by rw [hcs.out]; exact hX⟩, Grow.refl _ _ _, Chg.of_below be⟩
 iterate 2
  focus
   obtain ⟨bo, be, zV⟩ := box1 w 43 (opC k v b e six ah al pt pr wy B mm d)
   go_enter Tryz.func63, Tryz.ntmps63
   go_upto_region 1 with (fail)
   generalize w.alloc (.cells (opC k v b e six ah al pt pr wy B mm d).toArray 43) = V at *
   replace hX := hX.later be
   refine wp_region_lit ?_
   refine wpList_plain rfl (fun K hK => ?_); go_simp; with_reducible refine hK _ _ ?_; clear hK K
   refine wpList_ldA (t := 43) (cs := opC k v b e six ah al pt pr wy B mm d) 32 (.tmp 7) rfl rfl (adC six ah al) rfl (bo) rfl va1 va2 (szAd _ _ _) ?_
   refine wpList_plain rfl (fun K hK => ?_)
   go_simp
   refine (HA.out _).mono ?_
   rintro e w1 ⟨bs1, d1, rfl, rfl⟩
   with_reducible refine hK _ _ ?_
   clear hK K
   have hb1 := below_plus V bs1 d1
   replace hX := hX.later hb1
   replace bo := bo.later hb1
   replace be := be.trans (hb1.mono be.size)
   clear hb1
   generalize plus V bs1 d1 = V1 at *
   iterate 2 (refine wpList_plain rfl (fun K hK => ?_); go_simp; with_reducible refine hK _ _ ?_; clear hK K)
   first | ((with_reducible refine wpList_skip ?_ ?_); (· first | (go_simp; done) | (go_simp; intro h; cases h)); simp only [Act.put, qsT, qsZ, qsS]) | (refine wpList_step (fun K hK => ?_); go_simp; (with_reducible refine hK _ _ ?_); clear hK K)
   first | ((with_reducible refine wpList_skip ?_ ?_); (· first | (go_simp; done) | (go_simp; intro h; cases h)); simp only [Act.put, qsT, qsZ, qsS]) | (refine wpList_ld1 (t := 43) (cs := opC k v b e six ah al pt pr wy B mm d) 5 (.tmp 12) rfl (by go_simp) rfl (bo) rfl Tryz.underlying5 rfl ?_; simp only [Act.put, qsT, qsZ, qsS])
   first | ((with_reducible refine wpList_skip ?_ ?_); (· first | (go_simp; done) | (go_simp; intro h; cases h)); simp only [Act.put, qsT, qsZ, qsS]) | (refine wpList_step (fun K hK => ?_); go_simp; (with_reducible refine hK _ _ ?_); clear hK K)
   first | ((with_reducible refine wpList_skip ?_ ?_); (· first | (go_simp; done) | (go_simp; intro h; cases h)); simp only [Act.put, qsT, qsZ, qsS]) | (refine wpList_step (fun K hK => ?_); go_simp; (with_reducible refine hK _ _ ?_); clear hK K)
   first | ((with_reducible refine wpList_skip ?_ ?_); (· first | (go_simp; done) | (go_simp; intro h; cases h)); simp only [Act.put, qsT, qsZ, qsS]) | (refine wpList_step (fun K hK => ?_); go_simp; (with_reducible refine hK _ _ ?_); clear hK K)
   first | ((with_reducible refine wpList_skip ?_ ?_); (· first | (go_simp; done) | (go_simp; intro h; cases h)); simp only [Act.put, qsT, qsZ, qsS]) | (refine wpList_ld1 (t := 43) (cs := opC k v b e six ah al pt pr wy B mm d) 5 (.tmp 16) rfl (by go_simp) rfl (bo) rfl Tryz.underlying5 rfl ?_; simp only [Act.put, qsT, qsZ, qsS])
   first | ((with_reducible refine wpList_skip ?_ ?_); (· first | (go_simp; done) | (go_simp; intro h; cases h)); simp only [Act.put, qsT, qsZ, qsS]) | (refine wpList_step (fun K hK => ?_); go_simp; (with_reducible refine hK _ _ ?_); clear hK K)
   first | ((with_reducible refine wpList_skip ?_ ?_); (· first | (go_simp; done) | (go_simp; intro h; cases h)); simp only [Act.put, qsT, qsZ, qsS]) | (refine wpList_step (fun K hK => ?_); go_simp; (with_reducible refine hK _ _ ?_); clear hK K)
   iterate 2 (refine wpList_plain rfl (fun K hK => ?_); go_simp; with_reducible refine hK _ _ ?_; clear hK K)
   first | ((with_reducible refine wpList_skip ?_ ?_); (· first | (go_simp; done) | (go_simp; intro h; cases h)); simp only [Act.put, qsT, qsZ, qsS]) | (refine wpList_step (fun K hK => ?_); go_simp; (with_reducible refine hK _ _ ?_); clear hK K)
   first | ((with_reducible refine wpList_skip ?_ ?_); (· first | (go_simp; done) | (go_simp; intro h; cases h)); simp only [Act.put, qsT, qsZ, qsS]) | (refine wpList_ld1 (t := 43) (cs := opC k v b e six ah al pt pr wy B mm d) 3 (.tmp 22) rfl (by go_simp) rfl (bo) rfl Tryz.underlying3 rfl ?_; simp only [Act.put, qsT, qsZ, qsS])
   first | ((with_reducible refine wpList_skip ?_ ?_); (· first | (go_simp; done) | (go_simp; intro h; cases h)); simp only [Act.put, qsT, qsZ, qsS]) | (refine wpList_step (fun K hK => ?_); go_simp; refine (HW.out _).mono ?_; rintro e w1 ⟨rfl, rfl⟩; (with_reducible refine hK _ _ ?_); clear hK K)
   first | ((with_reducible refine wpList_skip ?_ ?_); (· first | (go_simp; done) | (go_simp; intro h; cases h)); simp only [Act.put, qsT, qsZ, qsS]) | (refine wpList_step (fun K hK => ?_); go_simp; (with_reducible refine hK _ _ ?_); clear hK K)
   refine wpList_plain rfl (fun K hK => ?_); go_simp; with_reducible refine hK _ _ ?_; clear hK K
   go_upto_region 3 with (fail)
   have HF := Lib.hid (fun w (h : CfX G D w g C A n c E) => cfgFind_any C hk hb A n c E h.vs g (six, ah, al) pt pr w h.st h.row hn1000)
   refine wp_region_lit ?_
   iterate 2 (refine wpList_plain rfl (fun K hK => ?_); go_simp; with_reducible refine hK _ _ ?_; clear hK K)
   refine wpList_ldA (t := 43) (cs := opC k v b e six ah al pt pr wy B mm d) 32 (.tmp 28) rfl rfl (adC six ah al) rfl (bo) rfl va1 va2 (szAd _ _ _) ?_
   refine wpList_plain rfl (fun K hK => ?_); go_simp; with_reducible refine hK _ _ ?_; clear hK K
   refine wpList_ld1 (t := 43) (cs := opC k v b e six ah al pt pr wy B mm d) 40 (.tmp 30) rfl (by rfl) rfl (bo) rfl Tryz.underlying40 rfl ?_
   refine wpList_plain rfl (fun K hK => ?_); go_simp; with_reducible refine hK _ _ ?_; clear hK K
   refine wpList_ld1 (t := 43) (cs := opC k v b e six ah al pt pr wy B mm d) 5 (.tmp 32) rfl (by rfl) rfl (bo) rfl Tryz.underlying5 rfl ?_
   refine wpList_plain rfl (fun K hK => ?_)
   go_simp
   refine (HF.out _ hX).mono ?_
   rintro e w1 ⟨bs1, d1, rfl, rfl⟩
   with_reducible refine hK _ _ ?_
   clear hK K
   have hb1 := below_plus V1 bs1 d1
   replace hX := hX.later hb1
   replace bo := bo.later hb1
   replace be := be.trans (hb1.mono be.size)
   clear hb1
   generalize plus V1 bs1 d1 = V2 at *
   refine wpList_plain rfl (fun K hK => ?_); go_simp; with_reducible refine hK _ _ ?_; clear hK K
   clear HF HA
   by_cases hfd : fdC C (six, ah, al) pt pr < C.vs.length
   ·have e1 : fdI C (six, ah, al) pt pr = (fdC C (six, ah, al) pt pr : Int) := if_pos hfd
    have he := Lib.hid (show addE C (⟨k, v, b, e, six, ah, al, pt, pr, wy, ms⟩ : OpR) = 7 by unfold addE; rw [if_neg (by rw [hg, hwb, HP.out]; simp), if_pos hfd])
    have hcs := Lib.hid (show addS C (⟨k, v, b, e, six, ah, al, pt, pr, wy, ms⟩ : OpR) = C from if_neg (by rw [he.out]; decide))
    rw [e1]
    generalize fdC C (six, ah, al) pt pr = fd at *
    have i0 : (0 : Int) ≤ (fd : Int) := by omega
    clear e1
    go_wp2
    go_ret
    exact ⟨by rw [he.out]; rfl, G, D, ⟨A, n, c, E, by rw [hcs.out]; exact hX⟩, Grow.refl _ _ _, Chg.of_below be⟩
   have e1 : fdI C (six, ah, al) pt pr = -1 := if_neg hfd
   rw [e1]
   clear e1
   have q0 : V2.cell? ⟨g, 278, none⟩ = some (.slice A n c) := (hX.st.cell 278).trans (stC_vips C hk hb A n c)
   by_cases h16 : 16 ≤ n
   ·have i16 : (16 : Int) ≤ (n : Int) := by omega
    have he := Lib.hid (show addE C (⟨k, v, b, e, six, ah, al, pt, pr, wy, ms⟩ : OpR) = 23 by unfold addE; rw [if_neg (by rw [hg, hwb, HP.out]; simp), if_neg hfd, if_pos (by have := HNV.out; omega)])
    have hcs := Lib.hid (show addS C (⟨k, v, b, e, six, ah, al, pt, pr, wy, ms⟩ : OpR) = C from if_neg (by rw [he.out]; decide))
    go_wp2
    go_ret
    exact ⟨by rw [he.out]; rfl, G, D, ⟨A, n, c, E, by rw [hcs.out]; exact hX⟩, Grow.refl _ _ _, Chg.of_below be⟩
   have i16 : ¬ (16 : Int) ≤ (n : Int) := by omega
   have he := Lib.hid (show addE C (⟨k, v, b, e, six, ah, al, pt, pr, wy, ms⟩ : OpR) = 0 by unfold addE; rw [if_neg (by rw [hg, hwb, HP.out]; simp), if_neg hfd, if_neg (by have := HNV.out; omega)])
   have hcs := Lib.hid (show addS C (⟨k, v, b, e, six, ah, al, pt, pr, wy, ms⟩ : OpR) = { C with vs := C.vs ++ [newV C (⟨k, v, b, e, six, ah, al, pt, pr, wy, ms⟩ : OpR)] } from if_pos he.out)
   have hzs : ∀ w, (zeroValue 209).run Tryz.prog w = .ok (.agg (stkC stk0).toArray) w := fun _ => by kernel_rfl
   go_upto_region 8 with (fail)
   clear q0 hzs
   have b7 : Below V2.heap.size V2 (V2.alloc (.cells (stkC stk0).toArray 209)) := Below.allocS (Below.refl _ _) _
   have hT : Bk (V2.alloc (.cells (stkC stk0).toArray 209)) V2.heap.size 209 (stkC stk0) := Bk.new V2 209 (stkC stk0).toArray
   have zT : V2.heap.size < (V2.alloc (.cells (stkC stk0).toArray 209)).heap.size := hT.lt
   have hwT : w.heap.size < V2.heap.size := bo.lt
   have hTG : ¬ G V2.heap.size := fun h => by have := hX.lt _ h; omega
   have hmo := fun x hx => Off.more (D' := fun b => G b ∨ b = V2.heap.size) (hX.mo x hx) (fun b hb => hb.elim .inl (fun h => .inr (by rw [h]; exact Nat.le_refl _)))
   replace hX := hX.later b7
   replace hX := hX.more (G' := fun b => G b ∨ b = V2.heap.size) (fun b hb => .inl hb) (fun b hb => hb.elim (hX.lt b) (fun h => by rw [h]; exact zT)) (fun x hx => (hmo x hx).size b7.size)
   have hTD : ¬ D V2.heap.size := fun h => hTG (hX0.out.sub _ h)
   replace bo := bo.later b7
   replace be := be.trans (b7.mono be.size)
   replace hT : Bk (V2.alloc (.cells (stkC stk0).toArray 209)) V2.heap.size 209 (stkC (stE (ev0 C) 0)) := by rw [stE_0]; exact hT
   clear b7 hmo zT
   generalize V2.alloc (.cells (stkC stk0).toArray 209) = V3 at *
   generalize V2.heap.size = T at *
   go_upto_region 9 with (fail)
   have HST := Lib.hid (And.intro hX (And.intro hT (And.intro bo be)))
   clear hX hT bo be
   go_loopw [6] (fun I wr => ∃ m : Nat, I = .int .i64 (m : Int) ∧ 1 ≤ m ∧ m ≤ 65 ∧ CfX (fun b => G b ∨ b = T) D wr g C A n c E ∧ Bk wr T 209 (stkC (stE (ev0 C) (m - 1))) ∧ Bk wr w.heap.size 43 (opC k v b e six ah al pt pr wy B mm d) ∧ Below w.heap.size w wr) (fun I _ => 65 - (intOf I).toNat)
   case atStart => exact ⟨1, rfl, Nat.le_refl _, by omega, HST.out.1, HST.out.2.1, HST.out.2.2.1, HST.out.2.2.2⟩
   case round =>
    clear HST
    obtain ⟨m, rfl, hm1, hm65, hX, hT, bo, hE⟩ := hrel
    have q0 : wr.cell? ⟨g, 278, none⟩ = some (.slice A n c) := (hX.st.cell 278).trans (stC_vips C hk hb A n c)
    by_cases h64 : m ≤ 64
    ·have i64 : (m : Int) ≤ 64 := by omega
     rcases Nat.eq_zero_or_pos n with h0 | h0
     ·have hno : hasB (ev0 C) (m : Int) 1 64 = false := by
       have : C.vs = [] := List.eq_nil_of_length_eq_zero (by have := hX.n_; omega)
       simp [ev0, this, hasB]
      have hs := stE_no' (ev0 C) m hm1 h64 hno
      rw [hs] at hT
      have h0i : ¬ (0 : Int) < (n : Int) := by omega
      have h0n : ¬ 0 < n := by omega
      clear h0
      have HH := Lib.hid (And.intro hX (And.intro hT (And.intro bo hE)))
      clear hno hs hX hT bo hE
      go_upto_region 11 with (fail)
      refine wp_region_lit ?_
      iterate 7 (refine wpList_plain rfl (fun K hK => ?_); go_simp; with_reducible refine hK _ _ ?_; clear hK K)
      iterate 9 ((with_reducible refine wpList_skip ?_ ?_); (· first | (go_simp; done) | (go_simp; intro h; cases h)); simp only [Act.put, qsT, qsZ, qsS])
      refine wpList_plain rfl (fun K hK => ?_); go_simp; with_reducible refine hK _ _ ?_; clear hK K
      go_wp2
      exact ⟨⟨m + 1, by go_num, by omega, by omega, HH.out.1, by simpa using HH.out.2.1, HH.out.2.2.1, HH.out.2.2.2⟩, by simp [intOf]; omega⟩
     ·have hlE := hX.len
      have hnv := hX.n_
      obtain ⟨bb, cur, rfl, -, hB, -⟩ := hX.row.bk h0
      have hrg : wr.rangeAt bb (0 * 8) (veC (E[0]'(by omega))) := by
       have := hX.row.rs.rangeE veC_len 0 (by omega)
       rwa [Nat.zero_add] at this
      rw [Nat.zero_mul] at hrg
      have q7 : wr.cell? ⟨bb, 7, none⟩ = some (.pointer (some ⟨(E[0]'(by omega)).2.T, 0, none⟩)) := by simpa using hrg 7 _ rfl
      have hmem : E[0]'(by omega) ∈ E := List.getElem_mem _
      have hvm : (E[0]'(by omega)).1 ∈ C.vs := by rw [← hX.vs]; exact List.mem_map.2 ⟨_, hmem, rfl⟩
      have hvo := hC.vs _ hvm
      have hev : ∀ i : Int, deadS (E[0]'(by omega)).1.S i = hasB (ev0 C) i 1 64 := fun i => by rw [hasB_dead, hvo.ev]
      generalize E[0]'(by omega) = x0 at *
      have HEV := Lib.hid (fun w (h : CfX (fun b => G b ∨ b = T) D w g C (some ⟨bb, 0, none⟩) n c E) => evicted_any x0.1.S hvo.st.ev x0.2.T (m : Int) (by omega) w (h.tb x0 hmem))
      rw [hev] at HEV
      have h0i : (0 : Int) < (n : Int) := by omega
      clear hrg hvm hvo hev hB hnv hlE
      go_upto_region 11 with (fail)
      refine wp_region_lit ?_
      iterate 7 (refine wpList_plain rfl (fun K hK => ?_); go_simp; with_reducible refine hK _ _ ?_; clear hK K)
      iterate 8 (refine wpList_step (fun K hK => ?_); go_simp; with_reducible refine hK _ _ ?_; clear hK K)
      refine wpList_step (fun K hK => ?_)
      go_simp
      refine (HEV.out _ hX).mono ?_
      rintro e w1 ⟨bs1, d1, rfl, rfl⟩
      with_reducible refine hK _ _ ?_
      clear hK K
      have hb1 := below_plus wr bs1 d1
      replace hX := hX.later hb1
      replace hT := hT.later hb1
      replace bo := bo.later hb1
      replace hE := hE.trans (hb1.mono hE.size)
      clear hb1
      generalize plus wr bs1 d1 = W2 at *
      refine wpList_plain rfl (fun K hK => ?_); go_simp; with_reducible refine hK _ _ ?_; clear hK K
      clear HEV q0 q7
      cases hd : hasB (ev0 C) (m : Int) 1 64
      ·have hs := stE_no' (ev0 C) m hm1 h64 hd
       rw [hs] at hT
       have HH := Lib.hid (And.intro hX (And.intro hT (And.intro bo hE)))
       clear hd hs hX hT bo hE
       go_wp2
       exact ⟨⟨m + 1, by go_num, by omega, by omega, HH.out.1, by simpa using HH.out.2.1, HH.out.2.2.1, HH.out.2.2.2⟩, by simp [intOf]; omega⟩
      ·have hs := stE_yes' (ev0 C) m hm1 h64 hd
       have HET := Lib.hid (fun w h => evict_any (stE (ev0 C) (m - 1)) (stE_ok _ _ (by omega)) T (m : Int) (by omega) w h)
       rw [hs] at HET
       clear hd hs
       go_upto_region 12 with (fail)
       refine wp_region_lit ?_
       iterate 2 (refine wpList_plain rfl (fun K hK => ?_); go_simp; with_reducible refine hK _ _ ?_; clear hK K)
       refine wpList_plain rfl (fun K hK => ?_)
       go_simp
       refine (HET.out _ hT).mono ?_
       rintro e w1 ⟨rfl, hT2, hc2⟩
       with_reducible refine hK _ _ ?_
       clear hK K
       replace hX := hX.chg hc2 (fun b hb => .inr hb) (fun b hb => by rw [show b = T from hb]; exact hTD)
       replace bo := bo.chg hc2 (fun e => by have e : w.heap.size = T := e; omega)
       replace hE := hE.trans (hc2.below (fun b hb => by have hb : b = T := hb; omega) hE.size)
       have HH := Lib.hid (And.intro hX (And.intro hT2 (And.intro bo hE)))
       clear hX hT hT2 bo hE hc2 HET
       go_wp2
       exact ⟨⟨m + 1, by go_num, by omega, by omega, HH.out.1, by simpa using HH.out.2.1, HH.out.2.2.1, HH.out.2.2.2⟩, by simp [intOf]; omega⟩
    ·have i64 : ¬ (m : Int) ≤ 64 := by omega
     obtain rfl : m = 65 := by omega
     replace hT : Bk wr T 209 (stkC (stE (ev0 C) 64)) := hT
     rw [stE_64 _ hev64] at hT
     clear hm1 hm65 h64
     obtain ⟨v0, hv0⟩ : ∃ v0, (newV C (⟨k, v, b, e, six, ah, al, pt, pr, wy, ms⟩ : OpR)) = v0 := ⟨_, rfl⟩
     have hbld : ∀ w, (Instr.build 96 #[(0, .agg (adC six ah al).toArray), (1, .int .u16 (pt : Int)), (2, .int .u8 (pr : Int)), (3, .int .i64 wy), (5, .pointer (some ⟨T, 0, none⟩))]).run Tryz.prog w = .ok (.agg (veC (v0, ⟨none, 0, 0, T⟩)).toArray) w := fun w => by rw [← hv0]; exact run_buildVe six ah al pt pr wy T _ rfl rfl rfl rfl w
     have HV0 := Lib.hid hv0
     clear hv0
     go_upto_region 13 with (fail)
     clear q0
     refine wp_relES 16 86 [0] rfl (by kernel_rfl) (by kernel_rfl) ?_
     apply Steps.oneP (.pointer (some ⟨g, 0, none⟩)) 1 rfl (by decide)
     ·intro o ho FA x hO hD
      obtain rfl := qoi ho
      have e0 := hO 0 (by kernel_rfl)
      simp only [eval_tmp, qgT, qgS, qgZ, qoS] at e0
      have ev0 := Lib.hid ((eval_tmp FA 0).trans e0)
      clear hO hD ho
      refine .inl ⟨by simp [Region.wanted], fun w => ?_⟩
      go_simp
     apply Steps.oneE (MP.eq _) 2 rfl (by decide)
     ·intro o ho FA x hO hD K hK
      obtain rfl := qoi ho
      have e0 := hO 0 (by kernel_rfl)
      simp only [eval_tmp, qgT, qgS, qgZ, qoS] at e0
      have ev0 := Lib.hid ((eval_tmp FA 0).trans e0)
      clear hO hD ho
      go_simp
      exact hK.out _ _ (Ex.refl _) rfl
     apply Steps.oneE (MP.eq _) 3 rfl (by decide)
     ·intro o ho FA x hO hD K hK
      obtain rfl := qoi ho
      obtain ⟨e68, ev68⟩ := qE (hD 1 68 (by kernel_rfl))
      clear hO hD ho
      go_simp
      exact hK.out _ _ (Ex.refl _) rfl
     apply Steps.oneE (MP.eq _) 4 rfl (by decide)
     ·intro o ho FA x hO hD K hK
      obtain rfl := qoi ho
      obtain ⟨e69, ev69⟩ := qE (hD 2 69 (by kernel_rfl))
      clear hO hD ho
      go_simp
      exact hK.out _ _ (Ex.refl _) rfl
     apply Steps.oneE (MP.eq _) 5 rfl (by decide)
     ·intro o ho FA x hO hD K hK
      obtain rfl := qoi ho
      obtain ⟨e70, ev70⟩ := qE (hD 3 70 (by kernel_rfl))
      clear hO hD ho
      refine wanted_if rfl ?_
      refine wp_ld1 61 (.tmp 70) rfl ev70.out (hX.st.later (below_plus _ _ _)) (stC_vips C hk hb A n c) Tryz.underlying61 rfl ?_
      exact hK.out _ _ (Ex.refl _) rfl
     apply Steps.oneE (MP.eq _) 6 rfl (by decide)
     ·intro o ho FA x hO hD K hK
      obtain rfl := qoi ho
      have e3 := hO 3 (by kernel_rfl)
      simp only [eval_tmp, qgT, qgS, qgZ, qoS] at e3
      have ev3 := Lib.hid ((eval_tmp FA 3).trans e3)
      clear hO hD ho
      go_simp
      exact hK.out _ _ (Ex.refl _) rfl
     apply Steps.oneE (MP.eq _) 7 rfl (by decide)
     ·intro o ho FA x hO hD K hK
      obtain rfl := qoi ho
      obtain ⟨e72, ev72⟩ := qE (hD 5 72 (by kernel_rfl))
      clear hO hD ho
      refine wanted_if rfl ?_
      refine wp_ldA 32 (.tmp 72) rfl (adC six ah al) ev72.out (bo.later (below_plus _ _ _)) rfl va1 va2 (szAd _ _ _) ?_
      exact hK.out _ _ (Ex.refl _) rfl
     apply Steps.oneE (MP.eq _) 8 rfl (by decide)
     ·intro o ho FA x hO hD K hK
      obtain rfl := qoi ho
      have e3 := hO 3 (by kernel_rfl)
      simp only [eval_tmp, qgT, qgS, qgZ, qoS] at e3
      have ev3 := Lib.hid ((eval_tmp FA 3).trans e3)
      clear hO hD ho
      go_simp
      exact hK.out _ _ (Ex.refl _) rfl
     apply Steps.oneE (MP.eq _) 9 rfl (by decide)
     ·intro o ho FA x hO hD K hK
      obtain rfl := qoi ho
      obtain ⟨e74, ev74⟩ := qE (hD 7 74 (by kernel_rfl))
      clear hO hD ho
      refine wanted_if rfl ?_
      refine wp_ld1 40 (.tmp 74) rfl ev74.out (bo.later (below_plus _ _ _)) rfl Tryz.underlying40 rfl ?_
      exact hK.out _ _ (Ex.refl _) rfl
     apply Steps.oneE (MP.eq _) 10 rfl (by decide)
     ·intro o ho FA x hO hD K hK
      obtain rfl := qoi ho
      have e3 := hO 3 (by kernel_rfl)
      simp only [eval_tmp, qgT, qgS, qgZ, qoS] at e3
      have ev3 := Lib.hid ((eval_tmp FA 3).trans e3)
      clear hO hD ho
      go_simp
      exact hK.out _ _ (Ex.refl _) rfl
     apply Steps.oneE (MP.eq _) 11 rfl (by decide)
     ·intro o ho FA x hO hD K hK
      obtain rfl := qoi ho
      obtain ⟨e76, ev76⟩ := qE (hD 9 76 (by kernel_rfl))
      clear hO hD ho
      refine wanted_if rfl ?_
      refine wp_ld1 5 (.tmp 76) rfl ev76.out (bo.later (below_plus _ _ _)) rfl Tryz.underlying5 rfl ?_
      exact hK.out _ _ (Ex.refl _) rfl
     apply Steps.oneE (MP.eq _) 12 rfl (by decide)
     ·intro o ho FA x hO hD K hK
      obtain rfl := qoi ho
      have e3 := hO 3 (by kernel_rfl)
      simp only [eval_tmp, qgT, qgS, qgZ, qoS] at e3
      have ev3 := Lib.hid ((eval_tmp FA 3).trans e3)
      clear hO hD ho
      go_simp
      exact hK.out _ _ (Ex.refl _) rfl
     apply Steps.oneE (MP.eq _) 13 rfl (by decide)
     ·intro o ho FA x hO hD K hK
      obtain rfl := qoi ho
      obtain ⟨e78, ev78⟩ := qE (hD 11 78 (by kernel_rfl))
      clear hO hD ho
      refine wanted_if rfl ?_
      refine wp_ld1 3 (.tmp 78) rfl ev78.out (bo.later (below_plus _ _ _)) rfl Tryz.underlying3 rfl ?_
      exact hK.out _ _ (Ex.refl _) rfl
     apply Steps.oneE (MP.eq _) 14 rfl (by decide)
     ·intro o ho FA x hO hD K hK
      obtain rfl := qoi ho
      have e5 := hO 5 (by kernel_rfl)
      simp only [eval_tmp, qgT, qgS, qgZ, qoS] at e5
      have ev5 := Lib.hid ((eval_tmp FA 5).trans e5)
      clear hO hD ho
      go_simp
      exact hK.out _ _ (Ex.refl _) rfl
     apply Steps.oneE (MP.eq _) 15 rfl (by decide)
     ·intro o ho FA x hO hD K hK
      obtain rfl := qoi ho
      obtain ⟨e73, ev73⟩ := qE (hD 6 73 (by kernel_rfl))
      obtain ⟨e75, ev75⟩ := qE (hD 8 75 (by kernel_rfl))
      obtain ⟨e77, ev77⟩ := qE (hD 10 77 (by kernel_rfl))
      obtain ⟨e79, ev79⟩ := qE (hD 12 79 (by kernel_rfl))
      obtain ⟨e80, ev80⟩ := qE (hD 13 80 (by kernel_rfl))
      clear hO hD ho
      refine wanted_if rfl ?_
      refine wp_buildV 96 [(0, .tmp 73), (1, .tmp 75), (2, .tmp 77), (3, .tmp 79), (5, .tmp 80)] rfl (.agg (veC (v0, ⟨none, 0, 0, T⟩)).toArray) (by simp only [List.map_cons, List.map_nil, ev73.out, ev75.out, ev77.out, ev79.out, ev80.out]; exact hbld _) ?_
      exact hK.out _ _ (Ex.refl _) rfl
     apply Steps.oneE (MP.ofs 96 8 0 (veC (v0, ⟨none, 0, 0, T⟩))) 16 rfl (by decide)
     ·intro o ho FA x hO hD K hK
      obtain rfl := qoi ho
      obtain ⟨e81, ev81⟩ := qE (hD 14 81 (by kernel_rfl))
      clear hO hD ho
      go_simp
      refine hK.out _ _ (Ex.alloc _ _) ⟨_, _, rfl, ?_⟩
      have h := Os.lit (s := 8) (e := 96) (base := 0) (plus wr x.bs x.d) (Nat.zero_le _) (veC (v0, ⟨none, 0, 0, T⟩)).toArray 1 rfl (by decide)
      exact h
     refine Steps.fin_ (fun vs x hp => ?_)
     have p0 : vs 0 = _ := hp 0 (by omega)
     have p1 : vs 1 = _ := hp 1 (by omega)
     have p2 : vs 2 = _ := hp 2 (by omega)
     have p3 : vs 3 = _ := hp 3 (by omega)
     have p4 : vs 4 = _ := hp 4 (by omega)
     have p5 : vs 5 = _ := hp 5 (by omega)
     have p6 : vs 6 = _ := hp 6 (by omega)
     have p7 : vs 7 = _ := hp 7 (by omega)
     have p8 : vs 8 = _ := hp 8 (by omega)
     have p9 : vs 9 = _ := hp 9 (by omega)
     have p10 : vs 10 = _ := hp 10 (by omega)
     have p11 : vs 11 = _ := hp 11 (by omega)
     have p12 : vs 12 = _ := hp 12 (by omega)
     have p13 : vs 13 = _ := hp 13 (by omega)
     have p14 : vs 14 = _ := hp 14 (by omega)
     have p15 := hp 15 (by omega)
     clear hp
     simp only [List.take_succ_cons, List.take_zero, List.drop_succ_cons, List.drop_zero, putAll, Nat.zero_add, Nat.reduceAdd, Act.put, qsT, qsZ, qsS, p0, p1, p2, p3, p4, p5, p6, p7, p8, p9, p10, p11, p12, p13, p14]
     clear p0 p1 p2 p3 p4 p5 p6 p7 p8 p9 p10 p11 p12 p13 p14
     generalize vs 15 = y15 at *
     clear vs
     obtain ⟨A15, n15, rfl, h15⟩ := p15
     obtain rfl : n15 = 1 := by have := h15.1; rw [veC_len] at this; omega
     have hb13 := below_plus wr x.bs x.d
     replace hX := hX.later hb13
     replace hT := hT.later hb13
     replace hE := hE.trans (hb13.mono hE.size)
     clear hb13 bo
     generalize plus wr x.bs x.d = Z at *
     have hgr := hX.own_ne_g
     refine wpList_appS2 etVe rfl (.tmp 71) (.tmp 82) rfl rfl hX.row rfl h15.rs (veC_one _) (by omega) (Nat.zero_le _) ?_
     intro A5 n5 c5 w5 hn5 hO5 hb5 hg5 hob5
     subst hn5
     simp only [Act.put, qsT, qsZ, qsS]
     have hst5 := hX.st.grown hg5 hgr
     iterate 2 (refine wpList_plain rfl (fun K hK => ?_); go_simp; with_reducible refine hK _ _ ?_; clear hK K)
     refine wpList_st1 (v := .slice A5 (n + 1) c5) 61 (.tmp 85) (.tmp 83) rfl rfl rfl rfl hst5 (by rw [stC_len C hk hb]; omega) rfl (by kernel_rfl) ?_
     intro W6 h6 g6
     simp only [Act.put, qsT, qsZ, qsS]
     have hg6 := hX.add hT (Or.inr rfl) hTD (by rw [← HV0.out]; rfl) (by rw [← HV0.out]; rfl) hO5 hg5 (fun b hb => by
      rcases hob5 with h | h
      ·exact .inl (by rw [← h]; exact hb)
      ·rw [h] at hb; injection hb with hb; exact .inr (by omega)) (C' := { C with vs := C.vs ++ [v0] }) (by rw [← stC_setVips C hk hb A n c]; exact h6) g6 rfl
     have hch : Chg D w W6 := ((Chg.of_below hE).trans (Chg.grown hg5 (fun k hk => hX.dr k hk))).trans (Chg.one g6 hX.dg)
     go_wp2
     go_wp2
     apply_assumption
     go_wp2
     go_ret
     refine ⟨by rw [he.out]; rfl, (fun b => (G b ∨ b = T) ∨ (Value.slice A5 (n + 1) c5).ownBlock = some b), (fun b => D b ∨ b = T ∨ (Value.slice A5 (n + 1) c5).ownBlock = some b), ⟨_, _, _, _, by rw [hcs.out, HV0.out]; exact hg6⟩, ⟨fun b hb => .inl (.inl hb), fun b hb => ?_, fun b hb => ?_⟩, hch⟩
     ·rcases hb with (hb | hb) | hb
      ·exact .inl hb
      ·exact .inr (by rw [hb]; exact Nat.le_of_lt hwT)
      ·rcases hob5 with h | h
       ·exact .inl (hX0.out.sub _ (hX.dr b (by rw [← h]; exact hb)))
       ·rw [h] at hb; injection hb with hb; exact .inr (by rw [← hb]; exact hE.size)
     ·rcases hb with hb | hb | hb
      ·exact .inl hb
      ·exact .inr (by rw [hb]; exact Nat.le_of_lt hwT)
      ·rcases hob5 with h | h
       ·exact .inl (hX.dr b (by rw [← h]; exact hb))
       ·rw [h] at hb; injection hb with hb; exact .inr (by rw [← hb]; exact hE.size)
end

section
open Go.RowKit
attribute [local go_sem ↓] sliced_cut
attribute [local go_sem] cutA_zero
theorem mclone_any (ms : List (Int × Int)) (A : Option Addr) (n c : Nat) (w : World) (h : Rs 2 w A n c (prs .i64 ms)) (hm : n ≤ 1000000) : Calls Tryz.prog 121 #[.slice A n c] w (RetOs 87 2 w (prs .i64 ms)) := by
 have hnil := fun w => Lib.run_eql_slice_nil (P := Tryz.prog) w 41 87 A n c 0 0 Tryz.underlying41
 cases A with
 | none =>
  go_enter Tryz.func121, Tryz.ntmps121
  go_wp2
  go_ret
  have : prs .i64 ms = [] := by
   rcases h.2.2 with h | ⟨b, off, h, _⟩
   ·exact h
   ·cases h
  rw [this]
  exact RetOs.mk Os.nil_ (Below.refl _ _)
 | some ad =>
  go_enter Tryz.func121, Tryz.ntmps121
  go_wp2_with (at_builtin; refine wpList_appS etCm rfl (.tmp 5) (.tmp 6) rfl rfl (Os.lit w (Nat.le_refl _) #[] 0 rfl (Nat.zero_le _)) rfl (h.alloc _) (prs_one _ _) (by omega) (by simp) ?_; intro A2 n2 c2 w4 hn2 hO4 hb4 hg4; subst hn2)
  go_ret
  simp only [List.nil_append, Nat.zero_add] at hO4
  exact RetOs.mk hO4 ((Below.allocS (Below.refl _ _) _).trans (hb4.mono (by simp)))
section
variable {G D : Nat → Prop} {w w' : World} {g : Nat} {C : Cf} {A : Option Addr} {n c : Nat} {E : List Ve}
theorem CfX.setRow (h : CfX G D w g C A n c E) {i : Nat} {x : Ve} (hi : E[i]? = some x) {b0 : Nat} {cur : List Value} (hA : A = some ⟨b0, 0, none⟩) (hB : Bk w b0 96 cur) {j : Nat} {u : Value} (hj : j < 8) {y : Ve} (hy : (veC x).set j u = veC y) (hyT : y.2.T = x.2.T) (hyS : y.1.S = x.1.S)
  (hg : w.grownBy w' (some b0)) (hb : Bk w' b0 96 (cur.set (i * 8 + j) u)) (hm : Rs 2 w' y.2.A y.2.n y.2.c (prs .i64 y.1.ms)) (ho : Off G w' y.2.A) : CfX G D w' g { C with vs := C.vs.set i y.1 } A n c (E.set i y) := by
 have hx := List.mem_of_getElem? hi
 have hil := (List.getElem?_eq_some_iff.1 hi).1
 have hxi : E[i] = x := (List.getElem?_eq_some_iff.1 hi).2
 have hn0 : 0 < n := by have := h.len; have := h.n_; omega
 obtain ⟨b1, cur1, hA1, hob, hB1, hl, ht, hnc, hcm⟩ := h.row.bk hn0
 have e1 : b1 = b0 := by rw [hA] at hA1; injection hA1 with hA1; injection hA1 with hA1; exact hA1.symm
 subst e1
 obtain rfl := hB1.same hB
 have hD := h.dr _ hob
 have hG := h.sub _ hD
 have hc : Chg (fun b => b = b1) w w' := Chg.one hg rfl
 have mem : ∀ z ∈ E.set i y, z = y ∨ (∃ j, ∃ hj : j < E.length, j ≠ i ∧ z = E[j]) := by
  intro z hz
  obtain ⟨k, hk, rfl⟩ := List.mem_iff_getElem.1 hz
  rw [List.length_set] at hk
  rw [List.getElem_set]
  split
  ·exact .inl rfl
  ·rename_i hne
   exact .inr ⟨k, hk, fun e => hne e.symm, rfl⟩
 refine ⟨?_, h.st.chg hc (fun e => hB1.apart h.st (by decide) e.symm), ?_, h.dr, h.dg, ?_, ?_, ?_, ?_, ?_, h.sub, fun b hb' => Nat.lt_of_lt_of_le (h.lt b hb') hc.size⟩
 ·show _ = C.vs.set i _
  rw [List.map_set, h.vs]
 ·subst hA
  refine Os.of_bk hb (by rw [List.length_set]; exact hl) ?_ hnc hcm (by rw [flat_len veC 8 veC_len, List.length_set]; have := h.len; have := h.n_; omega)
  rw [List.take_set, ht, flat_set veC 8 veC_len E i hil y j u hj (by rw [hxi]; exact hy)]
 ·intro z hz
  rcases mem z hz with rfl | ⟨k, hk, _, rfl⟩
  ·rw [hyT, hyS]
   exact (h.tb x hx).chg hc (fun e => hB1.apart (h.tb x hx) (by decide) e.symm)
  ·exact (h.tb _ (List.getElem_mem hk)).chg hc (fun e => hB1.apart (h.tb _ (List.getElem_mem hk)) (by decide) e.symm)
 ·intro z hz
  rcases mem z hz with rfl | ⟨k, hk, _, rfl⟩
  ·rw [hyT]; exact h.dt x hx
  ·exact h.dt _ (List.getElem_mem hk)
 ·intro z hz
  rcases mem z hz with rfl | ⟨k, hk, _, rfl⟩
  ·exact hm
  ·exact (h.mm _ (List.getElem_mem hk)).chg hc (fun a ha e => (h.mo _ (List.getElem_mem hk) a ha).2 (by rw [e]; exact hG))
 ·intro z hz
  rcases mem z hz with rfl | ⟨k, hk, _, rfl⟩
  ·exact ho
  ·exact (h.mo _ (List.getElem_mem hk)).size hc.size
 ·rw [List.map_set, hyT]
  have : (E.map (·.2.T)).set i x.2.T = E.map (·.2.T) := by
   apply List.ext_getElem
   ·simp
   ·intro j h1 h2
    rw [List.getElem_set]
    split
    ·rename_i e; subst e; simp [hxi]
    ·rfl
  rw [this]
  exact h.nd
end
def setS (C : Cf) (i : Nat) (v : Vp) (ms : List (Int × Int)) : Cf := if setE C v ms = 0 then { C with vs := C.vs.set i (setV v ms) } else C
set_option maxHeartbeats 4000000 in
set_option maxRecDepth 100000 in
theorem setMembers_any {G D : Nat → Prop} (ms : List (Int × Int)) (B : Option Addr) (mm d : Nat) (C : Cf) (hC : CfOk C) (g : Nat) (A : Option Addr) (n c : Nat) (E : List Ve) (w : World) (hX : CfX G D w g C A n c E) (hr : Rs 2 w B mm d (prs .i64 ms)) (hB0 : Off G w B) (hm : mm ≤ 1000000) (i b0 : Nat) (x : Ve) (hi : E[i]? = some x) (hA : A = some ⟨b0, 0, none⟩) : Calls Tryz.prog 66 #[.pointer (some ⟨g, 0, none⟩), .pointer (some ⟨b0, i * 8, none⟩), .slice B mm d] w (RetCf G D w g (setS C i x.1 ms) (.int .i64 (setE C x.1 ms : Nat))) := by
 have hml : ms.length = mm := by have := hr.1; rw [prs_length] at this; omega
 obtain ⟨dm, m1, m2⟩ := rowMb
 obtain ⟨dvt, vt1, vt2⟩ := rowTab
 have HFT := Lib.hid (fun w h h2 => fit_any ms B mm d C hC g A n c w h h2 hm)
 have hmem := List.mem_of_getElem? hi
 have hil := (List.getElem?_eq_some_iff.1 hi).1
 have hxi : E[i] = x := (List.getElem?_eq_some_iff.1 hi).2
 have hvm : x.1 ∈ C.vs := by rw [← hX.vs]; exact List.mem_map.2 ⟨x, hmem, rfl⟩
 have hok := (hC.vs _ hvm).st
 have hn0 : 0 < n := by have := hX.len; have := hX.n_; omega
 have HI := Lib.hid hi
 have be := Below.refl w.heap.size w
 have HGL := Lib.hid hX.lt
 have HVS := Lib.hid hX.vs
 have HML := Lib.hid hml
 have hin : i < n := by have := hX.len; have := hX.n_; omega
 have HTL := Lib.hid (hX.lt _ (hX.sub _ (hX.dt x hmem)))
 clear hi
 cases hfit : okM C ms
 ·rw [hfit] at HFT
  have he := Lib.hid (show setE C x.1 ms = 1 by unfold setE; rw [if_pos hfit])
  have hcs := Lib.hid (show setS C i x.1 ms = C from if_neg (by rw [he.out]; decide))
  clear hxi hA
  go_enter Tryz.func66, Tryz.ntmps66
  go_upto_region 2 with (go_at_call 117; refine (HFT.out _ hX.st hr).mono ?_; rintro e w1 ⟨bs1, d1, rfl, rfl⟩)
  replace hX := hX.later (below_plus w bs1 d1)
  replace be := belowP be bs1 d1
  go_wp2
  go_ret
  exact ⟨by rw [he.out]; rfl, G, D, ⟨_, n, c, E, by rw [hcs.out]; exact hX⟩, Grow.refl _ _ _, Chg.of_below be⟩
 ·rw [hfit] at HFT
  have hm64 : mm ≤ 64 := by have := okM_len hfit; omega
  have HFIT := Lib.hid hfit
  clear hfit
  subst hA
  go_enter Tryz.func66, Tryz.ntmps66
  go_upto_region 4 with (go_at_call 117; refine (HFT.out _ hX.st hr).mono ?_; rintro e w1 ⟨bs1, d1, rfl, rfl⟩)
  have hb1 := below_plus w bs1 d1
  have hX1 := hX.later hb1
  replace hr := hr.later hb1
  replace hB0 := hB0.size hb1.size
  replace be := be.trans (hb1.mono be.size)
  have hwV := Lib.hid be.size
  clear hb1 HFT
  generalize plus w bs1 d1 = V at *
  go_upto_region 5 with (fail)
  have hO0 : Os 3 1 V V.heap.size none 0 0 (itK ((ms.take 0).map (·.1))) := Os.nil_
  have bv := Below.refl V.heap.size V
  go_loopw [7, 21] (fun OUT I wr => ∃ (j : Nat) (Ab : Option Addr) (kb cb : Nat), I = .int .i64 (j : Int) ∧ OUT = .slice Ab kb cb ∧ j ≤ mm ∧ Os 3 1 wr V.heap.size Ab kb cb (itK ((ms.take j).map (·.1))) ∧ Below V.heap.size V wr) (fun _ I _ => mm - (intOf I).toNat)
  case atStart => exact ⟨0, none, 0, 0, rfl, rfl, Nat.zero_le _, hO0, bv⟩
  case round =>
   clear hO0 bv
   obtain ⟨j, Ab, kb, cb, rfl, rfl, hj, hO, hE⟩ := hrel
   have hkb : kb = j := by have := hO.1; rw [itK_len] at this; simp at this; omega
   by_cases hlt : j < mm
   ·have ij : (j : Int) < (mm : Int) := by omega
    have hjL : j < ms.length := by omega
    obtain ⟨bl, ol, rfl, hbl, -⟩ := (hr.later hE).at_ (by omega) (by decide)
    have hg7 := rng_pr ((hr.later hE).range2 j hjL)
    have hsn : ms.take (j + 1) = ms.take j ++ [ms[j]] := by simp
    generalize ms[j] = p at *
    obtain ⟨xb, yb⟩ := p
    have HSN := Lib.hid hsn
    have hkb60 : kb ≤ 64 := by omega
    clear hsn hkb
    go_upto_region 7 with (first
     | (refine at_op (.load 87 (.tmp 23)) rfl ?_; refine wpList_load_mid rfl 87 (.tmp 23) rfl bl (ol + j * 2) rfl [.int .i64 xb, .int .i64 yb] _ hg7 m1 m2 (szMb _ _) ?_)
     | (refine at_op (.store 87 (.tmp 9) (.tmp 24)) rfl ?_; refine wpList_stA (t := 87) 87 (.tmp 9) (.tmp 24) rfl rfl [.int .i64 xb, .int .i64 yb] [.int .i64 0, .int .i64 0] rfl (by simp [Value.oneCell']) rfl rfl (Bk.new _ _ _) (szMb _ _) ?_; intro W4 h4 g4))
    have be4 : Below wr.heap.size wr W4 := below_grown (Below.allocS (Below.refl _ _) _) g4 (Nat.le_refl _)
    have q0 : W4.cell? ⟨wr.heap.size, 0, none⟩ = some (.int .i64 xb) := h4.cell 0
    replace hE := hE.trans (be4.mono hE.size)
    replace hO := hO.later be4
    clear be4 h4 g4 hg7
    generalize wr.heap.size = gm at *
    go_wp2_with (at_builtin; refine wpList_appS etI rfl (.tmp 25) (.tmp 28) rfl rfl (hO.later (Below.allocS (Below.refl _ _) _)) rfl (Rs.of_bk (n := 1) (c := 1) (Bk.new W4 _ _) rfl (Nat.le_refl _)) (by simp [Value.oneCell']) (by omega) (by have := hE.size; simp; omega) ?_; intro A2 n2 c2 w4 hn2 hO4 hb4 hg4; subst hn2)
    exact ⟨⟨j + 1, A2, _, c2, by go_num, rfl, by omega, by rw [HSN.out, List.map_append, itK_append]; exact hO4, (Below.allocS hE _).trans hb4⟩, by simp [intOf]; omega⟩
   ·obtain rfl : j = mm := by omega
    have ij : ¬ (j : Int) < (j : Int) := by omega
    rw [List.take_of_length_le (by omega)] at hO
    have hX := hX1.later hE
    have hEV := Lib.hid hE
    replace hr := hr.later hE
    replace hB0 := hB0.size hE.size
    replace hE := be.trans (hE.mono be.size)
    have hkb60 : kb ≤ 64 := by omega
    have zVr := hEV.out.size
    clear hkb hj hX1 be hml hEV
    obtain ⟨bb, cur, hA1, hob, hBr, hcl, -, hnc, -⟩ := hX.row.bk hn0
    have e1 : bb = b0 := by injection hA1 with hA1; injection hA1 with hA1; exact hA1.symm
    subst e1
    clear hA1
    have HBL := Lib.hid (HGL.out _ (hX.sub _ (hX.dr _ hob)))
    have hTw := hX.tb x hmem
    have hDT := hX.dt x hmem
    have hrT := hX.ne_row hmem _ hob
    have hQ0 : ∀ W, Chg (fun b => b = x.2.T) w W → W.cell? ⟨bb, i * 8 + 7, none⟩ = some (.pointer (some ⟨x.2.T, 0, none⟩)) := fun W hc => by
     have h0 := ‹CfX G D w g C _ n c E›
     have := (h0.row.rs.chg hc (fun a ha e => by injection ha with ha; subst ha; exact hrT e)).rangeE veC_len i hil
     rw [Nat.zero_add, hxi] at this
     exact this 7 _ rfl
    obtain ⟨T, hT0⟩ : ∃ T, x.2.T = T := ⟨_, rfl⟩
    rw [hT0] at hTw hDT hrT hQ0
    have HQ := Lib.hid hQ0
    have HT0 := Lib.hid hT0
    have q7 := hQ0 wr (Chg.of_below hE)
    have hT := hTw
    obtain ⟨S, hS0⟩ : ∃ S, x.1.S = S := ⟨_, rfl⟩
    rw [hS0] at hT hok
    obtain ⟨xn, bn, hnw⟩ := newest_ex S hok.len
    have HN := Lib.hid (fun w h => hnw T w h)
    have htk := newT_ok hok
    have HNX := Lib.hid (fun w (h : Rs 1 w Ab kb cb (itK (ms.map (·.1)))) => tabNext_any (newT S) htk (ms.map (·.1)) Ab kb cb w h (by omega))
    have HP := Lib.hid (fun w h => push_any S hok T (tNext (newT S) (ms.map (·.1))) w h)
    have hsv : setV x.1 ms = { x.1 with S := pushS S (tNext (newT S) (ms.map (·.1))), ms := ms } := by unfold setV tabS; rw [hS0]
    have hse : setE C x.1 ms = pushE S := by unfold setE; rw [if_neg (by rw [HFIT.out]; simp), hS0]
    have HSV := Lib.hid hsv
    have HSE := Lib.hid hse
    clear hnw hT0 hTw hQ0 hsv hse
    generalize newT S = TT0 at *
    generalize tNext TT0 (ms.map (·.1)) = TT at *
    obtain ⟨ES, hES⟩ : ∃ ES, pushS S TT = ES := ⟨_, rfl⟩
    rw [hES] at HP HSV
    have HES := Lib.hid hES
    have HS0 := Lib.hid hS0
    clear hES hS0
    have hzt : ∀ w, (zeroValue 204).run Tryz.prog w = .ok (.agg (tabC []).toArray) w := fun _ => by kernel_rfl
    go_upto_region 9 with (fail)
    refine wp_region_lit ?_
    iterate 4 (refine wpList_plain rfl (fun K hK => ?_); go_simp; with_reducible refine hK _ _ ?_; clear hK K)
    refine wpList_plain rfl (fun K hK => ?_)
    go_simp
    refine (HN.out _ hT).mono ?_
    rintro e w1 ⟨bs1, d1, rfl, rfl⟩
    with_reducible refine hK _ _ ?_
    clear hK K
    have hb1 := below_plus wr bs1 d1
    replace hX := hX.later hb1
    replace hT := hT.later hb1
    replace hO := hO.later hb1
    replace hr := hr.later hb1
    replace hBr := hBr.later hb1
    replace hE := hE.trans (hb1.mono hE.size)
    have hVs := Nat.le_trans zVr hb1.size
    clear hb1 HN q7
    generalize plus wr bs1 d1 = W at *
    iterate 6 (refine wpList_plain rfl (fun K hK => ?_); go_simp; with_reducible refine hK _ _ ?_; clear hK K)
    refine wpList_stA (t := 204) 204 (.tmp 11) (.tmp 38) rfl rfl (tabC TT0) (tabC []) (by rw [tabC_len0, tabC_len0]) (tabC_one _) rfl rfl (Bk.new _ _ _) (by rw [tabC_len0]; kernel_rfl) ?_
    intro W4 h4 g4
    refine wpList_plain rfl (fun K hK => ?_); go_simp; with_reducible refine hK _ _ ?_; clear hK K
    have be4 : Below W.heap.size W W4 := below_grown (Below.allocS (Below.refl _ _) _) g4 (Nat.le_refl _)
    replace hX := hX.later be4
    replace hT := hT.later be4
    replace hO := hO.later be4
    replace hr := hr.later be4
    replace hBr := hBr.later be4
    replace hE := hE.trans (be4.mono hE.size)
    have h4 : Bk W4 W.heap.size 204 (tabC TT0) := h4
    have zg4 : ¬ W.heap.size = T := h4.apart hT (by decide)
    clear be4 g4 hzt
    have hoT : ∀ a, Ab = some a → ¬ a.block = T := fun a ha e => by
     have h1 := (hO.blk a.block (by rw [ha]; rfl)).1
     have h2 := HTL.out
     rw [HT0.out] at h2
     have h3 := hwV.out
     omega
    go_upto_region 10 with (fail)
    refine wp_suS (fun b => b = T) 13 59 2 [7] rfl (by kernel_rfl) (by kernel_rfl) (fun k w' => Bk w' T 209 (stkC (if k = 0 then S else ES))) (fun k _ _ h hx => h.later hx.below) (hT) ?_
    apply StepsC.one (MC.eq _) 1 rfl (by decide)
    ·intro o ho FA w' hC hO hD K hK
     obtain rfl := qoi ho
     have e1 := hO 1 (by kernel_rfl)
     simp only [eval_tmp, qgT, qgS, qgZ, qoS] at e1
     have ev1 := Lib.hid ((eval_tmp FA 1).trans e1)
     clear hO hD ho
     go_simp
     exact hK.out _ _ (Ex.refl _) rfl
    apply StepsC.one (MC.eq _) 2 rfl (by decide)
    ·intro o ho FA w' hC hO hD K hK
     obtain rfl := qoi ho
     obtain ⟨e41, ev41⟩ := qE (hD 0 41 (by kernel_rfl))
     clear hO hD ho
     go_simp
     exact hK.out _ _ (Ex.refl _) rfl
    apply StepsC.one (MC.eq _) 3 rfl (by decide)
    ·intro o ho FA w' hC hO hD K hK
     obtain rfl := qoi ho
     obtain ⟨e42, ev42⟩ := qE (hD 1 42 (by kernel_rfl))
     clear hO hD ho
     go_simp
     exact hK.out _ _ (Ex.refl _) rfl
    apply StepsC.one (MC.eq _) 4 rfl (by decide)
    ·intro o ho FA w' hC hO hD K hK
     obtain rfl := qoi ho
     obtain ⟨e43, ev43⟩ := qE (hD 2 43 (by kernel_rfl))
     clear hO hD ho
     have hq := HQ.out w' ((Chg.of_below hE).trans hC)
     go_simp
     exact hK.out _ _ (Ex.refl _) rfl
    apply StepsC.one (MC.eq _) 5 rfl (by decide)
    ·intro o ho FA w' hC hO hD K hK
     obtain rfl := qoi ho
     have e11 := hO 11 (by kernel_rfl)
     simp only [eval_tmp, qgT, qgS, qgZ, qoS] at e11
     have ev11 := Lib.hid ((eval_tmp FA 11).trans e11)
     clear hO hD ho
     refine wanted_if rfl ?_
     refine wp_ldA 204 (.tmp 11) rfl (tabC TT0) ev11.out (h4.chg hC zg4) (whole_ _) vt1 vt2 (by rw [tabC_len0]; kernel_rfl) ?_
     exact hK.out _ _ (Ex.refl _) rfl
    apply StepsC.one (MC.eq _) 6 rfl (by decide)
    ·intro o ho FA w' hC hO hD K hK
     obtain rfl := qoi ho
     have e7 := hO 7 (by kernel_rfl)
     simp only [eval_tmp, qgT, qgS, qgZ, qoS] at e7
     have ev7 := Lib.hid ((eval_tmp FA 7).trans e7)
     clear hO hD ho
     go_simp
     exact hK.out _ _ (Ex.refl _) rfl
    apply StepsC.one (MC.eq _) 7 rfl (by decide)
    ·intro o ho FA w' hC hO hD K hK
     obtain rfl := qoi ho
     obtain ⟨e45, ev45⟩ := qE (hD 4 45 (by kernel_rfl))
     obtain ⟨e46, ev46⟩ := qE (hD 5 46 (by kernel_rfl))
     clear hO hD ho
     go_simp
     refine (HNX.out _ (hO.rs.chg hC hoT)).mono ?_
     rintro e w2 ⟨bs2, d2, rfl, rfl⟩
     exact hK.out _ _ (Ex.plus_ _ _ _) rfl
    apply StepsC.mov (MC.eq (.tuple #[.int .i64 (pushV S : Nat), .int .i64 (pushE S : Nat)])) 8 0 rfl rfl rfl
    ·intro o ho FA w' hC hO hD hS K hK
     obtain rfl := qoi ho
     obtain ⟨e44, ev44⟩ := qE (hD 3 44 (by kernel_rfl))
     obtain ⟨e47, ev47⟩ := qE (hD 6 47 (by kernel_rfl))
     clear hO hD ho
     go_simp
     refine (HP.out _ hS).mono ?_
     rintro e w2 ⟨rfl, hS2, hc2⟩
     exact hK.out _ _ hc2 hS2 rfl
    apply StepsC.one (MC.eq _) 9 rfl (by decide)
    ·intro o ho FA w' hC hO hD K hK
     obtain rfl := qoi ho
     obtain ⟨e48, ev48⟩ := qE (hD 7 48 (by kernel_rfl))
     clear hO hD ho
     go_simp
     exact hK.out _ _ (Ex.refl _) rfl
    apply StepsC.one (MC.eq _) 10 rfl (by decide)
    ·intro o ho FA w' hC hO hD K hK
     obtain rfl := qoi ho
     obtain ⟨e40, ev40⟩ := qE (hD 8 40 (by kernel_rfl))
     clear hO hD ho
     go_simp
     exact hK.out _ _ (Ex.refl _) rfl
    apply StepsC.one (MC.eq _) 11 rfl (by decide)
    ·intro o ho FA w' hC hO hD K hK
     obtain rfl := qoi ho
     obtain ⟨e40, ev40⟩ := qE (hD 8 40 (by kernel_rfl))
     clear hO hD ho
     go_simp
     exact hK.out _ _ (Ex.refl _) rfl
    apply StepsC.one (MC.eq _) 12 rfl (by decide)
    ·intro o ho FA w' hC hO hD K hK
     obtain rfl := qoi ho
     obtain ⟨e49, ev49⟩ := qE (hD 9 49 (by kernel_rfl))
     clear hO hD ho
     go_simp
     exact hK.out _ _ (Ex.refl _) rfl
    apply StepsC.one (MC.eq _) 13 rfl (by decide)
    ·intro o ho FA w' hC hO hD K hK
     obtain rfl := qoi ho
     obtain ⟨e50, ev50⟩ := qE (hD 10 50 (by kernel_rfl))
     clear hO hD ho
     go_simp
     exact hK.out _ _ (Ex.refl _) rfl
    refine StepsC.fin_ (fun vs w' hC hS hp => ?_)
    have p0 : vs 0 = _ := hp 0 (by omega) rfl
    have p1 : vs 1 = _ := hp 1 (by omega) rfl
    have p2 : vs 2 = _ := hp 2 (by omega) rfl
    have p3 : vs 3 = _ := hp 3 (by omega) rfl
    have p4 : vs 4 = _ := hp 4 (by omega) rfl
    have p5 : vs 5 = _ := hp 5 (by omega) rfl
    have p6 : vs 6 = _ := hp 6 (by omega) rfl
    have p7 : vs 7 = _ := hp 7 (by omega) rfl
    have p8 : vs 8 = _ := hp 8 (by omega) rfl
    have p9 : vs 9 = _ := hp 9 (by omega) rfl
    have p10 : vs 10 = _ := hp 10 (by omega) rfl
    have p11 : vs 11 = _ := hp 11 (by omega) rfl
    have p12 : vs 12 = _ := hp 12 (by omega) rfl
    clear hp
    simp only [List.take_succ_cons, List.take_zero, List.drop_succ_cons, List.drop_zero, putAll, Nat.zero_add, Nat.reduceAdd, Act.put, qsT, qsZ, qsS, p0, p1, p2, p3, p4, p5, p6, p7, p8, p9, p10, p11, p12]
    clear p0 p1 p2 p3 p4 p5 p6 p7 p8 p9 p10 p11 p12
    clear vs
    have hwl : w.heap.size ≤ w'.heap.size := Nat.le_trans hE.size hC.size
    replace hS : Bk w' T 209 (stkC ES) := hS
    have hch : Chg D w w' := (Chg.of_below hE).trans (hC.wid (fun b hb => by rw [show b = T from hb]; exact hDT))
    have X2 := hX.setStk HI.out (S' := ES) (by rw [HT0.out]; exact hS) (by rw [HT0.out]; exact hC)
    have hr2 : Rs 2 w' B j d (prs .i64 ms) := hr.chg hC (fun a ha e => (hB0 a ha).2 (by rw [show a.block = T from e]; exact hX.sub _ hDT))
    have hB2 : Bk w' bb 96 cur := hBr.chg hC (fun e => hrT e)
    clear hX hT hO hr hBr hE h4 hC HQ hoT HNX HP
    obtain ⟨PV, hPV⟩ : ∃ PV : Int, ((pushV S : Nat) : Int) = PV := ⟨_, rfl⟩
    obtain ⟨PE, hPE⟩ : ∃ PE : Int, ((pushE S : Nat) : Int) = PE := ⟨_, rfl⟩
    rw [hPV, hPE]
    have HPE := Lib.hid hPE
    clear hPV hPE
    by_cases hf : freeS S < 8
    ·have hp0 : (PE != 0) = false := by rw [← HPE.out]; simp [pushE, hf]
     have he := Lib.hid (show setE C x.1 ms = 0 by rw [HSE.out]; exact if_pos hf)
     have hcs := Lib.hid (show setS C i x.1 ms = { C with vs := C.vs.set i (setV x.1 ms) } from if_pos he.out)
     have HCL := Lib.hid (fun w h => mclone_any ms B j d w h hm)
     clear hf
     go_upto_region 13 with (fail)
     refine wp_region_lit ?_
     iterate 2 (refine wpList_plain rfl (fun K hK => ?_); go_simp; with_reducible refine hK _ _ ?_; clear hK K)
     refine wpList_plain rfl (fun K hK => ?_)
     go_simp
     refine (HCL.out _ hr2).mono ?_
     rintro e w1 ⟨A9, n9, c9, bs1, d1, rfl, rfl, ho9⟩
     with_reducible refine hK _ _ ?_
     clear hK K
     have hb1 := below_plus w' bs1 d1
     replace X2 := X2.later hb1
     replace hB2 := hB2.later hb1
     replace hch := hch.trans (Chg.of_below hb1)
     have hn9 : n9 = j := by have := ho9.1; rw [prs_length] at this; have := HML.out; omega
     subst hn9
     have ho9lt := fun k hk => (ho9.blk k hk)
     clear hb1
     generalize plus w' bs1 d1 = W7 at *
     iterate 2 (refine wpList_plain rfl (fun K hK => ?_); go_simp; with_reducible refine hK _ _ ?_; clear hK K)
     refine wpList_st1 (v := .slice A9 n9 c9) (t := 96) (cs := cur) (off := i * 8 + 6) 41 (.tmp 58) (.tmp 56) rfl rfl rfl rfl hB2 (by omega) rfl (by kernel_rfl) ?_
     intro W8 h8 g8
     simp only [Act.put, qsT, qsZ, qsS]
     have X3 := X2.setRow (i := i) (x := ({ x.1 with S := ES }, x.2)) (by rw [List.getElem?_set_self hil]) rfl hB2 (j := 6) (u := .slice A9 n9 c9) (by decide) (y := ({ x.1 with S := ES, ms := ms }, ⟨A9, n9, c9, x.2.T⟩)) rfl rfl rfl g8 h8 (ho9.rs.chg (Chg.one (D := fun b => b = bb) g8 rfl) (fun a ha e => by
      have h1 := (ho9lt a.block (by rw [ha]; rfl)).1
      have h2 := HBL.out
      have e : a.block = bb := e
      have := hch.size
      omega)) ((Off.own ho9 (fun b hb => Nat.lt_of_lt_of_le (HGL.out b hb) hwl)).size g8.size)
     rw [List.set_set] at X3
     have hch2 : Chg D w W8 := hch.trans (Chg.one g8 (X2.dr _ hob))
     go_wp2
     go_ret
     rw [hcs.out, HSV.out]
     simp only [List.set_set] at X3
     exact ⟨by rw [he.out]; rfl, G, D, ⟨_, _, _, _, X3⟩, Grow.refl _ _ _, hch2⟩
    ·have hp0 : (PE != 0) = true := by rw [← HPE.out]; simp [pushE, hf]
     have he := Lib.hid (show setE C x.1 ms = pushE S from HSE.out)
     have hcs := Lib.hid (show setS C i x.1 ms = C from if_neg (by rw [he.out]; simp [pushE, hf]))
     have hES : ES = S := by rw [← HES.out]; exact if_neg hf
     have hid : ({ C with vs := C.vs.set i { x.1 with S := ES } } : Cf) = C := by
      have h1 : ({ x.1 with S := ES } : Vp) = x.1 := by rw [hES, ← HS0.out]
      have h2 : C.vs.set i x.1 = C.vs := by
       have h3 := HVS.out
       have : C.vs[i]? = some x.1 := by rw [← h3, List.getElem?_map, HI.out]; rfl
       obtain ⟨h4, h5⟩ := List.getElem?_eq_some_iff.1 this
       rw [← h5, List.set_getElem_self]
      rw [h1, h2]
     rw [hid] at X2
     clear hf hES hid
     go_wp2
     go_ret
     rw [hcs.out]
     exact ⟨by rw [he.out, HPE.out]; rfl, G, D, ⟨_, _, _, _, X2⟩, Grow.refl _ _ _, hch⟩
end

section
open Go.RowKit
attribute [local go_sem ↓] sliced_cut
attribute [local go_sem] cutA_zero
def mkJ (k b : Int) (L : List Vp) (j : Nat) : List Vp := (L.take j).map (mrkV k b) ++ L.drop j
theorem mkJ_0 (k b : Int) (L : List Vp) : mkJ k b L 0 = L := by simp [mkJ]
theorem mkJ_at (k b : Int) (L : List Vp) (j : Nat) : (mkJ k b L j)[j]? = L[j]? := by
 unfold mkJ
 rcases Nat.lt_or_ge j L.length with h | h
 ·rw [List.getElem?_append_right (by simp; omega)]
  simp
  congr 1
  omega
 ·rw [List.getElem?_eq_none (by simp; omega), List.getElem?_eq_none h]
theorem mkJ_succ (k b : Int) (L : List Vp) (j : Nat) (v : Vp) (h : L[j]? = some v) : mkJ k b L (j + 1) = (mkJ k b L j).set j (mrkV k b v) := by
 obtain ⟨hj, hv⟩ := List.getElem?_eq_some_iff.1 h
 unfold mkJ
 rw [List.take_succ_eq_append_getElem hj, List.map_append, List.set_append_right _ _ (by simp; omega), List.append_assoc]
 congr 1
 rw [hv]
 have e : j - (List.map (mrkV k b) (List.take j L)).length = 0 := by simp; omega
 rw [e, List.drop_eq_getElem_cons hj]
 rfl
theorem mrkE_ne {S : Stk} {k n : Int} (h : ¬ mrkE S k n = 0) : mrkS S k n = S := by
 unfold mrkE at h
 unfold mrkS
 split at h
 ·rename_i hk
  rw [if_pos hk]
  unfold admE at h
  unfold admS
  split at h
  ·exact absurd rfl h
  ·rename_i hd; rw [if_neg hd]
 ·rename_i hk
  rw [if_neg hk]
  unfold eviE at h
  unfold eviS
  split at h
  ·rename_i hn
   split at h
   ·rename_i hd; rw [hn, hd]; rfl
   ·exact absurd rfl h
  ·rename_i hn
   simp only [Bool.not_eq_true] at hn
   rw [hn]
   rfl
def markS (C : Cf) (k b : Int) : Cf := if markE C k b = 0 then { C with vs := C.vs.map (mrkV k b) } else C
theorem mrkA (S : Stk) (ho : StkOk S) (T : Nat) (k b : Int) (hb : b ≤ 9223372036854775807) (w : World) (hk : k = 7) (h : Bk w T 209 (stkC S)) : Calls Tryz.prog 116 #[.pointer (some ⟨T, 0, none⟩), .int .i64 b] w (RetSt w T (mrkS S k b) (.int .i64 (mrkE S k b : Nat))) := by
 unfold mrkS mrkE
 rw [if_pos hk, if_pos hk]
 exact admit_any S ho T b hb w h
theorem mrkB (S : Stk) (ho : StkOk S) (T : Nat) (k b : Int) (hb : b ≤ 9223372036854775807) (w : World) (hk : ¬ k = 7) (h : Bk w T 209 (stkC S)) : Calls Tryz.prog 115 #[.pointer (some ⟨T, 0, none⟩), .int .i64 b] w (RetSt w T (mrkS S k b) (.int .i64 (mrkE S k b : Nat))) := by
 unfold mrkS mrkE
 rw [if_neg hk, if_neg hk]
 exact evict_any S ho T b hb w h
set_option maxHeartbeats 4000000 in
set_option maxRecDepth 100000 in
theorem mark_any {G D : Nat → Prop} (k v b e : Int) (six : Bool) (ah al pt pr : Nat) (wy : Int) (ms : List (Int × Int)) (B : Option Addr) (m d : Nat) (C : Cf) (hC : CfOk C) (g : Nat) (A : Option Addr) (n c : Nat) (E : List Ve) (w : World) (hX : CfX G D w g C A n c E) (hb63 : b ≤ 9223372036854775807) : Calls Tryz.prog 64 #[.pointer (some ⟨g, 0, none⟩), .agg (opC k v b e six ah al pt pr wy B m d).toArray] w (RetCf G D w g (markS C k b) (.int .i64 (markE C k b : Nat))) := by
 obtain ⟨da, va1, va2⟩ := rowAdC
 obtain ⟨do1, vo1, vo2⟩ := rowOpC
 obtain ⟨dv1, vv1, vv2⟩ := rowVe
 have hk := hC.key
 have hb := hC.bl
 have HLT := Lib.hid (fun z (h : D z) => hX.lt z (hX.sub z h))
 have HB := Lib.hid (fun w h => backend_any C hk hb A n c g b w h)
 have hn16 : n ≤ 16 := by have := hX.n_; have := hC.vl; omega
 have HN0 := Lib.hid hX.n_
 obtain ⟨bo, be, zV⟩ := box1 w 43 (opC k v b e six ah al pt pr wy B m d)
 go_enter Tryz.func64, Tryz.ntmps64
 go_upto_region 1 with (fail)
 generalize w.alloc (.cells (opC k v b e six ah al pt pr wy B m d).toArray 43) = V at *
 replace hX := hX.later be
 go_upto_region 1 with (fail)
 refine wp_region_lit ?_
 iterate 2 (refine wpList_plain rfl (fun K hK => ?_); go_simp; with_reducible refine hK _ _ ?_; clear hK K)
 refine wpList_ld1 (t := 43) (cs := opC k v b e six ah al pt pr wy B m d) 3 (.tmp 13) rfl (by rfl) rfl (bo) rfl Tryz.underlying3 rfl ?_
 refine wpList_plain rfl (fun K hK => ?_)
 go_simp
 refine (HB.out _ hX.st).mono ?_
 rintro e w1 ⟨bs1, d1, rfl, rfl⟩
 with_reducible refine hK _ _ ?_
 clear hK K
 have hb1 := below_plus V bs1 d1
 replace hX := hX.later hb1
 replace bo := bo.later hb1
 replace be := be.trans (hb1.mono be.size)
 clear hb1
 generalize plus V bs1 d1 = V1 at *
 iterate 4 (refine wpList_plain rfl (fun K hK => ?_); go_simp; with_reducible refine hK _ _ ?_; clear hK K)
 refine wpList_stA (t := 32) 32 (.tmp 5) (.tmp 16) rfl rfl (adC (bkA C b).1 (bkA C b).2.1 (bkA C b).2.2) (adC false 0 0) rfl (by simp [adC, Value.oneCell']) rfl rfl (Bk.new _ _ _) (szAd _ _ _) ?_
 intro W4 h4 g4
 refine wpList_plain rfl (fun K hK => ?_); go_simp; with_reducible refine hK _ _ ?_; clear hK K
 have be4 : Below V1.heap.size V1 W4 := below_grown (Below.allocS (Below.refl _ _) _) g4 (Nat.le_refl _)
 replace hX := hX.later be4
 replace bo := bo.later be4
 replace be := be.trans (be4.mono be.size)
 clear be4 h4 g4 HB
 cases hkn : knC C b
 ·have HKN := Lib.hid hkn
  clear hkn
  have he := Lib.hid (show markE C k b = 6 by unfold markE; rw [if_pos HKN.out])
  have hcs := Lib.hid (show markS C k b = C from if_neg (by rw [he.out]; decide))
  go_wp2
  go_ret
  exact ⟨by rw [he.out]; rfl, G, D, ⟨A, n, c, E, by rw [hcs.out]; exact hX⟩, Grow.refl _ _ _, Chg.of_below be⟩
 ·have HKN := Lib.hid hkn
  clear hkn
  rcases Nat.eq_zero_or_pos n with h0 | h0
  ·have hq0 : W4.cell? ⟨g, 278, none⟩ = some (.slice A n c) := (hX.st.cell 278).trans (stC_vips C hk hb A n c)
   have hvs0 : C.vs = [] := List.eq_nil_of_length_eq_zero (by have := HN0.out; omega)
   have h0i : ((n : Int) == 0) = true := by simp [h0]
   have HVS := Lib.hid hvs0
   clear h0 hvs0
   have he := Lib.hid (show markE C k b = 1 by unfold markE; rw [if_neg (by rw [HKN.out]; simp), HVS.out])
   have hcs := Lib.hid (show markS C k b = C from if_neg (by rw [he.out]; decide))
   go_wp2
   go_ret
   exact ⟨by rw [he.out]; rfl, G, D, ⟨A, n, c, E, by rw [hcs.out]; exact hX⟩, Grow.refl _ _ _, Chg.of_below be⟩
  ·have h0i : ((n : Int) == 0) = false := by simp; omega
   by_cases hk7 : k = 7
   focus
    have hk7i : (k == 7) = true := by simp [hk7]
    have HK7 := Lib.hid hk7
    clear hk7
    have HAP := Lib.hid (fun (S : Stk) (T : Nat) (w : World) (ho : StkOk S) (h : Bk w T 209 (stkC S)) => mrkA S ho T k b hb63 w HK7.out h)
   rotate_left
   focus
    have hk7i : (k == 7) = false := by simp [hk7]
    have HK7 := Lib.hid hk7
    clear hk7
    have HAP := Lib.hid (fun (S : Stk) (T : Nat) (w : World) (ho : StkOk S) (h : Bk w T 209 (stkC S)) => mrkB S ho T k b hb63 w HK7.out h)
   iterate 2
    focus
     have hq0 : W4.cell? ⟨g, 278, none⟩ = some (.slice A n c) := (hX.st.cell 278).trans (stC_vips C hk hb A n c)
     have hn0 : 0 < n := by omega
     have hn0i : (0 : Int) < (n : Int) := by omega
     obtain ⟨bb, cur, rfl, hob, hBr, hcl, -, hnc, -⟩ := hX.row.bk hn0
     have hlE := hX.len
     have hnE := hX.n_
     have hmem : E[0]'(by omega) ∈ E := List.getElem_mem _
     have hi0 : E[0]? = some (E[0]'(by omega)) := List.getElem?_eq_getElem _
     have hv0 : C.vs[0]? = some (E[0]'(by omega)).1 := by rw [← hX.vs, List.getElem?_map, hi0]; rfl
     have hok0 := (hC.vs _ (List.mem_of_getElem? hv0)).st
     have hq7 : ∀ W, Below W4.heap.size W4 W → W.cell? ⟨bb, 7, none⟩ = some (.pointer (some ⟨(E[0]'(by omega)).2.T, 0, none⟩)) := fun W h => by
      have := (hX.row.rs.later h).rangeE veC_len 0 (by omega)
      simpa using this 7 _ rfl
     have HQ := Lib.hid hq7
     generalize E[0]'(by omega) = x0 at *
     have hm1 : markE C k b = mrkE x0.1.S k b := by
      unfold markE
      rw [if_neg (by rw [HKN.out]; simp)]
      cases hc : C.vs with
      | nil => rw [hc] at hv0; cases hv0
      | cons a t => rw [hc] at hv0; simp at hv0; rw [hv0]
     have HM1 := Lib.hid hm1
     have HV0 := Lib.hid hv0
     have HI0 := Lib.hid hi0
     have HLE := Lib.hid hlE
     have HNE := Lib.hid hnE
     clear hq7 hm1 hv0 hi0 hlE hnE hn0
     have hqk : W4.cell? ⟨w.heap.size, 0, none⟩ = some (.int .i64 k) := bo.cell 0
     go_upto_region 9 with (fail)
     clear hq0 hqk
     refine wp_relS 10 60 rfl (by kernel_rfl) (by kernel_rfl) ?_
     apply Steps.o1 (MP.eq _) 1 rfl rfl
     ·intro FA x hO hD K hK
      have e7 := hO 7 (by kernel_rfl)
      simp only [eval_tmp, qgT, qgS, qgZ, qoS] at e7
      have ev7 := Lib.hid ((eval_tmp FA 7).trans e7)
      clear hO hD
      go_simp
      exact hK.out _ _ (Ex.refl _) rfl
     apply Steps.o1 (MP.eq _) 2 rfl rfl
     ·intro FA x hO hD K hK
      have e0 := hO 0 (by kernel_rfl)
      simp only [eval_tmp, qgT, qgS, qgZ, qoS] at e0
      have ev0 := Lib.hid ((eval_tmp FA 0).trans e0)
      clear hO hD
      go_simp
      exact hK.out _ _ (Ex.refl _) rfl
     apply Steps.o1 (MP.eq _) 3 rfl rfl
     ·intro FA x hO hD K hK
      obtain ⟨e30, ev30⟩ := qE (hD 1 30 (by kernel_rfl))
      clear hO hD
      go_simp
      exact hK.out _ _ (Ex.refl _) rfl
     apply Steps.o1 (MP.eq _) 4 rfl rfl
     ·intro FA x hO hD K hK
      obtain ⟨e31, ev31⟩ := qE (hD 2 31 (by kernel_rfl))
      clear hO hD
      go_simp
      exact hK.out _ _ (Ex.refl _) rfl
     apply Steps.o1 (MP.eq _) 5 rfl rfl
     ·intro FA x hO hD K hK
      obtain ⟨e32, ev32⟩ := qE (hD 3 32 (by kernel_rfl))
      clear hO hD
      refine wanted_if rfl ?_
      refine wp_ld1 61 (.tmp 32) rfl ev32.out (hX.st.later (below_plus _ _ _)) (stC_vips C hk hb _ n c) Tryz.underlying61 rfl ?_
      exact hK.out _ _ (Ex.refl _) rfl
     apply Steps.o1 (MP.eq _) 6 rfl rfl
     ·intro FA x hO hD K hK
      obtain ⟨e33, ev33⟩ := qE (hD 4 33 (by kernel_rfl))
      clear hO hD
      go_simp
      exact hK.out _ _ (Ex.refl _) rfl
     apply Steps.o1 (MP.eq _) 7 rfl rfl
     ·intro FA x hO hD K hK
      obtain ⟨e34, ev34⟩ := qE (hD 5 34 (by kernel_rfl))
      clear hO hD
      go_simp
      exact hK.out _ _ (Ex.refl _) rfl
     apply Steps.o1 (MP.eq _) 8 rfl rfl
     ·intro FA x hO hD K hK
      obtain ⟨e35, ev35⟩ := qE (hD 6 35 (by kernel_rfl))
      clear hO hD
      have hq := HQ.out _ (below_plus W4 x.bs x.d)
      go_simp
      exact hK.out _ _ (Ex.refl _) rfl
     apply Steps.o1 (MP.eq _) 9 rfl rfl
     ·intro FA x hO hD K hK
      have e3 := hO 3 (by kernel_rfl)
      simp only [eval_tmp, qgT, qgS, qgZ, qoS] at e3
      have ev3 := Lib.hid ((eval_tmp FA 3).trans e3)
      clear hO hD
      go_simp
      exact hK.out _ _ (Ex.refl _) rfl
     apply Steps.o1 (MP.eq _) 10 rfl rfl
     ·intro FA x hO hD K hK
      obtain ⟨e37, ev37⟩ := qE (hD 8 37 (by kernel_rfl))
      clear hO hD
      refine wanted_if rfl ?_
      refine wp_ld1 3 (.tmp 37) rfl ev37.out (bo.later (below_plus _ _ _)) rfl Tryz.underlying3 rfl ?_
      exact hK.out _ _ (Ex.refl _) rfl
     refine Steps.fin_ (fun vs x hp => ?_)
     have p0 : vs 0 = _ := hp 0 (by omega)
     have p1 : vs 1 = _ := hp 1 (by omega)
     have p2 : vs 2 = _ := hp 2 (by omega)
     have p3 : vs 3 = _ := hp 3 (by omega)
     have p4 : vs 4 = _ := hp 4 (by omega)
     have p5 : vs 5 = _ := hp 5 (by omega)
     have p6 : vs 6 = _ := hp 6 (by omega)
     have p7 : vs 7 = _ := hp 7 (by omega)
     have p8 : vs 8 = _ := hp 8 (by omega)
     have p9 : vs 9 = _ := hp 9 (by omega)
     clear hp
     simp only [List.take_succ_cons, List.take_zero, List.drop_succ_cons, List.drop_zero, putAll, Nat.zero_add, Nat.reduceAdd, Act.put, qsT, qsZ, qsS, p0, p1, p2, p3, p4, p5, p6, p7, p8, p9]
     clear p0 p1 p2 p3 p4 p5 p6 p7 p8 p9
     clear vs
     have hb9 := below_plus W4 x.bs x.d
     replace hX := hX.later hb9
     replace bo := bo.later hb9
     replace be := be.trans (hb9.mono be.size)
     clear hb9 HQ
     generalize plus W4 x.bs x.d = V5 at *
     refine wpList_plain rfl (fun K hK => ?_)
     go_simp
     refine (HAP.out x0.1.S x0.2.T _ hok0 (hX.tb x0 hmem)).mono ?_
     rintro en w1 ⟨rfl, hS2, hc2⟩
     with_reducible refine hK _ _ ?_
     clear hK K
     refine wpList_plain rfl (fun K hK => ?_); go_simp; with_reducible refine hK _ _ ?_; clear hK K
     have X1 := hX.setStk HI0.out hS2 hc2
     have hch : Chg D w w1 := (Chg.of_below be).trans (hc2.wid (fun z hz => by rw [show z = x0.2.T from hz]; exact hX.dt x0 hmem))
     replace bo : Bk w1 w.heap.size 43 (opC k v b e six ah al pt pr wy B m d) := bo.chg hc2 (fun z => by have z : w.heap.size = x0.2.T := z; have := HLT.out _ (hX.dt x0 hmem); omega)
     clear hX hS2 hc2 be
     obtain ⟨PE, hPE⟩ : ∃ PE : Int, ((mrkE x0.1.S k b : Nat) : Int) = PE := ⟨_, rfl⟩
     rw [hPE]
     have HPE := Lib.hid hPE
     clear hPE
     by_cases hne : mrkE x0.1.S k b = 0
     ·have hp0 : (PE != 0) = false := by rw [← HPE.out]; simp [hne]
      have he := Lib.hid (show markE C k b = 0 by rw [HM1.out]; exact hne)
      have hcs := Lib.hid (show markS C k b = { C with vs := C.vs.map (mrkV k b) } from if_pos he.out)
      clear hne
      have hq0 : w1.cell? ⟨g, 278, none⟩ = some (.slice (some ⟨bb, 0, none⟩) n c) := (X1.st.cell 278).trans (stC_vips _ hk hb _ n c)
      have hn1 : (1 : Int) ≤ (n : Int) := by omega
      have hXm : CfX G D w1 g { C with vs := mkJ k b C.vs 1 } (some ⟨bb, 0, none⟩) n c (E.set 0 ({ x0.1 with S := mrkS x0.1.S k b }, x0.2)) := by
       have : C.vs.set 0 { x0.1 with S := mrkS x0.1.S k b } = mkJ k b C.vs 1 := by
        have h := mkJ_succ k b C.vs 0 x0.1 HV0.out
        rw [mkJ_0] at h
        exact h.symm
       rw [← this]
       exact X1
      have HXM := Lib.hid hXm
      clear X1 hXm
      go_upto_region 13 with (fail)
      clear hq0
      have HBO := Lib.hid bo
      have HCH := Lib.hid hch
      clear bo hch
      rcases Nat.lt_or_ge n 2 with h2 | h2
      ·have hn1' : n = 1 := by omega
       subst hn1'
       have hfin : mkJ k b C.vs 1 = C.vs.map (mrkV k b) := by
        unfold mkJ
        rw [List.take_of_length_le (by have := HNE.out; omega), List.drop_of_length_le (by have := HNE.out; omega), List.append_nil]
       have HF := Lib.hid hfin
       clear hfin
       go_loopw [49] (fun I wr => I = .int .i64 0 ∧ wr = w1) (fun I _ => 0)
       case atStart => exact ⟨rfl, rfl⟩
       case round =>
        obtain ⟨rfl, rfl⟩ := hrel
        go_wp2
        go_ret
        rw [hcs.out, ← HF.out]
        exact ⟨by rw [he.out]; rfl, G, D, ⟨_, _, _, _, HXM.out⟩, Grow.refl _ _ _, HCH.out⟩
      ·have hc1 : ¬ c = 1 := by omega
       have hcut : cutA (some ⟨bb, 0, none⟩) c 1 8 = some ⟨bb, 8, none⟩ := by unfold cutA; rw [if_neg hc1]; rfl
       obtain ⟨n1, rfl⟩ : ∃ n1, n = n1 + 1 := ⟨n - 1, by omega⟩
       rw [hcut, Nat.add_sub_cancel]
       have n18 : n1 ≤ 16 := by omega
       clear hcut h2
       go_loopw [49] (fun I wr => ∃ (j : Nat) (E1 : List Ve), I = .int .i64 (j : Int) ∧ j ≤ n1 ∧ CfX G D wr g { C with vs := mkJ k b C.vs (j + 1) } (some ⟨bb, 0, none⟩) (n1 + 1) c E1 ∧ Bk wr w.heap.size 43 (opC k v b e six ah al pt pr wy B m d) ∧ Chg D w wr) (fun I _ => n1 - (intOf I).toNat)
       case atStart => exact ⟨0, _, rfl, Nat.zero_le _, HXM.out, HBO.out, HCH.out⟩
       case round =>
        clear HXM HBO HCH
        obtain ⟨j, E1, rfl, hj, hX, bo, hch⟩ := hrel
        by_cases hlt : j < n1
        ·have ij : (j : Int) < (n1 : Int) := by omega
         have hl1 : E1.length = n1 + 1 := by have h1 := hX.len; have h2 := hX.n_; omega
         have hmy : E1[j + 1]'(by omega) ∈ E1 := List.getElem_mem _
         have hiy : E1[j + 1]? = some (E1[j + 1]'(by omega)) := List.getElem?_eq_getElem _
         have hvy : C.vs[j + 1]? = some (E1[j + 1]'(by omega)).1 := by
          rw [← mkJ_at k b C.vs (j + 1)]
          have := hX.vs
          rw [show mkJ k b C.vs (j + 1) = List.map (·.1) E1 from this.symm, List.getElem?_map, hiy]; rfl
         have hoky := (hC.vs _ (List.mem_of_getElem? hvy)).st
         have hgy : wr.rangeAt bb (8 + j * 8) (veC (E1[j + 1]'(by omega))) := by
          have := hX.row.rs.rangeE veC_len (j + 1) (by omega)
          rwa [show 0 + (j + 1) * 8 = 8 + j * 8 by omega] at this
         generalize E1[j + 1]'(by omega) = y at *
         have HIY := Lib.hid hiy
         have HVY := Lib.hid hvy
         clear hiy hvy hl1
         go_upto_region 15 with (first
          | (refine at_op (.load 96 (.tmp 51)) rfl ?_; refine wpList_load_mid rfl 96 (.tmp 51) rfl bb (8 + j * 8) rfl (veC y) _ hgy vv1 vv2 (szVe _) ?_)
          | (refine at_op (.store 96 (.tmp 10) (.tmp 52)) rfl ?_; refine wpList_stA (t := 96) 96 (.tmp 10) (.tmp 52) rfl rfl (veC y) [.bool false, .int .u64 0, .int .u64 0, .int .u16 0, .int .u8 0, .int .i64 0, .slice none 0 0, .pointer none] rfl (veC_one _) rfl rfl (Bk.new _ _ _) (szVe _) ?_; intro W6 h6 g6))
         have be6 : Below wr.heap.size wr W6 := below_grown (Below.allocS (Below.refl _ _) _) g6 (Nat.le_refl _)
         have q7 : W6.cell? ⟨wr.heap.size, 7, none⟩ = some (.pointer (some ⟨y.2.T, 0, none⟩)) := h6.cell 7
         replace hX := hX.later be6
         replace bo := bo.later be6
         replace hch := hch.trans (Chg.of_below be6)
         clear be6 h6 g6 hgy
         generalize wr.heap.size = gv at *
         refine wp_region_lit ?_
         iterate 4 (refine wpList_plain rfl (fun K hK => ?_); go_simp; with_reducible refine hK _ _ ?_; clear hK K)
         refine wpList_ld1 (t := 43) (cs := opC k v b e six ah al pt pr wy B m d) 3 (.tmp 56) rfl (by rfl) rfl (bo) rfl Tryz.underlying3 rfl ?_
         refine wpList_plain rfl (fun K hK => ?_)
         go_simp
         refine (HAP.out y.1.S y.2.T _ hoky (hX.tb y hmy)).mono ?_
         rintro en w1 ⟨rfl, hS2, hc2⟩
         with_reducible refine hK _ _ ?_
         clear hK K
         have X2 := hX.setStk HIY.out hS2 hc2
         replace hch : Chg D w w1 := hch.trans (hc2.wid (fun z hz => by rw [show z = y.2.T from hz]; exact hX.dt y hmy))
         replace bo : Bk w1 w.heap.size 43 (opC k v b e six ah al pt pr wy B m d) := bo.chg hc2 (fun z => by have z : w.heap.size = y.2.T := z; have := HLT.out _ (hX.dt y hmy); omega)
         have hs := mkJ_succ k b C.vs (j + 1) y.1 HVY.out
         replace X2 : CfX G D w1 g { C with vs := (mkJ k b C.vs (j + 1)).set (j + 1) (mrkV k b y.1) } (some ⟨bb, 0, none⟩) (n1 + 1) c (E1.set (j + 1) ({ y.1 with S := mrkS y.1.S k b }, y.2)) := X2
         rw [← hs] at X2
         have HH := Lib.hid (And.intro X2 (And.intro bo hch))
         clear X2 bo hch hX hS2 hc2 hs q7
         go_wp2
         exact ⟨⟨j + 1, by go_num, by omega, ⟨_, HH.out.1⟩, HH.out.2.1, HH.out.2.2⟩, by simp [intOf]; omega⟩
        ·obtain rfl : j = n1 := by omega
         have ij : ¬ (j : Int) < (j : Int) := by omega
         have hfin : mkJ k b C.vs (j + 1) = C.vs.map (mrkV k b) := by
          unfold mkJ
          rw [List.take_of_length_le (by have := HNE.out; omega), List.drop_of_length_le (by have := HNE.out; omega), List.append_nil]
         rw [hfin] at hX
         have HH := Lib.hid (And.intro hX hch)
         clear hX hch hfin hj bo
         go_wp2
         go_ret
         rw [hcs.out]
         exact ⟨by rw [he.out]; rfl, G, D, ⟨_, _, _, _, HH.out.1⟩, Grow.refl _ _ _, HH.out.2⟩
     ·have hp0 : (PE != 0) = true := by rw [← HPE.out]; simp [hne]
      have he := Lib.hid (show markE C k b = mrkE x0.1.S k b from HM1.out)
      have hcs := Lib.hid (show markS C k b = C from if_neg (by rw [he.out]; exact hne))
      have hid : ({ C with vs := C.vs.set 0 { x0.1 with S := mrkS x0.1.S k b } } : Cf) = C := by
       have h1 : ({ x0.1 with S := mrkS x0.1.S k b } : Vp) = x0.1 := by rw [mrkE_ne hne]
       have h2 : C.vs.set 0 x0.1 = C.vs := by
        obtain ⟨h4, h5⟩ := List.getElem?_eq_some_iff.1 HV0.out
        rw [← h5, List.set_getElem_self]
       rw [h1, h2]
      rw [hid] at X1
      clear hne hid bo
      go_wp2
      go_ret
      rw [hcs.out]
      exact ⟨by rw [he.out, HPE.out]; rfl, G, D, ⟨_, _, _, _, X1⟩, Grow.refl _ _ _, hch⟩
end

section
open Go.RowKit
attribute [local go_sem ↓] sliced_cut
attribute [local go_sem] cutA_zero
theorem do_1 (C : Cf) (o : OpR) (h : o.k = 1) : doC C o = (bif (numB o.b && adG o.six o.ah o.al) then { C with bk := C.bk.set o.b.toNat (some (o.six, o.ah, o.al)) } else C) ∧ ((chE C o : Nat) : Int) = (bif (numB o.b && adG o.six o.ah o.al) then 0 else 1) := by
 unfold doC chC chE
 rw [if_pos h, if_pos h]
 cases (numB o.b && adG o.six o.ah o.al) <;> simp
theorem do_2 (C : Cf) (o : OpR) (h : o.k = 2) : doC C o = addS C o ∧ chE C o = addE C o := by
 unfold doC chC chE addS
 rw [h]
 simp
theorem do_67 (C : Cf) (o : OpR) (h : o.k = 6 ∨ o.k = 7) : doC C o = markS C o.k o.b ∧ chE C o = markE C o.k o.b := by
 unfold doC chC chE markS
 have h1 : ¬ o.k = 1 := by omega
 have h2 : ¬ o.k = 2 := by omega
 simp only [if_neg h1, if_neg h2, if_pos h]
 exact ⟨trivial, trivial⟩
theorem do_8 (C : Cf) (o : OpR) (h : o.k = 8) : doC C o = { C with now := (C.now + 1) % 18446744073709551616 } ∧ chE C o = 0 := by
 unfold doC chC chE
 rw [h]
 simp
theorem do_no (C : Cf) (o : OpR) (h1 : ¬ o.k = 1) (h2 : ¬ o.k = 2) (h6 : ¬ o.k = 6) (h7 : ¬ o.k = 7) (h8 : ¬ o.k = 8) (hv : vAt C o.v = none) : doC C o = C ∧ chE C o = 6 := by
 have h67 : ¬ (o.k = 6 ∨ o.k = 7) := by omega
 have e : chE C o = 6 := by unfold chE; simp only [if_neg h1, if_neg h2, if_neg h67, if_neg h8, hv]
 exact ⟨by unfold doC; rw [if_neg (by rw [e]; decide)], e⟩
theorem do_v (C : Cf) (o : OpR) (h1 : ¬ o.k = 1) (h2 : ¬ o.k = 2) (h6 : ¬ o.k = 6) (h7 : ¬ o.k = 7) (h8 : ¬ o.k = 8) {v : Vp} (hv : vAt C o.v = some v) : doC C o = (if vipE C o v = 0 then { C with vs := C.vs.set o.v.toNat (vipV o v) } else C) ∧ chE C o = vipE C o v := by
 have h67 : ¬ (o.k = 6 ∨ o.k = 7) := by omega
 unfold doC chC chE
 simp only [if_neg h1, if_neg h2, if_neg h67, if_neg h8, hv]
 exact ⟨trivial, trivial⟩
theorem vAt_some {C : Cf} {i : Nat} {v : Vp} (h : C.vs[i]? = some v) : vAt C (i : Int) = some v := by unfold vAt; rw [if_pos (by omega)]; exact h
theorem set_same {C : Cf} {i : Nat} {v : Vp} (h : C.vs[i]? = some v) : ({ C with vs := C.vs.set i v } : Cf) = C := by
 obtain ⟨h4, h5⟩ := List.getElem?_eq_some_iff.1 h
 rw [← h5, List.set_getElem_self]
theorem do_3 (C : Cf) (o : OpR) (h : o.k = 3) {i : Nat} {v : Vp} (hi : o.v = i) (hv : C.vs[i]? = some v) : doC C o = setS C i v o.ms ∧ chE C o = setE C v o.ms := by
 obtain ⟨h1, h2⟩ := do_v C o (by omega) (by omega) (by omega) (by omega) (by omega) (by rw [hi]; exact vAt_some hv)
 have e1 : vipE C o v = setE C v o.ms := by unfold vipE; rw [if_pos h]
 have e2 : vipV o v = setV v o.ms := by unfold vipV; rw [if_pos h]
 rw [h1, h2, e1, e2, hi]
 exact ⟨rfl, rfl⟩
theorem retE_ne {S : Stk} {v : Int} (h : ¬ retE S v = 0) : retS S v = S := by
 unfold retE at h
 unfold retS
 split at h
 ·exact absurd rfl h
 ·rename_i h1; rw [if_neg h1]
theorem rlsE_ne {S : Stk} {v : Int} (h : ¬ rlsE S v = 0) : rlsS S v = S := by
 unfold rlsE at h
 unfold rlsS
 split at h
 ·exact absurd rfl h
 ·rename_i h1; rw [if_neg h1]
theorem do_4 (C : Cf) (o : OpR) (h : o.k = 4) {i : Nat} {v : Vp} (hi : o.v = i) (hv : C.vs[i]? = some v) : doC C o = { C with vs := C.vs.set i { v with S := retS v.S o.e } } ∧ chE C o = retE v.S o.e := by
 obtain ⟨h1, h2⟩ := do_v C o (by omega) (by omega) (by omega) (by omega) (by omega) (by rw [hi]; exact vAt_some hv)
 have e1 : vipE C o v = retE v.S o.e := by unfold vipE; rw [if_neg (by omega), if_pos h]
 have e2 : vipV o v = { v with S := retS v.S o.e } := by unfold vipV; rw [if_neg (by omega), if_pos h]
 rw [h1, h2, e1, e2, hi]
 refine ⟨?_, rfl⟩
 by_cases h0 : retE v.S o.e = 0
 ·rw [if_pos h0]; rfl
 ·rw [if_neg h0, retE_ne h0]; exact (set_same hv).symm
theorem do_5 (C : Cf) (o : OpR) (h : o.k = 5) {i : Nat} {v : Vp} (hi : o.v = i) (hv : C.vs[i]? = some v) : doC C o = { C with vs := C.vs.set i { v with S := rlsS v.S o.e } } ∧ chE C o = rlsE v.S o.e := by
 obtain ⟨h1, h2⟩ := do_v C o (by omega) (by omega) (by omega) (by omega) (by omega) (by rw [hi]; exact vAt_some hv)
 have e1 : vipE C o v = rlsE v.S o.e := by unfold vipE; rw [if_neg (by omega), if_neg (by omega), if_pos h]
 have e2 : vipV o v = { v with S := rlsS v.S o.e } := by unfold vipV; rw [if_neg (by omega), if_neg (by omega)]
 rw [h1, h2, e1, e2, hi]
 refine ⟨?_, rfl⟩
 by_cases h0 : rlsE v.S o.e = 0
 ·rw [if_pos h0]; rfl
 ·rw [if_neg h0, rlsE_ne h0]; exact (set_same hv).symm
theorem do_x (C : Cf) (o : OpR) (h1 : ¬ o.k = 1) (h2 : ¬ o.k = 2) (h6 : ¬ o.k = 6) (h7 : ¬ o.k = 7) (h8 : ¬ o.k = 8) (h3 : ¬ o.k = 3) (h4 : ¬ o.k = 4) (h5 : ¬ o.k = 5) {i : Nat} {v : Vp} (hi : o.v = i) (hv : C.vs[i]? = some v) : doC C o = C ∧ chE C o = 1 := by
 obtain ⟨k1, k2⟩ := do_v C o h1 h2 h6 h7 h8 (by rw [hi]; exact vAt_some hv)
 have e1 : vipE C o v = 1 := by unfold vipE; rw [if_neg h3, if_neg h4, if_neg h5]
 rw [k1, k2, e1]
 exact ⟨by rw [if_neg (by decide)], rfl⟩
set_option maxHeartbeats 4000000
set_option maxRecDepth 100000
theorem change_any {G D : Nat → Prop} (k v b e : Int) (six : Bool) (ah al pt pr : Nat) (wy : Int) (ms : List (Int × Int)) (B : Option Addr) (m d : Nat) (C : Cf) (hC : CfOk C) (g : Nat) (A : Option Addr) (n c : Nat) (E : List Ve) (w : World) (hX : CfX G D w g C A n c E) (ho : OpOk (⟨k, v, b, e, six, ah, al, pt, pr, wy, ms⟩ : OpR)) (hr : Rs 2 w B m d (prs .i64 ms)) (hB0 : Off G w B) (hm : m ≤ 1000000) : Calls Tryz.prog 22 #[.pointer (some ⟨g, 0, none⟩), .agg (opC k v b e six ah al pt pr wy B m d).toArray] w (RetCf G D w g (doC C (⟨k, v, b, e, six, ah, al, pt, pr, wy, ms⟩ : OpR)) (.int .i64 (chE C (⟨k, v, b, e, six, ah, al, pt, pr, wy, ms⟩ : OpR) : Nat))) := by
 obtain ⟨da, va1, va2⟩ := rowAdC
 obtain ⟨do1, vo1, vo2⟩ := rowOpC
 obtain ⟨dr1, vr1, vr2⟩ : ∃ d, Tryz.prog.underlying 57 = some d ∧ d.isRow = true := ⟨_, Tryz.underlying57, rfl⟩
 have hk := hC.key
 have hb := hC.bl
 have hal := ho.al
 have hpr := ho.pr
 have hb63 := ho.b.2
 have he63 := ho.e.2
 simp only at hal hpr hb63 he63
 have hn16 : n ≤ 16 := by have := hX.n_; have := hC.vl; omega
 by_cases k1 : k = 1
 ·have i1 : (k == 1) = true := by simp [k1]
  have hdo := do_1 C (⟨k, v, b, e, six, ah, al, pt, pr, wy, ms⟩ : OpR) k1
  have hcs := Lib.hid hdo.1
  have he := Lib.hid hdo.2
  clear hdo
  clear k1
  obtain ⟨bo, be, zV⟩ := box1 w 43 (opC k v b e six ah al pt pr wy B m d)
  go_enter Tryz.func22, Tryz.ntmps22
  go_upto_region 1 with (fail)
  generalize w.alloc (.cells (opC k v b e six ah al pt pr wy B m d).toArray 43) = V at *
  replace hX := hX.later be
  replace hr := hr.later be
  replace hB0 := hB0.size be.size
  have qk : V.cell? ⟨w.heap.size, 0, none⟩ = some (.int .i64 k) := bo.cell 0
  have HA := Lib.hid (fun w (h : CfX G D w g C A n c E) => addBackend_any k v b e six ah al pt pr wy ms B m d C hC g A n c E w h hal)
  go_upto_region 3 with (fail)
  refine wp_region_lit ?_
  refine wpList_plain rfl (fun K hK => ?_); go_simp; with_reducible refine hK _ _ ?_; clear hK K
  refine wpList_ldA (t := 43) 43 (.tmp 3) rfl rfl (opC k v b e six ah al pt pr wy B m d) rfl (bo) (whole_ _) vo1 vo2 (szOp k v b e six ah al pt pr wy B m d) ?_
  refine wpList_plain rfl (fun K hK => ?_)
  go_simp
  refine (HA.out _ hX).mono ?_
  rintro e w1 ⟨rfl, G2, D2, hM, hgr, hc⟩
  with_reducible refine hK _ _ ?_
  clear hK K
  refine wpList_plain rfl (fun K hK => ?_); go_simp; with_reducible refine hK _ _ ?_; clear hK K
  go_wp2
  go_ret
  rw [hcs.out]
  exact ⟨by rw [he.out]; rfl, G2, D2, hM, hgr.early be.size, (Chg.of_below be).trans hc⟩
 have i1 : (k == 1) = false := by simpa using k1
 by_cases k2 : k = 2
 ·have i2 : (k == 2) = true := by simp [k2]
  have hdo := do_2 C (⟨k, v, b, e, six, ah, al, pt, pr, wy, ms⟩ : OpR) k2
  have hcs := Lib.hid hdo.1
  have he := Lib.hid hdo.2
  clear hdo
  clear k1 k2
  obtain ⟨bo, be, zV⟩ := box1 w 43 (opC k v b e six ah al pt pr wy B m d)
  go_enter Tryz.func22, Tryz.ntmps22
  go_upto_region 1 with (fail)
  generalize w.alloc (.cells (opC k v b e six ah al pt pr wy B m d).toArray 43) = V at *
  replace hX := hX.later be
  replace hr := hr.later be
  replace hB0 := hB0.size be.size
  have qk : V.cell? ⟨w.heap.size, 0, none⟩ = some (.int .i64 k) := bo.cell 0
  have HA := Lib.hid (fun w (h : CfX G D w g C A n c E) => addVip_any k v b e six ah al pt pr wy ms B m d C hC g A n c E w h hal hpr)
  go_upto_region 5 with (fail)
  refine wp_region_lit ?_
  refine wpList_plain rfl (fun K hK => ?_); go_simp; with_reducible refine hK _ _ ?_; clear hK K
  refine wpList_ldA (t := 43) 43 (.tmp 3) rfl rfl (opC k v b e six ah al pt pr wy B m d) rfl (bo) (whole_ _) vo1 vo2 (szOp k v b e six ah al pt pr wy B m d) ?_
  refine wpList_plain rfl (fun K hK => ?_)
  go_simp
  refine (HA.out _ hX).mono ?_
  rintro e w1 ⟨rfl, G2, D2, hM, hgr, hc⟩
  with_reducible refine hK _ _ ?_
  clear hK K
  refine wpList_plain rfl (fun K hK => ?_); go_simp; with_reducible refine hK _ _ ?_; clear hK K
  go_wp2
  go_ret
  rw [hcs.out]
  exact ⟨by rw [he.out]; rfl, G2, D2, hM, hgr.early be.size, (Chg.of_below be).trans hc⟩
 have i2 : (k == 2) = false := by simpa using k2
 by_cases k67 : k = 6 ∨ k = 7
 ·have HA := Lib.hid (fun w (h : CfX G D w g C A n c E) => mark_any k v b e six ah al pt pr wy ms B m d C hC g A n c E w h hb63)
  have hdo := do_67 C (⟨k, v, b, e, six, ah, al, pt, pr, wy, ms⟩ : OpR) k67
  have hcs := Lib.hid hdo.1
  have he := Lib.hid hdo.2
  clear hdo
  clear k1 k2
  rcases k67 with k6 | k7
  ·have i6 : (k == 6) = true := by simp [k6]
   clear k6
   obtain ⟨bo, be, zV⟩ := box1 w 43 (opC k v b e six ah al pt pr wy B m d)
   go_enter Tryz.func22, Tryz.ntmps22
   go_upto_region 1 with (fail)
   generalize w.alloc (.cells (opC k v b e six ah al pt pr wy B m d).toArray 43) = V at *
   replace hX := hX.later be
   replace hr := hr.later be
   replace hB0 := hB0.size be.size
   have qk : V.cell? ⟨w.heap.size, 0, none⟩ = some (.int .i64 k) := bo.cell 0
   go_upto_region 8 with (fail)
   refine wp_region_lit ?_
   refine wpList_plain rfl (fun K hK => ?_); go_simp; with_reducible refine hK _ _ ?_; clear hK K
   refine wpList_ldA (t := 43) 43 (.tmp 3) rfl rfl (opC k v b e six ah al pt pr wy B m d) rfl (bo) (whole_ _) vo1 vo2 (szOp k v b e six ah al pt pr wy B m d) ?_
   refine wpList_plain rfl (fun K hK => ?_)
   go_simp
   refine (HA.out _ hX).mono ?_
   rintro e w1 ⟨rfl, G2, D2, hM, hgr, hc⟩
   with_reducible refine hK _ _ ?_
   clear hK K
   refine wpList_plain rfl (fun K hK => ?_); go_simp; with_reducible refine hK _ _ ?_; clear hK K
   go_wp2
   go_ret
   rw [hcs.out]
   exact ⟨by rw [he.out]; rfl, G2, D2, hM, hgr.early be.size, (Chg.of_below be).trans hc⟩
  ·have i6 : (k == 6) = false := by simp [k7]
   have i7 : (k == 7) = true := by simp [k7]
   clear k7
   obtain ⟨bo, be, zV⟩ := box1 w 43 (opC k v b e six ah al pt pr wy B m d)
   go_enter Tryz.func22, Tryz.ntmps22
   go_upto_region 1 with (fail)
   generalize w.alloc (.cells (opC k v b e six ah al pt pr wy B m d).toArray 43) = V at *
   replace hX := hX.later be
   replace hr := hr.later be
   replace hB0 := hB0.size be.size
   have qk : V.cell? ⟨w.heap.size, 0, none⟩ = some (.int .i64 k) := bo.cell 0
   go_upto_region 8 with (fail)
   refine wp_region_lit ?_
   refine wpList_plain rfl (fun K hK => ?_); go_simp; with_reducible refine hK _ _ ?_; clear hK K
   refine wpList_ldA (t := 43) 43 (.tmp 3) rfl rfl (opC k v b e six ah al pt pr wy B m d) rfl (bo) (whole_ _) vo1 vo2 (szOp k v b e six ah al pt pr wy B m d) ?_
   refine wpList_plain rfl (fun K hK => ?_)
   go_simp
   refine (HA.out _ hX).mono ?_
   rintro e w1 ⟨rfl, G2, D2, hM, hgr, hc⟩
   with_reducible refine hK _ _ ?_
   clear hK K
   refine wpList_plain rfl (fun K hK => ?_); go_simp; with_reducible refine hK _ _ ?_; clear hK K
   go_wp2
   go_ret
   rw [hcs.out]
   exact ⟨by rw [he.out]; rfl, G2, D2, hM, hgr.early be.size, (Chg.of_below be).trans hc⟩
 have k6 : ¬ k = 6 := fun h => k67 (.inl h)
 have k7 : ¬ k = 7 := fun h => k67 (.inr h)
 have i6 : (k == 6) = false := by simpa using k6
 have i7 : (k == 7) = false := by simpa using k7
 by_cases k8 : k = 8
 ·have i8 : (k == 8) = true := by simp [k8]
  have hdo := do_8 C (⟨k, v, b, e, six, ah, al, pt, pr, wy, ms⟩ : OpR) k8
  have hcs := Lib.hid hdo.1
  have he := Lib.hid hdo.2
  clear hdo
  clear k1 k2 k67 k6 k7 k8
  have HR := Lib.hid (fun w => ringNext_any C.key hk C.now w hC.now)
  obtain ⟨bo, be, zV⟩ := box1 w 43 (opC k v b e six ah al pt pr wy B m d)
  go_enter Tryz.func22, Tryz.ntmps22
  go_upto_region 1 with (fail)
  generalize w.alloc (.cells (opC k v b e six ah al pt pr wy B m d).toArray 43) = V at *
  replace hX := hX.later be
  replace hr := hr.later be
  replace hB0 := hB0.size be.size
  have qk : V.cell? ⟨w.heap.size, 0, none⟩ = some (.int .i64 k) := bo.cell 0
  go_upto_region 10 with (fail)
  refine wp_region_lit ?_
  iterate 4 (refine wpList_plain rfl (fun K hK => ?_); go_simp; with_reducible refine hK _ _ ?_; clear hK K)
  refine wpList_ldA (t := 63) (off := 1) (cs := stC C A n c) 57 (.tmp 29) rfl rfl (ringC C.key C.now) rfl hX.st (stC_ring C hk A n c) vr1 vr2 (szRing C.key hk _) ?_
  refine wpList_plain rfl (fun K hK => ?_)
  go_simp
  refine (HR.out _).mono ?_
  rintro e w1 ⟨bs1, d1, rfl, rfl⟩
  with_reducible refine hK _ _ ?_
  clear hK K
  have hb1 := below_plus V bs1 d1
  replace hX := hX.later hb1
  replace be := be.trans (hb1.mono be.size)
  clear hb1
  generalize plus V bs1 d1 = V1 at *
  iterate 2 (refine wpList_plain rfl (fun K hK => ?_); go_simp; with_reducible refine hK _ _ ?_; clear hK K)
  refine wpList_stM (t := 63) (off := 1) 57 (.tmp 33) (.tmp 31) rfl rfl (ringC C.key ((C.now + 1) % 18446744073709551616)) (stC C A n c) (by rw [stC_len C hk hb]; simp [ringC, bcs_length, hk]) (ringC_one _ _) rfl rfl hX.st (szRing C.key hk _) ?_
  intro W4 h4 g4
  simp only [Act.put, qsT, qsZ, qsS]
  replace hX := hX.setSt (C' := { C with now := (C.now + 1) % 18446744073709551616 }) rfl (by rw [← stC_setRing C hk A n c]; exact h4) g4
  have hch : Chg D w W4 := (Chg.of_below be).trans (Chg.one g4 hX.dg)
  go_wp2
  go_ret
  rw [hcs.out]
  exact ⟨by rw [he.out]; rfl, G, D, ⟨_, _, _, _, hX⟩, Grow.refl _ _ _, hch⟩
 have i8 : (k == 8) = false := by simpa using k8
 have HK := Lib.hid (And.intro k1 (And.intro k2 (And.intro k6 (And.intro k7 k8))))
 clear k1 k2 k67 k6 k7 k8
 have hEn : E.length = n := by have := hX.len; have := hX.n_; omega
 have hnv := Lib.hid hX.n_
 by_cases hvv : v < 0 ∨ (¬ v < 0 ∧ (n : Int) ≤ v)
 ·have hno : vAt C v = none := by
   unfold vAt
   split
   ·rw [List.getElem?_eq_none (by have := hnv.out; omega)]
   ·rfl
  have hdo := do_no C (⟨k, v, b, e, six, ah, al, pt, pr, wy, ms⟩ : OpR) HK.out.1 HK.out.2.1 HK.out.2.2.1 HK.out.2.2.2.1 HK.out.2.2.2.2 hno
  have hcs := Lib.hid hdo.1
  have he := Lib.hid hdo.2
  clear hdo
  clear hno
  rcases hvv with hv0 | ⟨hv0, hvn⟩
  all_goals
   obtain ⟨bo, be, zV⟩ := box1 w 43 (opC k v b e six ah al pt pr wy B m d)
   go_enter Tryz.func22, Tryz.ntmps22
   go_upto_region 1 with (fail)
   generalize w.alloc (.cells (opC k v b e six ah al pt pr wy B m d).toArray 43) = V at *
   replace hX := hX.later be
   replace hr := hr.later be
   replace hB0 := hB0.size be.size
   have qk : V.cell? ⟨w.heap.size, 0, none⟩ = some (.int .i64 k) := bo.cell 0
   go_upto_region 12 with (fail)
   clear qk
   refine wp_relS 13 81 rfl (by kernel_rfl) (by kernel_rfl) ?_
   apply Steps.o1 (MP.eq _) 1 rfl rfl
   ·intro FA x hO hD K hK
    have e3 := hO 3 (by kernel_rfl)
    simp only [eval_tmp, qgT, qgS, qgZ, qoS] at e3
    have ev3 := Lib.hid ((eval_tmp FA 3).trans e3)
    clear hO hD
    go_simp
    exact hK.out _ _ (Ex.refl _) rfl
   apply Steps.o1 (MP.eq _) 2 rfl rfl
   ·intro FA x hO hD K hK
    obtain ⟨e34, ev34⟩ := qE (hD 0 34 (by kernel_rfl))
    clear hO hD
    refine wanted_if rfl ?_
    refine wp_ld1 3 (.tmp 34) rfl ev34.out (bo.later (below_plus _ _ _)) rfl Tryz.underlying3 rfl ?_
    exact hK.out _ _ (Ex.refl _) rfl
   apply Steps.o1 (MP.eq _) 3 rfl rfl
   ·intro FA x hO hD K hK
    obtain ⟨e35, ev35⟩ := qE (hD 1 35 (by kernel_rfl))
    clear hO hD
    go_simp
    exact hK.out _ _ (Ex.refl _) rfl
   apply Steps.o1 (MP.eq _) 4 rfl rfl
   ·intro FA x hO hD K hK
    obtain ⟨e36, ev36⟩ := qE (hD 2 36 (by kernel_rfl))
    clear hO hD
    go_simp
    exact hK.out _ _ (Ex.refl _) rfl
   apply Steps.o1 (MP.eq _) 5 rfl rfl
   ·intro FA x hO hD K hK
    have e3 := hO 3 (by kernel_rfl)
    simp only [eval_tmp, qgT, qgS, qgZ, qoS] at e3
    have ev3 := Lib.hid ((eval_tmp FA 3).trans e3)
    obtain ⟨e37, ev37⟩ := qE (hD 3 37 (by kernel_rfl))
    first | have ge37 := slot_of e37 | have ge37 := slot_un e37
    clear hO hD
    first | (go_simp; exact hK.out _ _ (Ex.refl _) rfl) | (rcases ge37 with ge37 | ge37 <;> (go_simp; exact hK.out _ _ (Ex.refl _) rfl))
   apply Steps.o1 (MP.eq _) 6 rfl rfl
   ·intro FA x hO hD K hK
    obtain ⟨e38, ev38⟩ := qE (hD 4 38 (by kernel_rfl))
    obtain ⟨e37, ev37⟩ := qE (hD 3 37 (by kernel_rfl))
    first | have ge37 := slot_of e37 | have ge37 := slot_un e37
    clear hO hD
    first | (refine wanted_ifG ?_ ?_; (· go_simp); refine wp_ld1 3 (.tmp 38) rfl ev38.out (bo.later (below_plus _ _ _)) rfl Tryz.underlying3 rfl ?_; exact hK.out _ _ (Ex.refl _) rfl) | (go_simp; exact hK.out _ _ (Ex.refl _) rfl) | (rcases ge37 with ge37 | ge37 <;> (go_simp; exact hK.out _ _ (Ex.refl _) rfl))
   apply Steps.o1 (MP.eq _) 7 rfl rfl
   ·intro FA x hO hD K hK
    have e0 := hO 0 (by kernel_rfl)
    simp only [eval_tmp, qgT, qgS, qgZ, qoS] at e0
    have ev0 := Lib.hid ((eval_tmp FA 0).trans e0)
    obtain ⟨e37, ev37⟩ := qE (hD 3 37 (by kernel_rfl))
    first | have ge37 := slot_of e37 | have ge37 := slot_un e37
    clear hO hD
    first | (go_simp; exact hK.out _ _ (Ex.refl _) rfl) | (rcases ge37 with ge37 | ge37 <;> (go_simp; exact hK.out _ _ (Ex.refl _) rfl))
   apply Steps.o1 (MP.eq _) 8 rfl rfl
   ·intro FA x hO hD K hK
    obtain ⟨e40, ev40⟩ := qE (hD 6 40 (by kernel_rfl))
    obtain ⟨e37, ev37⟩ := qE (hD 3 37 (by kernel_rfl))
    first | have ge37 := slot_of e37 | have ge37 := slot_un e37
    clear hO hD
    first | (go_simp; exact hK.out _ _ (Ex.refl _) rfl) | (rcases ge37 with ge37 | ge37 <;> (go_simp; exact hK.out _ _ (Ex.refl _) rfl))
   apply Steps.o1 (MP.eq _) 9 rfl rfl
   ·intro FA x hO hD K hK
    obtain ⟨e41, ev41⟩ := qE (hD 7 41 (by kernel_rfl))
    obtain ⟨e37, ev37⟩ := qE (hD 3 37 (by kernel_rfl))
    first | have ge37 := slot_of e37 | have ge37 := slot_un e37
    clear hO hD
    first | (go_simp; exact hK.out _ _ (Ex.refl _) rfl) | (rcases ge37 with ge37 | ge37 <;> (go_simp; exact hK.out _ _ (Ex.refl _) rfl))
   apply Steps.o1 (MP.eq _) 10 rfl rfl
   ·intro FA x hO hD K hK
    obtain ⟨e42, ev42⟩ := qE (hD 8 42 (by kernel_rfl))
    obtain ⟨e37, ev37⟩ := qE (hD 3 37 (by kernel_rfl))
    first | have ge37 := slot_of e37 | have ge37 := slot_un e37
    clear hO hD
    first | (refine wanted_ifG ?_ ?_; (· go_simp); refine wp_ld1 61 (.tmp 42) rfl ev42.out (hX.st.later (below_plus _ _ _)) (stC_vips C hk hb _ n c) Tryz.underlying61 rfl ?_; exact hK.out _ _ (Ex.refl _) rfl) | (go_simp; exact hK.out _ _ (Ex.refl _) rfl) | (rcases ge37 with ge37 | ge37 <;> (go_simp; exact hK.out _ _ (Ex.refl _) rfl))
   apply Steps.o1 (MP.eq _) 11 rfl rfl
   ·intro FA x hO hD K hK
    obtain ⟨e43, ev43⟩ := qE (hD 9 43 (by kernel_rfl))
    obtain ⟨e37, ev37⟩ := qE (hD 3 37 (by kernel_rfl))
    first | have ge37 := slot_of e37 | have ge37 := slot_un e37
    clear hO hD
    first | (go_simp; exact hK.out _ _ (Ex.refl _) rfl) | (rcases ge37 with ge37 | ge37 <;> (go_simp; exact hK.out _ _ (Ex.refl _) rfl))
   apply Steps.o1 (MP.eq _) 12 rfl rfl
   ·intro FA x hO hD K hK
    obtain ⟨e39, ev39⟩ := qE (hD 5 39 (by kernel_rfl))
    obtain ⟨e44, ev44⟩ := qE (hD 10 44 (by kernel_rfl))
    obtain ⟨e37, ev37⟩ := qE (hD 3 37 (by kernel_rfl))
    first | have ge37 := slot_of e37 | have ge37 := slot_un e37
    clear hO hD
    first | (go_simp; exact hK.out _ _ (Ex.refl _) rfl) | (rcases ge37 with ge37 | ge37 <;> (go_simp; exact hK.out _ _ (Ex.refl _) rfl))
   apply Steps.o1 (MP.eq _) 13 rfl rfl
   ·intro FA x hO hD K hK
    obtain ⟨e37, ev37⟩ := qE (hD 3 37 (by kernel_rfl))
    obtain ⟨e45, ev45⟩ := qE (hD 11 45 (by kernel_rfl))
    clear hO hD
    go_simp
    exact hK.out _ _ (Ex.refl _) rfl
   refine Steps.fin_ (fun vs x hp => ?_)
   have p0 : vs 0 = _ := hp 0 (by omega)
   have p1 : vs 1 = _ := hp 1 (by omega)
   have p2 : vs 2 = _ := hp 2 (by omega)
   have p3 : vs 3 = _ := hp 3 (by omega)
   have p4 : vs 4 = _ := hp 4 (by omega)
   have p5 : vs 5 = _ := hp 5 (by omega)
   have p6 : vs 6 = _ := hp 6 (by omega)
   have p7 : vs 7 = _ := hp 7 (by omega)
   have p8 : vs 8 = _ := hp 8 (by omega)
   have p9 : vs 9 = _ := hp 9 (by omega)
   have p10 : vs 10 = _ := hp 10 (by omega)
   have p11 : vs 11 = _ := hp 11 (by omega)
   have p12 : vs 12 = _ := hp 12 (by omega)
   clear hp
   simp only [List.take_succ_cons, List.take_zero, List.drop_succ_cons, List.drop_zero, putAll, Nat.zero_add, Nat.reduceAdd, Act.put, qsT, qsZ, qsS, p0, p1, p2, p3, p4, p5, p6, p7, p8, p9, p10, p11, p12]
   clear p0 p1 p2 p3 p4 p5 p6 p7 p8 p9 p10 p11 p12
   clear vs
   have hb9 := below_plus V x.bs x.d
   replace hX := hX.later hb9
   replace bo := bo.later hb9
   replace hr := hr.later hb9
   replace hB0 := hB0.size hb9.size
   replace be := be.trans (hb9.mono be.size)
   clear hb9
   generalize plus V x.bs x.d = V2 at *
   go_wp2
   go_ret
   rw [hcs.out]
   exact ⟨by rw [he.out]; rfl, G, D, ⟨_, _, _, _, hX⟩, Grow.refl _ _ _, Chg.of_below be⟩
 obtain ⟨i, rfl⟩ : ∃ i : Nat, v = i := ⟨v.toNat, by omega⟩
 have hin : i < n := by omega
 have hii : (i : Int) < (n : Int) := by omega
 have hn0 : 0 < n := by omega
 obtain ⟨bb, cur, rfl, hob, -⟩ := hX.row.bk hn0
 have hmem : E[i]'(by omega) ∈ E := List.getElem_mem _
 have hi0 : E[i]? = some (E[i]'(by omega)) := List.getElem?_eq_getElem _
 have hvi : C.vs[i]? = some (E[i]'(by omega)).1 := by rw [← hX.vs, List.getElem?_map, hi0]; rfl
 have hok := (hC.vs _ (List.mem_of_getElem? hvi)).st
 have hq7 : ∀ W0 W, CfX G D W0 g C (some ⟨bb, 0, none⟩) n c E → Below W0.heap.size W0 W → W.cell? ⟨bb, i * 8 + 7, none⟩ = some (.pointer (some ⟨(E[i]'(by omega)).2.T, 0, none⟩)) := fun W0 W hX h => by
  have := (hX.row.rs.later h).rangeE veC_len i (by omega)
  rw [Nat.zero_add] at this
  exact this 7 _ rfl
 have HQ0 := Lib.hid hq7
 generalize E[i]'(by omega) = x0 at *
 have HI0 := Lib.hid hi0
 have HVI := Lib.hid hvi
 clear hq7 hi0 hvi hn0 hob hEn
 obtain ⟨bo, be, zV⟩ := box1 w 43 (opC k (i : Int) b e six ah al pt pr wy B m d)
 go_enter Tryz.func22, Tryz.ntmps22
 go_upto_region 1 with (fail)
 generalize w.alloc (.cells (opC k (i : Int) b e six ah al pt pr wy B m d).toArray 43) = V at *
 replace hX := hX.later be
 replace hr := hr.later be
 replace hB0 := hB0.size be.size
 have qk : V.cell? ⟨w.heap.size, 0, none⟩ = some (.int .i64 k) := bo.cell 0
 go_upto_region 12 with (fail)
 clear qk
 refine wp_relS 13 81 rfl (by kernel_rfl) (by kernel_rfl) ?_
 apply Steps.o1 (MP.eq _) 1 rfl rfl
 ·intro FA x hO hD K hK
  have e3 := hO 3 (by kernel_rfl)
  simp only [eval_tmp, qgT, qgS, qgZ, qoS] at e3
  have ev3 := Lib.hid ((eval_tmp FA 3).trans e3)
  clear hO hD
  go_simp
  exact hK.out _ _ (Ex.refl _) rfl
 apply Steps.o1 (MP.eq _) 2 rfl rfl
 ·intro FA x hO hD K hK
  obtain ⟨e34, ev34⟩ := qE (hD 0 34 (by kernel_rfl))
  clear hO hD
  refine wanted_if rfl ?_
  refine wp_ld1 3 (.tmp 34) rfl ev34.out (bo.later (below_plus _ _ _)) rfl Tryz.underlying3 rfl ?_
  exact hK.out _ _ (Ex.refl _) rfl
 apply Steps.o1 (MP.eq _) 3 rfl rfl
 ·intro FA x hO hD K hK
  obtain ⟨e35, ev35⟩ := qE (hD 1 35 (by kernel_rfl))
  clear hO hD
  go_simp
  exact hK.out _ _ (Ex.refl _) rfl
 apply Steps.o1 (MP.eq _) 4 rfl rfl
 ·intro FA x hO hD K hK
  obtain ⟨e36, ev36⟩ := qE (hD 2 36 (by kernel_rfl))
  clear hO hD
  go_simp
  exact hK.out _ _ (Ex.refl _) rfl
 apply Steps.o1 (MP.eq _) 5 rfl rfl
 ·intro FA x hO hD K hK
  have e3 := hO 3 (by kernel_rfl)
  simp only [eval_tmp, qgT, qgS, qgZ, qoS] at e3
  have ev3 := Lib.hid ((eval_tmp FA 3).trans e3)
  obtain ⟨e37, ev37⟩ := qE (hD 3 37 (by kernel_rfl))
  first | have ge37 := slot_of e37 | have ge37 := slot_un e37
  clear hO hD
  first | (go_simp; exact hK.out _ _ (Ex.refl _) rfl) | (rcases ge37 with ge37 | ge37 <;> (go_simp; exact hK.out _ _ (Ex.refl _) rfl))
 apply Steps.o1 (MP.eq _) 6 rfl rfl
 ·intro FA x hO hD K hK
  obtain ⟨e38, ev38⟩ := qE (hD 4 38 (by kernel_rfl))
  obtain ⟨e37, ev37⟩ := qE (hD 3 37 (by kernel_rfl))
  first | have ge37 := slot_of e37 | have ge37 := slot_un e37
  clear hO hD
  first | (refine wanted_ifG ?_ ?_; (· go_simp); refine wp_ld1 3 (.tmp 38) rfl ev38.out (bo.later (below_plus _ _ _)) rfl Tryz.underlying3 rfl ?_; exact hK.out _ _ (Ex.refl _) rfl) | (go_simp; exact hK.out _ _ (Ex.refl _) rfl) | (rcases ge37 with ge37 | ge37 <;> (go_simp; exact hK.out _ _ (Ex.refl _) rfl))
 apply Steps.o1 (MP.eq _) 7 rfl rfl
 ·intro FA x hO hD K hK
  have e0 := hO 0 (by kernel_rfl)
  simp only [eval_tmp, qgT, qgS, qgZ, qoS] at e0
  have ev0 := Lib.hid ((eval_tmp FA 0).trans e0)
  obtain ⟨e37, ev37⟩ := qE (hD 3 37 (by kernel_rfl))
  first | have ge37 := slot_of e37 | have ge37 := slot_un e37
  clear hO hD
  first | (go_simp; exact hK.out _ _ (Ex.refl _) rfl) | (rcases ge37 with ge37 | ge37 <;> (go_simp; exact hK.out _ _ (Ex.refl _) rfl))
 apply Steps.o1 (MP.eq _) 8 rfl rfl
 ·intro FA x hO hD K hK
  obtain ⟨e40, ev40⟩ := qE (hD 6 40 (by kernel_rfl))
  obtain ⟨e37, ev37⟩ := qE (hD 3 37 (by kernel_rfl))
  first | have ge37 := slot_of e37 | have ge37 := slot_un e37
  clear hO hD
  first | (go_simp; exact hK.out _ _ (Ex.refl _) rfl) | (rcases ge37 with ge37 | ge37 <;> (go_simp; exact hK.out _ _ (Ex.refl _) rfl))
 apply Steps.o1 (MP.eq _) 9 rfl rfl
 ·intro FA x hO hD K hK
  obtain ⟨e41, ev41⟩ := qE (hD 7 41 (by kernel_rfl))
  obtain ⟨e37, ev37⟩ := qE (hD 3 37 (by kernel_rfl))
  first | have ge37 := slot_of e37 | have ge37 := slot_un e37
  clear hO hD
  first | (go_simp; exact hK.out _ _ (Ex.refl _) rfl) | (rcases ge37 with ge37 | ge37 <;> (go_simp; exact hK.out _ _ (Ex.refl _) rfl))
 apply Steps.o1 (MP.eq _) 10 rfl rfl
 ·intro FA x hO hD K hK
  obtain ⟨e42, ev42⟩ := qE (hD 8 42 (by kernel_rfl))
  obtain ⟨e37, ev37⟩ := qE (hD 3 37 (by kernel_rfl))
  first | have ge37 := slot_of e37 | have ge37 := slot_un e37
  clear hO hD
  first | (refine wanted_ifG ?_ ?_; (· go_simp); refine wp_ld1 61 (.tmp 42) rfl ev42.out (hX.st.later (below_plus _ _ _)) (stC_vips C hk hb _ n c) Tryz.underlying61 rfl ?_; exact hK.out _ _ (Ex.refl _) rfl) | (go_simp; exact hK.out _ _ (Ex.refl _) rfl) | (rcases ge37 with ge37 | ge37 <;> (go_simp; exact hK.out _ _ (Ex.refl _) rfl))
 apply Steps.o1 (MP.eq _) 11 rfl rfl
 ·intro FA x hO hD K hK
  obtain ⟨e43, ev43⟩ := qE (hD 9 43 (by kernel_rfl))
  obtain ⟨e37, ev37⟩ := qE (hD 3 37 (by kernel_rfl))
  first | have ge37 := slot_of e37 | have ge37 := slot_un e37
  clear hO hD
  first | (go_simp; exact hK.out _ _ (Ex.refl _) rfl) | (rcases ge37 with ge37 | ge37 <;> (go_simp; exact hK.out _ _ (Ex.refl _) rfl))
 apply Steps.o1 (MP.eq _) 12 rfl rfl
 ·intro FA x hO hD K hK
  obtain ⟨e39, ev39⟩ := qE (hD 5 39 (by kernel_rfl))
  obtain ⟨e44, ev44⟩ := qE (hD 10 44 (by kernel_rfl))
  obtain ⟨e37, ev37⟩ := qE (hD 3 37 (by kernel_rfl))
  first | have ge37 := slot_of e37 | have ge37 := slot_un e37
  clear hO hD
  first | (go_simp; exact hK.out _ _ (Ex.refl _) rfl) | (rcases ge37 with ge37 | ge37 <;> (go_simp; exact hK.out _ _ (Ex.refl _) rfl))
 apply Steps.o1 (MP.eq _) 13 rfl rfl
 ·intro FA x hO hD K hK
  obtain ⟨e37, ev37⟩ := qE (hD 3 37 (by kernel_rfl))
  obtain ⟨e45, ev45⟩ := qE (hD 11 45 (by kernel_rfl))
  clear hO hD
  go_simp
  exact hK.out _ _ (Ex.refl _) rfl
 refine Steps.fin_ (fun vs x hp => ?_)
 have p0 : vs 0 = _ := hp 0 (by omega)
 have p1 : vs 1 = _ := hp 1 (by omega)
 have p2 : vs 2 = _ := hp 2 (by omega)
 have p3 : vs 3 = _ := hp 3 (by omega)
 have p4 : vs 4 = _ := hp 4 (by omega)
 have p5 : vs 5 = _ := hp 5 (by omega)
 have p6 : vs 6 = _ := hp 6 (by omega)
 have p7 : vs 7 = _ := hp 7 (by omega)
 have p8 : vs 8 = _ := hp 8 (by omega)
 have p9 : vs 9 = _ := hp 9 (by omega)
 have p10 : vs 10 = _ := hp 10 (by omega)
 have p11 : vs 11 = _ := hp 11 (by omega)
 have p12 : vs 12 = _ := hp 12 (by omega)
 clear hp
 simp only [List.take_succ_cons, List.take_zero, List.drop_succ_cons, List.drop_zero, putAll, Nat.zero_add, Nat.reduceAdd, Act.put, qsT, qsZ, qsS, p0, p1, p2, p3, p4, p5, p6, p7, p8, p9, p10, p11, p12]
 clear p0 p1 p2 p3 p4 p5 p6 p7 p8 p9 p10 p11 p12
 clear vs
 have hb9 := below_plus V x.bs x.d
 replace hX := hX.later hb9
 replace bo := bo.later hb9
 replace hr := hr.later hb9
 replace hB0 := hB0.size hb9.size
 replace be := be.trans (hb9.mono be.size)
 clear hb9
 generalize plus V x.bs x.d = V2 at *
 go_upto_region 14 with (fail)
 refine wp_relS 7 81 rfl (by kernel_rfl) (by kernel_rfl) ?_
 apply Steps.o1 (MP.eq _) 1 rfl rfl
 ·intro FA x hO hD K hK
  have e0 := hO 0 (by kernel_rfl)
  simp only [eval_tmp, qgT, qgS, qgZ, qoS] at e0
  have ev0 := Lib.hid ((eval_tmp FA 0).trans e0)
  clear hO hD
  go_simp
  exact hK.out _ _ (Ex.refl _) rfl
 apply Steps.o1 (MP.eq _) 2 rfl rfl
 ·intro FA x hO hD K hK
  obtain ⟨e47, ev47⟩ := qE (hD 0 47 (by kernel_rfl))
  clear hO hD
  go_simp
  exact hK.out _ _ (Ex.refl _) rfl
 apply Steps.o1 (MP.eq _) 3 rfl rfl
 ·intro FA x hO hD K hK
  obtain ⟨e48, ev48⟩ := qE (hD 1 48 (by kernel_rfl))
  clear hO hD
  go_simp
  exact hK.out _ _ (Ex.refl _) rfl
 apply Steps.o1 (MP.eq _) 4 rfl rfl
 ·intro FA x hO hD K hK
  obtain ⟨e49, ev49⟩ := qE (hD 2 49 (by kernel_rfl))
  clear hO hD
  refine wanted_if rfl ?_
  refine wp_ld1 61 (.tmp 49) rfl ev49.out (hX.st.later (below_plus _ _ _)) (stC_vips C hk hb _ n c) Tryz.underlying61 rfl ?_
  exact hK.out _ _ (Ex.refl _) rfl
 apply Steps.o1 (MP.eq _) 5 rfl rfl
 ·intro FA x hO hD K hK
  have e3 := hO 3 (by kernel_rfl)
  simp only [eval_tmp, qgT, qgS, qgZ, qoS] at e3
  have ev3 := Lib.hid ((eval_tmp FA 3).trans e3)
  clear hO hD
  go_simp
  exact hK.out _ _ (Ex.refl _) rfl
 apply Steps.o1 (MP.eq _) 6 rfl rfl
 ·intro FA x hO hD K hK
  obtain ⟨e51, ev51⟩ := qE (hD 4 51 (by kernel_rfl))
  clear hO hD
  refine wanted_if rfl ?_
  refine wp_ld1 3 (.tmp 51) rfl ev51.out (bo.later (below_plus _ _ _)) rfl Tryz.underlying3 rfl ?_
  exact hK.out _ _ (Ex.refl _) rfl
 apply Steps.o1 (MP.eq _) 7 rfl rfl
 ·intro FA x hO hD K hK
  obtain ⟨e50, ev50⟩ := qE (hD 3 50 (by kernel_rfl))
  obtain ⟨e52, ev52⟩ := qE (hD 5 52 (by kernel_rfl))
  clear hO hD
  go_simp
  exact hK.out _ _ (Ex.refl _) rfl
 refine Steps.fin_ (fun vs x hp => ?_)
 have p0 : vs 0 = _ := hp 0 (by omega)
 have p1 : vs 1 = _ := hp 1 (by omega)
 have p2 : vs 2 = _ := hp 2 (by omega)
 have p3 : vs 3 = _ := hp 3 (by omega)
 have p4 : vs 4 = _ := hp 4 (by omega)
 have p5 : vs 5 = _ := hp 5 (by omega)
 have p6 : vs 6 = _ := hp 6 (by omega)
 clear hp
 simp only [List.take_succ_cons, List.take_zero, List.drop_succ_cons, List.drop_zero, putAll, Nat.zero_add, Nat.reduceAdd, Act.put, qsT, qsZ, qsS, p0, p1, p2, p3, p4, p5, p6]
 clear p0 p1 p2 p3 p4 p5 p6
 clear vs
 have hb9 := below_plus V2 x.bs x.d
 replace hX := hX.later hb9
 replace bo := bo.later hb9
 replace hr := hr.later hb9
 replace hB0 := hB0.size hb9.size
 replace be := be.trans (hb9.mono be.size)
 clear hb9
 generalize plus V2 x.bs x.d = V3 at *
 have qk : V3.cell? ⟨w.heap.size, 0, none⟩ = some (.int .i64 k) := bo.cell 0
 by_cases k3 : k = 3
 ·have i3 : (k == 3) = true := by simp [k3]
  have hdo := do_3 C (⟨k, (i : Int), b, e, six, ah, al, pt, pr, wy, ms⟩ : OpR) k3 rfl HVI.out
  have hcs := Lib.hid hdo.1
  have he := Lib.hid hdo.2
  clear hdo
  clear k3
  have HS := Lib.hid (fun w (h : CfX G D w g C (some ⟨bb, 0, none⟩) n c E) h1 h2 => setMembers_any ms B m d C hC g (some ⟨bb, 0, none⟩) n c E w h h1 h2 hm i bb x0 HI0.out rfl)
  go_upto_region 17 with (fail)
  clear qk
  refine wp_region_lit ?_
  iterate 3 (refine wpList_plain rfl (fun K hK => ?_); go_simp; with_reducible refine hK _ _ ?_; clear hK K)
  refine wpList_ld1 (t := 43) (cs := opC k (i : Int) b e six ah al pt pr wy B m d) 41 (.tmp 60) rfl (by rfl) rfl (bo) rfl Tryz.underlying41 rfl ?_
  refine wpList_plain rfl (fun K hK => ?_)
  go_simp
  refine (HS.out _ hX hr hB0).mono ?_
  rintro e w1 ⟨rfl, G2, D2, hM, hgr, hc⟩
  with_reducible refine hK _ _ ?_
  clear hK K
  refine wpList_plain rfl (fun K hK => ?_); go_simp; with_reducible refine hK _ _ ?_; clear hK K
  go_wp2
  go_ret
  rw [hcs.out]
  exact ⟨by rw [he.out]; rfl, G2, D2, hM, hgr.early be.size, (Chg.of_below be).trans hc⟩
 have i3 : (k == 3) = false := by simpa using k3
 by_cases k4 : k = 4
 ·have i4 : (k == 4) = true := by simp [k4]
  have hdo := do_4 C (⟨k, (i : Int), b, e, six, ah, al, pt, pr, wy, ms⟩ : OpR) k4 rfl HVI.out
  have hcs := Lib.hid hdo.1
  have he := Lib.hid hdo.2
  clear hdo
  clear k3 k4
  have HRT := Lib.hid (fun w h => retire_any x0.1.S hok x0.2.T e he63 w h)
  have HQ := Lib.hid (fun W h => HQ0.out V3 W hX h)
  go_upto_region 19 with (fail)
  clear qk
  refine wp_relS 6 81 rfl (by kernel_rfl) (by kernel_rfl) ?_
  apply Steps.o1 (MP.eq _) 1 rfl rfl
  ·intro FA x hO hD K hK
   have e5 := hO 5 (by kernel_rfl)
   simp only [eval_tmp, qgT, qgS, qgZ, qoS] at e5
   have ev5 := Lib.hid ((eval_tmp FA 5).trans e5)
   clear hO hD
   go_simp
   exact hK.out _ _ (Ex.refl _) rfl
  apply Steps.o1 (MP.eq _) 2 rfl rfl
  ·intro FA x hO hD K hK
   obtain ⟨e65, ev65⟩ := qE (hD 0 65 (by kernel_rfl))
   clear hO hD
   go_simp
   exact hK.out _ _ (Ex.refl _) rfl
  apply Steps.o1 (MP.eq _) 3 rfl rfl
  ·intro FA x hO hD K hK
   obtain ⟨e66, ev66⟩ := qE (hD 1 66 (by kernel_rfl))
   clear hO hD
   go_simp
   exact hK.out _ _ (Ex.refl _) rfl
  apply Steps.o1 (MP.eq _) 4 rfl rfl
  ·intro FA x hO hD K hK
   obtain ⟨e67, ev67⟩ := qE (hD 2 67 (by kernel_rfl))
   clear hO hD
   have hq := HQ.out _ (below_plus V3 x.bs x.d)
   go_simp
   exact hK.out _ _ (Ex.refl _) rfl
  apply Steps.o1 (MP.eq _) 5 rfl rfl
  ·intro FA x hO hD K hK
   have e3 := hO 3 (by kernel_rfl)
   simp only [eval_tmp, qgT, qgS, qgZ, qoS] at e3
   have ev3 := Lib.hid ((eval_tmp FA 3).trans e3)
   clear hO hD
   go_simp
   exact hK.out _ _ (Ex.refl _) rfl
  apply Steps.o1 (MP.eq _) 6 rfl rfl
  ·intro FA x hO hD K hK
   obtain ⟨e69, ev69⟩ := qE (hD 4 69 (by kernel_rfl))
   clear hO hD
   refine wanted_if rfl ?_
   refine wp_ld1 3 (.tmp 69) rfl ev69.out (bo.later (below_plus _ _ _)) rfl Tryz.underlying3 rfl ?_
   exact hK.out _ _ (Ex.refl _) rfl
  refine Steps.fin_ (fun vs x hp => ?_)
  have p0 : vs 0 = _ := hp 0 (by omega)
  have p1 : vs 1 = _ := hp 1 (by omega)
  have p2 : vs 2 = _ := hp 2 (by omega)
  have p3 : vs 3 = _ := hp 3 (by omega)
  have p4 : vs 4 = _ := hp 4 (by omega)
  have p5 : vs 5 = _ := hp 5 (by omega)
  clear hp
  simp only [List.take_succ_cons, List.take_zero, List.drop_succ_cons, List.drop_zero, putAll, Nat.zero_add, Nat.reduceAdd, Act.put, qsT, qsZ, qsS, p0, p1, p2, p3, p4, p5]
  clear p0 p1 p2 p3 p4 p5
  clear vs
  have hb9 := below_plus V3 x.bs x.d
  replace hX := hX.later hb9
  replace be := be.trans (hb9.mono be.size)
  clear hb9 HQ hr hB0 bo
  generalize plus V3 x.bs x.d = V5 at *
  refine wpList_plain rfl (fun K hK => ?_)
  go_simp
  refine (HRT.out _ (hX.tb x0 hmem)).mono ?_
  rintro en w1 ⟨rfl, hS2, hc2⟩
  with_reducible refine hK _ _ ?_
  clear hK K
  refine wpList_plain rfl (fun K hK => ?_); go_simp; with_reducible refine hK _ _ ?_; clear hK K
  have X1 := hX.setStk HI0.out hS2 hc2
  have hch : Chg D w w1 := (Chg.of_below be).trans (hc2.wid (fun z hz => by rw [show z = x0.2.T from hz]; exact hX.dt x0 hmem))
  clear hX hS2 hc2 be
  go_wp2
  go_ret
  rw [hcs.out]
  exact ⟨by rw [he.out]; rfl, G, D, ⟨_, _, _, _, X1⟩, Grow.refl _ _ _, hch⟩
 have i4 : (k == 4) = false := by simpa using k4
 by_cases k5 : k = 5
 ·have i5 : (k == 5) = true := by simp [k5]
  have hdo := do_5 C (⟨k, (i : Int), b, e, six, ah, al, pt, pr, wy, ms⟩ : OpR) k5 rfl HVI.out
  have hcs := Lib.hid hdo.1
  have he := Lib.hid hdo.2
  clear hdo
  clear k3 k4 k5
  have HRT := Lib.hid (fun w h => release_any x0.1.S hok x0.2.T e he63 w h)
  have HQ := Lib.hid (fun W h => HQ0.out V3 W hX h)
  go_upto_region 21 with (fail)
  clear qk
  refine wp_relS 6 81 rfl (by kernel_rfl) (by kernel_rfl) ?_
  apply Steps.o1 (MP.eq _) 1 rfl rfl
  ·intro FA x hO hD K hK
   have e5 := hO 5 (by kernel_rfl)
   simp only [eval_tmp, qgT, qgS, qgZ, qoS] at e5
   have ev5 := Lib.hid ((eval_tmp FA 5).trans e5)
   clear hO hD
   go_simp
   exact hK.out _ _ (Ex.refl _) rfl
  apply Steps.o1 (MP.eq _) 2 rfl rfl
  ·intro FA x hO hD K hK
   obtain ⟨e74, ev74⟩ := qE (hD 0 74 (by kernel_rfl))
   clear hO hD
   go_simp
   exact hK.out _ _ (Ex.refl _) rfl
  apply Steps.o1 (MP.eq _) 3 rfl rfl
  ·intro FA x hO hD K hK
   obtain ⟨e75, ev75⟩ := qE (hD 1 75 (by kernel_rfl))
   clear hO hD
   go_simp
   exact hK.out _ _ (Ex.refl _) rfl
  apply Steps.o1 (MP.eq _) 4 rfl rfl
  ·intro FA x hO hD K hK
   obtain ⟨e76, ev76⟩ := qE (hD 2 76 (by kernel_rfl))
   clear hO hD
   have hq := HQ.out _ (below_plus V3 x.bs x.d)
   go_simp
   exact hK.out _ _ (Ex.refl _) rfl
  apply Steps.o1 (MP.eq _) 5 rfl rfl
  ·intro FA x hO hD K hK
   have e3 := hO 3 (by kernel_rfl)
   simp only [eval_tmp, qgT, qgS, qgZ, qoS] at e3
   have ev3 := Lib.hid ((eval_tmp FA 3).trans e3)
   clear hO hD
   go_simp
   exact hK.out _ _ (Ex.refl _) rfl
  apply Steps.o1 (MP.eq _) 6 rfl rfl
  ·intro FA x hO hD K hK
   obtain ⟨e78, ev78⟩ := qE (hD 4 78 (by kernel_rfl))
   clear hO hD
   refine wanted_if rfl ?_
   refine wp_ld1 3 (.tmp 78) rfl ev78.out (bo.later (below_plus _ _ _)) rfl Tryz.underlying3 rfl ?_
   exact hK.out _ _ (Ex.refl _) rfl
  refine Steps.fin_ (fun vs x hp => ?_)
  have p0 : vs 0 = _ := hp 0 (by omega)
  have p1 : vs 1 = _ := hp 1 (by omega)
  have p2 : vs 2 = _ := hp 2 (by omega)
  have p3 : vs 3 = _ := hp 3 (by omega)
  have p4 : vs 4 = _ := hp 4 (by omega)
  have p5 : vs 5 = _ := hp 5 (by omega)
  clear hp
  simp only [List.take_succ_cons, List.take_zero, List.drop_succ_cons, List.drop_zero, putAll, Nat.zero_add, Nat.reduceAdd, Act.put, qsT, qsZ, qsS, p0, p1, p2, p3, p4, p5]
  clear p0 p1 p2 p3 p4 p5
  clear vs
  have hb9 := below_plus V3 x.bs x.d
  replace hX := hX.later hb9
  replace be := be.trans (hb9.mono be.size)
  clear hb9 HQ hr hB0 bo
  generalize plus V3 x.bs x.d = V5 at *
  refine wpList_plain rfl (fun K hK => ?_)
  go_simp
  refine (HRT.out _ (hX.tb x0 hmem)).mono ?_
  rintro en w1 ⟨rfl, hS2, hc2⟩
  with_reducible refine hK _ _ ?_
  clear hK K
  refine wpList_plain rfl (fun K hK => ?_); go_simp; with_reducible refine hK _ _ ?_; clear hK K
  have X1 := hX.setStk HI0.out hS2 hc2
  have hch : Chg D w w1 := (Chg.of_below be).trans (hc2.wid (fun z hz => by rw [show z = x0.2.T from hz]; exact hX.dt x0 hmem))
  clear hX hS2 hc2 be
  go_wp2
  go_ret
  rw [hcs.out]
  exact ⟨by rw [he.out]; rfl, G, D, ⟨_, _, _, _, X1⟩, Grow.refl _ _ _, hch⟩
 have i5 : (k == 5) = false := by simpa using k5
 have hdo := do_x C (⟨k, (i : Int), b, e, six, ah, al, pt, pr, wy, ms⟩ : OpR) HK.out.1 HK.out.2.1 HK.out.2.2.1 HK.out.2.2.2.1 HK.out.2.2.2.2 k3 k4 k5 rfl HVI.out
 have hcs := Lib.hid hdo.1
 have he := Lib.hid hdo.2
 clear hdo
 clear k3 k4 k5
 go_wp2
 go_ret
 rw [hcs.out]
 exact ⟨by rw [he.out]; rfl, G, D, ⟨_, _, _, _, hX⟩, Grow.refl _ _ _, Chg.of_below be⟩
theorem apply_any {G D : Nat → Prop} (k v b e : Int) (six : Bool) (ah al pt pr : Nat) (wy : Int) (ms : List (Int × Int)) (B : Option Addr) (m d : Nat) (C : Cf) (hC : CfOk C) (g : Nat) (A : Option Addr) (n c : Nat) (E : List Ve) (w : World) (hX : CfX G D w g C A n c E) (ho : OpOk (⟨k, v, b, e, six, ah, al, pt, pr, wy, ms⟩ : OpR)) (hr : Rs 2 w B m d (prs .i64 ms)) (hB0 : Off G w B) (hm : m ≤ 1000000) : Calls Tryz.prog 8 #[.pointer (some ⟨g, 0, none⟩), .agg (opC k v b e six ah al pt pr wy B m d).toArray] w (RetCf G D w g (apC C (⟨k, v, b, e, six, ah, al, pt, pr, wy, ms⟩ : OpR)) (.int .i64 (chE C (⟨k, v, b, e, six, ah, al, pt, pr, wy, ms⟩ : OpR) : Nat))) := by
 obtain ⟨da, va1, va2⟩ := rowAdC
 obtain ⟨do1, vo1, vo2⟩ := rowOpC
 have HC := Lib.hid (fun w (h : CfX G D w g C A n c E) h1 h2 => change_any k v b e six ah al pt pr wy ms B m d C hC g A n c E w h ho h1 h2 hm)
 have HDG := Lib.hid hX.dg
 have had := Lib.hid (apC_do C (⟨k, v, b, e, six, ah, al, pt, pr, wy, ms⟩ : OpR))
 have hdo := doC_ok hC ho
 obtain ⟨bo, be, zV⟩ := box1 w 43 (opC k v b e six ah al pt pr wy B m d)
 go_enter Tryz.func8, Tryz.ntmps8
 go_upto_region 1 with (fail)
 generalize w.alloc (.cells (opC k v b e six ah al pt pr wy B m d).toArray 43) = V at *
 replace hX := hX.later be
 replace hr := hr.later be
 replace hB0 := hB0.size be.size
 go_upto_region 3 with (fail)
 refine wp_region_lit ?_
 refine wpList_plain rfl (fun K hK => ?_); go_simp; with_reducible refine hK _ _ ?_; clear hK K
 refine wpList_ldA (t := 43) 43 (.tmp 3) rfl rfl (opC k v b e six ah al pt pr wy B m d) rfl (bo) (whole_ _) vo1 vo2 (szOp k v b e six ah al pt pr wy B m d) ?_
 refine wpList_plain rfl (fun K hK => ?_)
 go_simp
 refine (HC.out _ hX hr hB0).mono ?_
 rintro e w1 ⟨rfl, G2, D2, hM, hgr, hc⟩
 with_reducible refine hK _ _ ?_
 clear hK K
 refine wpList_plain rfl (fun K hK => ?_); go_simp; with_reducible refine hK _ _ ?_; clear hK K
 obtain ⟨A2, n2, c2, E2, hX2⟩ := hM
 have hk := hdo.key
 have hb := hdo.bl
 generalize doC C (⟨k, v, b, e, six, ah, al, pt, pr, wy, ms⟩ : OpR) = C2 at *
 have hch : Chg D w w1 := (Chg.of_below be).trans hc
 have hgr2 := hgr.early be.size
 have HX := Lib.hid hX2
 have hnum : C2.num < 18446744073709551616 := hdo.num
 have hq0 : w1.cell? ⟨g, 0, none⟩ = some (.int .u64 (C2.num : Int)) := hX2.st.cell 0
 obtain ⟨ec, hec⟩ : ∃ ec, chE C (⟨k, v, b, e, six, ah, al, pt, pr, wy, ms⟩ : OpR) = ec := ⟨_, rfl⟩
 rw [hec] at had ⊢
 have HEC := Lib.hid hec
 clear hec hX hr hB0 bo hc hgr be hX2
 by_cases h0 : ec = 0
 ·have ha : apC C (⟨k, v, b, e, six, ah, al, pt, pr, wy, ms⟩ : OpR) = upN C2 := by rw [had.out, if_pos h0]
  have HA := Lib.hid ha
  subst h0
  have hw : IntKind.u64.wrap ((C2.num : Int) + 1) = (((C2.num + 1) % 18446744073709551616 : Nat) : Int) := by rw [IntKind.wrap_u64]; omega
  clear ha had
  go_upto_region 5 with (fail)
  refine wp_region_lit ?_
  iterate 7 (refine wpList_plain rfl (fun K hK => ?_); go_simp; with_reducible refine hK _ _ ?_; clear hK K)
  refine wpList_st1 (t := 63) (off := 0) 28 (.tmp 19) (.tmp 17) rfl rfl rfl rfl HX.out.st (by rw [stC_len C2 hk hb]; omega) rfl (by kernel_rfl) ?_
  intro W4 h4 g4
  simp only [Act.put, qsT, qsZ, qsS]
  have hX3 := HX.out.setSt (C' := upN C2) rfl h4 g4
  have hch2 := hch.trans (Chg.one g4 (D := D) HDG.out)
  go_wp2
  go_ret
  rw [HA.out]
  exact ⟨by rw [HEC.out]; rfl, G2, D2, ⟨_, _, _, _, hX3⟩, hgr2, hch2⟩
 ·have ha : apC C (⟨k, v, b, e, six, ah, al, pt, pr, wy, ms⟩ : OpR) = C2 := by rw [had.out, if_neg h0]
  have HA := Lib.hid ha
  have h0i : ((ec : Int) == 0) = false := by simp [h0]
  clear ha had h0
  go_wp2
  go_ret
  rw [HA.out]
  exact ⟨by rw [HEC.out]; rfl, G2, D2, ⟨_, _, _, _, HX.out⟩, hgr2, hch⟩
end

section
open Go.RowKit
attribute [local go_sem ↓] sliced_cut
attribute [local go_sem] cutA_zero
set_option maxHeartbeats 4000000 in
set_option maxRecDepth 100000 in
theorem run_buildSt (key : List UInt8) (hk : key.length = 16) (w : World) : (Instr.build 63 #[(1, .agg (ringC key 0).toArray)]).run Tryz.prog w = .ok (.agg (stC (cf0 key) none 0 0).toArray) w := by
 refine run_build_struct (fields := Tryz.prog.fieldsOf 63) (zero := stC (cf0 (List.replicate 16 0)) none 0 0) (places := #[(0, 1), (1, 17), (18, 260), (278, 1)]) (parts := [(1, .agg (ringC key 0).toArray)]) (by kernel_rfl) (by kernel_rfl) (by kernel_rfl) ?_
 have hl : (ringC key 0).length = 17 := by simp [ringC, bcs_length, hk]
 rw [fill_cons _ _ 1 _ _ 1 17 (ringC key 0) rfl rfl hl (by rw [stC_len _ (by simp [cf0]) (by simp [cf0])]; omega), fill_nil]
 congr 2
 have e : stC (cf0 (List.replicate 16 0)) none 0 0 = .int .u64 0 :: (ringC (List.replicate 16 0) 0 ++ ((List.replicate 65 none).flatMap bkC ++ [.slice none 0 0])) := rfl
 have e2 : stC (cf0 key) none 0 0 = .int .u64 0 :: (ringC key 0 ++ ((List.replicate 65 none).flatMap bkC ++ [.slice none 0 0])) := rfl
 rw [e, e2]
 have hl0 : (ringC (List.replicate 16 0) 0).length = 17 := by simp [ringC, bcs_length]
 generalize ringC (List.replicate 16 0) 0 = R0 at *
 generalize ((List.replicate 65 none).flatMap bkC ++ [Value.slice none 0 0]) = T0
 have h1 := splice_cons (.int .u64 0) (R0 ++ T0) (ringC key 0) 0
 rw [Nat.add_zero] at h1
 rw [h1]
 congr 1
 unfold splice
 rw [List.take_zero, List.nil_append, Nat.zero_add, hl, ← hl0, List.drop_left]
set_option maxHeartbeats 4000000 in
set_option maxRecDepth 100000 in
theorem new_any (key : List UInt8) (hk : key.length = 16) (w : World) : Calls Tryz.prog 7 #[.agg (bcs key).toArray] w fun e w' => ∃ g, e = .returned (.pointer (some ⟨g, 0, none⟩)) ∧ w.heap.size ≤ g ∧ Below w.heap.size w w' ∧ Bk w' g 63 (stC (cf0 key) none 0 0) := by
 obtain ⟨dk, u1, u2, u3⟩ := rowKey
 have HR := Lib.hid (fun w => ringNew_any key hk 0 w)
 have bk : Bk (w.alloc (.cells (bcs key).toArray 55)) w.heap.size 55 (bcs key) := Bk.new w 55 (bcs key).toArray
 have be : Below w.heap.size w (w.alloc (.cells (bcs key).toArray 55)) := Below.allocS (Below.refl _ _) _
 go_enter Tryz.func7, Tryz.ntmps7
 go_upto_region 1 with (fail)
 generalize w.alloc (.cells (bcs key).toArray 55) = V at *
 refine wp_region_lit ?_
 refine wpList_ldA (t := 55) 55 (.tmp 1) rfl rfl (bcs key) rfl bk (bcs_whole key) u1 u2 (szKey key hk) ?_
 refine wpList_plain rfl (fun K hK => ?_)
 go_simp
 refine (HR.out _).mono ?_
 rintro en w1 ⟨bs1, d1, rfl, rfl⟩
 with_reducible refine hK _ _ ?_
 clear hK K
 replace be := be.trans ((below_plus V bs1 d1).mono be.size)
 generalize plus V bs1 d1 = V1 at *
 refine wpList_build 63 [(1, .tmp 4)] rfl rfl (.agg (stC (cf0 key) none 0 0).toArray) (run_buildSt key hk _) ?_
 iterate 2 (refine wpList_plain rfl (fun K hK => ?_); go_simp; with_reducible refine hK _ _ ?_; clear hK K)
 go_wp2
 go_ret
 exact ⟨V1.heap.size, rfl, be.size, Below.allocS be _, Bk.new _ _ _⟩
theorem cf0_X {G : Nat → Prop} {w : World} {g : Nat} {key : List UInt8} (h : Bk w g 63 (stC (cf0 key) none 0 0)) (hG : ∀ b, G b → b < w.heap.size) : CfX (fun b => G b ∨ b = g) (fun b => b = g) w g (cf0 key) none 0 0 [] :=
 ⟨rfl, h, Os.nil_, (fun k hk => by cases hk), rfl, (fun x hx => by cases hx), (fun x hx => by cases hx), (fun x hx => by cases hx), (fun x hx => by cases hx), List.nodup_nil, (fun b hb => Or.inr hb), (fun b hb => hb.elim (hG b) (fun e => by rw [e]; exact h.lt))⟩
def clV (x : Ve) : Ve := (x.1, ⟨x.2.A, x.2.n, x.2.n, x.2.T⟩)
def veZ : List Value := [.bool false, .int .u64 0, .int .u64 0, .int .u16 0, .int .u8 0, .int .i64 0, .slice none 0 0, .pointer none]
theorem clip_any (A : Option Addr) (n c : Nat) (w : World) (h : n ≤ c) : Calls Tryz.prog 79 #[.slice A n c] w fun e w' => e = .returned (.slice A n n) ∧ w = w' := by
 go_enter Tryz.func79, Tryz.ntmps79
 go_wp2
 go_ret
 simp
set_option maxHeartbeats 4000000 in
set_option maxRecDepth 100000 in
theorem vip_any {G D : Nat → Prop} (C : Cf) (hk : C.key.length = 16) (hb : C.bk.length = 65) (g : Nat) (A : Option Addr) (n c : Nat) (E : List Ve) (i : Nat) (x0 : Ve) (w : World) (hX : CfX G D w g C A n c E) (hi : E[i]? = some x0) : Calls Tryz.prog 29 #[.pointer (some ⟨g, 0, none⟩), .int .i64 (i : Int)] w (RetV w (.tuple #[.agg (veC (clV x0)).toArray, .bool true])) := by
 obtain ⟨dv1, vv1, vv2⟩ := rowVe
 have hil := (List.getElem?_eq_some_iff.1 hi).1
 have hxi : E[i] = x0 := (List.getElem?_eq_some_iff.1 hi).2
 have hin : i < n := by have := hX.len; have := hX.n_; omega
 have hii : ¬ (i : Int) < 0 := by omega
 have hii2 : ¬ (n : Int) ≤ (i : Int) := by omega
 have hii3 : (i : Int) < (n : Int) := by omega
 have hx0n := (hX.mm x0 (List.mem_of_getElem? hi)).2.1
 have be : Below w.heap.size w (w.alloc (.cells #[.bool false, .int .u64 0, .int .u64 0, .int .u16 0, .int .u8 0, .int .i64 0, .slice none 0 0, .pointer none] 96)) := Below.allocS (Below.refl _ _) _
 have b2 : Bk (w.alloc (.cells #[.bool false, .int .u64 0, .int .u64 0, .int .u16 0, .int .u8 0, .int .i64 0, .slice none 0 0, .pointer none] 96)) w.heap.size 96 veZ := Bk.new w 96 #[.bool false, .int .u64 0, .int .u64 0, .int .u16 0, .int .u8 0, .int .i64 0, .slice none 0 0, .pointer none]
 replace hX := hX.later be
 have zV : w.heap.size + 1 ≤ (w.alloc (.cells #[.bool false, .int .u64 0, .int .u64 0, .int .u16 0, .int .u8 0, .int .i64 0, .slice none 0 0, .pointer none] 96)).heap.size := by simp
 have q0 : (w.alloc (.cells #[.bool false, .int .u64 0, .int .u64 0, .int .u16 0, .int .u8 0, .int .i64 0, .slice none 0 0, .pointer none] 96)).cell? ⟨g, 278, none⟩ = some (.slice A n c) := (hX.st.cell 278).trans (stC_vips C hk hb A n c)
 have HL := Lib.hid (fun w h => cfgLen_any C hk hb A n c g w h)
 obtain ⟨bb, cur, rfl, hob, -⟩ := hX.row.bk (show 0 < n by omega)
 have hrg : (w.alloc (.cells #[.bool false, .int .u64 0, .int .u64 0, .int .u16 0, .int .u8 0, .int .i64 0, .slice none 0 0, .pointer none] 96)).rangeAt bb (i * 8) (veC x0) := by
  have := hX.row.rs.rangeE veC_len i hil
  rwa [Nat.zero_add, hxi] at this
 clear hi hil hxi hin hob
 go_enter Tryz.func29, Tryz.ntmps29
 go_upto_region 3 with (go_at_call 28; refine (HL.out _ hX.st).mono ?_; rintro e w1 ⟨rfl, rfl⟩)
 generalize w.alloc (.cells #[.bool false, .int .u64 0, .int .u64 0, .int .u16 0, .int .u8 0, .int .i64 0, .slice none 0 0, .pointer none] 96) = V at *
 refine wp_region_lit ?_
 iterate 6 (refine wpList_plain rfl (fun K hK => ?_); go_simp; with_reducible refine hK _ _ ?_; clear hK K)
 refine wpList_load_mid rfl 96 (.tmp 21) rfl bb (i * 8) rfl (veC x0) _ hrg vv1 vv2 (szVe _) ?_
 refine wpList_plain rfl (fun K hK => ?_); go_simp; with_reducible refine hK _ _ ?_; clear hK K
 refine wpList_stA (t := 96) 96 (.tmp 6) (.tmp 22) rfl rfl (veC x0) veZ rfl (veC_one _) rfl rfl (Bk.new _ _ _) (szVe _) ?_
 intro W4 h4 g4
 simp only [Act.put, qsT, qsZ, qsS]
 have b4 : Below V.heap.size V W4 := below_grown (Below.allocS (Below.refl _ _) _) g4 (Nat.le_refl _)
 replace b2 := b2.later b4
 replace be := be.trans (b4.mono be.size)
 replace h4 : Bk W4 V.heap.size 96 (veC x0) := h4
 have q6 : W4.cell? ⟨V.heap.size, 6, none⟩ = some (.slice x0.2.A x0.2.n x0.2.c) := h4.cell 6
 have hzv : w.heap.size < V.heap.size := by omega
 clear b4 g4 hX q0 HL hrg
 generalize V.heap.size = gv at *
 go_upto_region 4 with (fail)
 refine wp_region_lit ?_
 iterate 2 (refine wpList_plain rfl (fun K hK => ?_); go_simp; with_reducible refine hK _ _ ?_; clear hK K)
 refine wpList_plain rfl (fun K hK => ?_)
 go_simp
 refine (clip_any _ _ _ _ hx0n).mono ?_
 rintro e w1 ⟨rfl, rfl⟩
 with_reducible refine hK _ _ ?_
 clear hK K
 refine wpList_plain rfl (fun K hK => ?_); go_simp; with_reducible refine hK _ _ ?_; clear hK K
 refine wpList_st1 (t := 96) (cs := veC x0) (off := 6) (v := .slice x0.2.A x0.2.n x0.2.n) 41 (.tmp 26) (.tmp 25) rfl rfl rfl rfl h4 (by rw [veC_len]; decide) rfl (by kernel_rfl) ?_
 intro W5 h5 g5
 simp only [Act.put, qsT, qsZ, qsS]
 replace h5 : Bk W5 gv 96 (veC (clV x0)) := h5
 replace b2 := b2.grown g5 (fun e => by injection e with e; omega)
 replace be := below_grown be g5 (by omega)
 clear h4 g5 q6
 go_upto_region 5 with (fail)
 refine wp_region_lit ?_
 refine wpList_ldA (t := 96) 96 (.tmp 6) rfl rfl (veC (clV x0)) rfl h5 rfl vv1 vv2 (szVe _) ?_
 simp only [Act.put, qsT, qsZ, qsS]
 refine wpList_stA (t := 96) 96 (.tmp 4) (.tmp 27) rfl rfl (veC (clV x0)) veZ rfl (veC_one _) rfl rfl b2 (szVe _) ?_
 intro W6 h6 g6
 refine wpList_plain rfl (fun K hK => ?_); go_simp; with_reducible refine hK _ _ ?_; clear hK K
 go_wp2
 refine bodyPost_agg2 Tryz.results29 rfl rfl h6.range vv1 vv2 (szVe _) rfl (RetV.mk ?_)
 exact below_grown be g6 (by omega)
set_option maxHeartbeats 4000000 in
set_option maxRecDepth 100000 in
theorem copy_any (S : Stk) (T : Nat) (w : World) (hS : Bk w T 209 (stkC S)) : Calls Tryz.prog 140 #[.pointer (some ⟨T, 0, none⟩)] w fun e w' => ∃ T2, e = .returned (.pointer (some ⟨T2, 0, none⟩)) ∧ w.heap.size ≤ T2 ∧ Below w.heap.size w w' ∧ Bk w' T2 209 (stkC S) := by
 obtain ⟨dk, vk1, vk2⟩ := rowStk
 have hzs : ∀ w, (zeroValue 209).run Tryz.prog w = .ok (.agg (stkC stk0).toArray) w := fun _ => by kernel_rfl
 go_enter Tryz.func140, Tryz.ntmps140
 go_upto_region 3 with (fail)
 refine wp_region_lit ?_
 iterate 2 (refine wpList_plain rfl (fun K hK => ?_); go_simp; with_reducible refine hK _ _ ?_; clear hK K)
 refine wpList_ldA (t := 209) 209 (.tmp 7) rfl rfl (stkC S) rfl hS (whole_ _) vk1 vk2 (szStk S) ?_
 refine wpList_plain rfl (fun K hK => ?_); go_simp; with_reducible refine hK _ _ ?_; clear hK K
 refine wpList_stA (t := 209) 209 (.tmp 3) (.tmp 8) rfl rfl (stkC S) (stkC stk0) (by rw [stkC_len, stkC_len]) (stkC_one S) rfl rfl (Bk.new _ _ _) (szStk S) ?_
 intro W4 h4 g4
 simp only [Act.put, qsT, qsZ, qsS]
 go_wp2
 go_ret
 exact ⟨w.heap.size, rfl, Nat.le_refl _, below_grown (Below.allocS (Below.refl _ _) _) g4 (Nat.le_refl _), h4⟩
section
variable {G D : Nat → Prop} {w w' : World} {g : Nat} {C : Cf} {A : Option Addr} {n c : Nat} {E : List Ve}
theorem CfX.setRowT (h : CfX G D w g C A n c E) {i : Nat} {x : Ve} (hi : E[i]? = some x) {b0 : Nat} {cur : List Value} (hA : A = some ⟨b0, 0, none⟩) (hB : Bk w b0 96 cur) {T : Nat} {S : Stk} (hT : Bk w T 209 (stkC S)) (hTG : G T) (hTD : ¬ D T)
  (hg : w.grownBy w' (some b0)) (hb : Bk w' b0 96 (cur.set (i * 8 + 7) (.pointer (some ⟨T, 0, none⟩)))) : CfX G (fun b => D b ∨ b = T) w' g { C with vs := C.vs.set i { x.1 with S := S } } A n c (E.set i ({ x.1 with S := S }, { x.2 with T := T })) := by
 have hx := List.mem_of_getElem? hi
 have hil := (List.getElem?_eq_some_iff.1 hi).1
 have hxi : E[i] = x := (List.getElem?_eq_some_iff.1 hi).2
 have hn0 : 0 < n := by have := h.len; have := h.n_; omega
 obtain ⟨b1, cur1, hA1, hob, hB1, hl, ht, hnc, hcm⟩ := h.row.bk hn0
 have e1 : b1 = b0 := by rw [hA] at hA1; injection hA1 with hA1; injection hA1 with hA1; exact hA1.symm
 subst e1
 obtain rfl := hB1.same hB
 have hD := h.dr _ hob
 have hG := h.sub _ hD
 have hc : Chg (fun b => b = b1) w w' := Chg.one hg rfl
 have mem : ∀ z ∈ E.set i (({ x.1 with S := S } : Vp), { x.2 with T := T }), z = ({ x.1 with S := S }, { x.2 with T := T }) ∨ (∃ j, ∃ hj : j < E.length, j ≠ i ∧ z = E[j]) := by
  intro z hz
  obtain ⟨k, hk, rfl⟩ := List.mem_iff_getElem.1 hz
  rw [List.length_set] at hk
  rw [List.getElem_set]
  split
  ·exact .inl rfl
  ·rename_i hne
   exact .inr ⟨k, hk, fun e => hne e.symm, rfl⟩
 refine ⟨?_, h.st.chg hc (fun e => hB1.apart h.st (by decide) e.symm), ?_, fun k hk => .inl (h.dr k hk), .inl h.dg, ?_, ?_, ?_, ?_, ?_, ?_, fun b hb' => Nat.lt_of_lt_of_le (h.lt b hb') hc.size⟩
 ·show _ = C.vs.set i _
  rw [List.map_set, h.vs]
 ·subst hA
  refine Os.of_bk hb (by rw [List.length_set]; exact hl) ?_ hnc hcm (by rw [flat_len veC 8 veC_len, List.length_set]; have := h.len; have := h.n_; omega)
  rw [List.take_set, ht, flat_set veC 8 veC_len E i hil ({ x.1 with S := S }, { x.2 with T := T }) 7 (.pointer (some ⟨T, 0, none⟩)) (by decide) (by rw [hxi]; rfl)]
 ·intro z hz
  rcases mem z hz with rfl | ⟨k, hk, _, rfl⟩
  ·exact hT.chg hc (fun e => hB1.apart hT (by decide) e.symm)
  ·exact (h.tb _ (List.getElem_mem hk)).chg hc (fun e => hB1.apart (h.tb _ (List.getElem_mem hk)) (by decide) e.symm)
 ·intro z hz
  rcases mem z hz with rfl | ⟨k, hk, _, rfl⟩
  ·exact .inr rfl
  ·exact .inl (h.dt _ (List.getElem_mem hk))
 ·intro z hz
  have hk : ∀ z ∈ E, Rs 2 w' z.2.A z.2.n z.2.c (prs .i64 z.1.ms) := fun z hz => (h.mm z hz).chg hc (fun a ha e => (h.mo z hz a ha).2 (by rw [e]; exact hG))
  rcases mem z hz with rfl | ⟨k, hk2, _, rfl⟩
  ·exact hk x hx
  ·exact hk _ (List.getElem_mem hk2)
 ·intro z hz
  rcases mem z hz with rfl | ⟨k, hk, _, rfl⟩
  ·exact (h.mo x hx).size hc.size
  ·exact (h.mo _ (List.getElem_mem hk)).size hc.size
 ·rw [List.map_set, List.nodup_iff_pairwise_ne, List.pairwise_iff_getElem]
  intro a b ha hb hab
  simp only [List.length_set, List.length_map] at ha hb
  rw [List.getElem_set, List.getElem_set]
  have hne : ∀ (j : Nat) (hj : j < E.length), E[j].2.T ≠ T := fun j hj e => hTD (e ▸ h.dt _ (List.getElem_mem hj))
  split
  ·rw [if_neg (by omega), List.getElem_map]
   exact fun e => hne b hb e.symm
  ·split
   ·rw [List.getElem_map]
    exact hne a ha
   ·rw [List.getElem_map, List.getElem_map]
    exact fun e => by have := nodup_at h.nd ha hb e; omega
 ·rintro b (k | k)
  ·exact h.sub b k
  ·subst k; exact hTG
end
def resK (C : Cf) (S : Stk) (i : Nat) : Bool := (!deadS S ((i + 1 : Nat) : Int) || knC C ((i + 1 : Nat) : Int)) && (decide (C.vs.length ≤ 1) || (deadS S ((i + 1 : Nat) : Int) == hasB (ev0 C) ((i + 1 : Nat) : Int) 1 64))
theorem resE_some (C : Cf) (ms : List (Int × Int)) (S : Stk) (h : ¬ C.vs.length = 0) : resE C ms (some S) = if okM C ms && (List.range 64).all (resK C S) then 0 else 1 := by
 unfold resE
 rw [if_neg h]
 rfl
theorem resK_m (C : Cf) (S : Stk) (m : Nat) (h1 : 1 ≤ m) : resK C S (m - 1) = ((!deadS S (m : Int) || knC C (m : Int)) && (decide (C.vs.length ≤ 1) || (deadS S (m : Int) == hasB (ev0 C) (m : Int) 1 64))) := by
 obtain ⟨k, rfl⟩ : ∃ k, m = k + 1 := ⟨m - 1, by omega⟩
 rfl
def rsvS (C : Cf) (ms : List (Int × Int)) (S : Stk) : Cf := if resE C ms (some S) = 0 then resC C ms S else C
set_option maxHeartbeats 4000000 in
set_option maxRecDepth 100000 in
theorem restore_any {G D : Nat → Prop} (ms : List (Int × Int)) (B : Option Addr) (m d : Nat) (S : Stk) (hSo : StkOk S) (T : Nat) (C : Cf) (hC : CfOk C) (g : Nat) (A : Option Addr) (n c : Nat) (E : List Ve) (w : World) (hX : CfX G D w g C A n c E) (hr : Rs 2 w B m d (prs .i64 ms)) (hm : m ≤ 1000000) (hT : Bk w T 209 (stkC S)) : Calls Tryz.prog 87 #[.pointer (some ⟨g, 0, none⟩), .slice B m d, .pointer (some ⟨T, 0, none⟩)] w (RetCf G D w g (rsvS C ms S) (.int .i64 (resE C ms (some S) : Nat))) := by
 have hml : ms.length = m := by have := hr.1; rw [prs_length] at this; omega
 have HML := Lib.hid hml
 have hk := hC.key
 have hb := hC.bl
 have HL := Lib.hid (fun w h => cfgLen_any C hk hb A n c g w h)
 have HFT := Lib.hid (fun w h h2 => fit_any ms B m d C hC g A n c w h h2 hm)
 have HNV := Lib.hid hX.n_
 have HGL := Lib.hid hX.lt
 have be := Below.refl w.heap.size w
 clear hml
 rcases Nat.eq_zero_or_pos n with h0 | h0
 ·have h0v : C.vs.length = 0 := by have := HNV.out; omega
  have he := Lib.hid (show resE C ms (some S) = 6 from if_pos h0v)
  have hcs : rsvS C ms S = C := if_neg (by rw [he.out]; decide)
  rw [hcs]
  have h0i : ((n : Int) == 0) = true := by simp [h0]
  clear h0 h0v hcs
  go_enter Tryz.func87, Tryz.ntmps87
  go_upto_region 2 with (go_at_call 28; refine (HL.out _ hX.st).mono ?_; rintro e w1 ⟨rfl, rfl⟩)
  go_wp2
  go_ret
  exact ⟨by rw [he.out]; rfl, G, D, ⟨_, n, c, E, hX⟩, Grow.refl _ _ _, Chg.of_below be⟩
 ·have h0v : ¬ C.vs.length = 0 := by have := HNV.out; omega
  have hre := resE_some C ms S h0v
  have h0i : ((n : Int) == 0) = false := by simp; omega
  cases hfit : okM C ms
  ·rw [hfit] at HFT hre
   have he := Lib.hid (show resE C ms (some S) = 1 from hre)
   have hcs : rsvS C ms S = C := if_neg (by rw [he.out]; decide)
   rw [hcs]
   clear h0v hre hcs
   go_enter Tryz.func87, Tryz.ntmps87
   go_upto_region 4 with (first | (go_at_call 28; refine (HL.out _ hX.st).mono ?_; rintro e w1 ⟨rfl, rfl⟩) | (go_at_call 117; refine (HFT.out _ hX.st hr).mono ?_; rintro e w1 ⟨bs1, d1, rfl, rfl⟩))
   replace hX := hX.later (below_plus w bs1 d1)
   replace be := belowP be bs1 d1
   go_wp2
   go_ret
   exact ⟨by rw [he.out]; rfl, G, D, ⟨_, n, c, E, hX⟩, Grow.refl _ _ _, Chg.of_below be⟩
  ·rw [hfit, Bool.true_and] at hre
   rw [hfit] at HFT
   have HRE := Lib.hid hre
   have hbad : ∀ j, j < 64 → resK C S j = false → resE C ms (some S) = 1 := fun j hj h => by
    rw [HRE.out, if_neg]
    rw [Bool.not_eq_true, List.all_eq_false]
    exact ⟨j, List.mem_range.2 hj, by rw [h]; simp⟩
   have hbads : ∀ j, j < 64 → resK C S j = false → rsvS C ms S = C := fun j hj h => if_neg (by rw [hbad j hj h]; decide)
   have HBD := Lib.hid (fun j hj h => And.intro (hbad j hj h) (hbads j hj h))
   clear hfit hre hbad hbads
   go_enter Tryz.func87, Tryz.ntmps87
   go_upto_region 5 with (first | (go_at_call 28; refine (HL.out _ hX.st).mono ?_; rintro e w1 ⟨rfl, rfl⟩) | (go_at_call 117; refine (HFT.out _ hX.st hr).mono ?_; rintro e w1 ⟨bs1, d1, rfl, rfl⟩))
   have hb1 := below_plus w bs1 d1
   replace hX := hX.later hb1
   replace hr := hr.later hb1
   replace hT := hT.later hb1
   replace be := be.trans (hb1.mono be.size)
   clear hb1 HFT HL
   generalize plus w bs1 d1 = V at *
   go_upto_region 6 with (fail)
   have HST := Lib.hid (And.intro hX (And.intro hT (And.intro hr be)))
   clear hX hT hr be
   go_loopw [7] (fun I wr => ∃ q : Nat, I = .int .i64 (q : Int) ∧ 1 ≤ q ∧ q ≤ 65 ∧ (List.range (q - 1)).all (resK C S) = true ∧ CfX G D wr g C A n c E ∧ Bk wr T 209 (stkC S) ∧ Rs 2 wr B m d (prs .i64 ms) ∧ Below w.heap.size w wr) (fun I _ => 65 - (intOf I).toNat)
   case atStart => exact ⟨1, rfl, Nat.le_refl _, by omega, rfl, HST.out.1, HST.out.2.1, HST.out.2.2.1, HST.out.2.2.2⟩
   case round =>
    clear HST
    obtain ⟨q, rfl, hq1, hq65, hall, hX, hT, hr, hE⟩ := hrel
    have HALL := Lib.hid hall
    clear hall
    have q0 : wr.cell? ⟨g, 278, none⟩ = some (.slice A n c) := (hX.st.cell 278).trans (stC_vips C hk hb A n c)
    by_cases h64 : q ≤ 64
    ·have i64 : (q : Int) ≤ 64 := by omega
     have i65 : (q : Int) < 65 := by omega
     have HKM := Lib.hid (resK_m C S q hq1)
     have HE1 := Lib.hid (fun w h => evicted_any S hSo.ev T (q : Int) (by omega) w h)
     go_upto_region 8 with (fail)
     refine wp_region_lit ?_
     iterate 2 (refine wpList_plain rfl (fun K hK => ?_); go_simp; with_reducible refine hK _ _ ?_; clear hK K)
     refine wpList_plain rfl (fun K hK => ?_)
     go_simp
     refine (HE1.out _ hT).mono ?_
     rintro e w1 ⟨bs1, d1, rfl, rfl⟩
     with_reducible refine hK _ _ ?_
     clear hK K
     have hb1 := below_plus wr bs1 d1
     replace hX := hX.later hb1
     replace hT := hT.later hb1
     replace hr := hr.later hb1
     replace hE := hE.trans (hb1.mono hE.size)
     clear hb1 q0 HE1
     generalize plus wr bs1 d1 = W at *
     refine wpList_plain rfl (fun K hK => ?_); go_simp; with_reducible refine hK _ _ ?_; clear hK K
     have hcell : W.cell? ⟨g, 18 + q * 4 + 3, none⟩ = some (.bool (knC C (q : Int))) := (hX.st.cell _).trans (stC_bkAt C hk hb A n c q (by omega) 3 _ (by
      have : knC C (q : Int) = (C.bk.getD q none).isSome := by unfold knC; rw [decide_eq_true (show (1 : Int) ≤ (q : Int) by omega), decide_eq_true i64]; rfl
      rw [this]; rfl))
     obtain ⟨dd, hdd⟩ : ∃ dd, deadS S (q : Int) = dd := ⟨_, rfl⟩
     obtain ⟨kk, hkk⟩ : ∃ kk, knC C (q : Int) = kk := ⟨_, rfl⟩
     rw [hdd]
     rw [hkk] at hcell
     rw [hdd, hkk] at HKM
     clear hdd hkk
     have Q9 := hcell
     by_cases hbk : dd = true ∧ kk = false
     ·obtain ⟨rfl, rfl⟩ := hbk
      have HBADb := HBD.out (q - 1) (by omega) (by rw [HKM.out]; simp)
      have HBAD := Lib.hid HBADb.1
      have HBADS := Lib.hid HBADb.2
      clear HBADb HKM
      go_upto_region 9 with (fail)
      clear Q9
      refine wp_region_lit ?_
      iterate 2 (refine wpList_plain rfl (fun K hK => ?_); go_simp; with_reducible refine hK _ _ ?_; clear hK K)
      iterate 8 (refine wpList_step (fun K hK => ?_); go_simp; with_reducible refine hK _ _ ?_; clear hK K)
      refine wpList_plain rfl (fun K hK => ?_); go_simp; with_reducible refine hK _ _ ?_; clear hK K
      go_wp2
      go_ret
      exact ⟨by rw [HBAD.out]; rfl, G, D, ⟨_, n, c, E, by rw [HBADS.out]; exact hX⟩, Grow.refl _ _ _, Chg.of_below hE⟩
     ·have hcont : ∀ (P : Prop), (dd = false → P) → (dd = true → kk = true → P) → P := fun P h1 h2 => by cases dd <;> cases kk <;> simp_all
      have HL1 := Lib.hid HNV.out
      by_cases hn1 : n ≤ 1
      ·have in1 : ¬ (1 : Int) < (n : Int) := by omega
       have in1n : ¬ 1 < n := by omega
       have HNX := Lib.hid (show (List.range q).all (resK C S) = true by
        have e : List.range q = List.range (q - 1) ++ [q - 1] := by
         obtain ⟨k, rfl⟩ : ∃ k, q = k + 1 := ⟨q - 1, by omega⟩
         rw [List.range_succ]; rfl
        have hl : decide (C.vs.length ≤ 1) = true := decide_eq_true (by have := HL1.out; omega)
        rw [e, List.all_append, HALL.out, List.all_cons, List.all_nil, HKM.out, hl]
        cases dd <;> cases kk <;> simp_all)
       have HH := Lib.hid (And.intro hX (And.intro hT (And.intro hr hE)))
       clear hbk HKM hX hT hr hE
       have q0 : W.cell? ⟨g, 278, none⟩ = some (.slice A n c) := (HH.out.1.st.cell 278).trans (stC_vips C hk hb A n c)
       cases dd
       ·go_upto_region 9 with (fail)
        clear Q9 hcell
        refine wp_region_lit ?_
        iterate 2 (refine wpList_plain rfl (fun K hK => ?_); go_simp; with_reducible refine hK _ _ ?_; clear hK K)
        iterate 8 ((with_reducible refine wpList_skip ?_ ?_); (· first | (go_simp; done) | (go_simp; intro h; cases h)); simp only [Act.put, qsT, qsZ, qsS])
        refine wpList_plain rfl (fun K hK => ?_); go_simp; with_reducible refine hK _ _ ?_; clear hK K
        go_upto_region 11 with (fail)
        refine wp_region_lit ?_
        iterate 7 (refine wpList_plain rfl (fun K hK => ?_); go_simp; with_reducible refine hK _ _ ?_; clear hK K)
        iterate 11 ((with_reducible refine wpList_skip ?_ ?_); (· first | (go_simp; done) | (go_simp; intro h; cases h)); simp only [Act.put, qsT, qsZ, qsS])
        refine wpList_plain rfl (fun K hK => ?_); go_simp; with_reducible refine hK _ _ ?_; clear hK K
        go_wp2
        exact ⟨⟨q + 1, by go_num, by omega, by omega, by simpa using HNX.out, HH.out.1, HH.out.2.1, HH.out.2.2.1, HH.out.2.2.2⟩, by simp [intOf]; omega⟩
       ·obtain rfl : kk = true := by
         refine hcont _ (fun h => by cases h) (fun _ h => h)
        go_upto_region 9 with (fail)
        refine wp_region_lit ?_
        iterate 2 (refine wpList_plain rfl (fun K hK => ?_); go_simp; with_reducible refine hK _ _ ?_; clear hK K)
        iterate 8 (refine wpList_step (fun K hK => ?_); go_simp; with_reducible refine hK _ _ ?_; clear hK K)
        refine wpList_plain rfl (fun K hK => ?_); go_simp; with_reducible refine hK _ _ ?_; clear hK K
        clear Q9 hcell
        go_upto_region 11 with (fail)
        refine wp_region_lit ?_
        iterate 7 (refine wpList_plain rfl (fun K hK => ?_); go_simp; with_reducible refine hK _ _ ?_; clear hK K)
        iterate 11 ((with_reducible refine wpList_skip ?_ ?_); (· first | (go_simp; done) | (go_simp; intro h; cases h)); simp only [Act.put, qsT, qsZ, qsS])
        refine wpList_plain rfl (fun K hK => ?_); go_simp; with_reducible refine hK _ _ ?_; clear hK K
        go_wp2
        exact ⟨⟨q + 1, by go_num, by omega, by omega, by simpa using HNX.out, HH.out.1, HH.out.2.1, HH.out.2.2.1, HH.out.2.2.2⟩, by simp [intOf]; omega⟩
      ·have in1 : (1 : Int) < (n : Int) := by omega
       have in1n : 1 < n := by omega
       have hlE := hX.len
       have hnv := hX.n_
       obtain ⟨bb, cur, rfl, -, hB, -⟩ := hX.row.bk h0
       have hrg : W.rangeAt bb (0 * 8) (veC (E[0]'(by omega))) := by
        have := hX.row.rs.rangeE veC_len 0 (by omega)
        rwa [Nat.zero_add] at this
       rw [Nat.zero_mul] at hrg
       have q7 : W.cell? ⟨bb, 7, none⟩ = some (.pointer (some ⟨(E[0]'(by omega)).2.T, 0, none⟩)) := by simpa using hrg 7 _ rfl
       have hmem : E[0]'(by omega) ∈ E := List.getElem_mem _
       have hvm : (E[0]'(by omega)).1 ∈ C.vs := by rw [← hX.vs]; exact List.mem_map.2 ⟨_, hmem, rfl⟩
       have hvo := hC.vs _ hvm
       have hev : ∀ i : Int, deadS (E[0]'(by omega)).1.S i = hasB (ev0 C) i 1 64 := fun i => by rw [hasB_dead, hvo.ev]
       generalize E[0]'(by omega) = x0 at *
       have HEV := Lib.hid (fun w (h : CfX G D w g C (some ⟨bb, 0, none⟩) n c E) => evicted_any x0.1.S hvo.st.ev x0.2.T (q : Int) (by omega) w (h.tb x0 hmem))
       rw [hev] at HEV
       have q0 : W.cell? ⟨g, 278, none⟩ = some (.slice (some ⟨bb, 0, none⟩) n c) := (hX.st.cell 278).trans (stC_vips C hk hb _ n c)
       obtain ⟨ee, hee⟩ : ∃ ee, hasB (ev0 C) (q : Int) 1 64 = ee := ⟨_, rfl⟩
       rw [hee] at HEV HKM
       clear hrg hvm hvo hev hB hee hlE hnv
       have HHN : Hid (ee = dd → (List.range q).all (resK C S) = true) := Lib.hid (fun hed => by
        have e : List.range q = List.range (q - 1) ++ [q - 1] := by
         obtain ⟨k, rfl⟩ : ∃ k, q = k + 1 := ⟨q - 1, by omega⟩
         rw [List.range_succ]; rfl
        rw [e, List.all_append, HALL.out, List.all_cons, List.all_nil, HKM.out]
        subst hed
        cases ee <;> cases kk <;> simp_all)
       have HHB : Hid (¬ ee = dd → resK C S (q - 1) = false) := Lib.hid (fun hed => by
        rw [HKM.out]
        have hl : decide (C.vs.length ≤ 1) = false := decide_eq_false (by have := HL1.out; omega)
        rw [hl]
        cases ee <;> cases dd <;> simp_all)
       clear hbk HKM
       cases dd
       ·go_upto_region 9 with (fail)
        clear Q9 hcell
        refine wp_region_lit ?_
        iterate 2 (refine wpList_plain rfl (fun K hK => ?_); go_simp; with_reducible refine hK _ _ ?_; clear hK K)
        iterate 8 ((with_reducible refine wpList_skip ?_ ?_); (· first | (go_simp; done) | (go_simp; intro h; cases h)); simp only [Act.put, qsT, qsZ, qsS])
        refine wpList_plain rfl (fun K hK => ?_); go_simp; with_reducible refine hK _ _ ?_; clear hK K
        go_upto_region 11 with (fail)
        refine wp_region_lit ?_
        iterate 7 (refine wpList_plain rfl (fun K hK => ?_); go_simp; with_reducible refine hK _ _ ?_; clear hK K)
        iterate 9 (refine wpList_step (fun K hK => ?_); go_simp; with_reducible refine hK _ _ ?_; clear hK K)
        refine wpList_step (fun K hK => ?_)
        go_simp
        refine (HEV.out _ hX).mono ?_
        rintro e w1 ⟨bs1, d1, rfl, rfl⟩
        with_reducible refine hK _ _ ?_
        clear hK K
        have hb1 := below_plus W bs1 d1
        replace hX := hX.later hb1
        replace hT := hT.later hb1
        replace hr := hr.later hb1
        replace hE := hE.trans (hb1.mono hE.size)
        clear hb1 HEV
        generalize plus W bs1 d1 = W2 at *
        refine wpList_step (fun K hK => ?_); go_simp; with_reducible refine hK _ _ ?_; clear hK K
        refine wpList_plain rfl (fun K hK => ?_); go_simp; with_reducible refine hK _ _ ?_; clear hK K
        clear q0 q7
        cases ee
        ·have HNX := Lib.hid (HHN.out rfl)
         have HH := Lib.hid (And.intro hX (And.intro hT (And.intro hr hE)))
         clear hX hT hr hE HHN HHB
         go_wp2
         exact ⟨⟨q + 1, by go_num, by omega, by omega, by simpa using HNX.out, HH.out.1, HH.out.2.1, HH.out.2.2.1, HH.out.2.2.2⟩, by simp [intOf]; omega⟩
        ·have HBADb := HBD.out (q - 1) (by omega) (HHB.out (by decide))
         have HBAD := Lib.hid HBADb.1
         have HBADS := Lib.hid HBADb.2
         clear HBADb
         go_wp2
         go_ret
         exact ⟨by rw [HBAD.out]; rfl, G, D, ⟨_, n, c, E, by rw [HBADS.out]; exact hX⟩, Grow.refl _ _ _, Chg.of_below hE⟩
       ·obtain rfl : kk = true := by
         refine hcont _ (fun h => by cases h) (fun _ h => h)
        go_upto_region 9 with (fail)
        refine wp_region_lit ?_
        iterate 2 (refine wpList_plain rfl (fun K hK => ?_); go_simp; with_reducible refine hK _ _ ?_; clear hK K)
        iterate 8 (refine wpList_step (fun K hK => ?_); go_simp; with_reducible refine hK _ _ ?_; clear hK K)
        refine wpList_plain rfl (fun K hK => ?_); go_simp; with_reducible refine hK _ _ ?_; clear hK K
        clear Q9 hcell
        go_upto_region 11 with (fail)
        refine wp_region_lit ?_
        iterate 7 (refine wpList_plain rfl (fun K hK => ?_); go_simp; with_reducible refine hK _ _ ?_; clear hK K)
        iterate 9 (refine wpList_step (fun K hK => ?_); go_simp; with_reducible refine hK _ _ ?_; clear hK K)
        refine wpList_step (fun K hK => ?_)
        go_simp
        refine (HEV.out _ hX).mono ?_
        rintro e w1 ⟨bs1, d1, rfl, rfl⟩
        with_reducible refine hK _ _ ?_
        clear hK K
        have hb1 := below_plus W bs1 d1
        replace hX := hX.later hb1
        replace hT := hT.later hb1
        replace hr := hr.later hb1
        replace hE := hE.trans (hb1.mono hE.size)
        clear hb1 HEV
        generalize plus W bs1 d1 = W2 at *
        refine wpList_step (fun K hK => ?_); go_simp; with_reducible refine hK _ _ ?_; clear hK K
        refine wpList_plain rfl (fun K hK => ?_); go_simp; with_reducible refine hK _ _ ?_; clear hK K
        clear q0 q7
        cases ee
        ·have HBADb := HBD.out (q - 1) (by omega) (HHB.out (by decide))
         have HBAD := Lib.hid HBADb.1
         have HBADS := Lib.hid HBADb.2
         clear HBADb
         go_wp2
         go_ret
         exact ⟨by rw [HBAD.out]; rfl, G, D, ⟨_, n, c, E, by rw [HBADS.out]; exact hX⟩, Grow.refl _ _ _, Chg.of_below hE⟩
        ·have HNX := Lib.hid (HHN.out rfl)
         have HH := Lib.hid (And.intro hX (And.intro hT (And.intro hr hE)))
         clear hX hT hr hE HHN HHB
         go_wp2
         exact ⟨⟨q + 1, by go_num, by omega, by omega, by simpa using HNX.out, HH.out.1, HH.out.2.1, HH.out.2.2.1, HH.out.2.2.2⟩, by simp [intOf]; omega⟩
    ·have i64 : ¬ (q : Int) ≤ 64 := by omega
     obtain rfl : q = 65 := by omega
     have he := Lib.hid (show resE C ms (some S) = 0 by rw [HRE.out, if_pos]; exact HALL.out)
     have hcs := Lib.hid (show rsvS C ms S = resC C ms S from if_pos he.out)
     obtain ⟨iL, rfl⟩ : ∃ iL, n = iL + 1 := ⟨n - 1, by omega⟩
     obtain ⟨bb, cur, rfl, hob, hBr, hcl, -, hnc, -⟩ := hX.row.bk h0
     have hlE := hX.len
     have hnv := hX.n_
     have hiL : E[iL]? = some (E[iL]'(by omega)) := List.getElem?_eq_getElem _
     generalize E[iL]'(by omega) = x0 at *
     have HIL := Lib.hid hiL
     have HLE := Lib.hid hlE
     have HCL := Lib.hid (fun w h => mclone_any ms B m d w h hm)
     have HCP := Lib.hid (fun w h => copy_any S T w h)
     have l1 : IntKind.i64.wrap (((iL + 1 : Nat) : Int) - 1) = (iL : Int) := by rw [IntWalk.i64_in _ (by have := hC.vl; omega)]; omega
     have l2 : IntKind.i64.wrap ((iL : Int) + 1 - 1) = (iL : Int) := by rw [IntWalk.i64_in _ (by have := hC.vl; omega)]; omega
     have l3 : IntKind.i64.wrap (iL : Int) = (iL : Int) := IntWalk.i64_in _ (by have := hC.vl; omega)
     have l4 : (iL : Int) < ((iL + 1 : Nat) : Int) := by omega
     have l5 : (iL : Int) < (iL : Int) + 1 := by omega
     have l6 : (iL : Int) + 1 - 1 = (iL : Int) := by omega
     clear hiL hlE hnv q0 hq1 hq65 h64
     go_upto_region 13 with (fail)
     refine wp_relS 11 79 rfl (by kernel_rfl) (by kernel_rfl) ?_
     apply Steps.o1 (MP.eq _) 1 rfl rfl
     ·intro FA x hO hD K hK
      have e0 := hO 0 (by kernel_rfl)
      simp only [eval_tmp, qgT, qgS, qgZ, qoS] at e0
      have ev0 := Lib.hid ((eval_tmp FA 0).trans e0)
      clear hO hD
      go_simp
      exact hK.out _ _ (Ex.refl _) rfl
     apply Steps.o1 (MP.eq _) 2 rfl rfl
     ·intro FA x hO hD K hK
      obtain ⟨e58, ev58⟩ := qE (hD 0 58 (by kernel_rfl))
      clear hO hD
      go_simp
      exact hK.out _ _ (Ex.refl _) rfl
     apply Steps.o1 (MP.eq _) 3 rfl rfl
     ·intro FA x hO hD K hK
      obtain ⟨e59, ev59⟩ := qE (hD 1 59 (by kernel_rfl))
      clear hO hD
      go_simp
      exact hK.out _ _ (Ex.refl _) rfl
     apply Steps.o1 (MP.eq _) 4 rfl rfl
     ·intro FA x hO hD K hK
      obtain ⟨e60, ev60⟩ := qE (hD 2 60 (by kernel_rfl))
      clear hO hD
      refine wanted_if rfl ?_
      refine wp_ld1 61 (.tmp 60) rfl ev60.out (hX.st.later (below_plus _ _ _)) (stC_vips C hk hb _ _ _) Tryz.underlying61 rfl ?_
      exact hK.out _ _ (Ex.refl _) rfl
     apply Steps.o1 (MP.eq _) 5 rfl rfl
     ·intro FA x hO hD K hK
      have e0 := hO 0 (by kernel_rfl)
      simp only [eval_tmp, qgT, qgS, qgZ, qoS] at e0
      have ev0 := Lib.hid ((eval_tmp FA 0).trans e0)
      clear hO hD
      go_simp
      exact hK.out _ _ (Ex.refl _) rfl
     apply Steps.o1 (MP.eq _) 6 rfl rfl
     ·intro FA x hO hD K hK
      obtain ⟨e62, ev62⟩ := qE (hD 4 62 (by kernel_rfl))
      clear hO hD
      go_simp
      exact hK.out _ _ (Ex.refl _) rfl
     apply Steps.o1 (MP.eq _) 7 rfl rfl
     ·intro FA x hO hD K hK
      obtain ⟨e63, ev63⟩ := qE (hD 5 63 (by kernel_rfl))
      clear hO hD
      go_simp
      exact hK.out _ _ (Ex.refl _) rfl
     apply Steps.o1 (MP.eq _) 8 rfl rfl
     ·intro FA x hO hD K hK
      obtain ⟨e64, ev64⟩ := qE (hD 6 64 (by kernel_rfl))
      clear hO hD
      refine wanted_if rfl ?_
      refine wp_ld1 61 (.tmp 64) rfl ev64.out (hX.st.later (below_plus _ _ _)) (stC_vips C hk hb _ _ _) Tryz.underlying61 rfl ?_
      exact hK.out _ _ (Ex.refl _) rfl
     apply Steps.o1 (MP.eq _) 9 rfl rfl
     ·intro FA x hO hD K hK
      obtain ⟨e65, ev65⟩ := qE (hD 7 65 (by kernel_rfl))
      clear hO hD
      go_simp
      exact hK.out _ _ (Ex.refl _) rfl
     apply Steps.o1 (MP.eq _) 10 rfl rfl
     ·intro FA x hO hD K hK
      obtain ⟨e66, ev66⟩ := qE (hD 8 66 (by kernel_rfl))
      clear hO hD
      go_simp
      exact hK.out _ _ (Ex.refl _) rfl
     apply Steps.o1 (MP.eq _) 11 rfl rfl
     ·intro FA x hO hD K hK
      obtain ⟨e61, ev61⟩ := qE (hD 3 61 (by kernel_rfl))
      obtain ⟨e67, ev67⟩ := qE (hD 9 67 (by kernel_rfl))
      clear hO hD
      go_simp
      exact hK.out _ _ (Ex.refl _) rfl
     refine Steps.fin_ (fun vs x hp => ?_)
     have p0 : vs 0 = _ := hp 0 (by omega)
     have p1 : vs 1 = _ := hp 1 (by omega)
     have p2 : vs 2 = _ := hp 2 (by omega)
     have p3 : vs 3 = _ := hp 3 (by omega)
     have p4 : vs 4 = _ := hp 4 (by omega)
     have p5 : vs 5 = _ := hp 5 (by omega)
     have p6 : vs 6 = _ := hp 6 (by omega)
     have p7 : vs 7 = _ := hp 7 (by omega)
     have p8 : vs 8 = _ := hp 8 (by omega)
     have p9 : vs 9 = _ := hp 9 (by omega)
     have p10 : vs 10 = _ := hp 10 (by omega)
     clear hp
     simp only [List.take_succ_cons, List.take_zero, List.drop_succ_cons, List.drop_zero, putAll, Nat.zero_add, Nat.reduceAdd, Act.put, qsT, qsZ, qsS, p0, p1, p2, p3, p4, p5, p6, p7, p8, p9, p10]
     clear p0 p1 p2 p3 p4 p5 p6 p7 p8 p9 p10
     clear vs
     have hb9 := below_plus wr x.bs x.d
     replace hX := hX.later hb9
     replace hT := hT.later hb9
     replace hr := hr.later hb9
     have hB2 := hBr.later hb9
     replace hE := hE.trans (hb9.mono hE.size)
     have HGL := Lib.hid hX.lt
     have HBZ := Lib.hid hB2.lt
     have hwZ := hE.size
     clear hb9 hBr
     generalize plus wr x.bs x.d = Z at *
     go_upto_region 14 with (fail)
     refine wp_region_lit ?_
     iterate 3 (refine wpList_plain rfl (fun K hK => ?_); go_simp; with_reducible refine hK _ _ ?_; clear hK K)
     refine wpList_plain rfl (fun K hK => ?_)
     go_simp
     refine (HCL.out _ hr).mono ?_
     rintro e w1 ⟨A9, n9, c9, bs1, d1, rfl, rfl, ho9⟩
     with_reducible refine hK _ _ ?_
     clear hK K
     have hb1 := below_plus Z bs1 d1
     replace hX := hX.later hb1
     replace hT := hT.later hb1
     replace hB2 := hB2.later hb1
     replace hE := hE.trans (hb1.mono hE.size)
     have hn9 : n9 = m := by have := ho9.1; rw [prs_length] at this; have := HML.out; omega
     subst hn9
     have ho9g : ∀ b, G b → b < Z.heap.size := fun b hb => HGL.out b hb
     have ho9lt := fun k hk => (ho9.blk k hk)
     have hb1s := hb1.size
     clear hb1
     generalize plus Z bs1 d1 = Z1 at *
     refine wpList_plain rfl (fun K hK => ?_); go_simp; with_reducible refine hK _ _ ?_; clear hK K
     refine wpList_plain rfl (fun K hK => ?_)
     go_simp
     refine (HCP.out _ hT).mono ?_
     rintro e w1 ⟨T9, rfl, hz9, hb2, hT9⟩
     with_reducible refine hK _ _ ?_
     clear hK K
     have hX2 := (hX.later hb2).more (G' := fun b => G b ∨ b = T9) (fun b hb => Or.inl hb) (fun b hb => hb.elim ((hX.later hb2).lt b) (fun e => by rw [e]; exact hT9.lt)) (fun x hx => (Off.more (D' := fun b => G b ∨ b = T9) (hX.mo x hx) (fun b hb => hb.elim Or.inl (fun e => Or.inr (by rw [e]; exact hz9)))).size hb2.size)
     have hTD : ¬ D T9 := fun h => by have := hX.lt _ (hX.sub _ h); omega
     have hBb := hB2.lt
     clear hX
     replace hB2 := hB2.later hb2
     replace ho9 := ho9.later hb2
     replace hE := hE.trans (hb2.mono hE.size)
     iterate 2 (refine wpList_plain rfl (fun K hK => ?_); go_simp; with_reducible refine hK _ _ ?_; clear hK K)
     refine wpList_st1 (v := .slice A9 n9 c9) (t := 96) (cs := cur) (off := iL * 8 + 6) 41 (.tmp 76) (.tmp 72) rfl rfl rfl rfl hB2 (by omega) rfl (by kernel_rfl) ?_
     intro W8 h8 g8
     iterate 2 (refine wpList_plain rfl (fun K hK => ?_); go_simp; with_reducible refine hK _ _ ?_; clear hK K)
     refine wpList_st1 (v := .pointer (some ⟨T9, 0, none⟩)) (t := 96) (cs := cur.set (iL * 8 + 6) (.slice A9 n9 c9)) (off := iL * 8 + 7) 94 (.tmp 78) (.tmp 74) rfl rfl rfl rfl h8 (by rw [List.length_set]; omega) rfl (by kernel_rfl) ?_
     intro W9 h9 g9
     simp only [Act.put, qsT, qsZ, qsS]
     have hbT : bb ≠ T9 := by omega
     have hoA : ∀ a, A9 = some a → Z.heap.size ≤ a.block ∧ a.block < Z1.heap.size := fun a ha => ho9lt a.block (by rw [ha]; rfl)
     have hbz : bb < Z.heap.size := HBZ.out
     have X3 := hX2.setRow (i := iL) (x := x0) HIL.out rfl hB2 (j := 6) (u := .slice A9 n9 c9) (by decide) (y := ({ x0.1 with ms := ms }, { x0.2 with A := A9, n := n9, c := c9 })) rfl rfl rfl g8 h8 (ho9.rs.chg (Chg.one (D := fun b => b = bb) g8 rfl) (fun a ha e => by
      have := hoA a ha
      have e : a.block = bb := e
      omega)) (fun a ha => ⟨by have := hoA a ha; have := hb2.size; have := g8.size; omega, fun h => by
      have h1 := hoA a ha
      rcases h with h | h
      ·have := ho9g _ h; omega
      ·have h : a.block = T9 := h; omega⟩)
     have X4 := X3.setRowT (i := iL) (x := ({ x0.1 with ms := ms }, { x0.2 with A := A9, n := n9, c := c9 })) (by rw [List.getElem?_set_self (List.getElem?_eq_some_iff.1 HIL.out).1]) rfl h8 (T := T9) (S := S) (hT9.grown g8 (fun e => hbT (by injection e))) (Or.inr rfl) hTD g9 h9
     have hDb := hX2.dr _ hob
     have hch : Chg D w W9 := ((Chg.of_below hE).trans (Chg.one g8 hDb)).trans (Chg.one g9 hDb)
     have hrc : resC C ms S = { C with vs := (C.vs.set iL { x0.1 with ms := ms }).set iL { x0.1 with ms := ms, S := S } } := by
      have hl : C.vs.length - 1 = iL := by have := HNV.out; omega
      have hv : C.vs[iL]? = some x0.1 := by rw [← hX2.vs, List.getElem?_map, HIL.out]; rfl
      unfold resC
      rw [hl, hv, List.set_set]
     have hwT : w.heap.size ≤ T9 := Nat.le_trans hwZ (Nat.le_trans hb1s hz9)
     have HRC := Lib.hid hrc
     clear hX2 hrc hob
     go_wp2
     go_ret
     rw [hcs.out, HRC.out]
     exact ⟨by rw [he.out]; rfl, (fun b => G b ∨ b = T9), (fun b => D b ∨ b = T9), ⟨_, _, _, _, X4⟩, ⟨fun b hb => Or.inl hb, fun b hb => hb.elim Or.inl (fun e => Or.inr (by rw [e]; exact hwT)), fun b hb => hb.elim Or.inl (fun e => Or.inr (by rw [e]; exact hwT))⟩, hch⟩
end

section
def ctzN : Nat → Nat → Nat
 | 0, _ => 0
 | f + 1, n => if n % 2 = 1 then 0 else ctzN f (n / 2) + 1
section
variable {F S : Int → Nat} {l : List Int} {p : Nat}
end
end

section
open Go.RowKit
attribute [local go_sem ↓] sliced_cut
attribute [local go_sem] cutA_zero
def deB : List UInt8 := Lib.deBruijn64tab.map UInt8.ofNat
theorem deB_len : deB.length = 64 := by decide +kernel
theorem deB_at : ∀ i, i < 64 → (deB.getD i 0).toNat = Lib.deBruijn64tab.getD i 0 := by decide +kernel
def TabB (w : World) : Prop := Rb w (some ⟨0, 0, none⟩) 64 64 deB
theorem TabB.later {w w' : World} (h : TabB w) (hb : Below w.heap.size w w') : TabB w' := Rb.later h hb
theorem TabB.at_ {w : World} (h : TabB w) (i : Nat) (hi : i < 64) : w.cell? ⟨0, i, none⟩ = some (.int .u8 (Lib.deBruijn64tab.getD i 0 : Nat)) := by
 obtain ⟨b, off, hA, _, hc⟩ := h.2.2.at_ (by rw [bcs_length, deB_len]; decide)
 injection hA with hA
 injection hA with h1 h2
 subst h1 h2
 have := hc i _ (bcs_get deB i (by rw [deB_len]; exact hi))
 rw [Nat.zero_add] at this
 rw [this]
 have h2 := deB_at i hi
 rw [List.getD_eq_getElem?_getD, List.getElem?_eq_getElem (by rw [deB_len]; exact hi), Option.getD_some] at h2
 rw [h2]
theorem tz_key (x a : Nat) (hx : x < 18446744073709551616) (hx0 : x ≠ 0) (hlow : x &&& (18446744073709551616 - x) = a) :
  IntKind.u64.wrap (bits BinOp.and IntKind.u64 (x : Int) (IntKind.u64.wrap (-(x : Int))) * 285870213051353865) / 288230376151711744 = ((a * 285870213051353865 % 18446744073709551616 / 288230376151711744 : Nat) : Int) := by
 have e1 : IntKind.u64.wrap (-(x : Int)) = ((18446744073709551616 - x : Nat) : Int) := by rw [IntKind.wrap_u64]; omega
 rw [e1, bits_and_u64_nat x _ hx (by omega), hlow, IntKind.wrap_u64]
 omega
theorem ctzN_eq : ∀ f x, ctzN f x = Lib.ctzFrom f x
 | 0, _ => rfl
 | f + 1, x => by
  simp only [ctzN, Lib.ctzFrom, ctzN_eq f]
  split <;> omega
set_option maxHeartbeats 4000000 in
set_option maxRecDepth 100000 in
theorem tz_core (x k idx : Nat) (w : World) (hx0 : ((x : Int) == 0) = false)
  (key : IntKind.u64.wrap (bits BinOp.and IntKind.u64 (x : Int) (IntKind.u64.wrap (-(x : Int))) * 285870213051353865) / 288230376151711744 = (idx : Int))
  (hi : idx < 64) (hk : k < 64) (hcell : w.cell? ⟨0, idx, none⟩ = some (.int .u8 (k : Int))) : Calls Tryz.prog 165 #[.int .u64 (x : Int)] w (RetV w (.int .i64 (k : Int))) := by
 go_enter Tryz.func165, Tryz.ntmps165
 go_wp2_with (simp only [key])
 go_ret
 exact RetV.is_ rfl (Below.refl _ _)
theorem tz_any (x : Nat) (w : World) (hx : x < 18446744073709551616) (hx0 : x ≠ 0) (hT : TabB w) : Calls Tryz.prog 165 #[.int .u64 (x : Int)] w (RetV w (.int .i64 ((ctzN 64 x : Nat) : Int))) := by
 obtain ⟨hlow, hk⟩ := Lib.lowest_bit 64 x hx0 hx
 obtain ⟨hi, htab⟩ := Lib.deBruijn64_at _ hk
 have e : ctzN 64 x = Lib.ctz 64 x := by rw [ctzN_eq]; unfold Lib.ctz; rw [if_neg hx0]
 rw [e]
 have hcell := hT.at_ _ hi
 rw [htab] at hcell
 exact tz_core x _ _ w (by simp; omega) (tz_key x _ hx hx0 hlow) hi hk hcell
end

section
theorem ctz_spec : ∀ (f x : Nat), x ≠ 0 → x < 2 ^ f → ctzN f x < f ∧ x.testBit (ctzN f x) = true ∧ ∀ i, i < ctzN f x → x.testBit i = false
 | 0, x, h0, h => by simp at h; exact absurd h h0
 | f + 1, x, h0, h => by
  unfold ctzN
  split
  ·rename_i h1
   refine ⟨by omega, ?_, fun i hi => by omega⟩
   simp [Nat.testBit_zero, h1]
  ·rename_i h1
   have hx2 : x / 2 ≠ 0 := by omega
   have hx3 : x / 2 < 2 ^ f := by rw [Nat.pow_succ] at h; omega
   obtain ⟨a, b, c⟩ := ctz_spec f (x / 2) hx2 hx3
   have hb : ∀ i, x.testBit (i + 1) = (x / 2).testBit i := fun i => by rw [Nat.testBit_succ]
   refine ⟨by omega, ?_, fun i hi => ?_⟩
   ·first
     | (rw [hb]; exact b)
     | (rw [Nat.add_comm, hb]; exact b)
   ·cases i with
    | zero => simp [Nat.testBit_zero]; omega
    | succ i => rw [hb]; exact c i (by omega)
theorem and_pred (y k : Nat) (hk : y.testBit k = true) (hlow : ∀ i, i < k → y.testBit i = false) (i : Nat) : (y &&& (y - 1)).testBit i = (y.testBit i && decide (i ≠ k)) := by
 have hm : y % 2 ^ (k + 1) = 2 ^ k := by
  apply Nat.eq_of_testBit_eq
  intro j
  rw [Nat.testBit_mod_two_pow, Nat.testBit_two_pow]
  by_cases h : j < k + 1
  ·by_cases hj : j = k
   ·subst hj; simp [hk]
   ·have h2 : ¬ k = j := fun e => hj e.symm
    rw [decide_eq_true h, decide_eq_false h2, hlow j (by omega)]
    rfl
  ·have h2 : ¬ k = j := by omega
   rw [decide_eq_false h, decide_eq_false h2]
   rfl
 have hy := Nat.div_add_mod y (2 ^ (k + 1))
 rw [hm] at hy
 have hp := Nat.two_pow_pos k
 have hlt : 2 ^ k < 2 ^ (k + 1) := Nat.pow_lt_pow_right (by decide) (by omega)
 generalize y / 2 ^ (k + 1) = a at hy
 have e1 : y - 1 = 2 ^ (k + 1) * a + (2 ^ k - 1) := by omega
 rw [Nat.testBit_and, e1, ← hy, Nat.testBit_two_pow_mul_add a hlt, Nat.testBit_two_pow_mul_add a (show 2 ^ k - 1 < 2 ^ (k + 1) by omega)]
 by_cases h : i < k + 1
 ·rw [if_pos h, if_pos h, Nat.testBit_two_pow, Nat.testBit_two_pow_sub_one]
  by_cases hj : i = k
  ·subst hj; simp
  ·have h2 : ¬ k = i := fun e => hj e.symm
   rw [decide_eq_false h2]
   simp
 ·rw [if_neg h, if_neg h, decide_eq_true (by omega)]
  simp
def setL (x f : Nat) : List Nat := ((List.range 64).filter fun i => x.testBit i).map (· + f)
theorem setL_len (x f : Nat) : (setL x f).length ≤ 64 := by
 unfold setL
 rw [List.length_map]
 exact Nat.le_trans (List.length_filter_le _ _) (by simp)
theorem setL_lt (x f : Nat) : ∀ n ∈ setL x f, n < 64 + f := by
 intro n hn
 obtain ⟨i, hi, rfl⟩ := List.mem_map.1 hn
 have := List.mem_range.1 (List.mem_filter.1 hi).1
 omega
theorem filter_range_skip (x p q : Nat) (h : ∀ i, p ≤ i → i < q → x.testBit i = false) (hpq : p ≤ q) : (List.range q).filter (fun i => x.testBit i) = (List.range p).filter (fun i => x.testBit i) := by
 induction q with
 | zero =>
  have : p = 0 := by omega
  rw [this]
 | succ q ih =>
  by_cases hp : p = q + 1
  ·rw [hp]
  ·rw [List.range_succ, List.filter_append, ih (fun i h1 h2 => h i h1 (by omega)) (by omega)]
   have := h q (by omega) (by omega)
   simp [this]
theorem filter_range_snoc (x p k : Nat) (hp : p ≤ k) (h : ∀ i, p ≤ i → i < k → x.testBit i = false) (hk : x.testBit k = true) : (List.range (k + 1)).filter (fun i => x.testBit i) = (List.range p).filter (fun i => x.testBit i) ++ [k] := by
 rw [List.range_succ, List.filter_append, filter_range_skip x p k h hp]
 simp [hk]
def slotB (s : Nat × Bool) : UInt8 := UInt8.ofNat (s.1 + if s.2 then 128 else 0)
def tabB (t : Tab) : List UInt8 := dig t.length 2 ++ t.map slotB
theorem tabB_len (t : Tab) : (tabB t).length = t.length + 2 := by simp [tabB, dig_length]; omega
def numsB (l : List Nat) : List UInt8 := l.flatMap (fun n => dig n 1)
theorem numsB_len (l : List Nat) : (numsB l).length = l.length := by
 induction l with
 | nil => rfl
 | cons a t ih => simp [numsB, dig_length] at ih ⊢; omega
def setB (l : List Nat) : List UInt8 := dig l.length 1 ++ numsB l
theorem setB_len (l : List Nat) : (setB l).length = l.length + 1 := by simp [setB, dig_length, numsB_len]; omega
def levB (e : Nat × Tab) : List UInt8 := dig e.1 1 ++ tabB e.2
def levsB (L : List (Nat × Tab)) : List UInt8 := L.flatMap levB
def stkB (S : Stk) : List UInt8 := dig S.lv.length 1 ++ levsB S.lv ++ setB (setL S.ev 1) ++ setB (setL S.bz 0)
theorem levB_len {e : Nat × Tab} (h : TabOk e.2) : (levB e).length ≤ 67 := by
 have := h.len
 simp [levB, dig_length, tabB_len]
 omega
theorem levsB_len {L : List (Nat × Tab)} (h : ∀ e ∈ L, TabOk e.2) : (levsB L).length ≤ 67 * L.length := by
 induction L with
 | nil => simp [levsB]
 | cons a t ih =>
  have h1 := levB_len (h a (by simp))
  have h2 := ih (fun e he => h e (by simp [he]))
  simp only [levsB, List.flatMap_cons, List.length_append, List.length_cons] at h2 ⊢
  omega
theorem stkB_len {S : Stk} (h : StkOk S) : (stkB S).length ≤ 700 := by
 have h1 := levsB_len (fun e he => (h.rg e he).2)
 have h2 := h.len
 have h3 := setL_len S.ev 1
 have h4 := setL_len S.bz 0
 simp only [stkB, List.length_append, dig_length, setB_len]
 omega
end

section
open Go.RowKit
attribute [local go_sem ↓] sliced_cut
attribute [local go_sem] cutA_zero
def sizeA (six : Bool) : Nat := if six then 16 else 4
def placeB (six : Bool) (ah al : Nat) : List UInt8 := dig (sizeA six) 1 ++ adrB six ah al
def RetRb (w : World) (l : List UInt8) (e : Ending) (w' : World) : Prop := ∃ A n c bs d, e = .returned (.slice A n c) ∧ w' = plus w bs d ∧ Rb (plus w bs d) A n c l
theorem RetRb.mk {w w' : World} {l : List UInt8} {A : Option Addr} {n c : Nat} (ho : Rb w' A n c l) (hb : Below w.heap.size w w') : RetRb w l (.returned (.slice A n c)) w' := by
 obtain ⟨bs, d, rfl⟩ := plus_of hb
 exact ⟨A, n, c, bs, d, rfl, rfl, ho⟩
set_option maxHeartbeats 4000000
set_option maxRecDepth 100000
theorem addrSize_any (six : Bool) (ah al : Nat) (w : World) : Calls Tryz.prog 77 #[.agg (adC six ah al).toArray] w (RetV w (.int .i64 (sizeA six : Nat))) := by
 cases six
 ·have b1 : Bk (w.alloc (.cells (adC false ah al).toArray 32)) w.heap.size 32 (adC false ah al) := Bk.new w 32 _
  have q0 : (w.alloc (.cells (adC false ah al).toArray 32)).cell? ⟨w.heap.size, 0, none⟩ = some (.bool false) := b1.cell 0
  go_enter Tryz.func77, Tryz.ntmps77
  go_wp2
  go_ret
  exact RetV.is_ rfl (Below.allocS (Below.refl _ _) _)
 ·have b1 : Bk (w.alloc (.cells (adC true ah al).toArray 32)) w.heap.size 32 (adC true ah al) := Bk.new w 32 _
  have q0 : (w.alloc (.cells (adC true ah al).toArray 32)).cell? ⟨w.heap.size, 0, none⟩ = some (.bool true) := b1.cell 0
  go_enter Tryz.func77, Tryz.ntmps77
  go_wp2
  go_ret
  exact RetV.is_ rfl (Below.allocS (Below.refl _ _) _)
theorem address_any (six : Bool) (ah al : Nat) (w : World) (h1 : ah < 18446744073709551616) (h2 : al < 18446744073709551616) : Calls Tryz.prog 27 #[.agg (adC six ah al).toArray] w (RetRb w (placeB six ah al)) := by
 obtain ⟨da, a1, a2⟩ : ∃ d, Tryz.prog.underlying 32 = some d ∧ d.isRow = true := ⟨_, Tryz.underlying32, rfl⟩
 obtain ⟨z, hz⟩ : ∃ z, sizeA six = z := ⟨_, rfl⟩
 have hzz : z ≤ 16 := by rw [← hz]; cases six <;> simp [sizeA]
 have HSZ := Lib.hid (fun w => addrSize_any six ah al w)
 have hwz : IntKind.u64.wrap (z : Int) = (z : Int) := IntWalk.u64_in _ (by omega)
 have HPU : Hid (∀ w, Calls Tryz.prog 24 #[.slice none 0 0, .int .u64 (z : Int), .int .i64 1] w (RetF w (dig z 1))) := Lib.hid (fun w => put_full none 0 0 [] z 1 w Rb.nil_ (by omega) (by omega) (by omega) (by omega))
 have HAB := Lib.hid (fun w => adrBytes_any six ah al w h1 h2)
 unfold placeB
 rw [hz] at HSZ ⊢
 clear hz
 obtain ⟨b1, be, zV⟩ := box1 w 32 (adC six ah al)
 go_enter Tryz.func27, Tryz.ntmps27
 go_upto_region 1 with (fail)
 generalize w.alloc (.cells (adC six ah al).toArray 32) = V at *
 have zV1 := b1.lt
 go_wp2
 refine wp_relS 8 10 rfl (by kernel_rfl) (by kernel_rfl) ?_
 apply Steps.o1 (MP.eq _) 1 rfl rfl
 ·intro FA x hO hD K hK
  have e1 := hO 1 (by kernel_rfl)
  simp only [eval_tmp, qgT, qgS, qgZ, qoS] at e1
  have ev1 := Lib.hid ((eval_tmp FA 1).trans e1)
  clear hO hD
  refine wanted_if rfl ?_
  refine wp_ldA 32 (.tmp 1) rfl (adC six ah al) ev1.out (b1.later (below_plus _ _ _)) (whole_ _) a1 a2 (szAd _ _ _) ?_
  exact hK.out _ _ (Ex.refl _) rfl
 apply Steps.o1 (MP.eq _) 2 rfl rfl
 ·intro FA x hO hD K hK
  obtain ⟨e3, ev3⟩ := qE (hD 0 3 (by kernel_rfl))
  clear hO hD
  go_simp
  refine (HSZ.out _).mono ?_
  rintro e w1 ⟨bs2, d2, rfl, rfl⟩
  exact hK.out _ _ (Ex.plus_ _ _ _) rfl
 apply Steps.o1 (MP.eq _) 3 rfl rfl
 ·intro FA x hO hD K hK
  obtain ⟨e4, ev4⟩ := qE (hD 1 4 (by kernel_rfl))
  clear hO hD
  go_simp
  exact hK.out _ _ (Ex.refl _) rfl
 apply Steps.o1 (MP.of V.heap.size (dig z 1)) 4 rfl rfl
 ·intro FA x hO hD K hK
  obtain ⟨e5, ev5⟩ := qE (hD 2 5 (by kernel_rfl))
  clear hO hD
  go_simp
  refine (HPU.out _).mono ?_
  rintro e w1 ⟨A2, n2, bs2, d2, rfl, rfl, ho2⟩
  exact hK.out _ _ (Ex.plus_ _ _ _) ⟨_, _, rfl, ho2.mono (by simp [size_plus])⟩
 apply Steps.o1 (MP.eq _) 5 rfl rfl
 ·intro FA x hO hD K hK
  have e1 := hO 1 (by kernel_rfl)
  simp only [eval_tmp, qgT, qgS, qgZ, qoS] at e1
  have ev1 := Lib.hid ((eval_tmp FA 1).trans e1)
  clear hO hD
  refine wanted_if rfl ?_
  refine wp_ldA 32 (.tmp 1) rfl (adC six ah al) ev1.out (b1.later (below_plus _ _ _)) (whole_ _) a1 a2 (szAd _ _ _) ?_
  exact hK.out _ _ (Ex.refl _) rfl
 apply Steps.o1 (MP.rb (adrB six ah al)) 6 rfl rfl
 ·intro FA x hO hD K hK
  obtain ⟨e7, ev7⟩ := qE (hD 4 7 (by kernel_rfl))
  clear hO hD
  go_simp
  refine (HAB.out _).mono ?_
  rintro e w1 ⟨A2, n2, bs2, d2, rfl, rfl, ho2⟩
  exact hK.out _ _ (Ex.plus_ _ _ _) ⟨_, _, _, rfl, ho2.rb⟩
 apply Steps.o1 (MP.rb (dig z 1 ++ adrB six ah al)) 7 rfl rfl
 ·intro FA x hO hD K hK
  obtain ⟨u6, f6, e6, ev6⟩ := qG (hD 3 6 (by kernel_rfl))
  obtain ⟨u8, f8, e8, ev8⟩ := qG (hD 5 8 (by kernel_rfl))
  clear hO hD
  obtain ⟨A1, n1, rfl, hr1⟩ := f6
  obtain ⟨A2, n2, c2, rfl, hr2⟩ := f8
  have hn1 : n1 = 1 := by have := hr1.rb.1; simp [dig_length] at this; omega
  have hn2 : n2 ≤ 16 := by have := hr2.1; have := adrB_length six ah al; omega
  refine wanted_if rfl ?_
  refine rel_app bt (.tmp 6) (.tmp 8) rfl ev6.out hr1.rb ev8.out hr2 (by omega) ?_
  intro A3 n3 c3 w3 hex hr3
  exact hK.out _ _ hex ⟨_, _, _, rfl, hr3⟩
 apply Steps.o1 (MP.rb (dig z 1 ++ adrB six ah al)) 8 rfl rfl
 ·intro FA x hO hD K hK
  obtain ⟨u9, f9, e9, ev9⟩ := qG (hD 6 9 (by kernel_rfl))
  clear hO hD
  go_simp
  exact hK.out _ _ (Ex.refl _) f9
 refine Steps.fin_ (fun vs x hp => ?_)
 have p0 : vs 0 = _ := hp 0 (by omega)
 have p1 : vs 1 = _ := hp 1 (by omega)
 have p2 : vs 2 = _ := hp 2 (by omega)
 have p3 := hp 3 (by omega)
 have p4 : vs 4 = _ := hp 4 (by omega)
 have p5 := hp 5 (by omega)
 have p6 := hp 6 (by omega)
 have p7 := hp 7 (by omega)
 clear hp
 simp only [List.take_succ_cons, List.take_zero, List.drop_succ_cons, List.drop_zero, putAll, Nat.zero_add, Nat.reduceAdd, Act.put, qsT, qsZ, qsS, p0, p1, p2, p4]
 clear p0 p1 p2 p4
 generalize vs 3 = y3 at *
 generalize vs 5 = y5 at *
 generalize vs 6 = y6 at *
 generalize vs 7 = y7 at *
 clear vs
 go_wp2
 obtain ⟨A3, n3, c3, rfl, h3⟩ := p7
 go_ret
 exact RetRb.mk h3 (belowP be _ _)
theorem bcs_dig1 (z : Nat) (h : z < 256) : bcs (dig z 1) = [.int .u8 (z : Int)] := by
 simp [dig, bcs]
 omega
theorem place_any (six : Bool) (ah al : Nat) (w : World) (h1 : ah < 18446744073709551616) (h2 : al < 18446744073709551616) : Calls Tryz.prog 42 #[.agg (adC six ah al).toArray] w (RetRb w (placeB six ah al)) := by
 obtain ⟨da, a1, a2⟩ : ∃ d, Tryz.prog.underlying 32 = some d ∧ d.isRow = true := ⟨_, Tryz.underlying32, rfl⟩
 obtain ⟨z, hz⟩ : ∃ z, sizeA six = z := ⟨_, rfl⟩
 have hzz : z ≤ 16 := by rw [← hz]; cases six <;> simp [sizeA]
 have hlen : (adrB six ah al).length = z := by rw [← hz]; cases six <;> simp [sizeA, adrB, dig_length]
 have HAB := Lib.hid (fun w => refAdrBytes six ah al w h1 h2)
 unfold placeB
 rw [hz]
 clear hz
 generalize adrB six ah al = l at *
 obtain ⟨b1, be, zV⟩ := box1 w 32 (adC six ah al)
 go_enter Tryz.func42, Tryz.ntmps42
 go_upto_region 1 with (fail)
 generalize w.alloc (.cells (adC six ah al).toArray 32) = V at *
 have zV1 := b1.lt
 go_upto_region 2 with (first
  | (refine at_op (.load 32 (.tmp 1)) rfl ?_; refine wpList_ldA (t := 32) 32 (.tmp 1) rfl rfl (adC six ah al) rfl (b1) (whole_ _) a1 a2 (szAd _ _ _) ?_)
  | (go_at_call 88; refine (HAB.out _).mono ?_; rintro e w1 ⟨A2, n2, c2, bs2, d2, rfl, rfl, ho2⟩))
 have hn2 : n2 = z := by have := ho2.rb.1; omega
 subst hn2
 replace be := belowP be bs2 d2
 have zbe := be.size
 replace ho2 := ho2.rb
 generalize plus V bs2 d2 = V2 at *
 have hw8 : IntKind.u8.wrap (n2 : Int) = (n2 : Int) := IntWalk.u8_in _ (by omega)
 have hlit : Ob (V2.alloc (.cells #[.int .u8 (n2 : Int)] 5)) w.heap.size (some ⟨V2.heap.size, 0, none⟩) 1 1 (dig n2 1) := Ob.of_bk (by rw [bcs_dig1 n2 (by omega)]; exact Bk.new _ _ _) zbe (by simp [dig_length]) (by simp [maxLen])
 go_wp2_with (at_builtin; refine wpList_app bt rfl (.tmp 9) (.tmp 10) rfl rfl hlit rfl (ho2.alloc _) (by omega) (by simp; omega) ?_; intro A3 n3 c3 w3 ho3 hb3 hg3)
 go_ret
 exact RetRb.mk ho3.rb (be.trans (((Below.refl V2.heap.size V2).alloc (Nat.le_refl _) _ |>.mono zbe).trans hb3))
end

section
open Go.RowKit
attribute [local go_sem ↓] sliced_cut
attribute [local go_sem] cutA_zero
def pairsB (ms : List (Int × Int)) : List UInt8 := ms.flatMap fun p => [UInt8.ofNat p.1.toNat, UInt8.ofNat p.2.toNat]
def membersB (ms : List (Int × Int)) : List UInt8 := dig ms.length 1 ++ pairsB ms
theorem pairsB_len : ∀ ms, (pairsB ms).length = 2 * ms.length
 | [] => rfl
 | p :: r => by have := pairsB_len r; simp [pairsB] at this ⊢; omega
set_option maxHeartbeats 4000000 in
set_option maxRecDepth 100000 in
theorem members_any (ms : List (Int × Int)) (A : Option Addr) (n c : Nat) (w : World) (hr : Rs 2 w A n c (prs .i64 ms)) (hn : n ≤ 64) (hg : ms.all (fun p => shB p.1 && shB p.2) = true) : Calls Tryz.prog 61 #[.slice A n c] w (RetRb w (membersB ms)) := by
 obtain ⟨dm, m1, m2⟩ : ∃ d, Tryz.prog.underlying 87 = some d ∧ d.isRow = true := ⟨_, Tryz.underlying87, rfl⟩
 have hml : ms.length = n := by have := hr.1; rw [prs_length] at this; omega
 have hwn : IntKind.u64.wrap (n : Int) = (n : Int) := IntWalk.u64_in _ (by omega)
 have HPU : Hid (∀ w, Calls Tryz.prog 24 #[.slice none 0 0, .int .u64 (n : Int), .int .i64 1] w (RetF w (dig n 1))) := Lib.hid (fun w => put_full none 0 0 [] n 1 w Rb.nil_ (by omega) (by omega) (by omega) (by omega))
 have hM : membersB ms = dig n 1 ++ pairsB ms := by unfold membersB; rw [hml]
 rw [hM]
 clear hM
 have hd1 : (dig n 1).length = 1 := dig_length _ _
 generalize dig n 1 = D at *
 go_enter Tryz.func61, Tryz.ntmps61
 go_wp2_with fail
 refine (HPU.out _).mono ?_
 rintro e w1 ⟨A2, n2, bs2, d2, rfl, rfl, ho⟩
 have hE0 := below_plus w bs2 d2
 generalize plus w bs2 d2 = V at *
 clear HPU hwn
 go_upto_region 3 with (fail)
 have hS0 := Lib.hid ho
 clear ho
 go_loopw [3, 12] (fun X I wr => ∃ i : Nat, ∃ B m d, I = .int .i64 (i : Int) ∧ i ≤ n ∧ X = .slice B m d ∧ Ob wr w.heap.size B m d (D ++ pairsB (ms.take i)) ∧ Below w.heap.size w wr) (fun _ I _ => n - (intOf I).toNat)
 case atStart => exact ⟨0, A2, n2, n2, rfl, Nat.zero_le _, rfl, by simpa [pairsB] using hS0.out, hE0⟩
 case round =>
  obtain ⟨i, B, m, d, rfl, hi, rfl, ho, hE⟩ := hrel
  have hmm : m ≤ 1 + 2 * i := by
   have := ho.rb.1
   rw [List.length_append, pairsB_len, hd1, List.length_take] at this
   omega
  by_cases hlt : i < n
  ·have ii : (i : Int) < (n : Int) := by omega
   have hjL : i < ms.length := by omega
   obtain ⟨bl, ol, rfl, hbl, -⟩ := (hr.later hE).at_ (by omega) (by decide)
   have hg7 := rng_pr ((hr.later hE).range2 i hjL)
   have hsn : pairsB (ms.take (i + 1)) = pairsB (ms.take i) ++ [UInt8.ofNat ms[i].1.toNat, UInt8.ofNat ms[i].2.toNat] := by
    have e : ms.take (i + 1) = ms.take i ++ [ms[i]] := by simp
    rw [e]
    unfold pairsB
    rw [List.flatMap_append]
    rfl
   have hmem : shB ms[i].1 = true ∧ shB ms[i].2 = true := by
    have := List.all_eq_true.1 hg ms[i] (List.getElem_mem hjL)
    simpa using this
   generalize ms[i] = p at *
   obtain ⟨x, y⟩ := p
   replace hsn := Lib.hid hsn
   have hxb : 0 ≤ x ∧ x < 256 := by simpa [shB] using hmem.1
   have hyb : 0 ≤ y ∧ y < 256 := by simpa [shB] using hmem.2
   clear hmem
   have wx : IntKind.u8.wrap x = x := IntWalk.u8_in _ (by omega)
   have wy : IntKind.u8.wrap y = y := IntWalk.u8_in _ (by omega)
   go_upto_region 5 with (first
    | (refine at_op (.load 87 (.tmp 14)) rfl ?_; refine wpList_load_mid rfl 87 (.tmp 14) rfl bl (ol + i * 2) rfl [.int .i64 x, .int .i64 y] _ hg7 m1 m2 (by kernel_rfl) ?_)
    | (refine at_op (.store 87 (.tmp 5) (.tmp 15)) rfl ?_; refine wpList_stA (t := 87) 87 (.tmp 5) (.tmp 15) rfl rfl [.int .i64 x, .int .i64 y] [.int .i64 0, .int .i64 0] rfl (by simp [Value.oneCell']) rfl rfl (Bk.new _ _ _) (by kernel_rfl) ?_; intro W4 h4 g4))
   have be4 : Below wr.heap.size wr W4 := below_grown (Below.allocS (Below.refl _ _) _) g4 (Nat.le_refl _)
   have q0 : W4.cell? ⟨wr.heap.size, 0, none⟩ = some (.int .i64 x) := h4.cell 0
   have q1 : W4.cell? ⟨wr.heap.size, 1, none⟩ = some (.int .i64 y) := h4.cell 1
   replace ho := ho.later be4
   replace hE := hE.trans (be4.mono hE.size)
   clear be4 h4 g4
   generalize wr.heap.size = g6 at *
   have zE := hE.size
   go_wp2_with (at_builtin; refine wpList_app bt rfl (.tmp 16) (.tmp 23) rfl rfl (ho.alloc _) rfl (Rb.litW _ [UInt8.ofNat x.toNat, UInt8.ofNat y.toNat] rfl rfl (by decide) (by simp [bcs]; omega)) (by omega) (by simp; omega) ?_; intro A3 n3 c3 w3 ho3 hb3 hg3)
   exact ⟨⟨i + 1, A3, n3, c3, by go_num, by omega, rfl, by rw [hsn.out, ← List.append_assoc]; exact ho3, hE.trans (((Below.refl W4.heap.size W4).alloc (Nat.le_refl _) _ |>.mono zE).trans hb3)⟩, by simp [intOf]; omega⟩
  ·obtain rfl : i = n := by omega
   have ii : ¬ (i : Int) < (i : Int) := by omega
   have ho9 : Ob wr w.heap.size B m d (D ++ pairsB ms) := by rw [List.take_of_length_le (by omega)] at ho; exact ho
   clear ho
   go_wp2
   go_ret
   exact RetRb.mk ho9.rb hE
end

section
open Go.RowKit
attribute [local go_sem ↓] sliced_cut
attribute [local go_sem] cutA_zero
set_option maxHeartbeats 4000000 in
set_option maxRecDepth 100000 in
theorem refMembers_any (ms : List (Int × Int)) (A : Option Addr) (n c : Nat) (w : World) (hr : Rs 2 w A n c (prs .i64 ms)) (hn : n ≤ 64) (hg : ms.all (fun p => shB p.1 && shB p.2) = true) : Calls Tryz.prog 45 #[.slice A n c] w (RetRb w (membersB ms)) := by
 have hml : ms.length = n := by have := hr.1; rw [prs_length] at this; omega
 have hwn : IntKind.u8.wrap (n : Int) = (n : Int) := IntWalk.u8_in _ (by omega)
 have hM : membersB ms = dig n 1 ++ pairsB ms := by unfold membersB; rw [hml]
 rw [hM]
 clear hM
 have hd1 : (dig n 1).length = 1 := dig_length _ _
 have hlit : Hid (Ob (w.alloc (.cells #[.int .u8 (n : Int)] 5)) w.heap.size (some ⟨w.heap.size, 0, none⟩) 1 1 (dig n 1)) := Lib.hid (Ob.of_bk (by rw [bcs_dig1 n (by omega)]; exact Bk.new _ _ _) (Nat.le_refl _) (by simp [dig_length]) (by simp [maxLen]))
 generalize dig n 1 = D at *
 have hE0 : Below w.heap.size w (w.alloc (.cells #[.int .u8 (n : Int)] 5)) := Below.allocS (Below.refl _ _) _
 go_enter Tryz.func45, Tryz.ntmps45
 go_upto_region 3 with (fail)
 go_loopw [3, 4] (fun X I wr => ∃ i : Nat, ∃ B m d, I = .int .i64 (i : Int) ∧ i ≤ n ∧ X = .slice B m d ∧ Ob wr w.heap.size B m d (D ++ pairsB (ms.take i)) ∧ Below w.heap.size w wr) (fun _ I _ => n - (intOf I).toNat)
 case atStart => exact ⟨0, _, 1, 1, rfl, Nat.zero_le _, rfl, by simpa [pairsB] using hlit.out, hE0⟩
 case round =>
  obtain ⟨i, B, m, d, rfl, hi, rfl, ho, hE⟩ := hrel
  have hmm : m ≤ 1 + 2 * i := by
   have := ho.rb.1
   rw [List.length_append, pairsB_len, hd1, List.length_take] at this
   omega
  by_cases hlt : i < n
  ·have ii : (i : Int) < (n : Int) := by omega
   have hjL : i < ms.length := by omega
   obtain ⟨bl, ol, rfl, hbl, -⟩ := (hr.later hE).at_ (by omega) (by decide)
   have HC := Lib.hid (fun (W : World) (h : Below wr.heap.size wr W) => (hr.later (hE.trans (h.mono hE.size))).range2 i hjL)
   have hsn : pairsB (ms.take (i + 1)) = pairsB (ms.take i) ++ [UInt8.ofNat ms[i].1.toNat, UInt8.ofNat ms[i].2.toNat] := by
    have e : ms.take (i + 1) = ms.take i ++ [ms[i]] := by simp
    rw [e]
    unfold pairsB
    rw [List.flatMap_append]
    rfl
   have hmem : shB ms[i].1 = true ∧ shB ms[i].2 = true := by
    have := List.all_eq_true.1 hg ms[i] (List.getElem_mem hjL)
    simpa using this
   generalize ms[i] = p at *
   obtain ⟨px, py⟩ := p
   replace hsn := Lib.hid hsn
   have hxb : 0 ≤ px ∧ px < 256 := by simpa [shB] using hmem.1
   have hyb : 0 ≤ py ∧ py < 256 := by simpa [shB] using hmem.2
   clear hmem
   simp only [] at HC
   have wx : IntKind.u8.wrap px = px := IntWalk.u8_in _ (by omega)
   have wy : IntKind.u8.wrap py = py := IntWalk.u8_in _ (by omega)
   go_upto_region 5 with (fail)
   go_wp2
   refine wp_relS 14 31 rfl (by kernel_rfl) (by kernel_rfl) ?_
   apply Steps.o1 (MP.eq _) 1 rfl rfl
   ·intro FA x hO hD K hK
    have e3 := hO 3 (by kernel_rfl)
    simp only [eval_tmp, qgT, qgS, qgZ, qoS] at e3
    have ev3 := Lib.hid ((eval_tmp FA 3).trans e3)
    clear hO hD
    go_simp
    exact hK.out _ _ (Ex.refl _) rfl
   apply Steps.o1 (MP.eq _) 2 rfl rfl
   ·intro FA x hO hD K hK
    have e0 := hO 0 (by kernel_rfl)
    simp only [eval_tmp, qgT, qgS, qgZ, qoS] at e0
    have ev0 := Lib.hid ((eval_tmp FA 0).trans e0)
    clear hO hD
    go_simp
    exact hK.out _ _ (Ex.refl _) rfl
   apply Steps.o1 (MP.eq _) 3 rfl rfl
   ·intro FA x hO hD K hK
    have e4 := hO 4 (by kernel_rfl)
    simp only [eval_tmp, qgT, qgS, qgZ, qoS] at e4
    have ev4 := Lib.hid ((eval_tmp FA 4).trans e4)
    clear hO hD
    go_simp
    exact hK.out _ _ (Ex.refl _) rfl
   apply Steps.o1 (MP.eq _) 4 rfl rfl
   ·intro FA x hO hD K hK
    obtain ⟨e16, ev16⟩ := qE (hD 1 16 (by kernel_rfl))
    obtain ⟨e17, ev17⟩ := qE (hD 2 17 (by kernel_rfl))
    clear hO hD
    go_simp
    exact hK.out _ _ (Ex.refl _) rfl
   apply Steps.o1 (MP.eq _) 5 rfl rfl
   ·intro FA x hO hD K hK
    obtain ⟨e18, ev18⟩ := qE (hD 3 18 (by kernel_rfl))
    clear hO hD
    go_simp
    exact hK.out _ _ (Ex.refl _) rfl
   apply Steps.o1 (MP.eq _) 6 rfl rfl
   ·intro FA x hO hD K hK
    obtain ⟨e19, ev19⟩ := qE (hD 4 19 (by kernel_rfl))
    clear hO hD
    have q9 := (HC.out (plus wr x.bs x.d) (below_plus _ _ _)).1
    go_simp
    exact hK.out _ _ (Ex.refl _) rfl
   apply Steps.o1 (MP.eq _) 7 rfl rfl
   ·intro FA x hO hD K hK
    obtain ⟨e20, ev20⟩ := qE (hD 5 20 (by kernel_rfl))
    clear hO hD
    go_simp
    exact hK.out _ _ (Ex.refl _) rfl
   apply Steps.o1 (MP.eq _) 8 rfl rfl
   ·intro FA x hO hD K hK
    have e0 := hO 0 (by kernel_rfl)
    simp only [eval_tmp, qgT, qgS, qgZ, qoS] at e0
    have ev0 := Lib.hid ((eval_tmp FA 0).trans e0)
    clear hO hD
    go_simp
    exact hK.out _ _ (Ex.refl _) rfl
   apply Steps.o1 (MP.eq _) 9 rfl rfl
   ·intro FA x hO hD K hK
    have e4 := hO 4 (by kernel_rfl)
    simp only [eval_tmp, qgT, qgS, qgZ, qoS] at e4
    have ev4 := Lib.hid ((eval_tmp FA 4).trans e4)
    clear hO hD
    go_simp
    exact hK.out _ _ (Ex.refl _) rfl
   apply Steps.o1 (MP.eq _) 10 rfl rfl
   ·intro FA x hO hD K hK
    obtain ⟨e22, ev22⟩ := qE (hD 7 22 (by kernel_rfl))
    obtain ⟨e23, ev23⟩ := qE (hD 8 23 (by kernel_rfl))
    clear hO hD
    go_simp
    exact hK.out _ _ (Ex.refl _) rfl
   apply Steps.o1 (MP.eq _) 11 rfl rfl
   ·intro FA x hO hD K hK
    obtain ⟨e24, ev24⟩ := qE (hD 9 24 (by kernel_rfl))
    clear hO hD
    go_simp
    exact hK.out _ _ (Ex.refl _) rfl
   apply Steps.o1 (MP.eq _) 12 rfl rfl
   ·intro FA x hO hD K hK
    obtain ⟨e25, ev25⟩ := qE (hD 10 25 (by kernel_rfl))
    clear hO hD
    have q9 := (HC.out (plus wr x.bs x.d) (below_plus _ _ _)).2
    go_simp
    exact hK.out _ _ (Ex.refl _) rfl
   apply Steps.o1 (MP.eq _) 13 rfl rfl
   ·intro FA x hO hD K hK
    obtain ⟨e26, ev26⟩ := qE (hD 11 26 (by kernel_rfl))
    clear hO hD
    go_simp
    exact hK.out _ _ (Ex.refl _) rfl
   apply Steps.o1 (MP.rb [UInt8.ofNat px.toNat, UInt8.ofNat py.toNat]) 14 rfl rfl
   ·intro FA x hO hD K hK
    obtain ⟨e21, ev21⟩ := qE (hD 6 21 (by kernel_rfl))
    obtain ⟨e27, ev27⟩ := qE (hD 12 27 (by kernel_rfl))
    clear hO hD
    go_simp
    refine hK.out _ _ (Ex.alloc _ _) ⟨_, _, _, rfl, ?_⟩
    exact Rb.litW _ [UInt8.ofNat px.toNat, UInt8.ofNat py.toNat] (by simp [size_plus]) rfl (by decide) (by simp [bcs]; omega)
   refine Steps.fin_ (fun vs x hp => ?_)
   have p0 : vs 0 = _ := hp 0 (by omega)
   have p1 : vs 1 = _ := hp 1 (by omega)
   have p2 : vs 2 = _ := hp 2 (by omega)
   have p3 : vs 3 = _ := hp 3 (by omega)
   have p4 : vs 4 = _ := hp 4 (by omega)
   have p5 : vs 5 = _ := hp 5 (by omega)
   have p6 : vs 6 = _ := hp 6 (by omega)
   have p7 : vs 7 = _ := hp 7 (by omega)
   have p8 : vs 8 = _ := hp 8 (by omega)
   have p9 : vs 9 = _ := hp 9 (by omega)
   have p10 : vs 10 = _ := hp 10 (by omega)
   have p11 : vs 11 = _ := hp 11 (by omega)
   have p12 : vs 12 = _ := hp 12 (by omega)
   have p13 := hp 13 (by omega)
   clear hp
   simp only [List.take_succ_cons, List.take_zero, List.drop_succ_cons, List.drop_zero, putAll, Nat.zero_add, Nat.reduceAdd, Act.put, qsT, qsZ, qsS, p0, p1, p2, p3, p4, p5, p6, p7, p8, p9, p10, p11, p12]
   clear p0 p1 p2 p3 p4 p5 p6 p7 p8 p9 p10 p11 p12
   generalize vs 13 = y13 at *
   clear vs
   obtain ⟨A8, n8, c8, rfl, h8⟩ := p13
   have hn8 : n8 ≤ 2 := by have := h8.1; simp at this; omega
   have b4 := below_plus wr x.bs x.d
   replace ho := ho.later b4
   replace hE := hE.trans (b4.mono hE.size)
   clear b4 HC
   have zE := hE.size
   generalize plus wr x.bs x.d = W4 at *
   go_wp2_with (at_builtin; refine wpList_app bt rfl (.tmp 15) (.tmp 28) rfl rfl ho rfl h8 (by omega) zE ?_; intro A3 n3 c3 w3 ho3 hb3 hg3)
   exact ⟨⟨i + 1, A3, n3, c3, by go_num, by omega, rfl, by rw [hsn.out, ← List.append_assoc]; exact ho3, hE.trans hb3⟩, by simp [intOf]; omega⟩
  ·obtain rfl : i = n := by omega
   have ii : ¬ (i : Int) < (i : Int) := by omega
   have ho9 : Ob wr w.heap.size B m d (D ++ pairsB ms) := by rw [List.take_of_length_le (by omega)] at ho; exact ho
   clear ho
   go_wp2
   go_ret
   exact RetRb.mk ho9.rb hE
end

section
open Go.RowKit
attribute [local go_sem ↓] sliced_cut
attribute [local go_sem] cutA_zero
def opB (k v b e : Nat) (six : Bool) (ah al pt pr wy : Nat) (ms : List (Int × Int)) : List UInt8 := dig k 1 ++ dig v 1 ++ dig b 1 ++ dig e 1 ++ placeB six ah al ++ dig pt 2 ++ dig pr 1 ++ dig wy 1 ++ membersB ms
theorem placeB_len (six : Bool) (ah al : Nat) : (placeB six ah al).length = 1 + (adrB six ah al).length := by simp [placeB, dig_length]
set_option maxHeartbeats 4000000 in
set_option maxRecDepth 100000 in
theorem codecOp_any (k v b e : Nat) (six : Bool) (ah al pt pr wy : Nat) (ms : List (Int × Int)) (A : Option Addr) (n c : Nat) (w : World) (k1 : k < 256) (k2 : v < 256) (k3 : b < 256) (k4 : e < 256) (k5 : wy < 256) (h1 : ah < 18446744073709551616) (h2 : al < 18446744073709551616) (h3 : pt < 65536) (h4 : pr < 256) (hr : Rs 2 w A n c (prs .i64 ms)) (hn : n ≤ 1000000) (hn64 : n ≤ 64)
  (hms : ms.all (fun p => shB p.1 && shB p.2) = true) (hR : rightB k v b e six ah al wy ms = true) : Calls Tryz.prog 20 #[.agg (opC k v b e six ah al pt pr wy A n c).toArray] w (RetRb w (opB k v b e six ah al pt pr wy ms)) := by
 obtain ⟨da, a1, a2⟩ : ∃ d, Tryz.prog.underlying 32 = some d ∧ d.isRow = true := ⟨_, Tryz.underlying32, rfl⟩
 have HR := Lib.hid (fun w (h : Rs 2 w A n c (prs .i64 ms)) => right_any k v b e six ah al pt pr wy ms A n c w h2 h hn)
 have hr0 := hr
 have hwk : IntKind.u64.wrap ((k : Nat) : Int) = ((k : Nat) : Int) := IntWalk.u64_in _ (by omega)
 have HPk : Hid (∀ A n c l w, Rb w A n c l → n ≤ 1000 → Calls Tryz.prog 24 #[.slice A n c, .int .u64 ((k : Nat) : Int), .int .i64 1] w (RetB w (l ++ dig k 1))) := Lib.hid (fun A n c l w h hn => put_any A n c l k 1 w h (by omega) (by omega) (by omega) (by omega))
 have hwv : IntKind.u64.wrap ((v : Nat) : Int) = ((v : Nat) : Int) := IntWalk.u64_in _ (by omega)
 have HPv : Hid (∀ A n c l w, Rb w A n c l → n ≤ 1000 → Calls Tryz.prog 24 #[.slice A n c, .int .u64 ((v : Nat) : Int), .int .i64 1] w (RetB w (l ++ dig v 1))) := Lib.hid (fun A n c l w h hn => put_any A n c l v 1 w h (by omega) (by omega) (by omega) (by omega))
 have hwb : IntKind.u64.wrap ((b : Nat) : Int) = ((b : Nat) : Int) := IntWalk.u64_in _ (by omega)
 have HPb : Hid (∀ A n c l w, Rb w A n c l → n ≤ 1000 → Calls Tryz.prog 24 #[.slice A n c, .int .u64 ((b : Nat) : Int), .int .i64 1] w (RetB w (l ++ dig b 1))) := Lib.hid (fun A n c l w h hn => put_any A n c l b 1 w h (by omega) (by omega) (by omega) (by omega))
 have hwe : IntKind.u64.wrap ((e : Nat) : Int) = ((e : Nat) : Int) := IntWalk.u64_in _ (by omega)
 have HPe : Hid (∀ A n c l w, Rb w A n c l → n ≤ 1000 → Calls Tryz.prog 24 #[.slice A n c, .int .u64 ((e : Nat) : Int), .int .i64 1] w (RetB w (l ++ dig e 1))) := Lib.hid (fun A n c l w h hn => put_any A n c l e 1 w h (by omega) (by omega) (by omega) (by omega))
 have hwpr : IntKind.u64.wrap ((pr : Nat) : Int) = ((pr : Nat) : Int) := IntWalk.u64_in _ (by omega)
 have HPpr : Hid (∀ A n c l w, Rb w A n c l → n ≤ 1000 → Calls Tryz.prog 24 #[.slice A n c, .int .u64 ((pr : Nat) : Int), .int .i64 1] w (RetB w (l ++ dig pr 1))) := Lib.hid (fun A n c l w h hn => put_any A n c l pr 1 w h (by omega) (by omega) (by omega) (by omega))
 have hwwy : IntKind.u64.wrap ((wy : Nat) : Int) = ((wy : Nat) : Int) := IntWalk.u64_in _ (by omega)
 have HPwy : Hid (∀ A n c l w, Rb w A n c l → n ≤ 1000 → Calls Tryz.prog 24 #[.slice A n c, .int .u64 ((wy : Nat) : Int), .int .i64 1] w (RetB w (l ++ dig wy 1))) := Lib.hid (fun A n c l w h hn => put_any A n c l wy 1 w h (by omega) (by omega) (by omega) (by omega))
 have hwpt : IntKind.u64.wrap ((pt : Nat) : Int) = ((pt : Nat) : Int) := IntWalk.u64_in _ (by omega)
 have HPpt : Hid (∀ A n c l w, Rb w A n c l → n ≤ 1000 → Calls Tryz.prog 24 #[.slice A n c, .int .u64 ((pt : Nat) : Int), .int .i64 2] w (RetB w (l ++ dig pt 2))) := Lib.hid (fun A n c l w h hn => put_any A n c l pt 2 w h (by omega) (by omega) (by omega) (by omega))
 have HAD := Lib.hid (fun w => address_any six ah al w h1 h2)
 have HMB := Lib.hid (fun w (h : Rs 2 w A n c (prs .i64 ms)) => members_any ms A n c w h hn64 hms)
 replace hr := hr.alloc (.cells (opC k v b e six ah al pt pr wy A n c).toArray 43)
 obtain ⟨dv1, v1, v2⟩ := rowOpC
 obtain ⟨b1, be, zV⟩ := box1 w 43 (opC k v b e six ah al pt pr wy A n c)
 go_enter Tryz.func20, Tryz.ntmps20
 go_upto_region 1 with (fail)
 generalize w.alloc (.cells (opC k v b e six ah al pt pr wy A n c).toArray 43) = V at *
 replace zV : w.heap.size < V.heap.size := zV
 rw [hR] at HR
 go_upto_region 3 with (first
  | (refine at_op (.load 43 (.tmp 1)) rfl ?_; refine wpList_ldA (t := 43) 43 (.tmp 1) rfl rfl (opC k v b e six ah al pt pr wy A n c) rfl (b1) (whole_ _) v1 v2 (szOp _ _ _ _ _ _ _ _ _ _ _ _ _) ?_)
  | (go_at_call 60; refine (HR.out _ (hr0.later be)).mono ?_; rintro e1 w1 ⟨bs0, d0, rfl, rfl⟩))
 replace b1 := b1.later (below_plus V bs0 d0)
 replace be := belowP be bs0 d0
 have zb0' : w.heap.size < (plus V bs0 d0).heap.size := b1.lt
 generalize plus V bs0 d0 = V0 at *
 clear hr
 have q := b1.cell 0
 replace q : V0.cell? ⟨w.heap.size, 0, none⟩ = some (.int .i64 (k : Int)) := q
 go_wp2_with fail
 refine (HPk.out _ _ _ _ _ Rb.nil_ (by omega)).mono ?_
 rintro e w1 ⟨A1, n1, c1, bs1, d1, rfl, rfl, ho1⟩
 replace b1 := b1.later (below_plus V0 bs1 d1)
 replace be := belowP be bs1 d1
 clear q
 have zb1 : w.heap.size < V0.heap.size := zb0'
 have zb1' : w.heap.size < (plus V0 bs1 d1).heap.size := b1.lt
 have hz1 : V0.heap.size ≤ (plus V0 bs1 d1).heap.size := by simp [size_plus]
 have hn1 : n1 ≤ 100 := by have := ho1.rb.1; simp [dig_length, placeB_len] at this; have := adrB_length six ah al; omega
 generalize plus V0 bs1 d1 = V1 at *
 have q := b1.cell 1
 replace q : V1.cell? ⟨w.heap.size, 1, none⟩ = some (.int .i64 (v : Int)) := q
 go_wp2_with fail
 refine (HPv.out _ _ _ _ _ ho1.rb (by omega)).mono ?_
 rintro e w1 ⟨A2, n2, c2, bs2, d2, rfl, rfl, ho2⟩
 replace b1 := b1.later (below_plus V1 bs2 d2)
 replace be := belowP be bs2 d2
 clear q
 have zb2 : w.heap.size < V1.heap.size := zb1'
 have zb2' : w.heap.size < (plus V1 bs2 d2).heap.size := b1.lt
 have hz2 : V1.heap.size ≤ (plus V1 bs2 d2).heap.size := by simp [size_plus]
 have hn2 : n2 ≤ 100 := by have := ho2.rb.1; simp [dig_length, placeB_len] at this; have := adrB_length six ah al; omega
 generalize plus V1 bs2 d2 = V2 at *
 have q := b1.cell 2
 replace q : V2.cell? ⟨w.heap.size, 2, none⟩ = some (.int .i64 (b : Int)) := q
 go_wp2_with fail
 refine (HPb.out _ _ _ _ _ ho2.rb (by omega)).mono ?_
 rintro e w1 ⟨A3, n3, c3, bs3, d3, rfl, rfl, ho3⟩
 replace b1 := b1.later (below_plus V2 bs3 d3)
 replace be := belowP be bs3 d3
 clear q
 have zb3 : w.heap.size < V2.heap.size := zb2'
 have zb3' : w.heap.size < (plus V2 bs3 d3).heap.size := b1.lt
 have hz3 : V2.heap.size ≤ (plus V2 bs3 d3).heap.size := by simp [size_plus]
 have hn3 : n3 ≤ 100 := by have := ho3.rb.1; simp [dig_length, placeB_len] at this; have := adrB_length six ah al; omega
 generalize plus V2 bs3 d3 = V3 at *
 have q := b1.cell 3
 replace q : V3.cell? ⟨w.heap.size, 3, none⟩ = some (.int .i64 (e : Int)) := q
 go_wp2_with fail
 refine (HPe.out _ _ _ _ _ ho3.rb (by omega)).mono ?_
 rintro e w1 ⟨A4, n4, c4, bs4, d4, rfl, rfl, ho4⟩
 replace b1 := b1.later (below_plus V3 bs4 d4)
 replace be := belowP be bs4 d4
 clear q
 have zb4 : w.heap.size < V3.heap.size := zb3'
 have zb4' : w.heap.size < (plus V3 bs4 d4).heap.size := b1.lt
 have hz4 : V3.heap.size ≤ (plus V3 bs4 d4).heap.size := by simp [size_plus]
 have hn4 : n4 ≤ 100 := by have := ho4.rb.1; simp [dig_length, placeB_len] at this; have := adrB_length six ah al; omega
 generalize plus V3 bs4 d4 = V4 at *
 go_wp2_with (refine at_op (.load 32 (.tmp 27)) rfl ?_; refine wpList_ldA (t := 43) (off := 4) 32 (.tmp 27) rfl rfl (adC six ah al) rfl b1 rfl a1 a2 (szAd _ _ _) ?_)
 refine (HAD.out _).mono ?_
 rintro e1 w1 ⟨A9, n9, c9, bs9, d9, rfl, rfl, hx9⟩
 replace b1 := b1.later (below_plus V4 bs9 d9)
 replace be := belowP be bs9 d9
 replace ho4 := ho4.plus_ bs9 d9
 have hz9 : V3.heap.size ≤ (plus V4 bs9 d9).heap.size := by simp [size_plus]; omega
 have hn9 : n9 ≤ 17 := by have := hx9.1; simp [placeB_len] at this; have := adrB_length six ah al; omega
 generalize plus V4 bs9 d9 = V9 at *
 go_upto_region 8 with (at_builtin; refine wpList_app bt rfl (.tmp 26) (.tmp 29) rfl rfl ho4 rfl hx9 (by omega) hz9 ?_; intro A5 n5 c5 V5 ho5 hb5 hg5)
 replace b1 := b1.below hb5 (by omega)
 replace be := be.trans (hb5.mono (by omega))
 have zb5' : w.heap.size < V5.heap.size := b1.lt
 have hn5 : n5 ≤ 200 := by have := ho5.rb.1; simp [dig_length, placeB_len] at this; have := adrB_length six ah al; omega
 clear ho1 ho2 ho3 ho4 hx9 hb5 hg5
 have q := b1.cell 7
 replace q : V5.cell? ⟨w.heap.size, 7, none⟩ = some (.int .u16 (pt : Int)) := q
 go_wp2_with fail
 refine (HPpt.out _ _ _ _ _ ho5.rb (by omega)).mono ?_
 rintro e w1 ⟨A6, n6, c6, bs6, d6, rfl, rfl, ho6⟩
 replace b1 := b1.later (below_plus V5 bs6 d6)
 replace be := belowP be bs6 d6
 clear q
 have zb6 : w.heap.size < V5.heap.size := zb5'
 have zb6' : w.heap.size < (plus V5 bs6 d6).heap.size := b1.lt
 have hz6 : V5.heap.size ≤ (plus V5 bs6 d6).heap.size := by simp [size_plus]
 have hn6 : n6 ≤ 100 := by have := ho6.rb.1; simp [dig_length, placeB_len] at this; have := adrB_length six ah al; omega
 generalize plus V5 bs6 d6 = V6 at *
 have q := b1.cell 8
 replace q : V6.cell? ⟨w.heap.size, 8, none⟩ = some (.int .u8 (pr : Int)) := q
 go_wp2_with fail
 refine (HPpr.out _ _ _ _ _ ho6.rb (by omega)).mono ?_
 rintro e w1 ⟨A7, n7, c7, bs7, d7, rfl, rfl, ho7⟩
 replace b1 := b1.later (below_plus V6 bs7 d7)
 replace be := belowP be bs7 d7
 clear q
 have zb7 : w.heap.size < V6.heap.size := zb6'
 have zb7' : w.heap.size < (plus V6 bs7 d7).heap.size := b1.lt
 have hz7 : V6.heap.size ≤ (plus V6 bs7 d7).heap.size := by simp [size_plus]
 have hn7 : n7 ≤ 100 := by have := ho7.rb.1; simp [dig_length, placeB_len] at this; have := adrB_length six ah al; omega
 generalize plus V6 bs7 d7 = V7 at *
 have q := b1.cell 9
 replace q : V7.cell? ⟨w.heap.size, 9, none⟩ = some (.int .i64 (wy : Int)) := q
 go_wp2_with fail
 refine (HPwy.out _ _ _ _ _ ho7.rb (by omega)).mono ?_
 rintro e w1 ⟨A8, n8, c8, bs8, d8, rfl, rfl, ho8⟩
 replace b1 := b1.later (below_plus V7 bs8 d8)
 replace be := belowP be bs8 d8
 clear q
 have zb8 : w.heap.size < V7.heap.size := zb7'
 have zb8' : w.heap.size < (plus V7 bs8 d8).heap.size := b1.lt
 have hz8 : V7.heap.size ≤ (plus V7 bs8 d8).heap.size := by simp [size_plus]
 have hn8 : n8 ≤ 100 := by have := ho8.rb.1; simp [dig_length, placeB_len] at this; have := adrB_length six ah al; omega
 generalize plus V7 bs8 d8 = V8 at *
 have q := b1.cell 10
 replace q : V8.cell? ⟨w.heap.size, 10, none⟩ = some (.slice A n c) := q
 go_wp2_with fail
 refine (HMB.out _ (hr0.later be)).mono ?_
 rintro e1 w1 ⟨A9, n9, c9, bs9, d9, rfl, rfl, hx9⟩
 replace be := belowP be bs9 d9
 replace ho8 := ho8.plus_ bs9 d9
 have hz9 : V7.heap.size ≤ (plus V8 bs9 d9).heap.size := by simp [size_plus]; omega
 have hn9 : n9 ≤ 200 := by have := hx9.1; simp [membersB, pairsB_len, dig_length] at this; have := hr0.1; rw [prs_length] at this; omega
 clear q b1
 generalize plus V8 bs9 d9 = V9 at *
 go_wp2_with (at_builtin; refine wpList_app bt rfl (.tmp 46) (.tmp 49) rfl rfl ho8 rfl hx9 (by omega) hz9 ?_; intro A10 n10 c10 V10 ho10 hb10 hg10)
 go_ret
 have hfin := RetRb.mk ho10.rb (be.trans (hb10.mono (by omega)))
 have e9 : (((((((([] ++ dig k 1) ++ dig v 1) ++ dig b 1) ++ dig e 1) ++ placeB six ah al) ++ dig pt 2) ++ dig pr 1) ++ dig wy 1) ++ membersB ms = opB k v b e six ah al pt pr wy ms := by simp [opB]
 rw [e9] at hfin
 exact hfin
end

section
open Go.RowKit
attribute [local go_sem ↓] sliced_cut
attribute [local go_sem] cutA_zero
def natK (l : List Nat) : List Int := l.map fun n : Nat => (n : Int)
theorem natK_len (l : List Nat) : (natK l).length = l.length := by simp [natK]
theorem itK_append_one (l : List Int) (x : Int) : itK (l ++ [x]) = itK l ++ [.int .i64 x] := by simp [itK]
set_option maxHeartbeats 4000000 in
set_option maxRecDepth 100000 in
theorem list_any (x f : Nat) (hx : x < 18446744073709551616) (hf : f ≤ 1) (w : World) (hT : TabB w) : Calls Tryz.prog 134 #[.int .u64 (x : Int), .int .i64 (f : Int)] w (RetOs 3 1 w (itK (natK (setL x f)))) := by
 have hO0 : Os 3 1 w w.heap.size none 0 0 (itK []) := Os.nil_
 have be := Below.refl w.heap.size w
 go_enter Tryz.func134, Tryz.ntmps134
 go_upto_region 2 with (fail)
 go_loopw [0, 5] (fun I OUT wr => ∃ (y p : Nat) (B : Option Addr) (k d : Nat), I = .int .u64 (y : Int) ∧ OUT = .slice B k d ∧ y < 18446744073709551616 ∧ p ≤ 64 ∧ (∀ i, y.testBit i = (x.testBit i && decide (p ≤ i))) ∧ Os 3 1 wr w.heap.size B k d (itK (natK (((List.range p).filter fun i => x.testBit i).map (· + f)))) ∧ Below w.heap.size w wr) (fun I _ _ => (intOf I).toNat)
 case atStart => exact ⟨x, 0, none, 0, 0, rfl, rfl, hx, by omega, fun i => by simp, (by simpa [natK, itK] using hO0), be⟩
 case round =>
  clear hO0 be
  obtain ⟨y, p, B, k, d, rfl, rfl, hy, hp, hyb, hO, be⟩ := hrel
  by_cases h0 : y = 0
  ·have h0i : ((y : Int) != 0) = false := by simp [h0]
   have hl : setL x f = ((List.range p).filter fun i => x.testBit i).map (· + f) := by
    unfold setL
    rw [filter_range_skip x p 64 (fun i h1 h2 => by have := hyb i; rw [h0, decide_eq_true h1] at this; simpa using this.symm) hp]
   have HL := Lib.hid hl
   clear h0 hl hyb
   go_wp2
   go_ret
   rw [HL.out]
   exact RetOs.mk hO be
  ·have h0i : ((y : Int) != 0) = true := by simp [h0]
   obtain ⟨c64, ctb, clow⟩ := ctz_spec 64 y h0 (by simpa using hy)
   have HTZ := Lib.hid (fun w h => tz_any y w hy h0 h)
   generalize ctzN 64 y = q at *
   have hxq : x.testBit q = true ∧ p ≤ q := by
    have := hyb q
    rw [ctb] at this
    simpa using this.symm
   have hlist : (List.range (q + 1)).filter (fun i => x.testBit i) = (List.range p).filter (fun i => x.testBit i) ++ [q] :=
    filter_range_snoc x p q hxq.2 (fun i h1 h2 => by have := clow i h2; rw [hyb i, decide_eq_true h1] at this; simpa using this) hxq.1
   have hap := and_pred y q ctb clow
   have hbits : bits .and .u64 (y : Int) ((y : Int) - 1) = ((y &&& (y - 1) : Nat) : Int) := by
    have := u64_and_nat y (y - 1) hy (by omega)
    rwa [show ((y - 1 : Nat) : Int) = (y : Int) - 1 by omega] at this
   have hwr : IntKind.u64.wrap ((y : Int) - 1) = (y : Int) - 1 := IntWalk.u64_in _ (by omega)
   have hlt : y &&& (y - 1) < y := Nat.lt_of_le_of_lt Nat.and_le_right (by omega)
   have hnew : ∀ i, (y &&& (y - 1)).testBit i = (x.testBit i && decide (q + 1 ≤ i)) := fun i => by
    rw [hap i, hyb i]
    by_cases h1 : q + 1 ≤ i
    ·rw [decide_eq_true h1, decide_eq_true (show p ≤ i by omega), decide_eq_true (show i ≠ q by omega)]; simp
    ·rw [decide_eq_false h1]
     by_cases h2 : i = q
     ·rw [h2]; simp
     ·have := clow i (by omega)
      rw [hyb i] at this
      rw [this]; simp
   have hws : IntKind.i64.wrap ((q : Int) + (f : Int)) = ((q + f : Nat) : Int) := by rw [IntWalk.i64_in _ (by omega)]; omega
   have hk := hO.1
   rw [itK_len, natK_len, List.length_map] at hk
   have hk64 : k ≤ 64 := by
    have := List.length_filter_le (fun i => x.testBit i) (List.range p)
    simp at this
    omega
   have HN := Lib.hid (And.intro hnew hlt)
   have HLS := Lib.hid (show natK (((List.range (q + 1)).filter fun i => x.testBit i).map (· + f)) = natK (((List.range p).filter fun i => x.testBit i).map (· + f)) ++ [((q + f : Nat) : Int)] by rw [hlist]; simp [natK])
   have hTw := hT.later be
   clear hnew hlt hap hyb ctb clow hxq hlist hk
   generalize y &&& (y - 1) = y2 at *
   generalize natK (((List.range p).filter fun i => x.testBit i).map (· + f)) = L0 at *
   have HC := Lib.hid h0
   clear h0
   go_upto_region 4 with (fail)
   refine wp_region_lit ?_
   iterate 2 (refine wpList_plain rfl (fun K hK => ?_); go_simp; with_reducible refine hK _ _ ?_; clear hK K)
   refine wpList_plain rfl (fun K hK => ?_)
   go_simp
   refine (HTZ.out _ hTw).mono ?_
   rintro e w1 ⟨bs1, d1, rfl, rfl⟩
   with_reducible refine hK _ _ ?_
   clear hK K
   have hb1 := below_plus wr bs1 d1
   replace hO := hO.later hb1
   replace be := be.trans (hb1.mono be.size)
   clear hb1 hTw HTZ
   generalize plus wr bs1 d1 = W1 at *
   iterate 3 (refine wpList_plain rfl (fun K hK => ?_); go_simp; with_reducible refine hK _ _ ?_; clear hK K)
   refine wpList_appS etI rfl (.tmp 12) (.tmp 17) rfl rfl (hO.later (Below.allocS (Below.refl _ _) _)) rfl (Rs.of_bk (n := 1) (c := 1) (Bk.new W1 _ _) rfl (Nat.le_refl _)) (by simp [Value.oneCell']) (by omega) (by have := be.size; simp; omega) ?_
   intro A2 n2 c2 w4 hn2 hO4 hb4 hg4
   subst hn2
   refine wpList_plain rfl (fun K hK => ?_); go_simp; with_reducible refine hK _ _ ?_; clear hK K
   have hE2 := (be.trans ((Below.allocS (Below.refl _ _) _).mono be.size)).trans hb4
   rw [← itK_append_one] at hO4
   go_wp2
   exact ⟨⟨y2, q + 1, A2, _, c2, rfl, rfl, by have := HN.out.2; omega, by omega, HN.out.1, by rw [HLS.out]; exact hO4, hE2⟩, by simpa [intOf] using HN.out.2⟩
set_option maxHeartbeats 4000000 in
set_option maxRecDepth 100000 in
theorem busy_any (S : Stk) (hok : StkOk S) (g : Nat) (w : World) (hS : Bk w g 209 (stkC S)) (hT : TabB w) : Calls Tryz.prog 135 #[.pointer (some ⟨g, 0, none⟩)] w (RetOs 3 1 w (itK (natK (setL S.bz 0)))) := by
 have HLI := Lib.hid (fun w h => list_any S.bz 0 (by have := hok.bz; omega) (by omega) w h)
 have q0 : w.cell? ⟨g, 1042, none⟩ = some (.int .u64 (S.bz : Int)) := (hS.cell _).trans (stkC_bz S)
 go_enter Tryz.func135, Tryz.ntmps135
 go_wp2_with (go_at_call 134; refine (HLI.out _ hT).mono ?_; rintro e w1 ⟨A1, n1, c1, bs1, d1, rfl, rfl, ho1⟩)
 go_ret
 exact ⟨A1, n1, c1, bs1, d1, rfl, rfl, ho1⟩
theorem bcs_slot {s : Nat × Bool} (h : s.1 ≤ 64) : bcs [slotB s] = [.int .u8 ((s.1 + if s.2 then 128 else 0 : Nat) : Int)] := by
 obtain ⟨a, b⟩ := s
 have h : a ≤ 64 := h
 cases b <;> simp [bcs, slotB] <;> omega
set_option maxHeartbeats 4000000 in
set_option maxRecDepth 100000 in
theorem tabBytes_any (t : Tab) (hok : TabOk t) (w : World) : Calls Tryz.prog 133 #[.agg (tabC t).toArray] w (RetB w (tabB t)) := by
 obtain ⟨dvt, vt1, vt2⟩ := rowTab
 obtain ⟨dvs, vs1, vs2⟩ := rowSl
 have ht := hok.len
 have HP := Lib.hid (fun w => put_full none 0 0 [] t.length 2 w Rb.nil_ (by omega) (by omega) (by omega) (by omega))
 have b1 : Bk (w.alloc (.cells (tabC t).toArray 204)) w.heap.size 204 (tabC t) := Bk.new w 204 (tabC t).toArray
 have be : Below w.heap.size w (w.alloc (.cells (tabC t).toArray 204)) := Below.allocS (Below.refl _ _) _
 have q0 : (w.alloc (.cells (tabC t).toArray 204)).cell? ⟨w.heap.size, 0, none⟩ = some (.int .i64 (t.length : Int)) := b1.cell 0
 have hw : IntKind.u64.wrap (t.length : Int) = (t.length : Int) := IntWalk.u64_in _ (by omega)
 have hlt64 : (t.length : Int) ≤ 64 := by omega
 have zV : w.heap.size < (w.alloc (.cells (tabC t).toArray 204)).heap.size := b1.lt
 go_enter Tryz.func133, Tryz.ntmps133
 go_upto_region 1 with (fail)
 generalize w.alloc (.cells (tabC t).toArray 204) = V at *
 go_upto_region 2 with (go_at_call 24; refine (HP.out _).mono ?_; rintro e w1 ⟨A1, n1, bs1, d1, rfl, rfl, ho1⟩)
 replace b1 := b1.later (below_plus V bs1 d1)
 have hzb := be.size
 replace be := belowP be bs1 d1
 have hO := ho1.mono (show w.heap.size + 1 ≤ V.heap.size from zV)
 have hzV1 : w.heap.size < (plus V bs1 d1).heap.size := b1.lt
 clear q0 HP ho1
 generalize plus V bs1 d1 = V1 at *
 have q0 : V1.cell? ⟨w.heap.size, 0, none⟩ = some (.int .i64 (t.length : Int)) := b1.cell 0
 go_upto_region 3 with (fail)
 rw [List.nil_append] at hO
 have HB := Lib.hid (And.intro hO (And.intro be b1))
 clear hO be b1 q0 hzV1
 go_loopw [3, 16] (fun OUT I wr => ∃ (j : Nat) (B : Option Addr) (k d : Nat), I = .int .i64 (j : Int) ∧ OUT = .slice B k d ∧ j ≤ t.length ∧ Ob wr (w.heap.size + 1) B k d (dig t.length 2 ++ (t.take j).map slotB) ∧ Below w.heap.size w wr ∧ Bk wr w.heap.size 204 (tabC t)) (fun _ I _ => t.length - (intOf I).toNat)
 case atStart => exact ⟨0, A1, n1, n1, rfl, rfl, Nat.zero_le _, by simpa using HB.out.1, HB.out.2.1, HB.out.2.2⟩
 case round =>
  clear HB
  obtain ⟨j, B, k, d, rfl, rfl, hj, hO, be, b1⟩ := hrel
  have hk := hO.len
  simp [dig_length] at hk
  by_cases hlt : j < t.length
  ·have ij : (j : Int) < (t.length : Int) := by omega
   have hp := tabC_part t j hlt (by omega)
   have hmem := hok.rg t[j] (List.getElem_mem hlt)
   have htk : (t.take (j + 1)).map slotB = (t.take j).map slotB ++ [slotB t[j]] := by rw [List.take_succ_eq_append_getElem hlt, List.map_append]; rfl
   generalize t[j] = s at *
   have HTK := Lib.hid htk
   have hsl := Lib.hid (bcs_slot hmem.2)
   obtain ⟨ow, aw⟩ := s
   have ho64 : ow ≤ 64 := hmem.2
   have hk66 : k ≤ 66 := by omega
   clear htk hk hmem
   go_upto_region 5 with (first
    | (refine at_op (.load 201 (.tmp 18)) rfl ?_; refine wpList_ldA (t := 204) (off := 1 + j * 2) 201 (.tmp 18) rfl rfl (slC (ow, aw)) rfl b1 hp vs1 vs2 (szSl _) ?_)
    | (refine at_op (.store 201 (.tmp 5) (.tmp 19)) rfl ?_; refine wpList_stA (t := 201) 201 (.tmp 5) (.tmp 19) rfl rfl (slC (ow, aw)) (slC (0, false)) rfl (slC_one _) rfl rfl (Bk.new _ _ _) (szSl _) ?_; intro W4 h4 g4))
   have be4 : Below wr.heap.size wr W4 := below_grown (Below.allocS (Below.refl _ _) _) g4 (Nat.le_refl _)
   have q0 : W4.cell? ⟨wr.heap.size, 0, none⟩ = some (.int .u8 (ow : Int)) := h4.cell 0
   have q1 : W4.cell? ⟨wr.heap.size, 1, none⟩ = some (.bool aw) := h4.cell 1
   replace hO := hO.later be4
   replace b1 := b1.later be4
   replace be := be.trans (be4.mono be.size)
   clear be4 h4 g4 hp
   generalize wr.heap.size = gs at *
   cases aw
   ·go_upto_region 8 with (fail)
    refine wp_region_lit ?_
    iterate 3 (refine wpList_plain rfl (fun K hK => ?_); go_simp; with_reducible refine hK _ _ ?_; clear hK K)
    refine wpList_app bt rfl (.tmp 26) (.tmp 28) rfl rfl (hO.later (Below.allocS (Below.refl _ _) _)) rfl (Ob.lit W4 (Nat.le_refl _) _ [slotB (ow, false)] 1 rfl (by decide) ?_).rb (by omega) (by have := b1.lt; simp; omega) ?_
    ·exact hsl.out.symm
    intro A2 n2 c2 w4 hO4 hb4 hg4
    refine wpList_plain rfl (fun K hK => ?_); go_simp; with_reducible refine hK _ _ ?_; clear hK K
    have hE2 := (be.trans ((Below.allocS (Below.refl _ _) _).mono be.size)).trans (hb4.mono (Nat.le_succ _))
    have hbk : Bk w4 w.heap.size 204 (tabC t) := (b1.later (Below.allocS (Below.refl _ _) _)).grown hg4 (fun e => by have := (hO.blk _ e).1; omega)
    go_wp2
    exact ⟨⟨j + 1, A2, _, c2, by go_num, rfl, by omega, by rw [HTK.out, ← List.append_assoc]; exact hO4, hE2, hbk⟩, by simp [intOf]; omega⟩
   ·have hw2 : IntKind.u8.wrap ((ow : Int) + 128) = ((ow + 128 : Nat) : Int) := by rw [IntKind.wrap_u8]; omega
    go_upto_region 8 with (fail)
    refine wp_region_lit ?_
    iterate 3 (refine wpList_plain rfl (fun K hK => ?_); go_simp; with_reducible refine hK _ _ ?_; clear hK K)
    refine wpList_app bt rfl (.tmp 26) (.tmp 28) rfl rfl (hO.later (Below.allocS (Below.refl _ _) _)) rfl (Ob.lit W4 (Nat.le_refl _) _ [slotB (ow, true)] 1 rfl (by decide) ?_).rb (by omega) (by have := b1.lt; simp; omega) ?_
    ·exact hsl.out.symm
    intro A2 n2 c2 w4 hO4 hb4 hg4
    refine wpList_plain rfl (fun K hK => ?_); go_simp; with_reducible refine hK _ _ ?_; clear hK K
    have hE2 := (be.trans ((Below.allocS (Below.refl _ _) _).mono be.size)).trans (hb4.mono (Nat.le_succ _))
    have hbk : Bk w4 w.heap.size 204 (tabC t) := (b1.later (Below.allocS (Below.refl _ _) _)).grown hg4 (fun e => by have := (hO.blk _ e).1; omega)
    go_wp2
    exact ⟨⟨j + 1, A2, _, c2, by go_num, rfl, by omega, by rw [HTK.out, ← List.append_assoc]; exact hO4, hE2, hbk⟩, by simp [intOf]; omega⟩
  ·obtain rfl : j = t.length := by omega
   have ij : ¬ (t.length : Int) < (t.length : Int) := by omega
   rw [List.take_of_length_le (Nat.le_refl _)] at hO
   clear hj hk
   go_wp2
   go_ret
   exact RetB.mk (hO.mono (Nat.le_succ _)) be
theorem levC_tab (e : Nat × Tab) : ((levC e).drop 1).take (tabC e.2).length = tabC e.2 := by simp [levC]
def ouB (B0 : List UInt8) (L0 L1 : List Nat) (q : Nat) : List UInt8 := if q = 0 then B0 else if q = 1 then B0 ++ setB L0 else B0 ++ setB L0 ++ setB L1
theorem ouB_len (B0 : List UInt8) (L0 L1 : List Nat) (q : Nat) : (ouB B0 L0 L1 q).length ≤ B0.length + (L0.length + 1) + (L1.length + 1) := by
 unfold ouB
 split
 ·omega
 ·split <;> simp only [List.length_append, setB_len] <;> omega
theorem idx2_0 (A B : Option Addr) (n c m d : Nat) (w : World) : (Instr.index 229 (.agg #[.slice A n c, .slice B m d]) (.int .i64 0)).run Tryz.prog w = .ok (.slice A n c) w := by kernel_rfl
theorem idx2_1 (A B : Option Addr) (n c m d : Nat) (w : World) : (Instr.index 229 (.agg #[.slice A n c, .slice B m d]) (.int .i64 1)).run Tryz.prog w = .ok (.slice B m d) w := by kernel_rfl
theorem idx2_0' (A B : Option Addr) (n c m d : Nat) (w : World) : (Instr.index 229 (.agg #[.slice A n c, .slice B m d]) (.int .i64 ((0 : Nat) : Int))).run Tryz.prog w = .ok (.slice A n c) w := idx2_0 A B n c m d w
theorem idx2_1' (A B : Option Addr) (n c m d : Nat) (w : World) : (Instr.index 229 (.agg #[.slice A n c, .slice B m d]) (.int .i64 ((1 : Nat) : Int))).run Tryz.prog w = .ok (.slice B m d) w := idx2_1 A B n c m d w
section
attribute [local go_sem] idx2_0 idx2_1 idx2_0' idx2_1'
set_option maxHeartbeats 4000000 in
set_option maxRecDepth 100000 in
theorem stkBytes_any (S : Stk) (hok : StkOk S) (g : Nat) (w : World) (hS : Bk w g 209 (stkC S)) (hT : TabB w) : Calls Tryz.prog 80 #[.pointer (some ⟨g, 0, none⟩)] w (RetB w (stkB S)) := by
 obtain ⟨dvl, vl1, vl2⟩ := rowLev
 obtain ⟨dvt, vt1, vt2⟩ := rowTab
 have h8 := hok.len
 have hgw := hS.lt
 have HP1 := Lib.hid (fun w => put_full none 0 0 [] S.lv.length 1 w Rb.nil_ (by omega) (by omega) (by omega) (by omega))
 have HPU : Hid (∀ A n l v w, Rb w A n n l → n ≤ 10000 → v < 1000 → Calls Tryz.prog 24 #[.slice A n n, .int .u64 ((v : Nat) : Int), .int .i64 1] w (RetF w (l ++ dig v 1))) := Lib.hid (fun A n l v w h hn hv => put_full A n n l v 1 w h (by omega) (by omega) (by omega) (by omega))
 have HPG : Hid (∀ A n c l v w, Rb w A n c l → n ≤ 10000 → v < 1000 → Calls Tryz.prog 24 #[.slice A n c, .int .u64 ((v : Nat) : Int), .int .i64 1] w (RetF w (l ++ dig v 1))) := Lib.hid (fun A n c l v w h hn hv => put_full A n c l v 1 w h (by omega) (by omega) (by omega) (by omega))
 have HAL := Lib.hid (fun w h => all_any S h8 g w h)
 have HL1 := Lib.hid (fun w h => list_any S.ev 1 hok.ev (by omega) w h)
 have HBZ := Lib.hid (fun w h1 h2 => busy_any S hok g w h1 h2)
 have q0 : w.cell? ⟨g, 0, none⟩ = some (.int .i64 (S.lv.length : Int)) := hS.cell 0
 have hw : IntKind.u64.wrap (S.lv.length : Int) = (S.lv.length : Int) := IntWalk.u64_in _ (by omega)
 have be := Below.refl w.heap.size w
 go_enter Tryz.func80, Tryz.ntmps80
 go_upto_region 4 with (go_at_call 24; refine (HP1.out _).mono ?_; rintro e w1 ⟨A1, n1, bs1, d1, rfl, rfl, ho1⟩)
 have hb1 := below_plus w bs1 d1
 replace hS := hS.later hb1
 replace be := be.trans (hb1.mono be.size)
 have hzw := be.size
 clear hb1 q0 HP1
 rw [List.nil_append] at ho1
 generalize plus w bs1 d1 = V1 at *
 go_upto_region 5 with (go_at_call 132; refine (HAL.out _ hS).mono ?_; rintro e w1 ⟨bs2, d2, rfl, rfl⟩)
 have hb1 := below_plus V1 bs2 d2
 replace hS := hS.later hb1
 replace ho1 := ho1.later hb1
 replace be := be.trans (hb1.mono be.size)
 clear hb1 HAL
 generalize plus V1 bs2 d2 = V2 at *
 have HST := Lib.hid (And.intro ho1 (And.intro hS be))
 clear ho1 hS be
 go_loopw [3, 21] (fun OUT I wr => ∃ (j : Nat) (B : Option Addr) (k d : Nat), I = .int .i64 (j : Int) ∧ OUT = .slice B k d ∧ j ≤ S.lv.length ∧ Ob wr w.heap.size B k d (dig S.lv.length 1 ++ levsB (S.lv.take j)) ∧ Bk wr g 209 (stkC S) ∧ Below w.heap.size w wr) (fun _ I _ => S.lv.length - (intOf I).toNat)
 case atStart => exact ⟨0, A1, n1, n1, rfl, rfl, Nat.zero_le _, by simpa [levsB] using HST.out.1, HST.out.2.1, HST.out.2.2⟩
 case round =>
  clear HST
  obtain ⟨j, B, k, d, rfl, rfl, hj, hO, hS, be⟩ := hrel
  have hk : k ≤ 1 + 67 * 8 := by
   have h1 := hO.len
   have h2 := levsB_len (L := S.lv.take j) (fun e he => (hok.rg e (List.mem_of_mem_take he)).2)
   rw [List.length_append, dig_length] at h1
   rw [List.length_take] at h2
   omega
  by_cases hlt : j < S.lv.length
  ·have ij : (j : Int) < (S.lv.length : Int) := by omega
   have hp := stkC_part S j hlt (by omega)
   have hmem := hok.rg S.lv[j] (List.getElem_mem hlt)
   have htk : levsB (S.lv.take (j + 1)) = levsB (S.lv.take j) ++ (dig S.lv[j].1 1 ++ tabB S.lv[j].2) := by rw [List.take_succ_eq_append_getElem hlt]; unfold levsB; rw [List.flatMap_append]; simp [levB]
   generalize S.lv[j] = e0 at *
   obtain ⟨vr, tb⟩ := e0
   have HTK := Lib.hid htk
   have hv8 : vr < 8 := hmem.1
   have hwv : IntKind.u64.wrap (vr : Int) = (vr : Int) := IntWalk.u64_in _ (by omega)
   have HTB := Lib.hid (fun w => tabBytes_any tb hmem.2 w)
   have htl := hmem.2.len
   simp only at htl
   clear htk hmem
   go_upto_region 7 with (first
    | (refine at_op (.load 206 (.tmp 23)) rfl ?_; refine wpList_ldA (t := 209) (off := 1 + j * 130) 206 (.tmp 23) rfl rfl (levC (vr, tb)) rfl hS hp vl1 vl2 (szLev _) ?_)
    | (refine at_op (.store 206 (.tmp 5) (.tmp 24)) rfl ?_; refine wpList_stA (t := 206) 206 (.tmp 5) (.tmp 24) rfl rfl (levC (vr, tb)) (levC (0, [])) (by rw [levC_len, levC_len]) (levC_one _) rfl rfl (Bk.new _ _ _) (szLev _) ?_; intro W4 h4 g4))
   have be4 : Below wr.heap.size wr W4 := below_grown (Below.allocS (Below.refl _ _) _) g4 (Nat.le_refl _)
   have q0 : W4.cell? ⟨wr.heap.size, 0, none⟩ = some (.int .i64 (vr : Int)) := h4.cell 0
   have hL : Bk W4 wr.heap.size 206 (levC (vr, tb)) := h4
   replace hO := hO.later be4
   replace hS := hS.later be4
   replace be := be.trans (be4.mono be.size)
   clear be4 h4 g4 hp
   generalize wr.heap.size = gl at *
   go_upto_region 8 with (go_at_call 24; refine (HPG.out _ _ _ _ _ _ hO.rb (by omega) (by omega)).mono ?_; rintro e w1 ⟨A3, n3, bs3, d3, rfl, rfl, ho3⟩)
   have hb1 := below_plus W4 bs3 d3
   have hz3 := be.size
   replace hL := hL.later hb1
   replace hS := hS.later hb1
   replace be := be.trans (hb1.mono be.size)
   have hO3 := ho3.mono hz3
   have hn3 : n3 ≤ 1 + 67 * 8 + 1 := by have h1 := ho3.len; have h2 := hO.len; rw [List.length_append, dig_length] at h1; omega
   clear hb1 hO q0 ho3 hz3
   generalize plus W4 bs3 d3 = W5 at *
   refine wp_region_lit ?_
   iterate 2 (refine wpList_plain rfl (fun K hK => ?_); go_simp; with_reducible refine hK _ _ ?_; clear hK K)
   refine wpList_ldA (t := 206) (off := 1) 204 (.tmp 31) rfl rfl (tabC tb) rfl hL (levC_tab (vr, tb)) vt1 vt2 (by rw [tabC_len0]; kernel_rfl) ?_
   refine wpList_plain rfl (fun K hK => ?_)
   go_simp
   refine (HTB.out _).mono ?_
   rintro e w1 ⟨A6, n6, c6, bs6, d6, rfl, rfl, ho6⟩
   with_reducible refine hK _ _ ?_
   clear hK K
   have hb1 := below_plus W5 bs6 d6
   replace hO3 := hO3.later hb1
   replace hS := hS.later hb1
   replace be := be.trans (hb1.mono be.size)
   have hn6 : n6 ≤ 66 := by have h1 := ho6.len; rw [tabB_len] at h1; omega
   clear hb1 hL
   generalize plus W5 bs6 d6 = W6 at *
   refine wpList_app bt rfl (.tmp 30) (.tmp 33) rfl rfl hO3 rfl ho6.rb (by omega) be.size ?_
   intro A2 n2 c2 w4 hO4 hb4 hg4
   refine wpList_plain rfl (fun K hK => ?_); go_simp; with_reducible refine hK _ _ ?_; clear hK K
   have htk2 : (dig S.lv.length 1 ++ levsB (S.lv.take j) ++ dig vr 1) ++ tabB tb = dig S.lv.length 1 ++ levsB (S.lv.take (j + 1)) := by rw [HTK.out]; simp [List.append_assoc]
   have HT2 := Lib.hid htk2
   have hE2 := be.trans hb4
   clear htk2
   go_wp2
   exact ⟨⟨j + 1, A2, n2, c2, by go_num, rfl, by omega, by rw [← HT2.out]; exact hO4, hS.grown hg4 (fun e => by have := (hO3.blk _ e).1; omega), hE2⟩, by simp [intOf]; omega⟩
  ·obtain rfl : j = S.lv.length := by omega
   have ij : ¬ (S.lv.length : Int) < (S.lv.length : Int) := by omega
   rw [List.take_of_length_le (Nat.le_refl _)] at hO
   have qe : wr.cell? ⟨g, 1041, none⟩ = some (.int .u64 (S.ev : Int)) := (hS.cell _).trans (stkC_ev S)
   clear hj
   go_upto_region 10 with (fail)
   refine wp_region_lit ?_
   iterate 4 (refine wpList_plain rfl (fun K hK => ?_); go_simp; with_reducible refine hK _ _ ?_; clear hK K)
   refine wpList_plain rfl (fun K hK => ?_)
   go_simp
   refine (HL1.out _ (hT.later be)).mono ?_
   rintro e w1 ⟨Ae, ne, ce, bs6, d6, rfl, rfl, hre⟩
   with_reducible refine hK _ _ ?_
   clear hK K
   have hb1 := below_plus wr bs6 d6
   replace hO := hO.later hb1
   replace hS := hS.later hb1
   replace be := be.trans (hb1.mono be.size)
   clear hb1 qe
   generalize plus wr bs6 d6 = W6 at *
   refine wpList_plain rfl (fun K hK => ?_); go_simp; with_reducible refine hK _ _ ?_; clear hK K
   refine wpList_plain rfl (fun K hK => ?_)
   go_simp
   refine (HBZ.out _ hS (hT.later be)).mono ?_
   rintro e w1 ⟨Az, nz, cz, bs7, d7, rfl, rfl, hrz⟩
   with_reducible refine hK _ _ ?_
   clear hK K
   have hb1 := below_plus W6 bs7 d7
   replace hO := hO.later hb1
   replace hS := hS.later hb1
   replace hre := hre.later hb1
   replace be := be.trans (hb1.mono be.size)
   clear hb1
   generalize plus W6 bs7 d7 = W7 at *
   iterate 2 (refine wpList_plain rfl (fun K hK => ?_); go_simp; with_reducible refine hK _ _ ?_; clear hK K)
   have hse := setL_len S.ev 1
   have hsz := setL_len S.bz 0
   have hle := setL_lt S.ev 1
   have hlz := setL_lt S.bz 0
   have hne : ne = (setL S.ev 1).length := by have := hre.rs.1; rw [itK_len, natK_len] at this; omega
   have hnz : nz = (setL S.bz 0).length := by have := hrz.rs.1; rw [itK_len, natK_len] at this; omega
   have HFIN := Lib.hid (show dig S.lv.length 1 ++ levsB S.lv ++ setB (setL S.ev 1) ++ setB (setL S.bz 0) = stkB S from rfl)
   have hre := hre.rs
   have hrz := hrz.rs
   have HL0 := Lib.hid (show (dig S.lv.length 1 ++ levsB S.lv).length ≤ 600 by
    have h2 := levsB_len (L := S.lv) (fun e he => (hok.rg e he).2)
    rw [List.length_append, dig_length]; omega)
   generalize setL S.ev 1 = Le at *
   generalize setL S.bz 0 = Lz at *
   generalize dig S.lv.length 1 ++ levsB S.lv = B0 at *
   have HLL := Lib.hid (show (Le.length ≤ 64 ∧ ∀ n ∈ Le, n < 64 + 1) ∧ (Lz.length ≤ 64 ∧ ∀ n ∈ Lz, n < 64 + 0) from ⟨⟨hse, hle⟩, hsz, hlz⟩)
   subst hne hnz
   clear hse hsz hle hlz
   go_upto_region 11 with (fail)
   have HST := Lib.hid (And.intro hO (And.intro hre (And.intro hrz be)))
   clear hO hre hrz be hS
   go_loopw [3, 44] (fun OUT I wr => ∃ (q : Nat) (B : Option Addr) (k d : Nat), I = .int .i64 (q : Int) ∧ OUT = .slice B k d ∧ q ≤ 2 ∧ Ob wr w.heap.size B k d (ouB B0 Le Lz q) ∧ Rs 1 wr Ae Le.length ce (itK (natK Le)) ∧ Rs 1 wr Az Lz.length cz (itK (natK Lz)) ∧ Below w.heap.size w wr) (fun _ I _ => 2 - (intOf I).toNat)
   case atStart => exact ⟨0, _, _, _, rfl, rfl, by omega, HST.out.1, HST.out.2.1, HST.out.2.2.1, HST.out.2.2.2⟩
   case round =>
    clear HST
    obtain ⟨q, B, k, d, rfl, rfl, hq, hO, hre, hrz, be⟩ := hrel
    have hk : k ≤ 600 + 65 + 65 := by
     have h1 := hO.len
     have h3 := ouB_len B0 Le Lz q
     have h4 := HL0.out
     have h5 := HLL.out
     omega
    rcases (show q = 0 ∨ q = 1 ∨ q = 2 by omega) with rfl | rfl | rfl
    ·have hle3 := HLL.out.1.1
     have hwl : IntKind.u64.wrap (Le.length : Int) = (Le.length : Int) := IntWalk.u64_in _ (by omega)
     go_upto_region 14 with (go_at_call 24; refine (HPG.out _ _ _ _ _ _ hO.rb (by omega) (by omega)).mono ?_; rintro e w1 ⟨A3, n3, bs3, d3, rfl, rfl, ho3⟩)
     have hb1 := below_plus wr bs3 d3
     have hz3 := be.size
     replace hre := hre.later hb1
     replace hrz := hrz.later hb1
     replace be := be.trans (hb1.mono be.size)
     have hO3 := ho3.mono hz3
     clear hb1 hO ho3 hz3 hk hwl
     generalize plus wr bs3 d3 = W5 at *
     go_upto_region 15 with (fail)
     have HI := Lib.hid (And.intro hO3 (And.intro hre (And.intro hrz be)))
     clear hO3 hre hrz be
     go_loopw [3, 54] (fun OUT I wi => ∃ (j : Nat) (B : Option Addr) (k d : Nat), I = .int .i64 (j : Int) ∧ OUT = .slice B k d ∧ j ≤ Le.length ∧ Ob wi w.heap.size B k d (ouB B0 Le Lz 0 ++ dig Le.length 1 ++ numsB (Le.take j)) ∧ Rs 1 wi Ae Le.length ce (itK (natK Le)) ∧ Rs 1 wi Az Lz.length cz (itK (natK Lz)) ∧ Below w.heap.size w wi) (fun _ I _ => Le.length - (intOf I).toNat)
     case atStart => exact ⟨0, A3, n3, n3, rfl, rfl, Nat.zero_le _, by simpa [numsB] using HI.out.1, HI.out.2.1, HI.out.2.2.1, HI.out.2.2.2⟩
     case round =>
      clear HI
      obtain ⟨j, B, k, d, rfl, rfl, hj, hO, hre, hrz, be⟩ := hrel
      have hk : k ≤ 600 + 65 + 65 + 1 + 64 := by
       have h1 := hO.len
       have h3 := ouB_len B0 Le Lz 0
       have h4 := HL0.out
       have h5 := HLL.out
       simp only [List.length_append, dig_length, numsB_len, List.length_take] at h1
       omega
      by_cases hlt : j < Le.length
      ·have ij : (j : Int) < (Le.length : Int) := by omega
       obtain ⟨bl, ol, hA, hc⟩ := hre.int_ j (by rw [natK_len]; exact hlt)
       have hnk : (natK Le)[j]'(by rw [natK_len]; exact hlt) = ((Le[j] : Nat) : Int) := by simp [natK]
       rw [hnk] at hc
       have hlt100 := HLL.out.1.2 _ (List.getElem_mem hlt)
       have htk : numsB (Le.take (j + 1)) = numsB (Le.take j) ++ dig Le[j] 1 := by rw [List.take_succ_eq_append_getElem hlt]; unfold numsB; rw [List.flatMap_append]; simp
       generalize Le[j] = v at *
       have HTK := Lib.hid htk
       have hwv : IntKind.u64.wrap (v : Int) = (v : Int) := IntWalk.u64_in _ (by omega)
       subst hA
       clear htk hnk
       go_wp2_with (go_at_call 24; refine (HPG.out _ _ _ _ _ _ hO.rb (by omega) (by omega)).mono ?_; rintro e w1 ⟨A5, n5, bs5, d5, rfl, rfl, ho5⟩)
       have hb1 := below_plus wr bs5 d5
       have he2 := be.trans (hb1.mono be.size)
       have ho6 : Ob (plus wr bs5 d5) w.heap.size A5 n5 n5 (ouB B0 Le Lz 0 ++ dig Le.length 1 ++ numsB (Le.take (j + 1))) := by rw [HTK.out, ← List.append_assoc]; exact ho5.mono be.size
       exact ⟨⟨j + 1, A5, _, _, by go_num, rfl, by omega, ho6, hre.later hb1, hrz.later hb1, he2⟩, by simp [intOf]; omega⟩
      ·obtain rfl : j = Le.length := by omega
       have ij : ¬ (Le.length : Int) < (Le.length : Int) := by omega
       rw [List.take_of_length_le (Nat.le_refl _)] at hO
       have hbs : ouB B0 Le Lz 0 ++ dig Le.length 1 ++ numsB Le = ouB B0 Le Lz 1 := by simp [ouB, setB, List.append_assoc]
       rw [hbs] at hO
       have HH := Lib.hid (And.intro hO (And.intro hre (And.intro hrz be)))
       clear hO hre hrz be hj hk hbs
       go_wp2
       exact ⟨⟨1, B, _, _, rfl, rfl, by omega, HH.out.1, HH.out.2.1, HH.out.2.2.1, HH.out.2.2.2⟩, by simp [intOf]⟩
    ·have hle3 := HLL.out.2.1
     have hwl : IntKind.u64.wrap (Lz.length : Int) = (Lz.length : Int) := IntWalk.u64_in _ (by omega)
     go_upto_region 14 with (go_at_call 24; refine (HPG.out _ _ _ _ _ _ hO.rb (by omega) (by omega)).mono ?_; rintro e w1 ⟨A3, n3, bs3, d3, rfl, rfl, ho3⟩)
     have hb1 := below_plus wr bs3 d3
     have hz3 := be.size
     replace hrz := hrz.later hb1
     replace hre := hre.later hb1
     replace be := be.trans (hb1.mono be.size)
     have hO3 := ho3.mono hz3
     clear hb1 hO ho3 hz3 hk hwl
     generalize plus wr bs3 d3 = W5 at *
     go_upto_region 15 with (fail)
     have HI := Lib.hid (And.intro hO3 (And.intro hre (And.intro hrz be)))
     clear hO3 hre hrz be
     go_loopw [3, 54] (fun OUT I wi => ∃ (j : Nat) (B : Option Addr) (k d : Nat), I = .int .i64 (j : Int) ∧ OUT = .slice B k d ∧ j ≤ Lz.length ∧ Ob wi w.heap.size B k d (ouB B0 Le Lz 1 ++ dig Lz.length 1 ++ numsB (Lz.take j)) ∧ Rs 1 wi Ae Le.length ce (itK (natK Le)) ∧ Rs 1 wi Az Lz.length cz (itK (natK Lz)) ∧ Below w.heap.size w wi) (fun _ I _ => Lz.length - (intOf I).toNat)
     case atStart => exact ⟨0, A3, n3, n3, rfl, rfl, Nat.zero_le _, by simpa [numsB] using HI.out.1, HI.out.2.1, HI.out.2.2.1, HI.out.2.2.2⟩
     case round =>
      clear HI
      obtain ⟨j, B, k, d, rfl, rfl, hj, hO, hre, hrz, be⟩ := hrel
      have hk : k ≤ 600 + 65 + 65 + 1 + 64 := by
       have h1 := hO.len
       have h3 := ouB_len B0 Le Lz 1
       have h4 := HL0.out
       have h5 := HLL.out
       simp only [List.length_append, dig_length, numsB_len, List.length_take] at h1
       omega
      by_cases hlt : j < Lz.length
      ·have ij : (j : Int) < (Lz.length : Int) := by omega
       obtain ⟨bl, ol, hA, hc⟩ := hrz.int_ j (by rw [natK_len]; exact hlt)
       have hnk : (natK Lz)[j]'(by rw [natK_len]; exact hlt) = ((Lz[j] : Nat) : Int) := by simp [natK]
       rw [hnk] at hc
       have hlt100 := HLL.out.2.2 _ (List.getElem_mem hlt)
       have htk : numsB (Lz.take (j + 1)) = numsB (Lz.take j) ++ dig Lz[j] 1 := by rw [List.take_succ_eq_append_getElem hlt]; unfold numsB; rw [List.flatMap_append]; simp
       generalize Lz[j] = v at *
       have HTK := Lib.hid htk
       have hwv : IntKind.u64.wrap (v : Int) = (v : Int) := IntWalk.u64_in _ (by omega)
       subst hA
       clear htk hnk
       go_wp2_with (go_at_call 24; refine (HPG.out _ _ _ _ _ _ hO.rb (by omega) (by omega)).mono ?_; rintro e w1 ⟨A5, n5, bs5, d5, rfl, rfl, ho5⟩)
       have hb1 := below_plus wr bs5 d5
       have he2 := be.trans (hb1.mono be.size)
       have ho6 : Ob (plus wr bs5 d5) w.heap.size A5 n5 n5 (ouB B0 Le Lz 1 ++ dig Lz.length 1 ++ numsB (Lz.take (j + 1))) := by rw [HTK.out, ← List.append_assoc]; exact ho5.mono be.size
       exact ⟨⟨j + 1, A5, _, _, by go_num, rfl, by omega, ho6, hre.later hb1, hrz.later hb1, he2⟩, by simp [intOf]; omega⟩
      ·obtain rfl : j = Lz.length := by omega
       have ij : ¬ (Lz.length : Int) < (Lz.length : Int) := by omega
       rw [List.take_of_length_le (Nat.le_refl _)] at hO
       have hbs : ouB B0 Le Lz 1 ++ dig Lz.length 1 ++ numsB Lz = ouB B0 Le Lz 2 := by simp [ouB, setB, List.append_assoc]
       rw [hbs] at hO
       have HH := Lib.hid (And.intro hO (And.intro hre (And.intro hrz be)))
       clear hO hre hrz be hj hk hbs
       go_wp2
       exact ⟨⟨2, B, _, _, rfl, rfl, by omega, HH.out.1, HH.out.2.1, HH.out.2.2.1, HH.out.2.2.2⟩, by simp [intOf]⟩
    ·have HF2 := Lib.hid (show ouB B0 Le Lz 2 = stkB S from HFIN.out)
     go_wp2
     go_ret
     rw [← HF2.out]
     exact RetB.mk hO be
end
end

section
open Go.RowKit
theorem tk_app (x r : List UInt8) (n : Nat) (h : x.length = n) : tkB n (some (x ++ r)) = x ∧ drB n (some (x ++ r)) = some r := by
 subst h
 constructor
 ·simp [tkB]
 ·simp [drB]
theorem numT_dig (x s : Nat) (r : List UInt8) (h : x < 256 ^ s) : numT s (some (dig x s ++ r)) = x := by
 unfold numT
 rw [(tk_app (dig x s) r s (dig_length _ _)).1, numDig x s h]
theorem drB_dig (x s : Nat) (r : List UInt8) : drB s (some (dig x s ++ r)) = some r := (tk_app (dig x s) r s (dig_length _ _)).2
theorem adrB_size (six : Bool) (ah al : Nat) : (adrB six ah al).length = sizeA six := by cases six <;> simp [adrB, sizeA, dig_length]
theorem adX_adr (six : Bool) (ah al : Nat) (h : adG six ah al = true) (h1 : ah < 18446744073709551616) (h2 : al < 18446744073709551616) : adX (adrB six ah al) = some (six, ah, al) := by
 cases six
 ·simp [adG] at h
  obtain ⟨rfl, h4⟩ := h
  have e : adrB false 0 al = dig al 4 := rfl
  unfold adX
  rw [e, if_pos (dig_length _ _), numDig al 4 (by omega)]
 ·have e : adrB true ah al = dig ah 8 ++ dig al 8 := rfl
  unfold adX
  rw [e, if_neg (by simp [dig_length]), if_pos (by simp [dig_length]), List.take_left' (dig_length _ _), List.drop_left' (dig_length _ _), numDig ah 8 (by omega), numDig al 8 (by omega)]
theorem adS_place (six : Bool) (ah al : Nat) (r : List UInt8) (h : adG six ah al = true) (h1 : ah < 18446744073709551616) (h2 : al < 18446744073709551616) : adS (some (placeB six ah al ++ r)) = some ((six, ah, al), some r) := by
 have hz : sizeA six < 256 ^ 1 := by cases six <;> decide
 unfold adS placeB
 rw [List.append_assoc, numT_dig _ 1 _ hz, drB_dig]
 obtain ⟨e1, e2⟩ := tk_app (adrB six ah al) r (sizeA six) (adrB_size six ah al)
 rw [e1, e2, adX_adr six ah al h h1 h2]
 rfl
theorem pairs_step (ms : List (Int × Int)) (r : List UInt8) (hg : ms.all (fun p => shB p.1 && shB p.2) = true) : ∀ i, i ≤ ms.length → drs i (some (pairsB ms ++ r)) = some (pairsB (ms.drop i) ++ r) ∧ mbs i (some (pairsB ms ++ r)) = ms.take i
 | 0, _ => ⟨rfl, rfl⟩
 | i + 1, hi => by
  obtain ⟨h1, h2⟩ := pairs_step ms r hg i (by omega)
  have hd : ms.drop i = ms[i] :: ms.drop (i + 1) := List.drop_eq_getElem_cons (by omega)
  have hm : shB ms[i].1 = true ∧ shB ms[i].2 = true := by
   have := List.all_eq_true.1 hg ms[i] (List.getElem_mem (by omega))
   simpa using this
  have ht : ms.take (i + 1) = ms.take i ++ [ms[i]] := by simp
  generalize ms[i] = p at *
  obtain ⟨x, y⟩ := p
  have hx : 0 ≤ x ∧ x < 256 := by simpa [shB] using hm.1
  have hy : 0 ≤ y ∧ y < 256 := by simpa [shB] using hm.2
  have dg : ∀ z : Int, 0 ≤ z ∧ z < 256 → [UInt8.ofNat z.toNat] = dig z.toNat 1 := fun z hz => by
   simp [dig]
   try (apply ofNat_eq; omega)
  have e : pairsB (ms.drop i) ++ r = dig x.toNat 1 ++ (dig y.toNat 1 ++ (pairsB (ms.drop (i + 1)) ++ r)) := by
   rw [hd, ← dg x hx, ← dg y hy]
   simp [pairsB]
  rw [e] at h1
  constructor
  ·show drB 1 (drB 1 (drs i _)) = _
   rw [h1, drB_dig, drB_dig]
  ·show mbs i _ ++ [(((numT 1 (drs i _) : Nat) : Int), ((numT 1 (drB 1 (drs i _)) : Nat) : Int))] = _
   rw [h1, h2, drB_dig, numT_dig _ 1 _ (by omega), numT_dig _ 1 _ (by omega), ht]
   simp
   omega
theorem mbS_members (ms : List (Int × Int)) (r : List UInt8) (h64 : ms.length ≤ 64) (hg : ms.all (fun p => shB p.1 && shB p.2) = true) : mbS (some (membersB ms ++ r)) = some (ms, r) := by
 unfold mbS membersB
 rw [List.append_assoc, numT_dig _ 1 _ (by omega), drB_dig, if_pos h64]
 obtain ⟨h1, h2⟩ := pairs_step ms r hg ms.length (Nat.le_refl _)
 rw [h1, h2]
 simp [pairsB]
end

end Go.Proofs.YtljlflmkmjcnnaaGreatDoor
