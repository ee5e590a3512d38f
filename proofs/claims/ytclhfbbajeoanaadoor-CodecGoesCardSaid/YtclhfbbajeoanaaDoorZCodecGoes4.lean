/- Texts of the law CodecGoes, part 4. -/
import Derived.Test.YtclhfbbajeoanaaDoorZCodecGoes3
/- addVip (chapter 22). -/
namespace Go.Proofs.YtclhfbbajeoanaaDoor
open Go.RowKit
set_option linter.unusedVariables false
set_option linter.unusedSimpArgs false
attribute [local go_sem ↓] sliced_cut

attribute [local go_sem] cutA_zero

theorem CfX.own_ne_g {G D : Nat → Prop} {w : World} {g : Nat} {C : Cf} {A : Option Addr} {n c : Nat} {E : List Ve} (h : CfX G D w g C A n c E) : (Value.slice A n c).ownBlock ≠ some g := fun e => by
  rcases h.row.2 with ⟨hv, _⟩ | ⟨b, cap, cur, hv, _, hr, _⟩
  · injection hv with h1 _ _; subst h1; cases e
  · injection hv with h1 _ _
    subst h1
    injection e with e
    subst e
    have := h.st
    unfold Bk at this
    rw [hr] at this
    injection this with this
    injection this with _ this _
    revert this
    decide
/-- the state behind AddVip -/
def addS (C : Cf) (o : OpR) : Cf := if addE C o = 0 then { C with vs := C.vs ++ [newV C o] } else C
set_option maxHeartbeats 4000000 in
set_option maxRecDepth 100000 in
theorem run_buildVe (six : Bool) (ah al pt pr : Nat) (wy : Int) (T : Nat) (v0 : Vp) (h1 : v0.ad = (six, ah, al)) (h2 : v0.pt = pt) (h3 : v0.pr = pr) (h4 : v0.wy = wy) (w : World) : (Instr.build 53 #[(0, .agg (adC six ah al).toArray), (1, .int .u16 (pt : Int)), (2, .int .u8 (pr : Int)), (3, .int .i64 wy), (5, .pointer (some ⟨T, 0, none⟩))]).run Tryd.prog w = .ok (.agg (veC (v0, ⟨none, 0, 0, T⟩)).toArray) w := by
  obtain ⟨ad, p1, p2, w1, ms, S⟩ := v0
  subst h1 h2 h3 h4
  kernel_rfl
theorem foldVe (x : Ve) : List.foldl (fun (cs : Array Value) (x : Value × Nat) => cs.setIfInBounds x.snd x.fst) #[.bool false, .int .u64 0, .int .u64 0, .int .u16 0, .int .u8 0, .int .i64 0, .slice none 0 0, .pointer none] (veC x).zipIdx = (veC x).toArray := by simp [veC, List.zipIdx]
attribute [local go_sem] foldVe

set_option maxHeartbeats 4000000 in
set_option maxRecDepth 100000 in
theorem addVip_any {G D : Nat → Prop} (k v b e : Int) (six : Bool) (ah al pt pr : Nat) (wy : Int) (ms : List (Int × Int)) (B : Option Addr) (mm d : Nat) (C : Cf) (hC : CfOk C) (g : Nat) (A : Option Addr) (n c : Nat) (E : List Ve) (w : World) (hX : CfX G D w g C A n c E) (hal : al < 18446744073709551616) (hpr : pr < 256) : Calls Tryd.prog 51 #[.pointer (some ⟨g, 0, none⟩), .agg (opC k v b e six ah al pt pr wy B mm d).toArray] w (RetCf G D w g (addS C (⟨k, v, b, e, six, ah, al, pt, pr, wy, ms⟩ : OpR)) (.int .i64 (addE C (⟨k, v, b, e, six, ah, al, pt, pr, wy, ms⟩ : OpR) : Nat))) := by
  have hX0 := Lib.hid hX
  obtain ⟨da, va1, va2⟩ := rowAdC
  obtain ⟨do1, vo1, vo2⟩ := rowOpC
  have hk := hC.key
  have hb := hC.bl
  have HA := Lib.hid (fun w => adrRightC six ah al w hal)
  have HW := Lib.hid (fun w => polRight_any wy w)
  have hn16 : n ≤ 16 := by have := hX.n_; have := hC.vl; omega
  have hn1000 : n ≤ 1000 := by omega
  have HNV := Lib.hid hX.n_
  have hev64 : ev0 C < 18446744073709551616 := by
    unfold ev0
    cases hc : C.vs with
    | nil => simp
    | cons a t => exact (hC.vs a (by simp [hc])).st.ev
  cases hg : adG six ah al
  · rw [hg] at HA
    have he := Lib.hid (show addE C (⟨k, v, b, e, six, ah, al, pt, pr, wy, ms⟩ : OpR) = 1 by unfold addE; rw [if_pos (by simp [hg])])
    have hcs := Lib.hid (show addS C (⟨k, v, b, e, six, ah, al, pt, pr, wy, ms⟩ : OpR) = C from if_neg (by rw [he.out]; decide))
    have bo : Bk (w.alloc (.cells (opC k v b e six ah al pt pr wy B mm d).toArray 45)) w.heap.size 45 (opC k v b e six ah al pt pr wy B mm d) := Bk.new w 45 (opC k v b e six ah al pt pr wy B mm d).toArray
    have be : Below w.heap.size w (w.alloc (.cells (opC k v b e six ah al pt pr wy B mm d).toArray 45)) := Below.allocS (Below.refl _ _) _
    have zV : w.heap.size + 1 ≤ (w.alloc (.cells (opC k v b e six ah al pt pr wy B mm d).toArray 45)).heap.size := by simp
    go_enter Tryd.func51, Tryd.ntmps51
    go_upto_region 1 with (fail)
    generalize w.alloc (.cells (opC k v b e six ah al pt pr wy B mm d).toArray 45) = V at *
    replace hX := hX.later be
    refine wp_region_lit ?_
    refine wpList_plain rfl (fun K hK => ?_); go_simp; with_reducible refine hK _ _ ?_; clear hK K
    refine wpList_ldA (t := 45) (cs := opC k v b e six ah al pt pr wy B mm d) 32 (.tmp 7) rfl rfl (adC six ah al) rfl (bo) rfl va1 va2 (szAd _ _ _) ?_
    refine wpList_plain rfl (fun K hK => ?_)
    go_simp
    refine (HA.out _).mono ?_
    rintro e w1 ⟨bs1, d1, rfl, rfl⟩
    with_reducible refine hK _ _ ?_
    clear hK K
    have hb1 := below_plus V bs1 d1
    replace hX := hX.later hb1
    replace bo := bo.later hb1
    replace be := be.trans (hb1.mono be.size)
    clear hb1
    generalize plus V bs1 d1 = V1 at *
    iterate 2 (refine wpList_plain rfl (fun K hK => ?_); go_simp; with_reducible refine hK _ _ ?_; clear hK K)
    iterate 8 ((with_reducible refine wpList_skip ?_ ?_); (· first | (go_simp; done) | (go_simp; intro h; cases h)); simp only [Act.put, List.setIfInBounds_toArray, List.set_cons_zero, List.set_cons_succ])
    iterate 2 (refine wpList_plain rfl (fun K hK => ?_); go_simp; with_reducible refine hK _ _ ?_; clear hK K)
    iterate 4 ((with_reducible refine wpList_skip ?_ ?_); (· first | (go_simp; done) | (go_simp; intro h; cases h)); simp only [Act.put, List.setIfInBounds_toArray, List.set_cons_zero, List.set_cons_succ])
    refine wpList_plain rfl (fun K hK => ?_); go_simp; with_reducible refine hK _ _ ?_; clear hK K
    go_wp2
    go_ret
    exact ⟨by rw [he.out]; rfl, G, D, ⟨A, n, c, E, by rw [hcs.out]; exact hX⟩, Grow.refl _ _ _, Chg.of_below be⟩
  · rw [hg] at HA
    by_cases h6 : pr = 6
    · have h6i : ((pr : Int) != 6) = false := by simp; omega
      have HP := Lib.hid (show decide (pr = 6 ∨ pr = 17) = true by simp [h6])
      clear h6
      cases hwb : wyB wy
      · rw [hwb] at HW
        have he := Lib.hid (show addE C (⟨k, v, b, e, six, ah, al, pt, pr, wy, ms⟩ : OpR) = 1 by unfold addE; rw [if_pos (by simp [hwb])])
        have hcs := Lib.hid (show addS C (⟨k, v, b, e, six, ah, al, pt, pr, wy, ms⟩ : OpR) = C from if_neg (by rw [he.out]; decide))
        have bo : Bk (w.alloc (.cells (opC k v b e six ah al pt pr wy B mm d).toArray 45)) w.heap.size 45 (opC k v b e six ah al pt pr wy B mm d) := Bk.new w 45 (opC k v b e six ah al pt pr wy B mm d).toArray
        have be : Below w.heap.size w (w.alloc (.cells (opC k v b e six ah al pt pr wy B mm d).toArray 45)) := Below.allocS (Below.refl _ _) _
        have zV : w.heap.size + 1 ≤ (w.alloc (.cells (opC k v b e six ah al pt pr wy B mm d).toArray 45)).heap.size := by simp
        go_enter Tryd.func51, Tryd.ntmps51
        go_upto_region 1 with (fail)
        generalize w.alloc (.cells (opC k v b e six ah al pt pr wy B mm d).toArray 45) = V at *
        replace hX := hX.later be
        refine wp_region_lit ?_
        refine wpList_plain rfl (fun K hK => ?_); go_simp; with_reducible refine hK _ _ ?_; clear hK K
        refine wpList_ldA (t := 45) (cs := opC k v b e six ah al pt pr wy B mm d) 32 (.tmp 7) rfl rfl (adC six ah al) rfl (bo) rfl va1 va2 (szAd _ _ _) ?_
        refine wpList_plain rfl (fun K hK => ?_)
        go_simp
        refine (HA.out _).mono ?_
        rintro e w1 ⟨bs1, d1, rfl, rfl⟩
        with_reducible refine hK _ _ ?_
        clear hK K
        have hb1 := below_plus V bs1 d1
        replace hX := hX.later hb1
        replace bo := bo.later hb1
        replace be := be.trans (hb1.mono be.size)
        clear hb1
        generalize plus V bs1 d1 = V1 at *
        iterate 2 (refine wpList_plain rfl (fun K hK => ?_); go_simp; with_reducible refine hK _ _ ?_; clear hK K)
        refine wpList_step (fun K hK => ?_); go_simp; with_reducible refine hK _ _ ?_; clear hK K
        refine wpList_ld1 (t := 45) (cs := opC k v b e six ah al pt pr wy B mm d) 5 (.tmp 12) rfl (by go_simp) rfl (bo) rfl Tryd.underlying5 rfl ?_
        iterate 2 (refine wpList_step (fun K hK => ?_); go_simp; with_reducible refine hK _ _ ?_; clear hK K)
        iterate 3 ((with_reducible refine wpList_skip ?_ ?_); (· first | (go_simp; done) | (go_simp; intro h; cases h)); simp only [Act.put, List.setIfInBounds_toArray, List.set_cons_zero, List.set_cons_succ])
        refine wpList_step (fun K hK => ?_); go_simp; with_reducible refine hK _ _ ?_; clear hK K
        iterate 2 (refine wpList_plain rfl (fun K hK => ?_); go_simp; with_reducible refine hK _ _ ?_; clear hK K)
        refine wpList_step (fun K hK => ?_); go_simp; with_reducible refine hK _ _ ?_; clear hK K
        refine wpList_ld1 (t := 45) (cs := opC k v b e six ah al pt pr wy B mm d) 3 (.tmp 22) rfl (by go_simp) rfl (bo) rfl Tryd.underlying3 rfl ?_
        refine wpList_step (fun K hK => ?_)
        go_simp
        refine (HW.out _).mono ?_
        rintro e w1 ⟨rfl, rfl⟩
        with_reducible refine hK _ _ ?_
        clear hK K
        refine wpList_step (fun K hK => ?_); go_simp; with_reducible refine hK _ _ ?_; clear hK K
        refine wpList_plain rfl (fun K hK => ?_); go_simp; with_reducible refine hK _ _ ?_; clear hK K
        go_wp2
        go_ret
        exact ⟨by rw [he.out]; rfl, G, D, ⟨A, n, c, E, by rw [hcs.out]; exact hX⟩, Grow.refl _ _ _, Chg.of_below be⟩
      · rw [hwb] at HW
        have bo : Bk (w.alloc (.cells (opC k v b e six ah al pt pr wy B mm d).toArray 45)) w.heap.size 45 (opC k v b e six ah al pt pr wy B mm d) := Bk.new w 45 (opC k v b e six ah al pt pr wy B mm d).toArray
        have be : Below w.heap.size w (w.alloc (.cells (opC k v b e six ah al pt pr wy B mm d).toArray 45)) := Below.allocS (Below.refl _ _) _
        have zV : w.heap.size + 1 ≤ (w.alloc (.cells (opC k v b e six ah al pt pr wy B mm d).toArray 45)).heap.size := by simp
        go_enter Tryd.func51, Tryd.ntmps51
        go_upto_region 1 with (fail)
        generalize w.alloc (.cells (opC k v b e six ah al pt pr wy B mm d).toArray 45) = V at *
        replace hX := hX.later be
        refine wp_region_lit ?_
        refine wpList_plain rfl (fun K hK => ?_); go_simp; with_reducible refine hK _ _ ?_; clear hK K
        refine wpList_ldA (t := 45) (cs := opC k v b e six ah al pt pr wy B mm d) 32 (.tmp 7) rfl rfl (adC six ah al) rfl (bo) rfl va1 va2 (szAd _ _ _) ?_
        refine wpList_plain rfl (fun K hK => ?_)
        go_simp
        refine (HA.out _).mono ?_
        rintro e w1 ⟨bs1, d1, rfl, rfl⟩
        with_reducible refine hK _ _ ?_
        clear hK K
        have hb1 := below_plus V bs1 d1
        replace hX := hX.later hb1
        replace bo := bo.later hb1
        replace be := be.trans (hb1.mono be.size)
        clear hb1
        generalize plus V bs1 d1 = V1 at *
        iterate 2 (refine wpList_plain rfl (fun K hK => ?_); go_simp; with_reducible refine hK _ _ ?_; clear hK K)
        refine wpList_step (fun K hK => ?_); go_simp; with_reducible refine hK _ _ ?_; clear hK K
        refine wpList_ld1 (t := 45) (cs := opC k v b e six ah al pt pr wy B mm d) 5 (.tmp 12) rfl (by go_simp) rfl (bo) rfl Tryd.underlying5 rfl ?_
        iterate 2 (refine wpList_step (fun K hK => ?_); go_simp; with_reducible refine hK _ _ ?_; clear hK K)
        iterate 3 ((with_reducible refine wpList_skip ?_ ?_); (· first | (go_simp; done) | (go_simp; intro h; cases h)); simp only [Act.put, List.setIfInBounds_toArray, List.set_cons_zero, List.set_cons_succ])
        refine wpList_step (fun K hK => ?_); go_simp; with_reducible refine hK _ _ ?_; clear hK K
        iterate 2 (refine wpList_plain rfl (fun K hK => ?_); go_simp; with_reducible refine hK _ _ ?_; clear hK K)
        refine wpList_step (fun K hK => ?_); go_simp; with_reducible refine hK _ _ ?_; clear hK K
        refine wpList_ld1 (t := 45) (cs := opC k v b e six ah al pt pr wy B mm d) 3 (.tmp 22) rfl (by go_simp) rfl (bo) rfl Tryd.underlying3 rfl ?_
        refine wpList_step (fun K hK => ?_)
        go_simp
        refine (HW.out _).mono ?_
        rintro e w1 ⟨rfl, rfl⟩
        with_reducible refine hK _ _ ?_
        clear hK K
        refine wpList_step (fun K hK => ?_); go_simp; with_reducible refine hK _ _ ?_; clear hK K
        refine wpList_plain rfl (fun K hK => ?_); go_simp; with_reducible refine hK _ _ ?_; clear hK K
        go_upto_region 3 with (fail)
        have HF := Lib.hid (fun w (h : CfX G D w g C A n c E) => cfgFind_any C hk hb A n c E h.vs g (six, ah, al) pt pr w h.st h.row hn1000)
        refine wp_region_lit ?_
        iterate 2 (refine wpList_plain rfl (fun K hK => ?_); go_simp; with_reducible refine hK _ _ ?_; clear hK K)
        refine wpList_ldA (t := 45) (cs := opC k v b e six ah al pt pr wy B mm d) 32 (.tmp 28) rfl rfl (adC six ah al) rfl (bo) rfl va1 va2 (szAd _ _ _) ?_
        refine wpList_plain rfl (fun K hK => ?_); go_simp; with_reducible refine hK _ _ ?_; clear hK K
        refine wpList_ld1 (t := 45) (cs := opC k v b e six ah al pt pr wy B mm d) 42 (.tmp 30) rfl (by rfl) rfl (bo) rfl Tryd.underlying42 rfl ?_
        refine wpList_plain rfl (fun K hK => ?_); go_simp; with_reducible refine hK _ _ ?_; clear hK K
        refine wpList_ld1 (t := 45) (cs := opC k v b e six ah al pt pr wy B mm d) 5 (.tmp 32) rfl (by rfl) rfl (bo) rfl Tryd.underlying5 rfl ?_
        refine wpList_plain rfl (fun K hK => ?_)
        go_simp
        refine (HF.out _ hX).mono ?_
        rintro e w1 ⟨bs1, d1, rfl, rfl⟩
        with_reducible refine hK _ _ ?_
        clear hK K
        have hb1 := below_plus V1 bs1 d1
        replace hX := hX.later hb1
        replace bo := bo.later hb1
        replace be := be.trans (hb1.mono be.size)
        clear hb1
        generalize plus V1 bs1 d1 = V2 at *
        refine wpList_plain rfl (fun K hK => ?_); go_simp; with_reducible refine hK _ _ ?_; clear hK K
        clear HF HA
        by_cases hfd : fdC C (six, ah, al) pt pr < C.vs.length
        · have e1 : fdI C (six, ah, al) pt pr = (fdC C (six, ah, al) pt pr : Int) := if_pos hfd
          have he := Lib.hid (show addE C (⟨k, v, b, e, six, ah, al, pt, pr, wy, ms⟩ : OpR) = 7 by unfold addE; rw [if_neg (by rw [hg, hwb, HP.out]; simp), if_pos hfd])
          have hcs := Lib.hid (show addS C (⟨k, v, b, e, six, ah, al, pt, pr, wy, ms⟩ : OpR) = C from if_neg (by rw [he.out]; decide))
          rw [e1]
          generalize fdC C (six, ah, al) pt pr = fd at *
          have i0 : (0 : Int) ≤ (fd : Int) := by omega
          clear e1
          go_wp2
          go_ret
          exact ⟨by rw [he.out]; rfl, G, D, ⟨A, n, c, E, by rw [hcs.out]; exact hX⟩, Grow.refl _ _ _, Chg.of_below be⟩
        have e1 : fdI C (six, ah, al) pt pr = -1 := if_neg hfd
        rw [e1]
        clear e1
        have q0 : V2.cell? ⟨g, 278, none⟩ = some (.slice A n c) := (hX.st.cell 278).trans (stC_vips C hk hb A n c)
        by_cases h16 : 16 ≤ n
        · have i16 : (16 : Int) ≤ (n : Int) := by omega
          have he := Lib.hid (show addE C (⟨k, v, b, e, six, ah, al, pt, pr, wy, ms⟩ : OpR) = 23 by unfold addE; rw [if_neg (by rw [hg, hwb, HP.out]; simp), if_neg hfd, if_pos (by have := HNV.out; omega)])
          have hcs := Lib.hid (show addS C (⟨k, v, b, e, six, ah, al, pt, pr, wy, ms⟩ : OpR) = C from if_neg (by rw [he.out]; decide))
          go_wp2
          go_ret
          exact ⟨by rw [he.out]; rfl, G, D, ⟨A, n, c, E, by rw [hcs.out]; exact hX⟩, Grow.refl _ _ _, Chg.of_below be⟩
        have i16 : ¬ (16 : Int) ≤ (n : Int) := by omega
        have he := Lib.hid (show addE C (⟨k, v, b, e, six, ah, al, pt, pr, wy, ms⟩ : OpR) = 0 by unfold addE; rw [if_neg (by rw [hg, hwb, HP.out]; simp), if_neg hfd, if_neg (by have := HNV.out; omega)])
        have hcs := Lib.hid (show addS C (⟨k, v, b, e, six, ah, al, pt, pr, wy, ms⟩ : OpR) = { C with vs := C.vs ++ [newV C (⟨k, v, b, e, six, ah, al, pt, pr, wy, ms⟩ : OpR)] } from if_pos he.out)
        have hzs : ∀ w, (zeroValue 120).run Tryd.prog w = .ok (.agg (stkC stk0).toArray) w := fun _ => by kernel_rfl
        go_upto_region 8 with (fail)
        clear q0 hzs
        have b7 : Below V2.heap.size V2 (V2.alloc (.cells (stkC stk0).toArray 120)) := Below.allocS (Below.refl _ _) _
        have hT : Bk (V2.alloc (.cells (stkC stk0).toArray 120)) V2.heap.size 120 (stkC stk0) := Bk.new V2 120 (stkC stk0).toArray
        have zT : V2.heap.size < (V2.alloc (.cells (stkC stk0).toArray 120)).heap.size := hT.lt
        have hwT : w.heap.size < V2.heap.size := bo.lt
        have hTG : ¬ G V2.heap.size := fun h => by have := hX.lt _ h; omega
        have hmo := fun x hx => Off.more (D' := fun b => G b ∨ b = V2.heap.size) (hX.mo x hx) (fun b hb => hb.elim .inl (fun h => .inr (by rw [h]; exact Nat.le_refl _)))
        replace hX := hX.later b7
        replace hX := hX.more (G' := fun b => G b ∨ b = V2.heap.size) (fun b hb => .inl hb) (fun b hb => hb.elim (hX.lt b) (fun h => by rw [h]; exact zT)) (fun x hx => (hmo x hx).size b7.size)
        have hTD : ¬ D V2.heap.size := fun h => hTG (hX0.out.sub _ h)
        replace bo := bo.later b7
        replace be := be.trans (b7.mono be.size)
        replace hT : Bk (V2.alloc (.cells (stkC stk0).toArray 120)) V2.heap.size 120 (stkC (stE (ev0 C) 0)) := by rw [stE_0]; exact hT
        clear b7 hmo zT
        generalize V2.alloc (.cells (stkC stk0).toArray 120) = V3 at *
        generalize V2.heap.size = T at *
        go_upto_region 9 with (fail)
        have HST := Lib.hid (And.intro hX (And.intro hT (And.intro bo be)))
        clear hX hT bo be
        go_loopw [6] (fun I wr => ∃ m : Nat, I = .int .i64 (m : Int) ∧ 1 ≤ m ∧ m ≤ 65 ∧ CfX (fun b => G b ∨ b = T) D wr g C A n c E ∧ Bk wr T 120 (stkC (stE (ev0 C) (m - 1))) ∧ Bk wr w.heap.size 45 (opC k v b e six ah al pt pr wy B mm d) ∧ Below w.heap.size w wr) (fun I _ => 65 - (intOf I).toNat)
        case atStart => exact ⟨1, rfl, Nat.le_refl _, by omega, HST.out.1, HST.out.2.1, HST.out.2.2.1, HST.out.2.2.2⟩
        case round =>
          clear HST
          obtain ⟨m, rfl, hm1, hm65, hX, hT, bo, hE⟩ := hrel
          have q0 : wr.cell? ⟨g, 278, none⟩ = some (.slice A n c) := (hX.st.cell 278).trans (stC_vips C hk hb A n c)
          by_cases h64 : m ≤ 64
          · have i64 : (m : Int) ≤ 64 := by omega
            rcases Nat.eq_zero_or_pos n with h0 | h0
            · have hno : hasB (ev0 C) (m : Int) 1 64 = false := by
                have : C.vs = [] := List.eq_nil_of_length_eq_zero (by have := hX.n_; omega)
                simp [ev0, this, hasB]
              have hs := stE_no' (ev0 C) m hm1 h64 hno
              rw [hs] at hT
              have h0i : ¬ (0 : Int) < (n : Int) := by omega
              have h0n : ¬ 0 < n := by omega
              clear h0
              have HH := Lib.hid (And.intro hX (And.intro hT (And.intro bo hE)))
              clear hno hs hX hT bo hE
              go_upto_region 11 with (fail)
              refine wp_region_lit ?_
              iterate 7 (refine wpList_plain rfl (fun K hK => ?_); go_simp; with_reducible refine hK _ _ ?_; clear hK K)
              iterate 9 ((with_reducible refine wpList_skip ?_ ?_); (· first | (go_simp; done) | (go_simp; intro h; cases h)); simp only [Act.put, List.setIfInBounds_toArray, List.set_cons_zero, List.set_cons_succ])
              refine wpList_plain rfl (fun K hK => ?_); go_simp; with_reducible refine hK _ _ ?_; clear hK K
              go_wp2
              exact ⟨⟨m + 1, by go_num, by omega, by omega, HH.out.1, by simpa using HH.out.2.1, HH.out.2.2.1, HH.out.2.2.2⟩, by simp [intOf]; omega⟩
            · have hlE := hX.len
              have hnv := hX.n_
              obtain ⟨bb, cur, rfl, -, hB, -⟩ := hX.row.bk h0
              have hrg : wr.rangeAt bb (0 * 8) (veC (E[0]'(by omega))) := by
                have := hX.row.rs.rangeE veC_len 0 (by omega)
                rwa [Nat.zero_add] at this
              rw [Nat.zero_mul] at hrg
              have q7 : wr.cell? ⟨bb, 7, none⟩ = some (.pointer (some ⟨(E[0]'(by omega)).2.T, 0, none⟩)) := by simpa using hrg 7 _ rfl
              have hmem : E[0]'(by omega) ∈ E := List.getElem_mem _
              have hvm : (E[0]'(by omega)).1 ∈ C.vs := by rw [← hX.vs]; exact List.mem_map.2 ⟨_, hmem, rfl⟩
              have hvo := hC.vs _ hvm
              have hev : ∀ i : Int, deadS (E[0]'(by omega)).1.S i = hasB (ev0 C) i 1 64 := fun i => by rw [hasB_dead, hvo.ev]
              generalize E[0]'(by omega) = x0 at *
              have HEV := Lib.hid (fun w (h : CfX (fun b => G b ∨ b = T) D w g C (some ⟨bb, 0, none⟩) n c E) => evicted_any x0.1.S hvo.st.ev x0.2.T (m : Int) (by omega) w (h.tb x0 hmem))
              rw [hev] at HEV
              have h0i : (0 : Int) < (n : Int) := by omega
              clear hrg hvm hvo hev hB hnv hlE
              go_upto_region 11 with (fail)
              refine wp_region_lit ?_
              iterate 7 (refine wpList_plain rfl (fun K hK => ?_); go_simp; with_reducible refine hK _ _ ?_; clear hK K)
              iterate 8 (refine wpList_step (fun K hK => ?_); go_simp; with_reducible refine hK _ _ ?_; clear hK K)
              refine wpList_step (fun K hK => ?_)
              go_simp
              refine (HEV.out _ hX).mono ?_
              rintro e w1 ⟨bs1, d1, rfl, rfl⟩
              with_reducible refine hK _ _ ?_
              clear hK K
              have hb1 := below_plus wr bs1 d1
              replace hX := hX.later hb1
              replace hT := hT.later hb1
              replace bo := bo.later hb1
              replace hE := hE.trans (hb1.mono hE.size)
              clear hb1
              generalize plus wr bs1 d1 = W2 at *
              refine wpList_plain rfl (fun K hK => ?_); go_simp; with_reducible refine hK _ _ ?_; clear hK K
              clear HEV q0 q7
              cases hd : hasB (ev0 C) (m : Int) 1 64
              · have hs := stE_no' (ev0 C) m hm1 h64 hd
                rw [hs] at hT
                have HH := Lib.hid (And.intro hX (And.intro hT (And.intro bo hE)))
                clear hd hs hX hT bo hE
                go_wp2
                exact ⟨⟨m + 1, by go_num, by omega, by omega, HH.out.1, by simpa using HH.out.2.1, HH.out.2.2.1, HH.out.2.2.2⟩, by simp [intOf]; omega⟩
              · have hs := stE_yes' (ev0 C) m hm1 h64 hd
                have HET := Lib.hid (fun w h => evict_any (stE (ev0 C) (m - 1)) (stE_ok _ _ (by omega)) T (m : Int) (by omega) w h)
                rw [hs] at HET
                clear hd hs
                go_upto_region 12 with (fail)
                refine wp_region_lit ?_
                iterate 2 (refine wpList_plain rfl (fun K hK => ?_); go_simp; with_reducible refine hK _ _ ?_; clear hK K)
                refine wpList_plain rfl (fun K hK => ?_)
                go_simp
                refine (HET.out _ hT).mono ?_
                rintro e w1 ⟨rfl, hT2, hc2⟩
                with_reducible refine hK _ _ ?_
                clear hK K
                replace hX := hX.chg hc2 (fun b hb => .inr hb) (fun b hb => by rw [show b = T from hb]; exact hTD)
                replace bo := bo.chg hc2 (fun e => by have e : w.heap.size = T := e; omega)
                replace hE := hE.trans (hc2.below (fun b hb => by have hb : b = T := hb; omega) hE.size)
                have HH := Lib.hid (And.intro hX (And.intro hT2 (And.intro bo hE)))
                clear hX hT hT2 bo hE hc2 HET
                go_wp2
                exact ⟨⟨m + 1, by go_num, by omega, by omega, HH.out.1, by simpa using HH.out.2.1, HH.out.2.2.1, HH.out.2.2.2⟩, by simp [intOf]; omega⟩
          · have i64 : ¬ (m : Int) ≤ 64 := by omega
            obtain rfl : m = 65 := by omega
            replace hT : Bk wr T 120 (stkC (stE (ev0 C) 64)) := hT
            rw [stE_64 _ hev64] at hT
            clear hm1 hm65 h64
            obtain ⟨v0, hv0⟩ : ∃ v0, (newV C (⟨k, v, b, e, six, ah, al, pt, pr, wy, ms⟩ : OpR)) = v0 := ⟨_, rfl⟩
            have hbld : ∀ w, (Instr.build 53 #[(0, .agg (adC six ah al).toArray), (1, .int .u16 (pt : Int)), (2, .int .u8 (pr : Int)), (3, .int .i64 wy), (5, .pointer (some ⟨T, 0, none⟩))]).run Tryd.prog w = .ok (.agg (veC (v0, ⟨none, 0, 0, T⟩)).toArray) w := fun w => by rw [← hv0]; exact run_buildVe six ah al pt pr wy T _ rfl rfl rfl rfl w
            have HV0 := Lib.hid hv0
            clear hv0
            go_upto_region 13 with (fail)
            clear q0
            refine wp_relES 16 86 [0] rfl (by kernel_rfl) (by kernel_rfl) ?_
            apply Steps.oneP (.pointer (some ⟨g, 0, none⟩)) 1 rfl (by decide)
            · intro o ho FA x hO hD
              obtain rfl := Option.some.inj ho.symm
              clear ho
              have e0 := hO 0 (by kernel_rfl)
              simp only [eval_tmp, List.getElem?_toArray, List.getElem?_cons_succ, List.getElem?_cons_zero, Option.getD_some] at e0
              have ev0 := Lib.hid ((eval_tmp FA 0).trans e0)
              clear hO hD
              refine .inl ⟨by simp [Region.wanted], fun w => ?_⟩
              go_simp
            apply Steps.oneE (MP.eq _) 2 rfl (by decide)
            · intro o ho FA x hO hD K hK
              obtain rfl := Option.some.inj ho.symm
              clear ho
              have e0 := hO 0 (by kernel_rfl)
              simp only [eval_tmp, List.getElem?_toArray, List.getElem?_cons_succ, List.getElem?_cons_zero, Option.getD_some] at e0
              have ev0 := Lib.hid ((eval_tmp FA 0).trans e0)
              clear hO hD
              go_simp
              exact hK.out _ _ (Ex.refl _) rfl
            apply Steps.oneE (MP.eq _) 3 rfl (by decide)
            · intro o ho FA x hO hD K hK
              obtain rfl := Option.some.inj ho.symm
              clear ho
              have ev68 : FA.eval (.tmp 68) = _ := hD 1 68 (by kernel_rfl)
              have e68 := (eval_tmp FA 68).symm.trans ev68
              replace ev68 := Lib.hid ev68
              clear hO hD
              go_simp
              exact hK.out _ _ (Ex.refl _) rfl
            apply Steps.oneE (MP.eq _) 4 rfl (by decide)
            · intro o ho FA x hO hD K hK
              obtain rfl := Option.some.inj ho.symm
              clear ho
              have ev69 : FA.eval (.tmp 69) = _ := hD 2 69 (by kernel_rfl)
              have e69 := (eval_tmp FA 69).symm.trans ev69
              replace ev69 := Lib.hid ev69
              clear hO hD
              go_simp
              exact hK.out _ _ (Ex.refl _) rfl
            apply Steps.oneE (MP.eq _) 5 rfl (by decide)
            · intro o ho FA x hO hD K hK
              obtain rfl := Option.some.inj ho.symm
              clear ho
              have ev70 : FA.eval (.tmp 70) = _ := hD 3 70 (by kernel_rfl)
              have e70 := (eval_tmp FA 70).symm.trans ev70
              replace ev70 := Lib.hid ev70
              clear hO hD
              refine wanted_if rfl ?_
              refine wp_ld1 88 (.tmp 70) rfl ev70.out (hX.st.later (below_plus _ _ _)) (stC_vips C hk hb A n c) Tryd.underlying88 rfl ?_
              exact hK.out _ _ (Ex.refl _) rfl
            apply Steps.oneE (MP.eq _) 6 rfl (by decide)
            · intro o ho FA x hO hD K hK
              obtain rfl := Option.some.inj ho.symm
              clear ho
              have e3 := hO 3 (by kernel_rfl)
              simp only [eval_tmp, List.getElem?_toArray, List.getElem?_cons_succ, List.getElem?_cons_zero, Option.getD_some] at e3
              have ev3 := Lib.hid ((eval_tmp FA 3).trans e3)
              clear hO hD
              go_simp
              exact hK.out _ _ (Ex.refl _) rfl
            apply Steps.oneE (MP.eq _) 7 rfl (by decide)
            · intro o ho FA x hO hD K hK
              obtain rfl := Option.some.inj ho.symm
              clear ho
              have ev72 : FA.eval (.tmp 72) = _ := hD 5 72 (by kernel_rfl)
              have e72 := (eval_tmp FA 72).symm.trans ev72
              replace ev72 := Lib.hid ev72
              clear hO hD
              refine wanted_if rfl ?_
              refine wp_ldA 32 (.tmp 72) rfl (adC six ah al) ev72.out (bo.later (below_plus _ _ _)) rfl va1 va2 (szAd _ _ _) ?_
              exact hK.out _ _ (Ex.refl _) rfl
            apply Steps.oneE (MP.eq _) 8 rfl (by decide)
            · intro o ho FA x hO hD K hK
              obtain rfl := Option.some.inj ho.symm
              clear ho
              have e3 := hO 3 (by kernel_rfl)
              simp only [eval_tmp, List.getElem?_toArray, List.getElem?_cons_succ, List.getElem?_cons_zero, Option.getD_some] at e3
              have ev3 := Lib.hid ((eval_tmp FA 3).trans e3)
              clear hO hD
              go_simp
              exact hK.out _ _ (Ex.refl _) rfl
            apply Steps.oneE (MP.eq _) 9 rfl (by decide)
            · intro o ho FA x hO hD K hK
              obtain rfl := Option.some.inj ho.symm
              clear ho
              have ev74 : FA.eval (.tmp 74) = _ := hD 7 74 (by kernel_rfl)
              have e74 := (eval_tmp FA 74).symm.trans ev74
              replace ev74 := Lib.hid ev74
              clear hO hD
              refine wanted_if rfl ?_
              refine wp_ld1 42 (.tmp 74) rfl ev74.out (bo.later (below_plus _ _ _)) rfl Tryd.underlying42 rfl ?_
              exact hK.out _ _ (Ex.refl _) rfl
            apply Steps.oneE (MP.eq _) 10 rfl (by decide)
            · intro o ho FA x hO hD K hK
              obtain rfl := Option.some.inj ho.symm
              clear ho
              have e3 := hO 3 (by kernel_rfl)
              simp only [eval_tmp, List.getElem?_toArray, List.getElem?_cons_succ, List.getElem?_cons_zero, Option.getD_some] at e3
              have ev3 := Lib.hid ((eval_tmp FA 3).trans e3)
              clear hO hD
              go_simp
              exact hK.out _ _ (Ex.refl _) rfl
            apply Steps.oneE (MP.eq _) 11 rfl (by decide)
            · intro o ho FA x hO hD K hK
              obtain rfl := Option.some.inj ho.symm
              clear ho
              have ev76 : FA.eval (.tmp 76) = _ := hD 9 76 (by kernel_rfl)
              have e76 := (eval_tmp FA 76).symm.trans ev76
              replace ev76 := Lib.hid ev76
              clear hO hD
              refine wanted_if rfl ?_
              refine wp_ld1 5 (.tmp 76) rfl ev76.out (bo.later (below_plus _ _ _)) rfl Tryd.underlying5 rfl ?_
              exact hK.out _ _ (Ex.refl _) rfl
            apply Steps.oneE (MP.eq _) 12 rfl (by decide)
            · intro o ho FA x hO hD K hK
              obtain rfl := Option.some.inj ho.symm
              clear ho
              have e3 := hO 3 (by kernel_rfl)
              simp only [eval_tmp, List.getElem?_toArray, List.getElem?_cons_succ, List.getElem?_cons_zero, Option.getD_some] at e3
              have ev3 := Lib.hid ((eval_tmp FA 3).trans e3)
              clear hO hD
              go_simp
              exact hK.out _ _ (Ex.refl _) rfl
            apply Steps.oneE (MP.eq _) 13 rfl (by decide)
            · intro o ho FA x hO hD K hK
              obtain rfl := Option.some.inj ho.symm
              clear ho
              have ev78 : FA.eval (.tmp 78) = _ := hD 11 78 (by kernel_rfl)
              have e78 := (eval_tmp FA 78).symm.trans ev78
              replace ev78 := Lib.hid ev78
              clear hO hD
              refine wanted_if rfl ?_
              refine wp_ld1 3 (.tmp 78) rfl ev78.out (bo.later (below_plus _ _ _)) rfl Tryd.underlying3 rfl ?_
              exact hK.out _ _ (Ex.refl _) rfl
            apply Steps.oneE (MP.eq _) 14 rfl (by decide)
            · intro o ho FA x hO hD K hK
              obtain rfl := Option.some.inj ho.symm
              clear ho
              have e5 := hO 5 (by kernel_rfl)
              simp only [eval_tmp, List.getElem?_toArray, List.getElem?_cons_succ, List.getElem?_cons_zero, Option.getD_some] at e5
              have ev5 := Lib.hid ((eval_tmp FA 5).trans e5)
              clear hO hD
              go_simp
              exact hK.out _ _ (Ex.refl _) rfl
            apply Steps.oneE (MP.eq _) 15 rfl (by decide)
            · intro o ho FA x hO hD K hK
              obtain rfl := Option.some.inj ho.symm
              clear ho
              have ev73 : FA.eval (.tmp 73) = _ := hD 6 73 (by kernel_rfl)
              have e73 := (eval_tmp FA 73).symm.trans ev73
              replace ev73 := Lib.hid ev73
              have ev75 : FA.eval (.tmp 75) = _ := hD 8 75 (by kernel_rfl)
              have e75 := (eval_tmp FA 75).symm.trans ev75
              replace ev75 := Lib.hid ev75
              have ev77 : FA.eval (.tmp 77) = _ := hD 10 77 (by kernel_rfl)
              have e77 := (eval_tmp FA 77).symm.trans ev77
              replace ev77 := Lib.hid ev77
              have ev79 : FA.eval (.tmp 79) = _ := hD 12 79 (by kernel_rfl)
              have e79 := (eval_tmp FA 79).symm.trans ev79
              replace ev79 := Lib.hid ev79
              have ev80 : FA.eval (.tmp 80) = _ := hD 13 80 (by kernel_rfl)
              have e80 := (eval_tmp FA 80).symm.trans ev80
              replace ev80 := Lib.hid ev80
              clear hO hD
              refine wanted_if rfl ?_
              refine wp_buildV 53 [(0, .tmp 73), (1, .tmp 75), (2, .tmp 77), (3, .tmp 79), (5, .tmp 80)] rfl (.agg (veC (v0, ⟨none, 0, 0, T⟩)).toArray) (by simp only [List.map_cons, List.map_nil, ev73.out, ev75.out, ev77.out, ev79.out, ev80.out]; exact hbld _) ?_
              exact hK.out _ _ (Ex.refl _) rfl
            apply Steps.oneE (MP.ofs 53 8 0 (veC (v0, ⟨none, 0, 0, T⟩))) 16 rfl (by decide)
            · intro o ho FA x hO hD K hK
              obtain rfl := Option.some.inj ho.symm
              clear ho
              have ev81 : FA.eval (.tmp 81) = _ := hD 14 81 (by kernel_rfl)
              have e81 := (eval_tmp FA 81).symm.trans ev81
              replace ev81 := Lib.hid ev81
              clear hO hD
              go_simp
              refine hK.out _ _ (Ex.alloc _ _) ⟨_, _, rfl, ?_⟩
              have h := Os.lit (s := 8) (e := 53) (base := 0) (plus wr x.bs x.d) (Nat.zero_le _) (veC (v0, ⟨none, 0, 0, T⟩)).toArray 1 rfl (by decide)
              exact h
            refine Steps.fin_ (fun vs x hp => ?_)
            have p0 : vs 0 = _ := hp 0 (by omega)
            have p1 : vs 1 = _ := hp 1 (by omega)
            have p2 : vs 2 = _ := hp 2 (by omega)
            have p3 : vs 3 = _ := hp 3 (by omega)
            have p4 : vs 4 = _ := hp 4 (by omega)
            have p5 : vs 5 = _ := hp 5 (by omega)
            have p6 : vs 6 = _ := hp 6 (by omega)
            have p7 : vs 7 = _ := hp 7 (by omega)
            have p8 : vs 8 = _ := hp 8 (by omega)
            have p9 : vs 9 = _ := hp 9 (by omega)
            have p10 : vs 10 = _ := hp 10 (by omega)
            have p11 : vs 11 = _ := hp 11 (by omega)
            have p12 : vs 12 = _ := hp 12 (by omega)
            have p13 : vs 13 = _ := hp 13 (by omega)
            have p14 : vs 14 = _ := hp 14 (by omega)
            have p15 := hp 15 (by omega)
            clear hp
            simp only [List.take_succ_cons, List.take_zero, List.drop_succ_cons, List.drop_zero, putAll, Nat.zero_add, Nat.reduceAdd, Act.put, List.setIfInBounds_toArray, List.set_cons_zero, List.set_cons_succ, p0, p1, p2, p3, p4, p5, p6, p7, p8, p9, p10, p11, p12, p13, p14]
            clear p0 p1 p2 p3 p4 p5 p6 p7 p8 p9 p10 p11 p12 p13 p14
            generalize vs 15 = y15 at *
            clear vs
            obtain ⟨A15, n15, rfl, h15⟩ := p15
            obtain rfl : n15 = 1 := by have := h15.1; rw [veC_len] at this; omega
            have hb13 := below_plus wr x.bs x.d
            replace hX := hX.later hb13
            replace hT := hT.later hb13
            replace hE := hE.trans (hb13.mono hE.size)
            clear hb13 bo
            generalize plus wr x.bs x.d = Z at *
            have hgr := hX.own_ne_g
            refine wpList_appS2 etVe rfl (.tmp 71) (.tmp 82) rfl rfl hX.row rfl h15.rs (veC_one _) (by omega) (Nat.zero_le _) ?_
            intro A5 n5 c5 w5 hn5 hO5 hb5 hg5 hob5
            subst hn5
            simp only [Act.put, List.setIfInBounds_toArray, List.set_cons_zero, List.set_cons_succ]
            have hst5 := hX.st.grown hg5 hgr
            iterate 2 (refine wpList_plain rfl (fun K hK => ?_); go_simp; with_reducible refine hK _ _ ?_; clear hK K)
            refine wpList_st1 (v := .slice A5 (n + 1) c5) 88 (.tmp 85) (.tmp 83) rfl rfl rfl rfl hst5 (by rw [stC_len C hk hb]; omega) rfl (by kernel_rfl) ?_
            intro W6 h6 g6
            simp only [Act.put, List.setIfInBounds_toArray, List.set_cons_zero, List.set_cons_succ]
            have hg6 := hX.add hT (Or.inr rfl) hTD (by rw [← HV0.out]; rfl) (by rw [← HV0.out]; rfl) hO5 hg5 (fun b hb => by
              rcases hob5 with h | h
              · exact .inl (by rw [← h]; exact hb)
              · rw [h] at hb; injection hb with hb; exact .inr (by omega)) (C' := { C with vs := C.vs ++ [v0] }) (by rw [← stC_setVips C hk hb A n c]; exact h6) g6 rfl
            have hch : Chg D w W6 := ((Chg.of_below hE).trans (Chg.grown hg5 (fun k hk => hX.dr k hk))).trans (Chg.one g6 hX.dg)
            go_wp2
            go_wp2
            apply_assumption
            go_wp2
            go_ret
            refine ⟨by rw [he.out]; rfl, (fun b => (G b ∨ b = T) ∨ (Value.slice A5 (n + 1) c5).ownBlock = some b), (fun b => D b ∨ b = T ∨ (Value.slice A5 (n + 1) c5).ownBlock = some b), ⟨_, _, _, _, by rw [hcs.out, HV0.out]; exact hg6⟩, ⟨fun b hb => .inl (.inl hb), fun b hb => ?_, fun b hb => ?_⟩, hch⟩
            · rcases hb with (hb | hb) | hb
              · exact .inl hb
              · exact .inr (by rw [hb]; exact Nat.le_of_lt hwT)
              · rcases hob5 with h | h
                · exact .inl (hX0.out.sub _ (hX.dr b (by rw [← h]; exact hb)))
                · rw [h] at hb; injection hb with hb; exact .inr (by rw [← hb]; exact hE.size)
            · rcases hb with hb | hb | hb
              · exact .inl hb
              · exact .inr (by rw [hb]; exact Nat.le_of_lt hwT)
              · rcases hob5 with h | h
                · exact .inl (hX.dr b (by rw [← h]; exact hb))
                · rw [h] at hb; injection hb with hb; exact .inr (by rw [← hb]; exact hE.size)
    · have h6i : ((pr : Int) != 6) = true := by simp; omega
      by_cases h17 : pr = 17
      · have h17i : ((pr : Int) != 17) = false := by simp; omega
        have HP := Lib.hid (show decide (pr = 6 ∨ pr = 17) = true by simp [h17])
        clear h6 h17
        cases hwb : wyB wy
        · rw [hwb] at HW
          have he := Lib.hid (show addE C (⟨k, v, b, e, six, ah, al, pt, pr, wy, ms⟩ : OpR) = 1 by unfold addE; rw [if_pos (by simp [hwb])])
          have hcs := Lib.hid (show addS C (⟨k, v, b, e, six, ah, al, pt, pr, wy, ms⟩ : OpR) = C from if_neg (by rw [he.out]; decide))
          have bo : Bk (w.alloc (.cells (opC k v b e six ah al pt pr wy B mm d).toArray 45)) w.heap.size 45 (opC k v b e six ah al pt pr wy B mm d) := Bk.new w 45 (opC k v b e six ah al pt pr wy B mm d).toArray
          have be : Below w.heap.size w (w.alloc (.cells (opC k v b e six ah al pt pr wy B mm d).toArray 45)) := Below.allocS (Below.refl _ _) _
          have zV : w.heap.size + 1 ≤ (w.alloc (.cells (opC k v b e six ah al pt pr wy B mm d).toArray 45)).heap.size := by simp
          go_enter Tryd.func51, Tryd.ntmps51
          go_upto_region 1 with (fail)
          generalize w.alloc (.cells (opC k v b e six ah al pt pr wy B mm d).toArray 45) = V at *
          replace hX := hX.later be
          refine wp_region_lit ?_
          refine wpList_plain rfl (fun K hK => ?_); go_simp; with_reducible refine hK _ _ ?_; clear hK K
          refine wpList_ldA (t := 45) (cs := opC k v b e six ah al pt pr wy B mm d) 32 (.tmp 7) rfl rfl (adC six ah al) rfl (bo) rfl va1 va2 (szAd _ _ _) ?_
          refine wpList_plain rfl (fun K hK => ?_)
          go_simp
          refine (HA.out _).mono ?_
          rintro e w1 ⟨bs1, d1, rfl, rfl⟩
          with_reducible refine hK _ _ ?_
          clear hK K
          have hb1 := below_plus V bs1 d1
          replace hX := hX.later hb1
          replace bo := bo.later hb1
          replace be := be.trans (hb1.mono be.size)
          clear hb1
          generalize plus V bs1 d1 = V1 at *
          iterate 2 (refine wpList_plain rfl (fun K hK => ?_); go_simp; with_reducible refine hK _ _ ?_; clear hK K)
          refine wpList_step (fun K hK => ?_); go_simp; with_reducible refine hK _ _ ?_; clear hK K
          refine wpList_ld1 (t := 45) (cs := opC k v b e six ah al pt pr wy B mm d) 5 (.tmp 12) rfl (by go_simp) rfl (bo) rfl Tryd.underlying5 rfl ?_
          iterate 3 (refine wpList_step (fun K hK => ?_); go_simp; with_reducible refine hK _ _ ?_; clear hK K)
          refine wpList_ld1 (t := 45) (cs := opC k v b e six ah al pt pr wy B mm d) 5 (.tmp 16) rfl (by go_simp) rfl (bo) rfl Tryd.underlying5 rfl ?_
          iterate 2 (refine wpList_step (fun K hK => ?_); go_simp; with_reducible refine hK _ _ ?_; clear hK K)
          iterate 2 (refine wpList_plain rfl (fun K hK => ?_); go_simp; with_reducible refine hK _ _ ?_; clear hK K)
          refine wpList_step (fun K hK => ?_); go_simp; with_reducible refine hK _ _ ?_; clear hK K
          refine wpList_ld1 (t := 45) (cs := opC k v b e six ah al pt pr wy B mm d) 3 (.tmp 22) rfl (by go_simp) rfl (bo) rfl Tryd.underlying3 rfl ?_
          refine wpList_step (fun K hK => ?_)
          go_simp
          refine (HW.out _).mono ?_
          rintro e w1 ⟨rfl, rfl⟩
          with_reducible refine hK _ _ ?_
          clear hK K
          refine wpList_step (fun K hK => ?_); go_simp; with_reducible refine hK _ _ ?_; clear hK K
          refine wpList_plain rfl (fun K hK => ?_); go_simp; with_reducible refine hK _ _ ?_; clear hK K
          go_wp2
          go_ret
          exact ⟨by rw [he.out]; rfl, G, D, ⟨A, n, c, E, by rw [hcs.out]; exact hX⟩, Grow.refl _ _ _, Chg.of_below be⟩
        · rw [hwb] at HW
          have bo : Bk (w.alloc (.cells (opC k v b e six ah al pt pr wy B mm d).toArray 45)) w.heap.size 45 (opC k v b e six ah al pt pr wy B mm d) := Bk.new w 45 (opC k v b e six ah al pt pr wy B mm d).toArray
          have be : Below w.heap.size w (w.alloc (.cells (opC k v b e six ah al pt pr wy B mm d).toArray 45)) := Below.allocS (Below.refl _ _) _
          have zV : w.heap.size + 1 ≤ (w.alloc (.cells (opC k v b e six ah al pt pr wy B mm d).toArray 45)).heap.size := by simp
          go_enter Tryd.func51, Tryd.ntmps51
          go_upto_region 1 with (fail)
          generalize w.alloc (.cells (opC k v b e six ah al pt pr wy B mm d).toArray 45) = V at *
          replace hX := hX.later be
          refine wp_region_lit ?_
          refine wpList_plain rfl (fun K hK => ?_); go_simp; with_reducible refine hK _ _ ?_; clear hK K
          refine wpList_ldA (t := 45) (cs := opC k v b e six ah al pt pr wy B mm d) 32 (.tmp 7) rfl rfl (adC six ah al) rfl (bo) rfl va1 va2 (szAd _ _ _) ?_
          refine wpList_plain rfl (fun K hK => ?_)
          go_simp
          refine (HA.out _).mono ?_
          rintro e w1 ⟨bs1, d1, rfl, rfl⟩
          with_reducible refine hK _ _ ?_
          clear hK K
          have hb1 := below_plus V bs1 d1
          replace hX := hX.later hb1
          replace bo := bo.later hb1
          replace be := be.trans (hb1.mono be.size)
          clear hb1
          generalize plus V bs1 d1 = V1 at *
          iterate 2 (refine wpList_plain rfl (fun K hK => ?_); go_simp; with_reducible refine hK _ _ ?_; clear hK K)
          refine wpList_step (fun K hK => ?_); go_simp; with_reducible refine hK _ _ ?_; clear hK K
          refine wpList_ld1 (t := 45) (cs := opC k v b e six ah al pt pr wy B mm d) 5 (.tmp 12) rfl (by go_simp) rfl (bo) rfl Tryd.underlying5 rfl ?_
          iterate 3 (refine wpList_step (fun K hK => ?_); go_simp; with_reducible refine hK _ _ ?_; clear hK K)
          refine wpList_ld1 (t := 45) (cs := opC k v b e six ah al pt pr wy B mm d) 5 (.tmp 16) rfl (by go_simp) rfl (bo) rfl Tryd.underlying5 rfl ?_
          iterate 2 (refine wpList_step (fun K hK => ?_); go_simp; with_reducible refine hK _ _ ?_; clear hK K)
          iterate 2 (refine wpList_plain rfl (fun K hK => ?_); go_simp; with_reducible refine hK _ _ ?_; clear hK K)
          refine wpList_step (fun K hK => ?_); go_simp; with_reducible refine hK _ _ ?_; clear hK K
          refine wpList_ld1 (t := 45) (cs := opC k v b e six ah al pt pr wy B mm d) 3 (.tmp 22) rfl (by go_simp) rfl (bo) rfl Tryd.underlying3 rfl ?_
          refine wpList_step (fun K hK => ?_)
          go_simp
          refine (HW.out _).mono ?_
          rintro e w1 ⟨rfl, rfl⟩
          with_reducible refine hK _ _ ?_
          clear hK K
          refine wpList_step (fun K hK => ?_); go_simp; with_reducible refine hK _ _ ?_; clear hK K
          refine wpList_plain rfl (fun K hK => ?_); go_simp; with_reducible refine hK _ _ ?_; clear hK K
          go_upto_region 3 with (fail)
          have HF := Lib.hid (fun w (h : CfX G D w g C A n c E) => cfgFind_any C hk hb A n c E h.vs g (six, ah, al) pt pr w h.st h.row hn1000)
          refine wp_region_lit ?_
          iterate 2 (refine wpList_plain rfl (fun K hK => ?_); go_simp; with_reducible refine hK _ _ ?_; clear hK K)
          refine wpList_ldA (t := 45) (cs := opC k v b e six ah al pt pr wy B mm d) 32 (.tmp 28) rfl rfl (adC six ah al) rfl (bo) rfl va1 va2 (szAd _ _ _) ?_
          refine wpList_plain rfl (fun K hK => ?_); go_simp; with_reducible refine hK _ _ ?_; clear hK K
          refine wpList_ld1 (t := 45) (cs := opC k v b e six ah al pt pr wy B mm d) 42 (.tmp 30) rfl (by rfl) rfl (bo) rfl Tryd.underlying42 rfl ?_
          refine wpList_plain rfl (fun K hK => ?_); go_simp; with_reducible refine hK _ _ ?_; clear hK K
          refine wpList_ld1 (t := 45) (cs := opC k v b e six ah al pt pr wy B mm d) 5 (.tmp 32) rfl (by rfl) rfl (bo) rfl Tryd.underlying5 rfl ?_
          refine wpList_plain rfl (fun K hK => ?_)
          go_simp
          refine (HF.out _ hX).mono ?_
          rintro e w1 ⟨bs1, d1, rfl, rfl⟩
          with_reducible refine hK _ _ ?_
          clear hK K
          have hb1 := below_plus V1 bs1 d1
          replace hX := hX.later hb1
          replace bo := bo.later hb1
          replace be := be.trans (hb1.mono be.size)
          clear hb1
          generalize plus V1 bs1 d1 = V2 at *
          refine wpList_plain rfl (fun K hK => ?_); go_simp; with_reducible refine hK _ _ ?_; clear hK K
          clear HF HA
          by_cases hfd : fdC C (six, ah, al) pt pr < C.vs.length
          · have e1 : fdI C (six, ah, al) pt pr = (fdC C (six, ah, al) pt pr : Int) := if_pos hfd
            have he := Lib.hid (show addE C (⟨k, v, b, e, six, ah, al, pt, pr, wy, ms⟩ : OpR) = 7 by unfold addE; rw [if_neg (by rw [hg, hwb, HP.out]; simp), if_pos hfd])
            have hcs := Lib.hid (show addS C (⟨k, v, b, e, six, ah, al, pt, pr, wy, ms⟩ : OpR) = C from if_neg (by rw [he.out]; decide))
            rw [e1]
            generalize fdC C (six, ah, al) pt pr = fd at *
            have i0 : (0 : Int) ≤ (fd : Int) := by omega
            clear e1
            go_wp2
            go_ret
            exact ⟨by rw [he.out]; rfl, G, D, ⟨A, n, c, E, by rw [hcs.out]; exact hX⟩, Grow.refl _ _ _, Chg.of_below be⟩
          have e1 : fdI C (six, ah, al) pt pr = -1 := if_neg hfd
          rw [e1]
          clear e1
          have q0 : V2.cell? ⟨g, 278, none⟩ = some (.slice A n c) := (hX.st.cell 278).trans (stC_vips C hk hb A n c)
          by_cases h16 : 16 ≤ n
          · have i16 : (16 : Int) ≤ (n : Int) := by omega
            have he := Lib.hid (show addE C (⟨k, v, b, e, six, ah, al, pt, pr, wy, ms⟩ : OpR) = 23 by unfold addE; rw [if_neg (by rw [hg, hwb, HP.out]; simp), if_neg hfd, if_pos (by have := HNV.out; omega)])
            have hcs := Lib.hid (show addS C (⟨k, v, b, e, six, ah, al, pt, pr, wy, ms⟩ : OpR) = C from if_neg (by rw [he.out]; decide))
            go_wp2
            go_ret
            exact ⟨by rw [he.out]; rfl, G, D, ⟨A, n, c, E, by rw [hcs.out]; exact hX⟩, Grow.refl _ _ _, Chg.of_below be⟩
          have i16 : ¬ (16 : Int) ≤ (n : Int) := by omega
          have he := Lib.hid (show addE C (⟨k, v, b, e, six, ah, al, pt, pr, wy, ms⟩ : OpR) = 0 by unfold addE; rw [if_neg (by rw [hg, hwb, HP.out]; simp), if_neg hfd, if_neg (by have := HNV.out; omega)])
          have hcs := Lib.hid (show addS C (⟨k, v, b, e, six, ah, al, pt, pr, wy, ms⟩ : OpR) = { C with vs := C.vs ++ [newV C (⟨k, v, b, e, six, ah, al, pt, pr, wy, ms⟩ : OpR)] } from if_pos he.out)
          have hzs : ∀ w, (zeroValue 120).run Tryd.prog w = .ok (.agg (stkC stk0).toArray) w := fun _ => by kernel_rfl
          go_upto_region 8 with (fail)
          clear q0 hzs
          have b7 : Below V2.heap.size V2 (V2.alloc (.cells (stkC stk0).toArray 120)) := Below.allocS (Below.refl _ _) _
          have hT : Bk (V2.alloc (.cells (stkC stk0).toArray 120)) V2.heap.size 120 (stkC stk0) := Bk.new V2 120 (stkC stk0).toArray
          have zT : V2.heap.size < (V2.alloc (.cells (stkC stk0).toArray 120)).heap.size := hT.lt
          have hwT : w.heap.size < V2.heap.size := bo.lt
          have hTG : ¬ G V2.heap.size := fun h => by have := hX.lt _ h; omega
          have hmo := fun x hx => Off.more (D' := fun b => G b ∨ b = V2.heap.size) (hX.mo x hx) (fun b hb => hb.elim .inl (fun h => .inr (by rw [h]; exact Nat.le_refl _)))
          replace hX := hX.later b7
          replace hX := hX.more (G' := fun b => G b ∨ b = V2.heap.size) (fun b hb => .inl hb) (fun b hb => hb.elim (hX.lt b) (fun h => by rw [h]; exact zT)) (fun x hx => (hmo x hx).size b7.size)
          have hTD : ¬ D V2.heap.size := fun h => hTG (hX0.out.sub _ h)
          replace bo := bo.later b7
          replace be := be.trans (b7.mono be.size)
          replace hT : Bk (V2.alloc (.cells (stkC stk0).toArray 120)) V2.heap.size 120 (stkC (stE (ev0 C) 0)) := by rw [stE_0]; exact hT
          clear b7 hmo zT
          generalize V2.alloc (.cells (stkC stk0).toArray 120) = V3 at *
          generalize V2.heap.size = T at *
          go_upto_region 9 with (fail)
          have HST := Lib.hid (And.intro hX (And.intro hT (And.intro bo be)))
          clear hX hT bo be
          go_loopw [6] (fun I wr => ∃ m : Nat, I = .int .i64 (m : Int) ∧ 1 ≤ m ∧ m ≤ 65 ∧ CfX (fun b => G b ∨ b = T) D wr g C A n c E ∧ Bk wr T 120 (stkC (stE (ev0 C) (m - 1))) ∧ Bk wr w.heap.size 45 (opC k v b e six ah al pt pr wy B mm d) ∧ Below w.heap.size w wr) (fun I _ => 65 - (intOf I).toNat)
          case atStart => exact ⟨1, rfl, Nat.le_refl _, by omega, HST.out.1, HST.out.2.1, HST.out.2.2.1, HST.out.2.2.2⟩
          case round =>
            clear HST
            obtain ⟨m, rfl, hm1, hm65, hX, hT, bo, hE⟩ := hrel
            have q0 : wr.cell? ⟨g, 278, none⟩ = some (.slice A n c) := (hX.st.cell 278).trans (stC_vips C hk hb A n c)
            by_cases h64 : m ≤ 64
            · have i64 : (m : Int) ≤ 64 := by omega
              rcases Nat.eq_zero_or_pos n with h0 | h0
              · have hno : hasB (ev0 C) (m : Int) 1 64 = false := by
                  have : C.vs = [] := List.eq_nil_of_length_eq_zero (by have := hX.n_; omega)
                  simp [ev0, this, hasB]
                have hs := stE_no' (ev0 C) m hm1 h64 hno
                rw [hs] at hT
                have h0i : ¬ (0 : Int) < (n : Int) := by omega
                have h0n : ¬ 0 < n := by omega
                clear h0
                have HH := Lib.hid (And.intro hX (And.intro hT (And.intro bo hE)))
                clear hno hs hX hT bo hE
                go_upto_region 11 with (fail)
                refine wp_region_lit ?_
                iterate 7 (refine wpList_plain rfl (fun K hK => ?_); go_simp; with_reducible refine hK _ _ ?_; clear hK K)
                iterate 9 ((with_reducible refine wpList_skip ?_ ?_); (· first | (go_simp; done) | (go_simp; intro h; cases h)); simp only [Act.put, List.setIfInBounds_toArray, List.set_cons_zero, List.set_cons_succ])
                refine wpList_plain rfl (fun K hK => ?_); go_simp; with_reducible refine hK _ _ ?_; clear hK K
                go_wp2
                exact ⟨⟨m + 1, by go_num, by omega, by omega, HH.out.1, by simpa using HH.out.2.1, HH.out.2.2.1, HH.out.2.2.2⟩, by simp [intOf]; omega⟩
              · have hlE := hX.len
                have hnv := hX.n_
                obtain ⟨bb, cur, rfl, -, hB, -⟩ := hX.row.bk h0
                have hrg : wr.rangeAt bb (0 * 8) (veC (E[0]'(by omega))) := by
                  have := hX.row.rs.rangeE veC_len 0 (by omega)
                  rwa [Nat.zero_add] at this
                rw [Nat.zero_mul] at hrg
                have q7 : wr.cell? ⟨bb, 7, none⟩ = some (.pointer (some ⟨(E[0]'(by omega)).2.T, 0, none⟩)) := by simpa using hrg 7 _ rfl
                have hmem : E[0]'(by omega) ∈ E := List.getElem_mem _
                have hvm : (E[0]'(by omega)).1 ∈ C.vs := by rw [← hX.vs]; exact List.mem_map.2 ⟨_, hmem, rfl⟩
                have hvo := hC.vs _ hvm
                have hev : ∀ i : Int, deadS (E[0]'(by omega)).1.S i = hasB (ev0 C) i 1 64 := fun i => by rw [hasB_dead, hvo.ev]
                generalize E[0]'(by omega) = x0 at *
                have HEV := Lib.hid (fun w (h : CfX (fun b => G b ∨ b = T) D w g C (some ⟨bb, 0, none⟩) n c E) => evicted_any x0.1.S hvo.st.ev x0.2.T (m : Int) (by omega) w (h.tb x0 hmem))
                rw [hev] at HEV
                have h0i : (0 : Int) < (n : Int) := by omega
                clear hrg hvm hvo hev hB hnv hlE
                go_upto_region 11 with (fail)
                refine wp_region_lit ?_
                iterate 7 (refine wpList_plain rfl (fun K hK => ?_); go_simp; with_reducible refine hK _ _ ?_; clear hK K)
                iterate 8 (refine wpList_step (fun K hK => ?_); go_simp; with_reducible refine hK _ _ ?_; clear hK K)
                refine wpList_step (fun K hK => ?_)
                go_simp
                refine (HEV.out _ hX).mono ?_
                rintro e w1 ⟨bs1, d1, rfl, rfl⟩
                with_reducible refine hK _ _ ?_
                clear hK K
                have hb1 := below_plus wr bs1 d1
                replace hX := hX.later hb1
                replace hT := hT.later hb1
                replace bo := bo.later hb1
                replace hE := hE.trans (hb1.mono hE.size)
                clear hb1
                generalize plus wr bs1 d1 = W2 at *
                refine wpList_plain rfl (fun K hK => ?_); go_simp; with_reducible refine hK _ _ ?_; clear hK K
                clear HEV q0 q7
                cases hd : hasB (ev0 C) (m : Int) 1 64
                · have hs := stE_no' (ev0 C) m hm1 h64 hd
                  rw [hs] at hT
                  have HH := Lib.hid (And.intro hX (And.intro hT (And.intro bo hE)))
                  clear hd hs hX hT bo hE
                  go_wp2
                  exact ⟨⟨m + 1, by go_num, by omega, by omega, HH.out.1, by simpa using HH.out.2.1, HH.out.2.2.1, HH.out.2.2.2⟩, by simp [intOf]; omega⟩
                · have hs := stE_yes' (ev0 C) m hm1 h64 hd
                  have HET := Lib.hid (fun w h => evict_any (stE (ev0 C) (m - 1)) (stE_ok _ _ (by omega)) T (m : Int) (by omega) w h)
                  rw [hs] at HET
                  clear hd hs
                  go_upto_region 12 with (fail)
                  refine wp_region_lit ?_
                  iterate 2 (refine wpList_plain rfl (fun K hK => ?_); go_simp; with_reducible refine hK _ _ ?_; clear hK K)
                  refine wpList_plain rfl (fun K hK => ?_)
                  go_simp
                  refine (HET.out _ hT).mono ?_
                  rintro e w1 ⟨rfl, hT2, hc2⟩
                  with_reducible refine hK _ _ ?_
                  clear hK K
                  replace hX := hX.chg hc2 (fun b hb => .inr hb) (fun b hb => by rw [show b = T from hb]; exact hTD)
                  replace bo := bo.chg hc2 (fun e => by have e : w.heap.size = T := e; omega)
                  replace hE := hE.trans (hc2.below (fun b hb => by have hb : b = T := hb; omega) hE.size)
                  have HH := Lib.hid (And.intro hX (And.intro hT2 (And.intro bo hE)))
                  clear hX hT hT2 bo hE hc2 HET
                  go_wp2
                  exact ⟨⟨m + 1, by go_num, by omega, by omega, HH.out.1, by simpa using HH.out.2.1, HH.out.2.2.1, HH.out.2.2.2⟩, by simp [intOf]; omega⟩
            · have i64 : ¬ (m : Int) ≤ 64 := by omega
              obtain rfl : m = 65 := by omega
              replace hT : Bk wr T 120 (stkC (stE (ev0 C) 64)) := hT
              rw [stE_64 _ hev64] at hT
              clear hm1 hm65 h64
              obtain ⟨v0, hv0⟩ : ∃ v0, (newV C (⟨k, v, b, e, six, ah, al, pt, pr, wy, ms⟩ : OpR)) = v0 := ⟨_, rfl⟩
              have hbld : ∀ w, (Instr.build 53 #[(0, .agg (adC six ah al).toArray), (1, .int .u16 (pt : Int)), (2, .int .u8 (pr : Int)), (3, .int .i64 wy), (5, .pointer (some ⟨T, 0, none⟩))]).run Tryd.prog w = .ok (.agg (veC (v0, ⟨none, 0, 0, T⟩)).toArray) w := fun w => by rw [← hv0]; exact run_buildVe six ah al pt pr wy T _ rfl rfl rfl rfl w
              have HV0 := Lib.hid hv0
              clear hv0
              go_upto_region 13 with (fail)
              clear q0
              refine wp_relES 16 86 [0] rfl (by kernel_rfl) (by kernel_rfl) ?_
              apply Steps.oneP (.pointer (some ⟨g, 0, none⟩)) 1 rfl (by decide)
              · intro o ho FA x hO hD
                obtain rfl := Option.some.inj ho.symm
                clear ho
                have e0 := hO 0 (by kernel_rfl)
                simp only [eval_tmp, List.getElem?_toArray, List.getElem?_cons_succ, List.getElem?_cons_zero, Option.getD_some] at e0
                have ev0 := Lib.hid ((eval_tmp FA 0).trans e0)
                clear hO hD
                refine .inl ⟨by simp [Region.wanted], fun w => ?_⟩
                go_simp
              apply Steps.oneE (MP.eq _) 2 rfl (by decide)
              · intro o ho FA x hO hD K hK
                obtain rfl := Option.some.inj ho.symm
                clear ho
                have e0 := hO 0 (by kernel_rfl)
                simp only [eval_tmp, List.getElem?_toArray, List.getElem?_cons_succ, List.getElem?_cons_zero, Option.getD_some] at e0
                have ev0 := Lib.hid ((eval_tmp FA 0).trans e0)
                clear hO hD
                go_simp
                exact hK.out _ _ (Ex.refl _) rfl
              apply Steps.oneE (MP.eq _) 3 rfl (by decide)
              · intro o ho FA x hO hD K hK
                obtain rfl := Option.some.inj ho.symm
                clear ho
                have ev68 : FA.eval (.tmp 68) = _ := hD 1 68 (by kernel_rfl)
                have e68 := (eval_tmp FA 68).symm.trans ev68
                replace ev68 := Lib.hid ev68
                clear hO hD
                go_simp
                exact hK.out _ _ (Ex.refl _) rfl
              apply Steps.oneE (MP.eq _) 4 rfl (by decide)
              · intro o ho FA x hO hD K hK
                obtain rfl := Option.some.inj ho.symm
                clear ho
                have ev69 : FA.eval (.tmp 69) = _ := hD 2 69 (by kernel_rfl)
                have e69 := (eval_tmp FA 69).symm.trans ev69
                replace ev69 := Lib.hid ev69
                clear hO hD
                go_simp
                exact hK.out _ _ (Ex.refl _) rfl
              apply Steps.oneE (MP.eq _) 5 rfl (by decide)
              · intro o ho FA x hO hD K hK
                obtain rfl := Option.some.inj ho.symm
                clear ho
                have ev70 : FA.eval (.tmp 70) = _ := hD 3 70 (by kernel_rfl)
                have e70 := (eval_tmp FA 70).symm.trans ev70
                replace ev70 := Lib.hid ev70
                clear hO hD
                refine wanted_if rfl ?_
                refine wp_ld1 88 (.tmp 70) rfl ev70.out (hX.st.later (below_plus _ _ _)) (stC_vips C hk hb A n c) Tryd.underlying88 rfl ?_
                exact hK.out _ _ (Ex.refl _) rfl
              apply Steps.oneE (MP.eq _) 6 rfl (by decide)
              · intro o ho FA x hO hD K hK
                obtain rfl := Option.some.inj ho.symm
                clear ho
                have e3 := hO 3 (by kernel_rfl)
                simp only [eval_tmp, List.getElem?_toArray, List.getElem?_cons_succ, List.getElem?_cons_zero, Option.getD_some] at e3
                have ev3 := Lib.hid ((eval_tmp FA 3).trans e3)
                clear hO hD
                go_simp
                exact hK.out _ _ (Ex.refl _) rfl
              apply Steps.oneE (MP.eq _) 7 rfl (by decide)
              · intro o ho FA x hO hD K hK
                obtain rfl := Option.some.inj ho.symm
                clear ho
                have ev72 : FA.eval (.tmp 72) = _ := hD 5 72 (by kernel_rfl)
                have e72 := (eval_tmp FA 72).symm.trans ev72
                replace ev72 := Lib.hid ev72
                clear hO hD
                refine wanted_if rfl ?_
                refine wp_ldA 32 (.tmp 72) rfl (adC six ah al) ev72.out (bo.later (below_plus _ _ _)) rfl va1 va2 (szAd _ _ _) ?_
                exact hK.out _ _ (Ex.refl _) rfl
              apply Steps.oneE (MP.eq _) 8 rfl (by decide)
              · intro o ho FA x hO hD K hK
                obtain rfl := Option.some.inj ho.symm
                clear ho
                have e3 := hO 3 (by kernel_rfl)
                simp only [eval_tmp, List.getElem?_toArray, List.getElem?_cons_succ, List.getElem?_cons_zero, Option.getD_some] at e3
                have ev3 := Lib.hid ((eval_tmp FA 3).trans e3)
                clear hO hD
                go_simp
                exact hK.out _ _ (Ex.refl _) rfl
              apply Steps.oneE (MP.eq _) 9 rfl (by decide)
              · intro o ho FA x hO hD K hK
                obtain rfl := Option.some.inj ho.symm
                clear ho
                have ev74 : FA.eval (.tmp 74) = _ := hD 7 74 (by kernel_rfl)
                have e74 := (eval_tmp FA 74).symm.trans ev74
                replace ev74 := Lib.hid ev74
                clear hO hD
                refine wanted_if rfl ?_
                refine wp_ld1 42 (.tmp 74) rfl ev74.out (bo.later (below_plus _ _ _)) rfl Tryd.underlying42 rfl ?_
                exact hK.out _ _ (Ex.refl _) rfl
              apply Steps.oneE (MP.eq _) 10 rfl (by decide)
              · intro o ho FA x hO hD K hK
                obtain rfl := Option.some.inj ho.symm
                clear ho
                have e3 := hO 3 (by kernel_rfl)
                simp only [eval_tmp, List.getElem?_toArray, List.getElem?_cons_succ, List.getElem?_cons_zero, Option.getD_some] at e3
                have ev3 := Lib.hid ((eval_tmp FA 3).trans e3)
                clear hO hD
                go_simp
                exact hK.out _ _ (Ex.refl _) rfl
              apply Steps.oneE (MP.eq _) 11 rfl (by decide)
              · intro o ho FA x hO hD K hK
                obtain rfl := Option.some.inj ho.symm
                clear ho
                have ev76 : FA.eval (.tmp 76) = _ := hD 9 76 (by kernel_rfl)
                have e76 := (eval_tmp FA 76).symm.trans ev76
                replace ev76 := Lib.hid ev76
                clear hO hD
                refine wanted_if rfl ?_
                refine wp_ld1 5 (.tmp 76) rfl ev76.out (bo.later (below_plus _ _ _)) rfl Tryd.underlying5 rfl ?_
                exact hK.out _ _ (Ex.refl _) rfl
              apply Steps.oneE (MP.eq _) 12 rfl (by decide)
              · intro o ho FA x hO hD K hK
                obtain rfl := Option.some.inj ho.symm
                clear ho
                have e3 := hO 3 (by kernel_rfl)
                simp only [eval_tmp, List.getElem?_toArray, List.getElem?_cons_succ, List.getElem?_cons_zero, Option.getD_some] at e3
                have ev3 := Lib.hid ((eval_tmp FA 3).trans e3)
                clear hO hD
                go_simp
                exact hK.out _ _ (Ex.refl _) rfl
              apply Steps.oneE (MP.eq _) 13 rfl (by decide)
              · intro o ho FA x hO hD K hK
                obtain rfl := Option.some.inj ho.symm
                clear ho
                have ev78 : FA.eval (.tmp 78) = _ := hD 11 78 (by kernel_rfl)
                have e78 := (eval_tmp FA 78).symm.trans ev78
                replace ev78 := Lib.hid ev78
                clear hO hD
                refine wanted_if rfl ?_
                refine wp_ld1 3 (.tmp 78) rfl ev78.out (bo.later (below_plus _ _ _)) rfl Tryd.underlying3 rfl ?_
                exact hK.out _ _ (Ex.refl _) rfl
              apply Steps.oneE (MP.eq _) 14 rfl (by decide)
              · intro o ho FA x hO hD K hK
                obtain rfl := Option.some.inj ho.symm
                clear ho
                have e5 := hO 5 (by kernel_rfl)
                simp only [eval_tmp, List.getElem?_toArray, List.getElem?_cons_succ, List.getElem?_cons_zero, Option.getD_some] at e5
                have ev5 := Lib.hid ((eval_tmp FA 5).trans e5)
                clear hO hD
                go_simp
                exact hK.out _ _ (Ex.refl _) rfl
              apply Steps.oneE (MP.eq _) 15 rfl (by decide)
              · intro o ho FA x hO hD K hK
                obtain rfl := Option.some.inj ho.symm
                clear ho
                have ev73 : FA.eval (.tmp 73) = _ := hD 6 73 (by kernel_rfl)
                have e73 := (eval_tmp FA 73).symm.trans ev73
                replace ev73 := Lib.hid ev73
                have ev75 : FA.eval (.tmp 75) = _ := hD 8 75 (by kernel_rfl)
                have e75 := (eval_tmp FA 75).symm.trans ev75
                replace ev75 := Lib.hid ev75
                have ev77 : FA.eval (.tmp 77) = _ := hD 10 77 (by kernel_rfl)
                have e77 := (eval_tmp FA 77).symm.trans ev77
                replace ev77 := Lib.hid ev77
                have ev79 : FA.eval (.tmp 79) = _ := hD 12 79 (by kernel_rfl)
                have e79 := (eval_tmp FA 79).symm.trans ev79
                replace ev79 := Lib.hid ev79
                have ev80 : FA.eval (.tmp 80) = _ := hD 13 80 (by kernel_rfl)
                have e80 := (eval_tmp FA 80).symm.trans ev80
                replace ev80 := Lib.hid ev80
                clear hO hD
                refine wanted_if rfl ?_
                refine wp_buildV 53 [(0, .tmp 73), (1, .tmp 75), (2, .tmp 77), (3, .tmp 79), (5, .tmp 80)] rfl (.agg (veC (v0, ⟨none, 0, 0, T⟩)).toArray) (by simp only [List.map_cons, List.map_nil, ev73.out, ev75.out, ev77.out, ev79.out, ev80.out]; exact hbld _) ?_
                exact hK.out _ _ (Ex.refl _) rfl
              apply Steps.oneE (MP.ofs 53 8 0 (veC (v0, ⟨none, 0, 0, T⟩))) 16 rfl (by decide)
              · intro o ho FA x hO hD K hK
                obtain rfl := Option.some.inj ho.symm
                clear ho
                have ev81 : FA.eval (.tmp 81) = _ := hD 14 81 (by kernel_rfl)
                have e81 := (eval_tmp FA 81).symm.trans ev81
                replace ev81 := Lib.hid ev81
                clear hO hD
                go_simp
                refine hK.out _ _ (Ex.alloc _ _) ⟨_, _, rfl, ?_⟩
                have h := Os.lit (s := 8) (e := 53) (base := 0) (plus wr x.bs x.d) (Nat.zero_le _) (veC (v0, ⟨none, 0, 0, T⟩)).toArray 1 rfl (by decide)
                exact h
              refine Steps.fin_ (fun vs x hp => ?_)
              have p0 : vs 0 = _ := hp 0 (by omega)
              have p1 : vs 1 = _ := hp 1 (by omega)
              have p2 : vs 2 = _ := hp 2 (by omega)
              have p3 : vs 3 = _ := hp 3 (by omega)
              have p4 : vs 4 = _ := hp 4 (by omega)
              have p5 : vs 5 = _ := hp 5 (by omega)
              have p6 : vs 6 = _ := hp 6 (by omega)
              have p7 : vs 7 = _ := hp 7 (by omega)
              have p8 : vs 8 = _ := hp 8 (by omega)
              have p9 : vs 9 = _ := hp 9 (by omega)
              have p10 : vs 10 = _ := hp 10 (by omega)
              have p11 : vs 11 = _ := hp 11 (by omega)
              have p12 : vs 12 = _ := hp 12 (by omega)
              have p13 : vs 13 = _ := hp 13 (by omega)
              have p14 : vs 14 = _ := hp 14 (by omega)
              have p15 := hp 15 (by omega)
              clear hp
              simp only [List.take_succ_cons, List.take_zero, List.drop_succ_cons, List.drop_zero, putAll, Nat.zero_add, Nat.reduceAdd, Act.put, List.setIfInBounds_toArray, List.set_cons_zero, List.set_cons_succ, p0, p1, p2, p3, p4, p5, p6, p7, p8, p9, p10, p11, p12, p13, p14]
              clear p0 p1 p2 p3 p4 p5 p6 p7 p8 p9 p10 p11 p12 p13 p14
              generalize vs 15 = y15 at *
              clear vs
              obtain ⟨A15, n15, rfl, h15⟩ := p15
              obtain rfl : n15 = 1 := by have := h15.1; rw [veC_len] at this; omega
              have hb13 := below_plus wr x.bs x.d
              replace hX := hX.later hb13
              replace hT := hT.later hb13
              replace hE := hE.trans (hb13.mono hE.size)
              clear hb13 bo
              generalize plus wr x.bs x.d = Z at *
              have hgr := hX.own_ne_g
              refine wpList_appS2 etVe rfl (.tmp 71) (.tmp 82) rfl rfl hX.row rfl h15.rs (veC_one _) (by omega) (Nat.zero_le _) ?_
              intro A5 n5 c5 w5 hn5 hO5 hb5 hg5 hob5
              subst hn5
              simp only [Act.put, List.setIfInBounds_toArray, List.set_cons_zero, List.set_cons_succ]
              have hst5 := hX.st.grown hg5 hgr
              iterate 2 (refine wpList_plain rfl (fun K hK => ?_); go_simp; with_reducible refine hK _ _ ?_; clear hK K)
              refine wpList_st1 (v := .slice A5 (n + 1) c5) 88 (.tmp 85) (.tmp 83) rfl rfl rfl rfl hst5 (by rw [stC_len C hk hb]; omega) rfl (by kernel_rfl) ?_
              intro W6 h6 g6
              simp only [Act.put, List.setIfInBounds_toArray, List.set_cons_zero, List.set_cons_succ]
              have hg6 := hX.add hT (Or.inr rfl) hTD (by rw [← HV0.out]; rfl) (by rw [← HV0.out]; rfl) hO5 hg5 (fun b hb => by
                rcases hob5 with h | h
                · exact .inl (by rw [← h]; exact hb)
                · rw [h] at hb; injection hb with hb; exact .inr (by omega)) (C' := { C with vs := C.vs ++ [v0] }) (by rw [← stC_setVips C hk hb A n c]; exact h6) g6 rfl
              have hch : Chg D w W6 := ((Chg.of_below hE).trans (Chg.grown hg5 (fun k hk => hX.dr k hk))).trans (Chg.one g6 hX.dg)
              go_wp2
              go_wp2
              apply_assumption
              go_wp2
              go_ret
              refine ⟨by rw [he.out]; rfl, (fun b => (G b ∨ b = T) ∨ (Value.slice A5 (n + 1) c5).ownBlock = some b), (fun b => D b ∨ b = T ∨ (Value.slice A5 (n + 1) c5).ownBlock = some b), ⟨_, _, _, _, by rw [hcs.out, HV0.out]; exact hg6⟩, ⟨fun b hb => .inl (.inl hb), fun b hb => ?_, fun b hb => ?_⟩, hch⟩
              · rcases hb with (hb | hb) | hb
                · exact .inl hb
                · exact .inr (by rw [hb]; exact Nat.le_of_lt hwT)
                · rcases hob5 with h | h
                  · exact .inl (hX0.out.sub _ (hX.dr b (by rw [← h]; exact hb)))
                  · rw [h] at hb; injection hb with hb; exact .inr (by rw [← hb]; exact hE.size)
              · rcases hb with hb | hb | hb
                · exact .inl hb
                · exact .inr (by rw [hb]; exact Nat.le_of_lt hwT)
                · rcases hob5 with h | h
                  · exact .inl (hX.dr b (by rw [← h]; exact hb))
                  · rw [h] at hb; injection hb with hb; exact .inr (by rw [← hb]; exact hE.size)
      · have h17i : ((pr : Int) != 17) = true := by simp; omega
        have he := Lib.hid (show addE C (⟨k, v, b, e, six, ah, al, pt, pr, wy, ms⟩ : OpR) = 1 by unfold addE; rw [if_pos (by simp [h6, h17])])
        have hcs := Lib.hid (show addS C (⟨k, v, b, e, six, ah, al, pt, pr, wy, ms⟩ : OpR) = C from if_neg (by rw [he.out]; decide))
        have bo : Bk (w.alloc (.cells (opC k v b e six ah al pt pr wy B mm d).toArray 45)) w.heap.size 45 (opC k v b e six ah al pt pr wy B mm d) := Bk.new w 45 (opC k v b e six ah al pt pr wy B mm d).toArray
        have be : Below w.heap.size w (w.alloc (.cells (opC k v b e six ah al pt pr wy B mm d).toArray 45)) := Below.allocS (Below.refl _ _) _
        have zV : w.heap.size + 1 ≤ (w.alloc (.cells (opC k v b e six ah al pt pr wy B mm d).toArray 45)).heap.size := by simp
        go_enter Tryd.func51, Tryd.ntmps51
        go_upto_region 1 with (fail)
        generalize w.alloc (.cells (opC k v b e six ah al pt pr wy B mm d).toArray 45) = V at *
        replace hX := hX.later be
        refine wp_region_lit ?_
        refine wpList_plain rfl (fun K hK => ?_); go_simp; with_reducible refine hK _ _ ?_; clear hK K
        refine wpList_ldA (t := 45) (cs := opC k v b e six ah al pt pr wy B mm d) 32 (.tmp 7) rfl rfl (adC six ah al) rfl (bo) rfl va1 va2 (szAd _ _ _) ?_
        refine wpList_plain rfl (fun K hK => ?_)
        go_simp
        refine (HA.out _).mono ?_
        rintro e w1 ⟨bs1, d1, rfl, rfl⟩
        with_reducible refine hK _ _ ?_
        clear hK K
        have hb1 := below_plus V bs1 d1
        replace hX := hX.later hb1
        replace bo := bo.later hb1
        replace be := be.trans (hb1.mono be.size)
        clear hb1
        generalize plus V bs1 d1 = V1 at *
        iterate 2 (refine wpList_plain rfl (fun K hK => ?_); go_simp; with_reducible refine hK _ _ ?_; clear hK K)
        refine wpList_step (fun K hK => ?_); go_simp; with_reducible refine hK _ _ ?_; clear hK K
        refine wpList_ld1 (t := 45) (cs := opC k v b e six ah al pt pr wy B mm d) 5 (.tmp 12) rfl (by go_simp) rfl (bo) rfl Tryd.underlying5 rfl ?_
        iterate 3 (refine wpList_step (fun K hK => ?_); go_simp; with_reducible refine hK _ _ ?_; clear hK K)
        refine wpList_ld1 (t := 45) (cs := opC k v b e six ah al pt pr wy B mm d) 5 (.tmp 16) rfl (by go_simp) rfl (bo) rfl Tryd.underlying5 rfl ?_
        iterate 2 (refine wpList_step (fun K hK => ?_); go_simp; with_reducible refine hK _ _ ?_; clear hK K)
        iterate 2 (refine wpList_plain rfl (fun K hK => ?_); go_simp; with_reducible refine hK _ _ ?_; clear hK K)
        iterate 4 ((with_reducible refine wpList_skip ?_ ?_); (· first | (go_simp; done) | (go_simp; intro h; cases h)); simp only [Act.put, List.setIfInBounds_toArray, List.set_cons_zero, List.set_cons_succ])
        refine wpList_plain rfl (fun K hK => ?_); go_simp; with_reducible refine hK _ _ ?_; clear hK K
        go_wp2
        go_ret
        exact ⟨by rw [he.out]; rfl, G, D, ⟨A, n, c, E, by rw [hcs.out]; exact hX⟩, Grow.refl _ _ _, Chg.of_below be⟩
end Go.Proofs.YtclhfbbajeoanaaDoor

/- setMembers (chapter 22). -/
namespace Go.Proofs.YtclhfbbajeoanaaDoor
open Go.RowKit
set_option linter.unusedVariables false
set_option linter.unusedSimpArgs false
attribute [local go_sem ↓] sliced_cut

attribute [local go_sem] cutA_zero

/-- slices.Clone of members -/
theorem mclone_any (ms : List (Int × Int)) (A : Option Addr) (n c : Nat) (w : World) (h : Rs 2 w A n c (prs .i64 ms)) (hm : n ≤ 1000000) : Calls Tryd.prog 29 #[.slice A n c] w (RetOs 73 2 w (prs .i64 ms)) := by
  have hnil := fun w => Lib.run_eql_slice_nil (P := Tryd.prog) w 43 73 A n c 0 0 Tryd.underlying43
  cases A with
  | none =>
    go_enter Tryd.func29, Tryd.ntmps29
    go_wp2
    go_ret
    have : prs .i64 ms = [] := by
      rcases h.2.2 with h | ⟨b, off, h, _⟩
      · exact h
      · cases h
    rw [this]
    exact RetOs.mk Os.nil_ (Below.refl _ _)
  | some ad =>
    go_enter Tryd.func29, Tryd.ntmps29
    go_wp2_with (at_builtin; refine wpList_appS etCm rfl (.tmp 5) (.tmp 6) rfl rfl (Os.lit w (Nat.le_refl _) #[] 0 rfl (Nat.zero_le _)) rfl (h.alloc _) (prs_one _ _) (by omega) (by simp) ?_; intro A2 n2 c2 w4 hn2 hO4 hb4 hg4; subst hn2)
    go_ret
    simp only [List.nil_append, Nat.zero_add] at hO4
    exact RetOs.mk hO4 ((Below.allocS (Below.refl _ _) _).trans (hb4.mono (by simp)))
section
variable {G D : Nat → Prop} {w w' : World} {g : Nat} {C : Cf} {A : Option Addr} {n c : Nat} {E : List Ve}
/-- a cell of a service changes -/
theorem CfX.setRow (h : CfX G D w g C A n c E) {i : Nat} {x : Ve} (hi : E[i]? = some x) {b0 : Nat} {cur : List Value} (hA : A = some ⟨b0, 0, none⟩) (hB : Bk w b0 53 cur) {j : Nat} {u : Value} (hj : j < 8) {y : Ve} (hy : (veC x).set j u = veC y) (hyT : y.2.T = x.2.T) (hyS : y.1.S = x.1.S)
    (hg : w.grownBy w' (some b0)) (hb : Bk w' b0 53 (cur.set (i * 8 + j) u)) (hm : Rs 2 w' y.2.A y.2.n y.2.c (prs .i64 y.1.ms)) (ho : Off G w' y.2.A) : CfX G D w' g { C with vs := C.vs.set i y.1 } A n c (E.set i y) := by
  have hx := List.mem_of_getElem? hi
  have hil := (List.getElem?_eq_some_iff.1 hi).1
  have hxi : E[i] = x := (List.getElem?_eq_some_iff.1 hi).2
  have hn0 : 0 < n := by have := h.len; have := h.n_; omega
  obtain ⟨b1, cur1, hA1, hob, hB1, hl, ht, hnc, hcm⟩ := h.row.bk hn0
  have e1 : b1 = b0 := by rw [hA] at hA1; injection hA1 with hA1; injection hA1 with hA1; exact hA1.symm
  subst e1
  obtain rfl := hB1.same hB
  have hD := h.dr _ hob
  have hG := h.sub _ hD
  have hc : Chg (fun b => b = b1) w w' := Chg.one hg rfl
  have mem : ∀ z ∈ E.set i y, z = y ∨ (∃ j, ∃ hj : j < E.length, j ≠ i ∧ z = E[j]) := by
    intro z hz
    obtain ⟨k, hk, rfl⟩ := List.mem_iff_getElem.1 hz
    rw [List.length_set] at hk
    rw [List.getElem_set]
    split
    · exact .inl rfl
    · rename_i hne
      exact .inr ⟨k, hk, fun e => hne e.symm, rfl⟩
  refine ⟨?_, h.st.chg hc (fun e => hB1.apart h.st (by decide) e.symm), ?_, h.dr, h.dg, ?_, ?_, ?_, ?_, ?_, h.sub, fun b hb' => Nat.lt_of_lt_of_le (h.lt b hb') hc.size⟩
  · show _ = C.vs.set i _
    rw [List.map_set, h.vs]
  · subst hA
    refine Os.of_bk hb (by rw [List.length_set]; exact hl) ?_ hnc hcm (by rw [flat_len veC 8 veC_len, List.length_set]; have := h.len; have := h.n_; omega)
    rw [List.take_set, ht, flat_set veC 8 veC_len E i hil y j u hj (by rw [hxi]; exact hy)]
  · intro z hz
    rcases mem z hz with rfl | ⟨k, hk, _, rfl⟩
    · rw [hyT, hyS]
      exact (h.tb x hx).chg hc (fun e => hB1.apart (h.tb x hx) (by decide) e.symm)
    · exact (h.tb _ (List.getElem_mem hk)).chg hc (fun e => hB1.apart (h.tb _ (List.getElem_mem hk)) (by decide) e.symm)
  · intro z hz
    rcases mem z hz with rfl | ⟨k, hk, _, rfl⟩
    · rw [hyT]; exact h.dt x hx
    · exact h.dt _ (List.getElem_mem hk)
  · intro z hz
    rcases mem z hz with rfl | ⟨k, hk, _, rfl⟩
    · exact hm
    · exact (h.mm _ (List.getElem_mem hk)).chg hc (fun a ha e => (h.mo _ (List.getElem_mem hk) a ha).2 (by rw [e]; exact hG))
  · intro z hz
    rcases mem z hz with rfl | ⟨k, hk, _, rfl⟩
    · exact ho
    · exact (h.mo _ (List.getElem_mem hk)).size hc.size
  · rw [List.map_set, hyT]
    have : (E.map (·.2.T)).set i x.2.T = E.map (·.2.T) := by
      apply List.ext_getElem
      · simp
      · intro j h1 h2
        rw [List.getElem_set]
        split
        · rename_i e; subst e; simp [hxi]
        · rfl
    rw [this]
    exact h.nd
end
/-- the state behind SetMembers -/
def setS (C : Cf) (i : Nat) (v : Vp) (ms : List (Int × Int)) : Cf := if setE C v ms = 0 then { C with vs := C.vs.set i (setV v ms) } else C
set_option maxHeartbeats 4000000 in
set_option maxRecDepth 100000 in
theorem setMembers_any {G D : Nat → Prop} (ms : List (Int × Int)) (B : Option Addr) (mm d : Nat) (C : Cf) (hC : CfOk C) (g : Nat) (A : Option Addr) (n c : Nat) (E : List Ve) (w : World) (hX : CfX G D w g C A n c E) (hr : Rs 2 w B mm d (prs .i64 ms)) (hB0 : Off G w B) (hm : mm ≤ 1000000) (i b0 : Nat) (x : Ve) (hi : E[i]? = some x) (hA : A = some ⟨b0, 0, none⟩) : Calls Tryd.prog 54 #[.pointer (some ⟨g, 0, none⟩), .pointer (some ⟨b0, i * 8, none⟩), .slice B mm d] w (RetCf G D w g (setS C i x.1 ms) (.int .i64 (setE C x.1 ms : Nat))) := by
  have hml : ms.length = mm := by have := hr.1; rw [prs_length] at this; omega
  obtain ⟨dm, m1, m2⟩ := rowMb
  obtain ⟨dvt, vt1, vt2⟩ := rowTab
  have HFT := Lib.hid (fun w h h2 => fit_any ms B mm d C hC g A n c w h h2 hm)
  have hmem := List.mem_of_getElem? hi
  have hil := (List.getElem?_eq_some_iff.1 hi).1
  have hxi : E[i] = x := (List.getElem?_eq_some_iff.1 hi).2
  have hvm : x.1 ∈ C.vs := by rw [← hX.vs]; exact List.mem_map.2 ⟨x, hmem, rfl⟩
  have hok := (hC.vs _ hvm).st
  have hn0 : 0 < n := by have := hX.len; have := hX.n_; omega
  have HI := Lib.hid hi
  have be := Below.refl w.heap.size w
  have HGL := Lib.hid hX.lt
  have HVS := Lib.hid hX.vs
  have HML := Lib.hid hml
  have hin : i < n := by have := hX.len; have := hX.n_; omega
  have HTL := Lib.hid (hX.lt _ (hX.sub _ (hX.dt x hmem)))
  clear hi
  cases hfit : okM C ms
  · rw [hfit] at HFT
    have he := Lib.hid (show setE C x.1 ms = 1 by unfold setE; rw [if_pos hfit])
    have hcs := Lib.hid (show setS C i x.1 ms = C from if_neg (by rw [he.out]; decide))
    clear hxi hA
    go_enter Tryd.func54, Tryd.ntmps54
    go_upto_region 2 with (go_at_call 27; refine (HFT.out _ hX.st hr).mono ?_; rintro e w1 ⟨bs1, d1, rfl, rfl⟩)
    replace hX := hX.later (below_plus w bs1 d1)
    replace be := belowP be bs1 d1
    go_wp2
    go_ret
    exact ⟨by rw [he.out]; rfl, G, D, ⟨_, n, c, E, by rw [hcs.out]; exact hX⟩, Grow.refl _ _ _, Chg.of_below be⟩
  · rw [hfit] at HFT
    have hm64 : mm ≤ 64 := by have := okM_len hfit; omega
    have HFIT := Lib.hid hfit
    clear hfit
    subst hA
    go_enter Tryd.func54, Tryd.ntmps54
    go_upto_region 4 with (go_at_call 27; refine (HFT.out _ hX.st hr).mono ?_; rintro e w1 ⟨bs1, d1, rfl, rfl⟩)
    have hb1 := below_plus w bs1 d1
    have hX1 := hX.later hb1
    replace hr := hr.later hb1
    replace hB0 := hB0.size hb1.size
    replace be := be.trans (hb1.mono be.size)
    have hwV := Lib.hid be.size
    clear hb1 HFT
    generalize plus w bs1 d1 = V at *
    go_upto_region 5 with (fail)
    have hO0 : Os 3 1 V V.heap.size none 0 0 (itK ((ms.take 0).map (·.1))) := Os.nil_
    have bv := Below.refl V.heap.size V
    go_loopw [7, 21] (fun OUT I wr => ∃ (j : Nat) (Ab : Option Addr) (kb cb : Nat), I = .int .i64 (j : Int) ∧ OUT = .slice Ab kb cb ∧ j ≤ mm ∧ Os 3 1 wr V.heap.size Ab kb cb (itK ((ms.take j).map (·.1))) ∧ Below V.heap.size V wr) (fun _ I _ => mm - (intOf I).toNat)
    case atStart => exact ⟨0, none, 0, 0, rfl, rfl, Nat.zero_le _, hO0, bv⟩
    case round =>
      clear hO0 bv
      obtain ⟨j, Ab, kb, cb, rfl, rfl, hj, hO, hE⟩ := hrel
      have hkb : kb = j := by have := hO.1; rw [itK_len] at this; simp at this; omega
      by_cases hlt : j < mm
      · have ij : (j : Int) < (mm : Int) := by omega
        have hjL : j < ms.length := by omega
        obtain ⟨bl, ol, rfl, hbl, -⟩ := (hr.later hE).at_ (by omega) (by decide)
        have hg7 := rng_pr ((hr.later hE).range2 j hjL)
        have hsn : ms.take (j + 1) = ms.take j ++ [ms[j]] := by simp
        generalize ms[j] = p at *
        obtain ⟨xb, yb⟩ := p
        have HSN := Lib.hid hsn
        have hkb60 : kb ≤ 64 := by omega
        clear hsn hkb
        go_upto_region 7 with (first
          | (refine at_op (.load 73 (.tmp 23)) rfl ?_; refine wpList_load_mid rfl 73 (.tmp 23) rfl bl (ol + j * 2) rfl [.int .i64 xb, .int .i64 yb] _ hg7 m1 m2 (szMb _ _) ?_)
          | (refine at_op (.store 73 (.tmp 9) (.tmp 24)) rfl ?_; refine wpList_stA (t := 73) 73 (.tmp 9) (.tmp 24) rfl rfl [.int .i64 xb, .int .i64 yb] [.int .i64 0, .int .i64 0] rfl (by simp [Value.oneCell']) rfl rfl (Bk.new _ _ _) (szMb _ _) ?_; intro W4 h4 g4))
        have be4 : Below wr.heap.size wr W4 := below_grown (Below.allocS (Below.refl _ _) _) g4 (Nat.le_refl _)
        have q0 : W4.cell? ⟨wr.heap.size, 0, none⟩ = some (.int .i64 xb) := h4.cell 0
        replace hE := hE.trans (be4.mono hE.size)
        replace hO := hO.later be4
        clear be4 h4 g4 hg7
        generalize wr.heap.size = gm at *
        go_wp2_with (at_builtin; refine wpList_appS etI rfl (.tmp 25) (.tmp 28) rfl rfl (hO.later (Below.allocS (Below.refl _ _) _)) rfl (Rs.of_bk (n := 1) (c := 1) (Bk.new W4 _ _) rfl (Nat.le_refl _)) (by simp [Value.oneCell']) (by omega) (by have := hE.size; simp; omega) ?_; intro A2 n2 c2 w4 hn2 hO4 hb4 hg4; subst hn2)
        exact ⟨⟨j + 1, A2, _, c2, by go_num, rfl, by omega, by rw [HSN.out, List.map_append, itK_append]; exact hO4, (Below.allocS hE _).trans hb4⟩, by simp [intOf]; omega⟩
      · obtain rfl : j = mm := by omega
        have ij : ¬ (j : Int) < (j : Int) := by omega
        rw [List.take_of_length_le (by omega)] at hO
        have hX := hX1.later hE
        have hEV := Lib.hid hE
        replace hr := hr.later hE
        replace hB0 := hB0.size hE.size
        replace hE := be.trans (hE.mono be.size)
        have hkb60 : kb ≤ 64 := by omega
        have zVr := hEV.out.size
        clear hkb hj hX1 be hml hEV
        obtain ⟨bb, cur, hA1, hob, hBr, hcl, -, hnc, -⟩ := hX.row.bk hn0
        have e1 : bb = b0 := by injection hA1 with hA1; injection hA1 with hA1; exact hA1.symm
        subst e1
        clear hA1
        have HBL := Lib.hid (HGL.out _ (hX.sub _ (hX.dr _ hob)))
        have hTw := hX.tb x hmem
        have hDT := hX.dt x hmem
        have hrT := hX.ne_row hmem _ hob
        have hQ0 : ∀ W, Chg (fun b => b = x.2.T) w W → W.cell? ⟨bb, i * 8 + 7, none⟩ = some (.pointer (some ⟨x.2.T, 0, none⟩)) := fun W hc => by
          have h0 := ‹CfX G D w g C _ n c E›
          have := (h0.row.rs.chg hc (fun a ha e => by injection ha with ha; subst ha; exact hrT e)).rangeE veC_len i hil
          rw [Nat.zero_add, hxi] at this
          exact this 7 _ rfl
        obtain ⟨T, hT0⟩ : ∃ T, x.2.T = T := ⟨_, rfl⟩
        rw [hT0] at hTw hDT hrT hQ0
        have HQ := Lib.hid hQ0
        have HT0 := Lib.hid hT0
        have q7 := hQ0 wr (Chg.of_below hE)
        have hT := hTw
        obtain ⟨S, hS0⟩ : ∃ S, x.1.S = S := ⟨_, rfl⟩
        rw [hS0] at hT hok
        obtain ⟨xn, bn, hnw⟩ := newest_ex S hok.len
        have HN := Lib.hid (fun w h => hnw T w h)
        have htk := newT_ok hok
        have HNX := Lib.hid (fun w (h : Rs 1 w Ab kb cb (itK (ms.map (·.1)))) => tabNext_any (newT S) htk (ms.map (·.1)) Ab kb cb w h (by omega))
        have HP := Lib.hid (fun w h => push_any S hok T (tNext (newT S) (ms.map (·.1))) w h)
        have hsv : setV x.1 ms = { x.1 with S := pushS S (tNext (newT S) (ms.map (·.1))), ms := ms } := by unfold setV tabS; rw [hS0]
        have hse : setE C x.1 ms = pushE S := by unfold setE; rw [if_neg (by rw [HFIT.out]; simp), hS0]
        have HSV := Lib.hid hsv
        have HSE := Lib.hid hse
        clear hnw hT0 hTw hQ0 hsv hse
        generalize newT S = TT0 at *
        generalize tNext TT0 (ms.map (·.1)) = TT at *
        obtain ⟨ES, hES⟩ : ∃ ES, pushS S TT = ES := ⟨_, rfl⟩
        rw [hES] at HP HSV
        have HES := Lib.hid hES
        have HS0 := Lib.hid hS0
        clear hES hS0
        have hzt : ∀ w, (zeroValue 78).run Tryd.prog w = .ok (.agg (tabC []).toArray) w := fun _ => by kernel_rfl
        go_upto_region 9 with (fail)
        refine wp_region_lit ?_
        iterate 4 (refine wpList_plain rfl (fun K hK => ?_); go_simp; with_reducible refine hK _ _ ?_; clear hK K)
        refine wpList_plain rfl (fun K hK => ?_)
        go_simp
        refine (HN.out _ hT).mono ?_
        rintro e w1 ⟨bs1, d1, rfl, rfl⟩
        with_reducible refine hK _ _ ?_
        clear hK K
        have hb1 := below_plus wr bs1 d1
        replace hX := hX.later hb1
        replace hT := hT.later hb1
        replace hO := hO.later hb1
        replace hr := hr.later hb1
        replace hBr := hBr.later hb1
        replace hE := hE.trans (hb1.mono hE.size)
        have hVs := Nat.le_trans zVr hb1.size
        clear hb1 HN q7
        generalize plus wr bs1 d1 = W at *
        iterate 6 (refine wpList_plain rfl (fun K hK => ?_); go_simp; with_reducible refine hK _ _ ?_; clear hK K)
        refine wpList_stA (t := 78) 78 (.tmp 11) (.tmp 38) rfl rfl (tabC TT0) (tabC []) (by rw [tabC_len0, tabC_len0]) (tabC_one _) rfl rfl (Bk.new _ _ _) (by rw [tabC_len0]; kernel_rfl) ?_
        intro W4 h4 g4
        refine wpList_plain rfl (fun K hK => ?_); go_simp; with_reducible refine hK _ _ ?_; clear hK K
        have be4 : Below W.heap.size W W4 := below_grown (Below.allocS (Below.refl _ _) _) g4 (Nat.le_refl _)
        replace hX := hX.later be4
        replace hT := hT.later be4
        replace hO := hO.later be4
        replace hr := hr.later be4
        replace hBr := hBr.later be4
        replace hE := hE.trans (be4.mono hE.size)
        have h4 : Bk W4 W.heap.size 78 (tabC TT0) := h4
        have zg4 : ¬ W.heap.size = T := h4.apart hT (by decide)
        clear be4 g4 hzt
        have hoT : ∀ a, Ab = some a → ¬ a.block = T := fun a ha e => by
          have h1 := (hO.blk a.block (by rw [ha]; rfl)).1
          have h2 := HTL.out
          rw [HT0.out] at h2
          have h3 := hwV.out
          omega
        go_upto_region 10 with (fail)
        refine wp_suS (fun b => b = T) 13 59 2 [7] rfl (by kernel_rfl) (by kernel_rfl) (fun k w' => Bk w' T 120 (stkC (if k = 0 then S else ES))) (fun k _ _ h hx => h.later hx.below) (hT) ?_
        apply StepsC.one (MC.eq _) 1 rfl (by decide)
        · intro o ho FA w' hC hO hD K hK
          obtain rfl := Option.some.inj ho.symm
          clear ho
          have e1 := hO 1 (by kernel_rfl)
          simp only [eval_tmp, List.getElem?_toArray, List.getElem?_cons_succ, List.getElem?_cons_zero, Option.getD_some] at e1
          have ev1 := Lib.hid ((eval_tmp FA 1).trans e1)
          clear hO hD
          go_simp
          exact hK.out _ _ (Ex.refl _) rfl
        apply StepsC.one (MC.eq _) 2 rfl (by decide)
        · intro o ho FA w' hC hO hD K hK
          obtain rfl := Option.some.inj ho.symm
          clear ho
          have ev41 : FA.eval (.tmp 41) = _ := hD 0 41 (by kernel_rfl)
          have e41 := (eval_tmp FA 41).symm.trans ev41
          replace ev41 := Lib.hid ev41
          clear hO hD
          go_simp
          exact hK.out _ _ (Ex.refl _) rfl
        apply StepsC.one (MC.eq _) 3 rfl (by decide)
        · intro o ho FA w' hC hO hD K hK
          obtain rfl := Option.some.inj ho.symm
          clear ho
          have ev42 : FA.eval (.tmp 42) = _ := hD 1 42 (by kernel_rfl)
          have e42 := (eval_tmp FA 42).symm.trans ev42
          replace ev42 := Lib.hid ev42
          clear hO hD
          go_simp
          exact hK.out _ _ (Ex.refl _) rfl
        apply StepsC.one (MC.eq _) 4 rfl (by decide)
        · intro o ho FA w' hC hO hD K hK
          obtain rfl := Option.some.inj ho.symm
          clear ho
          have ev43 : FA.eval (.tmp 43) = _ := hD 2 43 (by kernel_rfl)
          have e43 := (eval_tmp FA 43).symm.trans ev43
          replace ev43 := Lib.hid ev43
          clear hO hD
          have hq := HQ.out w' ((Chg.of_below hE).trans hC)
          go_simp
          exact hK.out _ _ (Ex.refl _) rfl
        apply StepsC.one (MC.eq _) 5 rfl (by decide)
        · intro o ho FA w' hC hO hD K hK
          obtain rfl := Option.some.inj ho.symm
          clear ho
          have e11 := hO 11 (by kernel_rfl)
          simp only [eval_tmp, List.getElem?_toArray, List.getElem?_cons_succ, List.getElem?_cons_zero, Option.getD_some] at e11
          have ev11 := Lib.hid ((eval_tmp FA 11).trans e11)
          clear hO hD
          refine wanted_if rfl ?_
          refine wp_ldA 78 (.tmp 11) rfl (tabC TT0) ev11.out (h4.chg hC zg4) (whole_ _) vt1 vt2 (by rw [tabC_len0]; kernel_rfl) ?_
          exact hK.out _ _ (Ex.refl _) rfl
        apply StepsC.one (MC.eq _) 6 rfl (by decide)
        · intro o ho FA w' hC hO hD K hK
          obtain rfl := Option.some.inj ho.symm
          clear ho
          have e7 := hO 7 (by kernel_rfl)
          simp only [eval_tmp, List.getElem?_toArray, List.getElem?_cons_succ, List.getElem?_cons_zero, Option.getD_some] at e7
          have ev7 := Lib.hid ((eval_tmp FA 7).trans e7)
          clear hO hD
          go_simp
          exact hK.out _ _ (Ex.refl _) rfl
        apply StepsC.one (MC.eq _) 7 rfl (by decide)
        · intro o ho FA w' hC hO hD K hK
          obtain rfl := Option.some.inj ho.symm
          clear ho
          have ev45 : FA.eval (.tmp 45) = _ := hD 4 45 (by kernel_rfl)
          have e45 := (eval_tmp FA 45).symm.trans ev45
          replace ev45 := Lib.hid ev45
          have ev46 : FA.eval (.tmp 46) = _ := hD 5 46 (by kernel_rfl)
          have e46 := (eval_tmp FA 46).symm.trans ev46
          replace ev46 := Lib.hid ev46
          clear hO hD
          go_simp
          refine (HNX.out _ (hO.rs.chg hC hoT)).mono ?_
          rintro e w2 ⟨bs2, d2, rfl, rfl⟩
          exact hK.out _ _ (Ex.plus_ _ _ _) rfl
        apply StepsC.mov (MC.eq (.tuple #[.int .i64 (pushV S : Nat), .int .i64 (pushE S : Nat)])) 8 0 rfl rfl rfl
        · intro o ho FA w' hC hO hD hS K hK
          obtain rfl := Option.some.inj ho.symm
          clear ho
          have ev44 : FA.eval (.tmp 44) = _ := hD 3 44 (by kernel_rfl)
          have e44 := (eval_tmp FA 44).symm.trans ev44
          replace ev44 := Lib.hid ev44
          have ev47 : FA.eval (.tmp 47) = _ := hD 6 47 (by kernel_rfl)
          have e47 := (eval_tmp FA 47).symm.trans ev47
          replace ev47 := Lib.hid ev47
          clear hO hD
          go_simp
          refine (HP.out _ hS).mono ?_
          rintro e w2 ⟨rfl, hS2, hc2⟩
          exact hK.out _ _ hc2 hS2 rfl
        apply StepsC.one (MC.eq _) 9 rfl (by decide)
        · intro o ho FA w' hC hO hD K hK
          obtain rfl := Option.some.inj ho.symm
          clear ho
          have ev48 : FA.eval (.tmp 48) = _ := hD 7 48 (by kernel_rfl)
          have e48 := (eval_tmp FA 48).symm.trans ev48
          replace ev48 := Lib.hid ev48
          clear hO hD
          go_simp
          exact hK.out _ _ (Ex.refl _) rfl
        apply StepsC.one (MC.eq _) 10 rfl (by decide)
        · intro o ho FA w' hC hO hD K hK
          obtain rfl := Option.some.inj ho.symm
          clear ho
          have ev40 : FA.eval (.tmp 40) = _ := hD 8 40 (by kernel_rfl)
          have e40 := (eval_tmp FA 40).symm.trans ev40
          replace ev40 := Lib.hid ev40
          clear hO hD
          go_simp
          exact hK.out _ _ (Ex.refl _) rfl
        apply StepsC.one (MC.eq _) 11 rfl (by decide)
        · intro o ho FA w' hC hO hD K hK
          obtain rfl := Option.some.inj ho.symm
          clear ho
          have ev40 : FA.eval (.tmp 40) = _ := hD 8 40 (by kernel_rfl)
          have e40 := (eval_tmp FA 40).symm.trans ev40
          replace ev40 := Lib.hid ev40
          clear hO hD
          go_simp
          exact hK.out _ _ (Ex.refl _) rfl
        apply StepsC.one (MC.eq _) 12 rfl (by decide)
        · intro o ho FA w' hC hO hD K hK
          obtain rfl := Option.some.inj ho.symm
          clear ho
          have ev49 : FA.eval (.tmp 49) = _ := hD 9 49 (by kernel_rfl)
          have e49 := (eval_tmp FA 49).symm.trans ev49
          replace ev49 := Lib.hid ev49
          clear hO hD
          go_simp
          exact hK.out _ _ (Ex.refl _) rfl
        apply StepsC.one (MC.eq _) 13 rfl (by decide)
        · intro o ho FA w' hC hO hD K hK
          obtain rfl := Option.some.inj ho.symm
          clear ho
          have ev50 : FA.eval (.tmp 50) = _ := hD 10 50 (by kernel_rfl)
          have e50 := (eval_tmp FA 50).symm.trans ev50
          replace ev50 := Lib.hid ev50
          clear hO hD
          go_simp
          exact hK.out _ _ (Ex.refl _) rfl
        refine StepsC.fin_ (fun vs w' hC hS hp => ?_)
        have p0 : vs 0 = _ := hp 0 (by omega) rfl
        have p1 : vs 1 = _ := hp 1 (by omega) rfl
        have p2 : vs 2 = _ := hp 2 (by omega) rfl
        have p3 : vs 3 = _ := hp 3 (by omega) rfl
        have p4 : vs 4 = _ := hp 4 (by omega) rfl
        have p5 : vs 5 = _ := hp 5 (by omega) rfl
        have p6 : vs 6 = _ := hp 6 (by omega) rfl
        have p7 : vs 7 = _ := hp 7 (by omega) rfl
        have p8 : vs 8 = _ := hp 8 (by omega) rfl
        have p9 : vs 9 = _ := hp 9 (by omega) rfl
        have p10 : vs 10 = _ := hp 10 (by omega) rfl
        have p11 : vs 11 = _ := hp 11 (by omega) rfl
        have p12 : vs 12 = _ := hp 12 (by omega) rfl
        clear hp
        simp only [List.take_succ_cons, List.take_zero, List.drop_succ_cons, List.drop_zero, putAll, Nat.zero_add, Nat.reduceAdd, Act.put, List.setIfInBounds_toArray, List.set_cons_zero, List.set_cons_succ, p0, p1, p2, p3, p4, p5, p6, p7, p8, p9, p10, p11, p12]
        clear p0 p1 p2 p3 p4 p5 p6 p7 p8 p9 p10 p11 p12
        clear vs
        have hwl : w.heap.size ≤ w'.heap.size := Nat.le_trans hE.size hC.size
        replace hS : Bk w' T 120 (stkC ES) := hS
        have hch : Chg D w w' := (Chg.of_below hE).trans (hC.wid (fun b hb => by rw [show b = T from hb]; exact hDT))
        have X2 := hX.setStk HI.out (S' := ES) (by rw [HT0.out]; exact hS) (by rw [HT0.out]; exact hC)
        have hr2 : Rs 2 w' B j d (prs .i64 ms) := hr.chg hC (fun a ha e => (hB0 a ha).2 (by rw [show a.block = T from e]; exact hX.sub _ hDT))
        have hB2 : Bk w' bb 53 cur := hBr.chg hC (fun e => hrT e)
        clear hX hT hO hr hBr hE h4 hC HQ hoT HNX HP
        obtain ⟨PV, hPV⟩ : ∃ PV : Int, ((pushV S : Nat) : Int) = PV := ⟨_, rfl⟩
        obtain ⟨PE, hPE⟩ : ∃ PE : Int, ((pushE S : Nat) : Int) = PE := ⟨_, rfl⟩
        rw [hPV, hPE]
        have HPE := Lib.hid hPE
        clear hPV hPE
        by_cases hf : freeS S < 8
        · have hp0 : (PE != 0) = false := by rw [← HPE.out]; simp [pushE, hf]
          have he := Lib.hid (show setE C x.1 ms = 0 by rw [HSE.out]; exact if_pos hf)
          have hcs := Lib.hid (show setS C i x.1 ms = { C with vs := C.vs.set i (setV x.1 ms) } from if_pos he.out)
          have HCL := Lib.hid (fun w h => mclone_any ms B j d w h hm)
          clear hf
          go_upto_region 13 with (fail)
          refine wp_region_lit ?_
          iterate 2 (refine wpList_plain rfl (fun K hK => ?_); go_simp; with_reducible refine hK _ _ ?_; clear hK K)
          refine wpList_plain rfl (fun K hK => ?_)
          go_simp
          refine (HCL.out _ hr2).mono ?_
          rintro e w1 ⟨A9, n9, c9, bs1, d1, rfl, rfl, ho9⟩
          with_reducible refine hK _ _ ?_
          clear hK K
          have hb1 := below_plus w' bs1 d1
          replace X2 := X2.later hb1
          replace hB2 := hB2.later hb1
          replace hch := hch.trans (Chg.of_below hb1)
          have hn9 : n9 = j := by have := ho9.1; rw [prs_length] at this; have := HML.out; omega
          subst hn9
          have ho9lt := fun k hk => (ho9.blk k hk)
          clear hb1
          generalize plus w' bs1 d1 = W7 at *
          iterate 2 (refine wpList_plain rfl (fun K hK => ?_); go_simp; with_reducible refine hK _ _ ?_; clear hK K)
          refine wpList_st1 (v := .slice A9 n9 c9) (t := 53) (cs := cur) (off := i * 8 + 6) 43 (.tmp 58) (.tmp 56) rfl rfl rfl rfl hB2 (by omega) rfl (by kernel_rfl) ?_
          intro W8 h8 g8
          simp only [Act.put, List.setIfInBounds_toArray, List.set_cons_zero, List.set_cons_succ]
          have X3 := X2.setRow (i := i) (x := ({ x.1 with S := ES }, x.2)) (by rw [List.getElem?_set_self hil]) rfl hB2 (j := 6) (u := .slice A9 n9 c9) (by decide) (y := ({ x.1 with S := ES, ms := ms }, ⟨A9, n9, c9, x.2.T⟩)) rfl rfl rfl g8 h8 (ho9.rs.chg (Chg.one (D := fun b => b = bb) g8 rfl) (fun a ha e => by
            have h1 := (ho9lt a.block (by rw [ha]; rfl)).1
            have h2 := HBL.out
            have e : a.block = bb := e
            have := hch.size
            omega)) ((Off.own ho9 (fun b hb => Nat.lt_of_lt_of_le (HGL.out b hb) hwl)).size g8.size)
          rw [List.set_set] at X3
          have hch2 : Chg D w W8 := hch.trans (Chg.one g8 (X2.dr _ hob))
          go_wp2
          go_ret
          rw [hcs.out, HSV.out]
          simp only [List.set_set] at X3
          exact ⟨by rw [he.out]; rfl, G, D, ⟨_, _, _, _, X3⟩, Grow.refl _ _ _, hch2⟩
        · have hp0 : (PE != 0) = true := by rw [← HPE.out]; simp [pushE, hf]
          have he := Lib.hid (show setE C x.1 ms = pushE S from HSE.out)
          have hcs := Lib.hid (show setS C i x.1 ms = C from if_neg (by rw [he.out]; simp [pushE, hf]))
          have hES : ES = S := by rw [← HES.out]; exact if_neg hf
          have hid : ({ C with vs := C.vs.set i { x.1 with S := ES } } : Cf) = C := by
            have h1 : ({ x.1 with S := ES } : Vp) = x.1 := by rw [hES, ← HS0.out]
            have h2 : C.vs.set i x.1 = C.vs := by
              have h3 := HVS.out
              have : C.vs[i]? = some x.1 := by rw [← h3, List.getElem?_map, HI.out]; rfl
              obtain ⟨h4, h5⟩ := List.getElem?_eq_some_iff.1 this
              rw [← h5, List.set_getElem_self]
            rw [h1, h2]
          rw [hid] at X2
          clear hf hES hid
          go_wp2
          go_ret
          rw [hcs.out]
          exact ⟨by rw [he.out, HPE.out]; rfl, G, D, ⟨_, _, _, _, X2⟩, Grow.refl _ _ _, hch⟩
end Go.Proofs.YtclhfbbajeoanaaDoor

/- mark (chapter 22). -/
namespace Go.Proofs.YtclhfbbajeoanaaDoor
open Go.RowKit
set_option linter.unusedVariables false
set_option linter.unusedSimpArgs false
attribute [local go_sem ↓] sliced_cut

attribute [local go_sem] cutA_zero

/-- the first j services marked -/
def mkJ (k b : Int) (L : List Vp) (j : Nat) : List Vp := (L.take j).map (mrkV k b) ++ L.drop j
theorem mkJ_0 (k b : Int) (L : List Vp) : mkJ k b L 0 = L := by simp [mkJ]
theorem mkJ_at (k b : Int) (L : List Vp) (j : Nat) : (mkJ k b L j)[j]? = L[j]? := by
  unfold mkJ
  rcases Nat.lt_or_ge j L.length with h | h
  · rw [List.getElem?_append_right (by simp; omega)]
    simp
    congr 1
    omega
  · rw [List.getElem?_eq_none (by simp; omega), List.getElem?_eq_none h]
theorem mkJ_succ (k b : Int) (L : List Vp) (j : Nat) (v : Vp) (h : L[j]? = some v) : mkJ k b L (j + 1) = (mkJ k b L j).set j (mrkV k b v) := by
  obtain ⟨hj, hv⟩ := List.getElem?_eq_some_iff.1 h
  unfold mkJ
  rw [List.take_succ_eq_append_getElem hj, List.map_append, List.set_append_right _ _ (by simp; omega), List.append_assoc]
  congr 1
  rw [hv]
  have e : j - (List.map (mrkV k b) (List.take j L)).length = 0 := by simp; omega
  rw [e, List.drop_eq_getElem_cons hj]
  rfl
theorem mrkE_ne {S : Stk} {k n : Int} (h : ¬ mrkE S k n = 0) : mrkS S k n = S := by
  unfold mrkE at h
  unfold mrkS
  split at h
  · rename_i hk
    rw [if_pos hk]
    unfold admE at h
    unfold admS
    split at h
    · exact absurd rfl h
    · rename_i hd; rw [if_neg hd]
  · rename_i hk
    rw [if_neg hk]
    unfold eviE at h
    unfold eviS
    split at h
    · rename_i hn
      split at h
      · rename_i hd; rw [hn, hd]; rfl
      · exact absurd rfl h
    · rename_i hn
      simp only [Bool.not_eq_true] at hn
      rw [hn]
      rfl
/-- the state behind Evict, Admit -/
def markS (C : Cf) (k b : Int) : Cf := if markE C k b = 0 then { C with vs := C.vs.map (mrkV k b) } else C
theorem mrkA (S : Stk) (ho : StkOk S) (T : Nat) (k b : Int) (hb : b ≤ 9223372036854775807) (w : World) (hk : k = 7) (h : Bk w T 120 (stkC S)) : Calls Tryd.prog 85 #[.pointer (some ⟨T, 0, none⟩), .int .i64 b] w (RetSt w T (mrkS S k b) (.int .i64 (mrkE S k b : Nat))) := by
  unfold mrkS mrkE
  rw [if_pos hk, if_pos hk]
  exact admit_any S ho T b hb w h
theorem mrkB (S : Stk) (ho : StkOk S) (T : Nat) (k b : Int) (hb : b ≤ 9223372036854775807) (w : World) (hk : ¬ k = 7) (h : Bk w T 120 (stkC S)) : Calls Tryd.prog 84 #[.pointer (some ⟨T, 0, none⟩), .int .i64 b] w (RetSt w T (mrkS S k b) (.int .i64 (mrkE S k b : Nat))) := by
  unfold mrkS mrkE
  rw [if_neg hk, if_neg hk]
  exact evict_any S ho T b hb w h
set_option maxHeartbeats 4000000 in
set_option maxRecDepth 100000 in
theorem mark_any {G D : Nat → Prop} (k v b e : Int) (six : Bool) (ah al pt pr : Nat) (wy : Int) (ms : List (Int × Int)) (B : Option Addr) (m d : Nat) (C : Cf) (hC : CfOk C) (g : Nat) (A : Option Addr) (n c : Nat) (E : List Ve) (w : World) (hX : CfX G D w g C A n c E) (hb63 : b ≤ 9223372036854775807) : Calls Tryd.prog 52 #[.pointer (some ⟨g, 0, none⟩), .agg (opC k v b e six ah al pt pr wy B m d).toArray] w (RetCf G D w g (markS C k b) (.int .i64 (markE C k b : Nat))) := by
  obtain ⟨da, va1, va2⟩ := rowAdC
  obtain ⟨do1, vo1, vo2⟩ := rowOpC
  obtain ⟨dv1, vv1, vv2⟩ := rowVe
  have hk := hC.key
  have hb := hC.bl
  have HLT := Lib.hid (fun z (h : D z) => hX.lt z (hX.sub z h))
  have HB := Lib.hid (fun w h => backend_any C hk hb A n c g b w h)
  have hn16 : n ≤ 16 := by have := hX.n_; have := hC.vl; omega
  have HN0 := Lib.hid hX.n_
  have bo : Bk (w.alloc (.cells (opC k v b e six ah al pt pr wy B m d).toArray 45)) w.heap.size 45 (opC k v b e six ah al pt pr wy B m d) := Bk.new w 45 (opC k v b e six ah al pt pr wy B m d).toArray
  have be : Below w.heap.size w (w.alloc (.cells (opC k v b e six ah al pt pr wy B m d).toArray 45)) := Below.allocS (Below.refl _ _) _
  have zV : w.heap.size + 1 ≤ (w.alloc (.cells (opC k v b e six ah al pt pr wy B m d).toArray 45)).heap.size := by simp
  go_enter Tryd.func52, Tryd.ntmps52
  go_upto_region 1 with (fail)
  generalize w.alloc (.cells (opC k v b e six ah al pt pr wy B m d).toArray 45) = V at *
  replace hX := hX.later be
  go_upto_region 1 with (fail)
  refine wp_region_lit ?_
  iterate 2 (refine wpList_plain rfl (fun K hK => ?_); go_simp; with_reducible refine hK _ _ ?_; clear hK K)
  refine wpList_ld1 (t := 45) (cs := opC k v b e six ah al pt pr wy B m d) 3 (.tmp 13) rfl (by rfl) rfl (bo) rfl Tryd.underlying3 rfl ?_
  refine wpList_plain rfl (fun K hK => ?_)
  go_simp
  refine (HB.out _ hX.st).mono ?_
  rintro e w1 ⟨bs1, d1, rfl, rfl⟩
  with_reducible refine hK _ _ ?_
  clear hK K
  have hb1 := below_plus V bs1 d1
  replace hX := hX.later hb1
  replace bo := bo.later hb1
  replace be := be.trans (hb1.mono be.size)
  clear hb1
  generalize plus V bs1 d1 = V1 at *
  iterate 4 (refine wpList_plain rfl (fun K hK => ?_); go_simp; with_reducible refine hK _ _ ?_; clear hK K)
  refine wpList_stA (t := 32) 32 (.tmp 5) (.tmp 16) rfl rfl (adC (bkA C b).1 (bkA C b).2.1 (bkA C b).2.2) (adC false 0 0) rfl (by simp [adC, Value.oneCell']) rfl rfl (Bk.new _ _ _) (szAd _ _ _) ?_
  intro W4 h4 g4
  refine wpList_plain rfl (fun K hK => ?_); go_simp; with_reducible refine hK _ _ ?_; clear hK K
  have be4 : Below V1.heap.size V1 W4 := below_grown (Below.allocS (Below.refl _ _) _) g4 (Nat.le_refl _)
  replace hX := hX.later be4
  replace bo := bo.later be4
  replace be := be.trans (be4.mono be.size)
  clear be4 h4 g4 HB
  cases hkn : knC C b
  · have HKN := Lib.hid hkn
    clear hkn
    have he := Lib.hid (show markE C k b = 6 by unfold markE; rw [if_pos HKN.out])
    have hcs := Lib.hid (show markS C k b = C from if_neg (by rw [he.out]; decide))
    go_wp2
    go_ret
    exact ⟨by rw [he.out]; rfl, G, D, ⟨A, n, c, E, by rw [hcs.out]; exact hX⟩, Grow.refl _ _ _, Chg.of_below be⟩
  · have HKN := Lib.hid hkn
    clear hkn
    rcases Nat.eq_zero_or_pos n with h0 | h0
    · have hq0 : W4.cell? ⟨g, 278, none⟩ = some (.slice A n c) := (hX.st.cell 278).trans (stC_vips C hk hb A n c)
      have hvs0 : C.vs = [] := List.eq_nil_of_length_eq_zero (by have := HN0.out; omega)
      have h0i : ((n : Int) == 0) = true := by simp [h0]
      have HVS := Lib.hid hvs0
      clear h0 hvs0
      have he := Lib.hid (show markE C k b = 1 by unfold markE; rw [if_neg (by rw [HKN.out]; simp), HVS.out])
      have hcs := Lib.hid (show markS C k b = C from if_neg (by rw [he.out]; decide))
      go_wp2
      go_ret
      exact ⟨by rw [he.out]; rfl, G, D, ⟨A, n, c, E, by rw [hcs.out]; exact hX⟩, Grow.refl _ _ _, Chg.of_below be⟩
    · have h0i : ((n : Int) == 0) = false := by simp; omega
      by_cases hk7 : k = 7
      · have hk7i : (k == 7) = true := by simp [hk7]
        have HK7 := Lib.hid hk7
        clear hk7
        have hq0 : W4.cell? ⟨g, 278, none⟩ = some (.slice A n c) := (hX.st.cell 278).trans (stC_vips C hk hb A n c)
        have hn0 : 0 < n := by omega
        have hn0i : (0 : Int) < (n : Int) := by omega
        obtain ⟨bb, cur, rfl, hob, hBr, hcl, -, hnc, -⟩ := hX.row.bk hn0
        have hlE := hX.len
        have hnE := hX.n_
        have hmem : E[0]'(by omega) ∈ E := List.getElem_mem _
        have hi0 : E[0]? = some (E[0]'(by omega)) := List.getElem?_eq_getElem _
        have hv0 : C.vs[0]? = some (E[0]'(by omega)).1 := by rw [← hX.vs, List.getElem?_map, hi0]; rfl
        have hok0 := (hC.vs _ (List.mem_of_getElem? hv0)).st
        have hq7 : ∀ W, Below W4.heap.size W4 W → W.cell? ⟨bb, 7, none⟩ = some (.pointer (some ⟨(E[0]'(by omega)).2.T, 0, none⟩)) := fun W h => by
          have := (hX.row.rs.later h).rangeE veC_len 0 (by omega)
          simpa using this 7 _ rfl
        have HQ := Lib.hid hq7
        generalize E[0]'(by omega) = x0 at *
        have HAP := Lib.hid (fun (S : Stk) (T : Nat) (w : World) (ho : StkOk S) (h : Bk w T 120 (stkC S)) => mrkA S ho T k b hb63 w HK7.out h)
        have hm1 : markE C k b = mrkE x0.1.S k b := by
          unfold markE
          rw [if_neg (by rw [HKN.out]; simp)]
          cases hc : C.vs with
          | nil => rw [hc] at hv0; cases hv0
          | cons a t => rw [hc] at hv0; simp at hv0; rw [hv0]
        have HM1 := Lib.hid hm1
        have HV0 := Lib.hid hv0
        have HI0 := Lib.hid hi0
        have HLE := Lib.hid hlE
        have HNE := Lib.hid hnE
        clear hq7 hm1 hv0 hi0 hlE hnE hn0
        have hqk : W4.cell? ⟨w.heap.size, 0, none⟩ = some (.int .i64 k) := bo.cell 0
        go_upto_region 9 with (fail)
        clear hq0 hqk
        refine wp_relS 10 60 rfl (by kernel_rfl) (by kernel_rfl) ?_
        apply Steps.one (MP.eq _) 1 rfl
        · intro o ho FA x hO hD K hK
          obtain rfl := Option.some.inj ho.symm
          clear ho
          have e7 := hO 7 (by kernel_rfl)
          simp only [eval_tmp, List.getElem?_toArray, List.getElem?_cons_succ, List.getElem?_cons_zero, Option.getD_some] at e7
          have ev7 := Lib.hid ((eval_tmp FA 7).trans e7)
          clear hO hD
          go_simp
          exact hK.out _ _ (Ex.refl _) rfl
        apply Steps.one (MP.eq _) 2 rfl
        · intro o ho FA x hO hD K hK
          obtain rfl := Option.some.inj ho.symm
          clear ho
          have e0 := hO 0 (by kernel_rfl)
          simp only [eval_tmp, List.getElem?_toArray, List.getElem?_cons_succ, List.getElem?_cons_zero, Option.getD_some] at e0
          have ev0 := Lib.hid ((eval_tmp FA 0).trans e0)
          clear hO hD
          go_simp
          exact hK.out _ _ (Ex.refl _) rfl
        apply Steps.one (MP.eq _) 3 rfl
        · intro o ho FA x hO hD K hK
          obtain rfl := Option.some.inj ho.symm
          clear ho
          have ev30 : FA.eval (.tmp 30) = _ := hD 1 30 (by kernel_rfl)
          have e30 := (eval_tmp FA 30).symm.trans ev30
          replace ev30 := Lib.hid ev30
          clear hO hD
          go_simp
          exact hK.out _ _ (Ex.refl _) rfl
        apply Steps.one (MP.eq _) 4 rfl
        · intro o ho FA x hO hD K hK
          obtain rfl := Option.some.inj ho.symm
          clear ho
          have ev31 : FA.eval (.tmp 31) = _ := hD 2 31 (by kernel_rfl)
          have e31 := (eval_tmp FA 31).symm.trans ev31
          replace ev31 := Lib.hid ev31
          clear hO hD
          go_simp
          exact hK.out _ _ (Ex.refl _) rfl
        apply Steps.one (MP.eq _) 5 rfl
        · intro o ho FA x hO hD K hK
          obtain rfl := Option.some.inj ho.symm
          clear ho
          have ev32 : FA.eval (.tmp 32) = _ := hD 3 32 (by kernel_rfl)
          have e32 := (eval_tmp FA 32).symm.trans ev32
          replace ev32 := Lib.hid ev32
          clear hO hD
          refine wanted_if rfl ?_
          refine wp_ld1 88 (.tmp 32) rfl ev32.out (hX.st.later (below_plus _ _ _)) (stC_vips C hk hb _ n c) Tryd.underlying88 rfl ?_
          exact hK.out _ _ (Ex.refl _) rfl
        apply Steps.one (MP.eq _) 6 rfl
        · intro o ho FA x hO hD K hK
          obtain rfl := Option.some.inj ho.symm
          clear ho
          have ev33 : FA.eval (.tmp 33) = _ := hD 4 33 (by kernel_rfl)
          have e33 := (eval_tmp FA 33).symm.trans ev33
          replace ev33 := Lib.hid ev33
          clear hO hD
          go_simp
          exact hK.out _ _ (Ex.refl _) rfl
        apply Steps.one (MP.eq _) 7 rfl
        · intro o ho FA x hO hD K hK
          obtain rfl := Option.some.inj ho.symm
          clear ho
          have ev34 : FA.eval (.tmp 34) = _ := hD 5 34 (by kernel_rfl)
          have e34 := (eval_tmp FA 34).symm.trans ev34
          replace ev34 := Lib.hid ev34
          clear hO hD
          go_simp
          exact hK.out _ _ (Ex.refl _) rfl
        apply Steps.one (MP.eq _) 8 rfl
        · intro o ho FA x hO hD K hK
          obtain rfl := Option.some.inj ho.symm
          clear ho
          have ev35 : FA.eval (.tmp 35) = _ := hD 6 35 (by kernel_rfl)
          have e35 := (eval_tmp FA 35).symm.trans ev35
          replace ev35 := Lib.hid ev35
          clear hO hD
          have hq := HQ.out _ (below_plus W4 x.bs x.d)
          go_simp
          exact hK.out _ _ (Ex.refl _) rfl
        apply Steps.one (MP.eq _) 9 rfl
        · intro o ho FA x hO hD K hK
          obtain rfl := Option.some.inj ho.symm
          clear ho
          have e3 := hO 3 (by kernel_rfl)
          simp only [eval_tmp, List.getElem?_toArray, List.getElem?_cons_succ, List.getElem?_cons_zero, Option.getD_some] at e3
          have ev3 := Lib.hid ((eval_tmp FA 3).trans e3)
          clear hO hD
          go_simp
          exact hK.out _ _ (Ex.refl _) rfl
        apply Steps.one (MP.eq _) 10 rfl
        · intro o ho FA x hO hD K hK
          obtain rfl := Option.some.inj ho.symm
          clear ho
          have ev37 : FA.eval (.tmp 37) = _ := hD 8 37 (by kernel_rfl)
          have e37 := (eval_tmp FA 37).symm.trans ev37
          replace ev37 := Lib.hid ev37
          clear hO hD
          refine wanted_if rfl ?_
          refine wp_ld1 3 (.tmp 37) rfl ev37.out (bo.later (below_plus _ _ _)) rfl Tryd.underlying3 rfl ?_
          exact hK.out _ _ (Ex.refl _) rfl
        refine Steps.fin_ (fun vs x hp => ?_)
        have p0 : vs 0 = _ := hp 0 (by omega)
        have p1 : vs 1 = _ := hp 1 (by omega)
        have p2 : vs 2 = _ := hp 2 (by omega)
        have p3 : vs 3 = _ := hp 3 (by omega)
        have p4 : vs 4 = _ := hp 4 (by omega)
        have p5 : vs 5 = _ := hp 5 (by omega)
        have p6 : vs 6 = _ := hp 6 (by omega)
        have p7 : vs 7 = _ := hp 7 (by omega)
        have p8 : vs 8 = _ := hp 8 (by omega)
        have p9 : vs 9 = _ := hp 9 (by omega)
        clear hp
        simp only [List.take_succ_cons, List.take_zero, List.drop_succ_cons, List.drop_zero, putAll, Nat.zero_add, Nat.reduceAdd, Act.put, List.setIfInBounds_toArray, List.set_cons_zero, List.set_cons_succ, p0, p1, p2, p3, p4, p5, p6, p7, p8, p9]
        clear p0 p1 p2 p3 p4 p5 p6 p7 p8 p9
        clear vs
        have hb9 := below_plus W4 x.bs x.d
        replace hX := hX.later hb9
        replace bo := bo.later hb9
        replace be := be.trans (hb9.mono be.size)
        clear hb9 HQ
        generalize plus W4 x.bs x.d = V5 at *
        refine wpList_plain rfl (fun K hK => ?_)
        go_simp
        refine (HAP.out x0.1.S x0.2.T _ hok0 (hX.tb x0 hmem)).mono ?_
        rintro en w1 ⟨rfl, hS2, hc2⟩
        with_reducible refine hK _ _ ?_
        clear hK K
        refine wpList_plain rfl (fun K hK => ?_); go_simp; with_reducible refine hK _ _ ?_; clear hK K
        have X1 := hX.setStk HI0.out hS2 hc2
        have hch : Chg D w w1 := (Chg.of_below be).trans (hc2.wid (fun z hz => by rw [show z = x0.2.T from hz]; exact hX.dt x0 hmem))
        replace bo : Bk w1 w.heap.size 45 (opC k v b e six ah al pt pr wy B m d) := bo.chg hc2 (fun z => by have z : w.heap.size = x0.2.T := z; have := HLT.out _ (hX.dt x0 hmem); omega)
        clear hX hS2 hc2 be
        obtain ⟨PE, hPE⟩ : ∃ PE : Int, ((mrkE x0.1.S k b : Nat) : Int) = PE := ⟨_, rfl⟩
        rw [hPE]
        have HPE := Lib.hid hPE
        clear hPE
        by_cases hne : mrkE x0.1.S k b = 0
        · have hp0 : (PE != 0) = false := by rw [← HPE.out]; simp [hne]
          have he := Lib.hid (show markE C k b = 0 by rw [HM1.out]; exact hne)
          have hcs := Lib.hid (show markS C k b = { C with vs := C.vs.map (mrkV k b) } from if_pos he.out)
          clear hne
          have hq0 : w1.cell? ⟨g, 278, none⟩ = some (.slice (some ⟨bb, 0, none⟩) n c) := (X1.st.cell 278).trans (stC_vips _ hk hb _ n c)
          have hn1 : (1 : Int) ≤ (n : Int) := by omega
          have hXm : CfX G D w1 g { C with vs := mkJ k b C.vs 1 } (some ⟨bb, 0, none⟩) n c (E.set 0 ({ x0.1 with S := mrkS x0.1.S k b }, x0.2)) := by
            have : C.vs.set 0 { x0.1 with S := mrkS x0.1.S k b } = mkJ k b C.vs 1 := by
              have h := mkJ_succ k b C.vs 0 x0.1 HV0.out
              rw [mkJ_0] at h
              exact h.symm
            rw [← this]
            exact X1
          have HXM := Lib.hid hXm
          clear X1 hXm
          go_upto_region 13 with (fail)
          clear hq0
          have HBO := Lib.hid bo
          have HCH := Lib.hid hch
          clear bo hch
          rcases Nat.lt_or_ge n 2 with h2 | h2
          · have hn1' : n = 1 := by omega
            subst hn1'
            have hfin : mkJ k b C.vs 1 = C.vs.map (mrkV k b) := by
              unfold mkJ
              rw [List.take_of_length_le (by have := HNE.out; omega), List.drop_of_length_le (by have := HNE.out; omega), List.append_nil]
            have HF := Lib.hid hfin
            clear hfin
            go_loopw [49] (fun I wr => I = .int .i64 0 ∧ wr = w1) (fun I _ => 0)
            case atStart => exact ⟨rfl, rfl⟩
            case round =>
              obtain ⟨rfl, rfl⟩ := hrel
              go_wp2
              go_ret
              rw [hcs.out, ← HF.out]
              exact ⟨by rw [he.out]; rfl, G, D, ⟨_, _, _, _, HXM.out⟩, Grow.refl _ _ _, HCH.out⟩
          · have hc1 : ¬ c = 1 := by omega
            have hcut : cutA (some ⟨bb, 0, none⟩) c 1 8 = some ⟨bb, 8, none⟩ := by unfold cutA; rw [if_neg hc1]; rfl
            obtain ⟨n1, rfl⟩ : ∃ n1, n = n1 + 1 := ⟨n - 1, by omega⟩
            rw [hcut, Nat.add_sub_cancel]
            have n18 : n1 ≤ 16 := by omega
            clear hcut h2
            go_loopw [49] (fun I wr => ∃ (j : Nat) (E1 : List Ve), I = .int .i64 (j : Int) ∧ j ≤ n1 ∧ CfX G D wr g { C with vs := mkJ k b C.vs (j + 1) } (some ⟨bb, 0, none⟩) (n1 + 1) c E1 ∧ Bk wr w.heap.size 45 (opC k v b e six ah al pt pr wy B m d) ∧ Chg D w wr) (fun I _ => n1 - (intOf I).toNat)
            case atStart => exact ⟨0, _, rfl, Nat.zero_le _, HXM.out, HBO.out, HCH.out⟩
            case round =>
              clear HXM HBO HCH
              obtain ⟨j, E1, rfl, hj, hX, bo, hch⟩ := hrel
              by_cases hlt : j < n1
              · have ij : (j : Int) < (n1 : Int) := by omega
                have hl1 : E1.length = n1 + 1 := by have h1 := hX.len; have h2 := hX.n_; omega
                have hmy : E1[j + 1]'(by omega) ∈ E1 := List.getElem_mem _
                have hiy : E1[j + 1]? = some (E1[j + 1]'(by omega)) := List.getElem?_eq_getElem _
                have hvy : C.vs[j + 1]? = some (E1[j + 1]'(by omega)).1 := by
                  rw [← mkJ_at k b C.vs (j + 1)]
                  have := hX.vs
                  rw [show mkJ k b C.vs (j + 1) = List.map (·.1) E1 from this.symm, List.getElem?_map, hiy]; rfl
                have hoky := (hC.vs _ (List.mem_of_getElem? hvy)).st
                have hgy : wr.rangeAt bb (8 + j * 8) (veC (E1[j + 1]'(by omega))) := by
                  have := hX.row.rs.rangeE veC_len (j + 1) (by omega)
                  rwa [show 0 + (j + 1) * 8 = 8 + j * 8 by omega] at this
                generalize E1[j + 1]'(by omega) = y at *
                have HIY := Lib.hid hiy
                have HVY := Lib.hid hvy
                clear hiy hvy hl1
                go_upto_region 15 with (first
                  | (refine at_op (.load 53 (.tmp 51)) rfl ?_; refine wpList_load_mid rfl 53 (.tmp 51) rfl bb (8 + j * 8) rfl (veC y) _ hgy vv1 vv2 (szVe _) ?_)
                  | (refine at_op (.store 53 (.tmp 10) (.tmp 52)) rfl ?_; refine wpList_stA (t := 53) 53 (.tmp 10) (.tmp 52) rfl rfl (veC y) [.bool false, .int .u64 0, .int .u64 0, .int .u16 0, .int .u8 0, .int .i64 0, .slice none 0 0, .pointer none] rfl (veC_one _) rfl rfl (Bk.new _ _ _) (szVe _) ?_; intro W6 h6 g6))
                have be6 : Below wr.heap.size wr W6 := below_grown (Below.allocS (Below.refl _ _) _) g6 (Nat.le_refl _)
                have q7 : W6.cell? ⟨wr.heap.size, 7, none⟩ = some (.pointer (some ⟨y.2.T, 0, none⟩)) := h6.cell 7
                replace hX := hX.later be6
                replace bo := bo.later be6
                replace hch := hch.trans (Chg.of_below be6)
                clear be6 h6 g6 hgy
                generalize wr.heap.size = gv at *
                refine wp_region_lit ?_
                iterate 4 (refine wpList_plain rfl (fun K hK => ?_); go_simp; with_reducible refine hK _ _ ?_; clear hK K)
                refine wpList_ld1 (t := 45) (cs := opC k v b e six ah al pt pr wy B m d) 3 (.tmp 56) rfl (by rfl) rfl (bo) rfl Tryd.underlying3 rfl ?_
                refine wpList_plain rfl (fun K hK => ?_)
                go_simp
                refine (HAP.out y.1.S y.2.T _ hoky (hX.tb y hmy)).mono ?_
                rintro en w1 ⟨rfl, hS2, hc2⟩
                with_reducible refine hK _ _ ?_
                clear hK K
                have X2 := hX.setStk HIY.out hS2 hc2
                replace hch : Chg D w w1 := hch.trans (hc2.wid (fun z hz => by rw [show z = y.2.T from hz]; exact hX.dt y hmy))
                replace bo : Bk w1 w.heap.size 45 (opC k v b e six ah al pt pr wy B m d) := bo.chg hc2 (fun z => by have z : w.heap.size = y.2.T := z; have := HLT.out _ (hX.dt y hmy); omega)
                have hs := mkJ_succ k b C.vs (j + 1) y.1 HVY.out
                replace X2 : CfX G D w1 g { C with vs := (mkJ k b C.vs (j + 1)).set (j + 1) (mrkV k b y.1) } (some ⟨bb, 0, none⟩) (n1 + 1) c (E1.set (j + 1) ({ y.1 with S := mrkS y.1.S k b }, y.2)) := X2
                rw [← hs] at X2
                have HH := Lib.hid (And.intro X2 (And.intro bo hch))
                clear X2 bo hch hX hS2 hc2 hs q7
                go_wp2
                exact ⟨⟨j + 1, by go_num, by omega, ⟨_, HH.out.1⟩, HH.out.2.1, HH.out.2.2⟩, by simp [intOf]; omega⟩
              · obtain rfl : j = n1 := by omega
                have ij : ¬ (j : Int) < (j : Int) := by omega
                have hfin : mkJ k b C.vs (j + 1) = C.vs.map (mrkV k b) := by
                  unfold mkJ
                  rw [List.take_of_length_le (by have := HNE.out; omega), List.drop_of_length_le (by have := HNE.out; omega), List.append_nil]
                rw [hfin] at hX
                have HH := Lib.hid (And.intro hX hch)
                clear hX hch hfin hj bo
                go_wp2
                go_ret
                rw [hcs.out]
                exact ⟨by rw [he.out]; rfl, G, D, ⟨_, _, _, _, HH.out.1⟩, Grow.refl _ _ _, HH.out.2⟩
        · have hp0 : (PE != 0) = true := by rw [← HPE.out]; simp [hne]
          have he := Lib.hid (show markE C k b = mrkE x0.1.S k b from HM1.out)
          have hcs := Lib.hid (show markS C k b = C from if_neg (by rw [he.out]; exact hne))
          have hid : ({ C with vs := C.vs.set 0 { x0.1 with S := mrkS x0.1.S k b } } : Cf) = C := by
            have h1 : ({ x0.1 with S := mrkS x0.1.S k b } : Vp) = x0.1 := by rw [mrkE_ne hne]
            have h2 : C.vs.set 0 x0.1 = C.vs := by
              obtain ⟨h4, h5⟩ := List.getElem?_eq_some_iff.1 HV0.out
              rw [← h5, List.set_getElem_self]
            rw [h1, h2]
          rw [hid] at X1
          clear hne hid bo
          go_wp2
          go_ret
          rw [hcs.out]
          exact ⟨by rw [he.out, HPE.out]; rfl, G, D, ⟨_, _, _, _, X1⟩, Grow.refl _ _ _, hch⟩
      · have hk7i : (k == 7) = false := by simp [hk7]
        have HK7 := Lib.hid hk7
        clear hk7
        have hq0 : W4.cell? ⟨g, 278, none⟩ = some (.slice A n c) := (hX.st.cell 278).trans (stC_vips C hk hb A n c)
        have hn0 : 0 < n := by omega
        have hn0i : (0 : Int) < (n : Int) := by omega
        obtain ⟨bb, cur, rfl, hob, hBr, hcl, -, hnc, -⟩ := hX.row.bk hn0
        have hlE := hX.len
        have hnE := hX.n_
        have hmem : E[0]'(by omega) ∈ E := List.getElem_mem _
        have hi0 : E[0]? = some (E[0]'(by omega)) := List.getElem?_eq_getElem _
        have hv0 : C.vs[0]? = some (E[0]'(by omega)).1 := by rw [← hX.vs, List.getElem?_map, hi0]; rfl
        have hok0 := (hC.vs _ (List.mem_of_getElem? hv0)).st
        have hq7 : ∀ W, Below W4.heap.size W4 W → W.cell? ⟨bb, 7, none⟩ = some (.pointer (some ⟨(E[0]'(by omega)).2.T, 0, none⟩)) := fun W h => by
          have := (hX.row.rs.later h).rangeE veC_len 0 (by omega)
          simpa using this 7 _ rfl
        have HQ := Lib.hid hq7
        generalize E[0]'(by omega) = x0 at *
        have HAP := Lib.hid (fun (S : Stk) (T : Nat) (w : World) (ho : StkOk S) (h : Bk w T 120 (stkC S)) => mrkB S ho T k b hb63 w HK7.out h)
        have hm1 : markE C k b = mrkE x0.1.S k b := by
          unfold markE
          rw [if_neg (by rw [HKN.out]; simp)]
          cases hc : C.vs with
          | nil => rw [hc] at hv0; cases hv0
          | cons a t => rw [hc] at hv0; simp at hv0; rw [hv0]
        have HM1 := Lib.hid hm1
        have HV0 := Lib.hid hv0
        have HI0 := Lib.hid hi0
        have HLE := Lib.hid hlE
        have HNE := Lib.hid hnE
        clear hq7 hm1 hv0 hi0 hlE hnE hn0
        have hqk : W4.cell? ⟨w.heap.size, 0, none⟩ = some (.int .i64 k) := bo.cell 0
        go_upto_region 9 with (fail)
        clear hq0 hqk
        refine wp_relS 10 60 rfl (by kernel_rfl) (by kernel_rfl) ?_
        apply Steps.one (MP.eq _) 1 rfl
        · intro o ho FA x hO hD K hK
          obtain rfl := Option.some.inj ho.symm
          clear ho
          have e7 := hO 7 (by kernel_rfl)
          simp only [eval_tmp, List.getElem?_toArray, List.getElem?_cons_succ, List.getElem?_cons_zero, Option.getD_some] at e7
          have ev7 := Lib.hid ((eval_tmp FA 7).trans e7)
          clear hO hD
          go_simp
          exact hK.out _ _ (Ex.refl _) rfl
        apply Steps.one (MP.eq _) 2 rfl
        · intro o ho FA x hO hD K hK
          obtain rfl := Option.some.inj ho.symm
          clear ho
          have e0 := hO 0 (by kernel_rfl)
          simp only [eval_tmp, List.getElem?_toArray, List.getElem?_cons_succ, List.getElem?_cons_zero, Option.getD_some] at e0
          have ev0 := Lib.hid ((eval_tmp FA 0).trans e0)
          clear hO hD
          go_simp
          exact hK.out _ _ (Ex.refl _) rfl
        apply Steps.one (MP.eq _) 3 rfl
        · intro o ho FA x hO hD K hK
          obtain rfl := Option.some.inj ho.symm
          clear ho
          have ev30 : FA.eval (.tmp 30) = _ := hD 1 30 (by kernel_rfl)
          have e30 := (eval_tmp FA 30).symm.trans ev30
          replace ev30 := Lib.hid ev30
          clear hO hD
          go_simp
          exact hK.out _ _ (Ex.refl _) rfl
        apply Steps.one (MP.eq _) 4 rfl
        · intro o ho FA x hO hD K hK
          obtain rfl := Option.some.inj ho.symm
          clear ho
          have ev31 : FA.eval (.tmp 31) = _ := hD 2 31 (by kernel_rfl)
          have e31 := (eval_tmp FA 31).symm.trans ev31
          replace ev31 := Lib.hid ev31
          clear hO hD
          go_simp
          exact hK.out _ _ (Ex.refl _) rfl
        apply Steps.one (MP.eq _) 5 rfl
        · intro o ho FA x hO hD K hK
          obtain rfl := Option.some.inj ho.symm
          clear ho
          have ev32 : FA.eval (.tmp 32) = _ := hD 3 32 (by kernel_rfl)
          have e32 := (eval_tmp FA 32).symm.trans ev32
          replace ev32 := Lib.hid ev32
          clear hO hD
          refine wanted_if rfl ?_
          refine wp_ld1 88 (.tmp 32) rfl ev32.out (hX.st.later (below_plus _ _ _)) (stC_vips C hk hb _ n c) Tryd.underlying88 rfl ?_
          exact hK.out _ _ (Ex.refl _) rfl
        apply Steps.one (MP.eq _) 6 rfl
        · intro o ho FA x hO hD K hK
          obtain rfl := Option.some.inj ho.symm
          clear ho
          have ev33 : FA.eval (.tmp 33) = _ := hD 4 33 (by kernel_rfl)
          have e33 := (eval_tmp FA 33).symm.trans ev33
          replace ev33 := Lib.hid ev33
          clear hO hD
          go_simp
          exact hK.out _ _ (Ex.refl _) rfl
        apply Steps.one (MP.eq _) 7 rfl
        · intro o ho FA x hO hD K hK
          obtain rfl := Option.some.inj ho.symm
          clear ho
          have ev34 : FA.eval (.tmp 34) = _ := hD 5 34 (by kernel_rfl)
          have e34 := (eval_tmp FA 34).symm.trans ev34
          replace ev34 := Lib.hid ev34
          clear hO hD
          go_simp
          exact hK.out _ _ (Ex.refl _) rfl
        apply Steps.one (MP.eq _) 8 rfl
        · intro o ho FA x hO hD K hK
          obtain rfl := Option.some.inj ho.symm
          clear ho
          have ev35 : FA.eval (.tmp 35) = _ := hD 6 35 (by kernel_rfl)
          have e35 := (eval_tmp FA 35).symm.trans ev35
          replace ev35 := Lib.hid ev35
          clear hO hD
          have hq := HQ.out _ (below_plus W4 x.bs x.d)
          go_simp
          exact hK.out _ _ (Ex.refl _) rfl
        apply Steps.one (MP.eq _) 9 rfl
        · intro o ho FA x hO hD K hK
          obtain rfl := Option.some.inj ho.symm
          clear ho
          have e3 := hO 3 (by kernel_rfl)
          simp only [eval_tmp, List.getElem?_toArray, List.getElem?_cons_succ, List.getElem?_cons_zero, Option.getD_some] at e3
          have ev3 := Lib.hid ((eval_tmp FA 3).trans e3)
          clear hO hD
          go_simp
          exact hK.out _ _ (Ex.refl _) rfl
        apply Steps.one (MP.eq _) 10 rfl
        · intro o ho FA x hO hD K hK
          obtain rfl := Option.some.inj ho.symm
          clear ho
          have ev37 : FA.eval (.tmp 37) = _ := hD 8 37 (by kernel_rfl)
          have e37 := (eval_tmp FA 37).symm.trans ev37
          replace ev37 := Lib.hid ev37
          clear hO hD
          refine wanted_if rfl ?_
          refine wp_ld1 3 (.tmp 37) rfl ev37.out (bo.later (below_plus _ _ _)) rfl Tryd.underlying3 rfl ?_
          exact hK.out _ _ (Ex.refl _) rfl
        refine Steps.fin_ (fun vs x hp => ?_)
        have p0 : vs 0 = _ := hp 0 (by omega)
        have p1 : vs 1 = _ := hp 1 (by omega)
        have p2 : vs 2 = _ := hp 2 (by omega)
        have p3 : vs 3 = _ := hp 3 (by omega)
        have p4 : vs 4 = _ := hp 4 (by omega)
        have p5 : vs 5 = _ := hp 5 (by omega)
        have p6 : vs 6 = _ := hp 6 (by omega)
        have p7 : vs 7 = _ := hp 7 (by omega)
        have p8 : vs 8 = _ := hp 8 (by omega)
        have p9 : vs 9 = _ := hp 9 (by omega)
        clear hp
        simp only [List.take_succ_cons, List.take_zero, List.drop_succ_cons, List.drop_zero, putAll, Nat.zero_add, Nat.reduceAdd, Act.put, List.setIfInBounds_toArray, List.set_cons_zero, List.set_cons_succ, p0, p1, p2, p3, p4, p5, p6, p7, p8, p9]
        clear p0 p1 p2 p3 p4 p5 p6 p7 p8 p9
        clear vs
        have hb9 := below_plus W4 x.bs x.d
        replace hX := hX.later hb9
        replace bo := bo.later hb9
        replace be := be.trans (hb9.mono be.size)
        clear hb9 HQ
        generalize plus W4 x.bs x.d = V5 at *
        refine wpList_plain rfl (fun K hK => ?_)
        go_simp
        refine (HAP.out x0.1.S x0.2.T _ hok0 (hX.tb x0 hmem)).mono ?_
        rintro en w1 ⟨rfl, hS2, hc2⟩
        with_reducible refine hK _ _ ?_
        clear hK K
        refine wpList_plain rfl (fun K hK => ?_); go_simp; with_reducible refine hK _ _ ?_; clear hK K
        have X1 := hX.setStk HI0.out hS2 hc2
        have hch : Chg D w w1 := (Chg.of_below be).trans (hc2.wid (fun z hz => by rw [show z = x0.2.T from hz]; exact hX.dt x0 hmem))
        replace bo : Bk w1 w.heap.size 45 (opC k v b e six ah al pt pr wy B m d) := bo.chg hc2 (fun z => by have z : w.heap.size = x0.2.T := z; have := HLT.out _ (hX.dt x0 hmem); omega)
        clear hX hS2 hc2 be
        obtain ⟨PE, hPE⟩ : ∃ PE : Int, ((mrkE x0.1.S k b : Nat) : Int) = PE := ⟨_, rfl⟩
        rw [hPE]
        have HPE := Lib.hid hPE
        clear hPE
        by_cases hne : mrkE x0.1.S k b = 0
        · have hp0 : (PE != 0) = false := by rw [← HPE.out]; simp [hne]
          have he := Lib.hid (show markE C k b = 0 by rw [HM1.out]; exact hne)
          have hcs := Lib.hid (show markS C k b = { C with vs := C.vs.map (mrkV k b) } from if_pos he.out)
          clear hne
          have hq0 : w1.cell? ⟨g, 278, none⟩ = some (.slice (some ⟨bb, 0, none⟩) n c) := (X1.st.cell 278).trans (stC_vips _ hk hb _ n c)
          have hn1 : (1 : Int) ≤ (n : Int) := by omega
          have hXm : CfX G D w1 g { C with vs := mkJ k b C.vs 1 } (some ⟨bb, 0, none⟩) n c (E.set 0 ({ x0.1 with S := mrkS x0.1.S k b }, x0.2)) := by
            have : C.vs.set 0 { x0.1 with S := mrkS x0.1.S k b } = mkJ k b C.vs 1 := by
              have h := mkJ_succ k b C.vs 0 x0.1 HV0.out
              rw [mkJ_0] at h
              exact h.symm
            rw [← this]
            exact X1
          have HXM := Lib.hid hXm
          clear X1 hXm
          go_upto_region 13 with (fail)
          clear hq0
          have HBO := Lib.hid bo
          have HCH := Lib.hid hch
          clear bo hch
          rcases Nat.lt_or_ge n 2 with h2 | h2
          · have hn1' : n = 1 := by omega
            subst hn1'
            have hfin : mkJ k b C.vs 1 = C.vs.map (mrkV k b) := by
              unfold mkJ
              rw [List.take_of_length_le (by have := HNE.out; omega), List.drop_of_length_le (by have := HNE.out; omega), List.append_nil]
            have HF := Lib.hid hfin
            clear hfin
            go_loopw [49] (fun I wr => I = .int .i64 0 ∧ wr = w1) (fun I _ => 0)
            case atStart => exact ⟨rfl, rfl⟩
            case round =>
              obtain ⟨rfl, rfl⟩ := hrel
              go_wp2
              go_ret
              rw [hcs.out, ← HF.out]
              exact ⟨by rw [he.out]; rfl, G, D, ⟨_, _, _, _, HXM.out⟩, Grow.refl _ _ _, HCH.out⟩
          · have hc1 : ¬ c = 1 := by omega
            have hcut : cutA (some ⟨bb, 0, none⟩) c 1 8 = some ⟨bb, 8, none⟩ := by unfold cutA; rw [if_neg hc1]; rfl
            obtain ⟨n1, rfl⟩ : ∃ n1, n = n1 + 1 := ⟨n - 1, by omega⟩
            rw [hcut, Nat.add_sub_cancel]
            have n18 : n1 ≤ 16 := by omega
            clear hcut h2
            go_loopw [49] (fun I wr => ∃ (j : Nat) (E1 : List Ve), I = .int .i64 (j : Int) ∧ j ≤ n1 ∧ CfX G D wr g { C with vs := mkJ k b C.vs (j + 1) } (some ⟨bb, 0, none⟩) (n1 + 1) c E1 ∧ Bk wr w.heap.size 45 (opC k v b e six ah al pt pr wy B m d) ∧ Chg D w wr) (fun I _ => n1 - (intOf I).toNat)
            case atStart => exact ⟨0, _, rfl, Nat.zero_le _, HXM.out, HBO.out, HCH.out⟩
            case round =>
              clear HXM HBO HCH
              obtain ⟨j, E1, rfl, hj, hX, bo, hch⟩ := hrel
              by_cases hlt : j < n1
              · have ij : (j : Int) < (n1 : Int) := by omega
                have hl1 : E1.length = n1 + 1 := by have h1 := hX.len; have h2 := hX.n_; omega
                have hmy : E1[j + 1]'(by omega) ∈ E1 := List.getElem_mem _
                have hiy : E1[j + 1]? = some (E1[j + 1]'(by omega)) := List.getElem?_eq_getElem _
                have hvy : C.vs[j + 1]? = some (E1[j + 1]'(by omega)).1 := by
                  rw [← mkJ_at k b C.vs (j + 1)]
                  have := hX.vs
                  rw [show mkJ k b C.vs (j + 1) = List.map (·.1) E1 from this.symm, List.getElem?_map, hiy]; rfl
                have hoky := (hC.vs _ (List.mem_of_getElem? hvy)).st
                have hgy : wr.rangeAt bb (8 + j * 8) (veC (E1[j + 1]'(by omega))) := by
                  have := hX.row.rs.rangeE veC_len (j + 1) (by omega)
                  rwa [show 0 + (j + 1) * 8 = 8 + j * 8 by omega] at this
                generalize E1[j + 1]'(by omega) = y at *
                have HIY := Lib.hid hiy
                have HVY := Lib.hid hvy
                clear hiy hvy hl1
                go_upto_region 15 with (first
                  | (refine at_op (.load 53 (.tmp 51)) rfl ?_; refine wpList_load_mid rfl 53 (.tmp 51) rfl bb (8 + j * 8) rfl (veC y) _ hgy vv1 vv2 (szVe _) ?_)
                  | (refine at_op (.store 53 (.tmp 10) (.tmp 52)) rfl ?_; refine wpList_stA (t := 53) 53 (.tmp 10) (.tmp 52) rfl rfl (veC y) [.bool false, .int .u64 0, .int .u64 0, .int .u16 0, .int .u8 0, .int .i64 0, .slice none 0 0, .pointer none] rfl (veC_one _) rfl rfl (Bk.new _ _ _) (szVe _) ?_; intro W6 h6 g6))
                have be6 : Below wr.heap.size wr W6 := below_grown (Below.allocS (Below.refl _ _) _) g6 (Nat.le_refl _)
                have q7 : W6.cell? ⟨wr.heap.size, 7, none⟩ = some (.pointer (some ⟨y.2.T, 0, none⟩)) := h6.cell 7
                replace hX := hX.later be6
                replace bo := bo.later be6
                replace hch := hch.trans (Chg.of_below be6)
                clear be6 h6 g6 hgy
                generalize wr.heap.size = gv at *
                refine wp_region_lit ?_
                iterate 4 (refine wpList_plain rfl (fun K hK => ?_); go_simp; with_reducible refine hK _ _ ?_; clear hK K)
                refine wpList_ld1 (t := 45) (cs := opC k v b e six ah al pt pr wy B m d) 3 (.tmp 56) rfl (by rfl) rfl (bo) rfl Tryd.underlying3 rfl ?_
                refine wpList_plain rfl (fun K hK => ?_)
                go_simp
                refine (HAP.out y.1.S y.2.T _ hoky (hX.tb y hmy)).mono ?_
                rintro en w1 ⟨rfl, hS2, hc2⟩
                with_reducible refine hK _ _ ?_
                clear hK K
                have X2 := hX.setStk HIY.out hS2 hc2
                replace hch : Chg D w w1 := hch.trans (hc2.wid (fun z hz => by rw [show z = y.2.T from hz]; exact hX.dt y hmy))
                replace bo : Bk w1 w.heap.size 45 (opC k v b e six ah al pt pr wy B m d) := bo.chg hc2 (fun z => by have z : w.heap.size = y.2.T := z; have := HLT.out _ (hX.dt y hmy); omega)
                have hs := mkJ_succ k b C.vs (j + 1) y.1 HVY.out
                replace X2 : CfX G D w1 g { C with vs := (mkJ k b C.vs (j + 1)).set (j + 1) (mrkV k b y.1) } (some ⟨bb, 0, none⟩) (n1 + 1) c (E1.set (j + 1) ({ y.1 with S := mrkS y.1.S k b }, y.2)) := X2
                rw [← hs] at X2
                have HH := Lib.hid (And.intro X2 (And.intro bo hch))
                clear X2 bo hch hX hS2 hc2 hs q7
                go_wp2
                exact ⟨⟨j + 1, by go_num, by omega, ⟨_, HH.out.1⟩, HH.out.2.1, HH.out.2.2⟩, by simp [intOf]; omega⟩
              · obtain rfl : j = n1 := by omega
                have ij : ¬ (j : Int) < (j : Int) := by omega
                have hfin : mkJ k b C.vs (j + 1) = C.vs.map (mrkV k b) := by
                  unfold mkJ
                  rw [List.take_of_length_le (by have := HNE.out; omega), List.drop_of_length_le (by have := HNE.out; omega), List.append_nil]
                rw [hfin] at hX
                have HH := Lib.hid (And.intro hX hch)
                clear hX hch hfin hj bo
                go_wp2
                go_ret
                rw [hcs.out]
                exact ⟨by rw [he.out]; rfl, G, D, ⟨_, _, _, _, HH.out.1⟩, Grow.refl _ _ _, HH.out.2⟩
        · have hp0 : (PE != 0) = true := by rw [← HPE.out]; simp [hne]
          have he := Lib.hid (show markE C k b = mrkE x0.1.S k b from HM1.out)
          have hcs := Lib.hid (show markS C k b = C from if_neg (by rw [he.out]; exact hne))
          have hid : ({ C with vs := C.vs.set 0 { x0.1 with S := mrkS x0.1.S k b } } : Cf) = C := by
            have h1 : ({ x0.1 with S := mrkS x0.1.S k b } : Vp) = x0.1 := by rw [mrkE_ne hne]
            have h2 : C.vs.set 0 x0.1 = C.vs := by
              obtain ⟨h4, h5⟩ := List.getElem?_eq_some_iff.1 HV0.out
              rw [← h5, List.set_getElem_self]
            rw [h1, h2]
          rw [hid] at X1
          clear hne hid bo
          go_wp2
          go_ret
          rw [hcs.out]
          exact ⟨by rw [he.out, HPE.out]; rfl, G, D, ⟨_, _, _, _, X1⟩, Grow.refl _ _ _, hch⟩
end Go.Proofs.YtclhfbbajeoanaaDoor

