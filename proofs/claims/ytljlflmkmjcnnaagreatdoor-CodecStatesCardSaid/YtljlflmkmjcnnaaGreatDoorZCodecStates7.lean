/- Texts of the law CodecStates, part 7. -/
import Derived.Test.YtljlflmkmjcnnaaGreatDoorZCodecStates6
set_option linter.unusedVariables false
set_option linter.unusedSimpArgs false
namespace Go.Proofs.YtljlflmkmjcnnaaGreatDoor
section
open Go.Lib
open Go.RowKit
attribute [local go_sem ↓] sliced_cut
attribute [local go_sem] cutA_zero
theorem etRm : ET Tryz.prog 45 86 (.agg #[.int .i64 0, .int .i64 0]) 2 16 := ⟨Tryz.underlying45, by kernel_rfl, rfl, by decide, by decide⟩
set_option maxHeartbeats 4000000 in
set_option maxRecDepth 100000 in
theorem rcMembers_any {G : Nat → Prop} (k b e : Int) (vi : Nat) (six : Bool) (ah al pt pr : Nat) (wy : Int) (ms : List (Int × Int)) (B : Option Addr) (m d : Nat) (C : Cf) (hC : CfOk C) (A : Option Addr) (n c : Nat) (E : List Re) (w : World) (hG : ∀ b, G b → b < w.heap.size) (hX : RcX G w C A n c E) (hr : Rs 2 w B m d (prs .i64 ms)) (hm : m ≤ 1000000) (uv : Vp) (huv : C.vs[vi]? = some uv) : Calls Tryz.prog 72 #[.agg (rcC C A n c).toArray, .agg (opC k (vi : Nat) b e six ah al pt pr wy B m d).toArray] w (RetRx G w { C with vs := C.vs.set vi (setV uv ms) } (setE C uv ms)) := by
 obtain ⟨dvr1, vr1, vr2⟩ := rowRv
 obtain ⟨dvt1, vt1, vt2⟩ := rowRst
 have hk := hC.key
 have hb := hC.bl
 have HX0 := Lib.hid hX
 have HN := Lib.hid hX.n_
 have hml : ms.length = m := by have := hr.1; rw [prs_length] at this; omega
 have HMR := Lib.hid (fun W (h : Below w.heap.size w W) => hr.later h)
 have HMR0 := Lib.hid hr
 have HRI := Lib.hid (fun W (h : Rs 2 W B m d (prs .i64 ms)) => rcRight_any C hk hb A n c ms B m d W h hm)
 have hvn : vi < n := by have := (List.getElem?_eq_some_iff.1 huv).1; have := HN.out; omega
 have hn16 : n ≤ 16 := by have := hC.vl; have := HN.out; omega
 have hok : StkOk uv.S := (hC.vs uv (List.mem_of_getElem? huv)).st
 cases hokm : okM C ms with
 | false =>
  have HE0 := Lib.hid (show setE C uv ms = 1 by unfold setE; rw [if_pos hokm])
  rw [hokm] at HRI
  clear hokm hr
  obtain ⟨dvs1, vs1, vs2⟩ := rowRcS
  obtain ⟨dvo1, vo1, vo2⟩ := rowRo
  obtain ⟨bs, bo, be, zV⟩ := box2 w 37 47 (rcC C A n c) (opC k (vi : Nat) b e six ah al pt pr wy B m d)
  go_enter Tryz.func72, Tryz.ntmps72
  go_upto_region 1 with (fail)
  have HVe := Lib.hid (show ((w.alloc (.cells (rcC C A n c).toArray 37)).alloc (.cells (opC k (vi : Nat) b e six ah al pt pr wy B m d).toArray 47)).heap.size = w.heap.size + 1 + 1 by simp)
  generalize (w.alloc (.cells (rcC C A n c).toArray 37)).alloc (.cells (opC k (vi : Nat) b e six ah al pt pr wy B m d).toArray 47) = V at *
  have hz := Bk.newK 37 (Tryz.zeroCells37) _ HVe.out.symm rfl
  have hzl : (Tryz.zeroCells37).toList.length = 279 := by kernel_rfl
  have hv81 : (Tryz.zeroCells115).toList.length = 81 := by kernel_rfl
  have hbz : Below V.heap.size V (V.alloc (.cells (Tryz.zeroCells37) 37)) := Below.allocS (Below.refl _ _) _
  go_upto_region 1 with (fail)
  have hVs : w.heap.size + 2 ≤ V.heap.size := by have := bo.lt; omega
  generalize hV2 : V.alloc (.cells (Tryz.zeroCells37) 37) = V2 at *
  clear hV2
  generalize (Tryz.zeroCells37).toList = zl0 at *
  replace bs := bs.later hbz
  replace bo := bo.later hbz
  replace be := be.trans (hbz.mono be.size)
  clear hbz
  refine wp_region_lit ?_
  refine wpList_ldA (t := 37) 37 (.tmp 2) rfl rfl (rcC C A n c) rfl (bs) (whole_ _) vs1 vs2 (szRcS C hk hb A n c) ?_
  refine wpList_plain rfl (fun K hK => ?_); go_simp; with_reducible refine hK _ _ ?_; clear hK K
  refine wpList_ld1 (t := 47) (cs := opC k (vi : Nat) b e six ah al pt pr wy B m d) 45 (.tmp 14) rfl (by rfl) rfl (bo) rfl Tryz.underlying45 rfl ?_
  refine wpList_plain rfl (fun K hK => ?_)
  go_simp
  refine (HRI.out _ (HMR.out _ be)).mono ?_
  rintro e w1 ⟨bs1, d1, rfl, rfl⟩
  with_reducible refine hK _ _ ?_
  clear hK K
  have hb1 := below_plus V2 bs1 d1
  replace bs := bs.later hb1
  replace bo := bo.later hb1
  replace hz := hz.later hb1
  replace be := be.trans (hb1.mono be.size)
  clear hb1
  generalize plus V2 bs1 d1 = V3 at *
  refine wpList_plain rfl (fun K hK => ?_); go_simp; with_reducible refine hK _ _ ?_; clear hK K
  go_upto_region 2 with (fail)
  refine wp_region_lit ?_
  refine wpList_ldA (t := 37) 37 (.tmp 2) rfl rfl (rcC C A n c) rfl (bs) (whole_ _) vs1 vs2 (szRcS C hk hb A n c) ?_
  simp only [Act.put, qsT, qsZ, qsS]
  refine wpList_stA (t := 37) 37 (.tmp 4) (.tmp 18) rfl rfl (rcC C A n c) zl0 (hzl.trans (rcC_len C hk hb _ _ _).symm).symm (rcL_one _ _ _ _ _ _ _ _) rfl rfl hz (szRcS C hk hb _ _ _) ?_
  intro W9 h9 g9
  refine wpList_plain rfl (fun K hK => ?_); go_simp; with_reducible refine hK _ _ ?_; clear hK K
  replace be := below_grown be g9 (by omega)
  go_wp2
  refine bodyPost_agg2 Tryz.results72 rfl rfl h9.range vs1 vs2 (szRcS C hk hb _ _ _) rfl ?_
  exact RetRx.no HX0.out HE0.out hk hb (by decide) be
 | true =>
  have HOKM := Lib.hid hokm
  rw [hokm] at HRI
  clear hokm
  have htk := newT_ok hok
  have hnr := next_ref (newT uv.S) htk (ms.map (·.1))
  have htl := htk.len
  have hrgT : ∀ x ∈ refT (newT uv.S), -1000 ≤ x ∧ x ≤ 1000 := fun x hx => by
   obtain ⟨s, hs, rfl⟩ := List.mem_map.1 hx
   have := htk.rg s hs
   unfold sgT
   split <;> omega
  have hlast : 0 < uv.S.lv.length → newT uv.S = (uv.S.lv[uv.S.lv.length - 1]?.map (·.2)).getD [] := fun h => by unfold newT; rw [List.getLast?_eq_getElem?]
  have hlast0 : uv.S.lv.length = 0 → newT uv.S = [] := fun h => by unfold newT; rw [List.getLast?_eq_getElem?, List.getElem?_eq_none (by omega)]; rfl
  have HTS := Lib.hid (show tabS uv.S ms = tNext (newT uv.S) (ms.map (·.1)) from rfl)
  obtain ⟨T, hT⟩ : ∃ T, T = newT uv.S := ⟨_, rfl⟩
  rw [← hT] at hnr htl hrgT hlast hlast0 HTS
  have HRN := Lib.hid (fun w' {A1 n1 c1} (h1 : Rs 1 w' A1 n1 c1 (itK (refT T))) A2 n2 c2 (h2 : Rs 1 w' A2 n2 c2 (itK (ms.map (·.1)))) => refNext_any (refT T) (ms.map (·.1)) A1 n1 c1 A2 n2 c2 w' h1 h2 (by have := h1.1; rw [itK_len] at this; simp [refT] at this; omega) (by have := h2.1; rw [itK_len] at this; simp at this; omega) hrgT)
  rw [← hnr] at HRN
  clear hT htk hnr
  generalize tNext T (ms.map (·.1)) = TT at *
  have HRP := Lib.hid (fun (D : Nat → Prop) A1 n1 c1 w' hD {A0 n0 c0} (h : RSt D w' uv.S.lv A0 n0 c0) (h2 : Rs 1 w' A1 n1 c1 (itK (refT TT))) (h3 : Off D w' A1) => refPush_any uv.S hok A0 n0 c0 TT A1 n1 c1 w' (D := D) hD h h2 h3)
  obtain ⟨ES, hES⟩ : ∃ ES, pushS uv.S TT = ES := ⟨_, rfl⟩
  rw [hES] at HRP
  have HSV := Lib.hid (show setV uv ms = { uv with S := ES, ms := ms } by unfold setV; rw [HTS.out, hES])
  rw [HSV.out]
  clear hES HTS
  generalize hPV : ((pushV uv.S : Nat) : Int) = PV at HRP
  generalize hPE : ((pushE uv.S : Nat) : Int) = PE at HRP
  have HPE := Lib.hid hPE
  clear hPV hPE
  obtain ⟨dvs1, vs1, vs2⟩ := rowRcS
  obtain ⟨dvo1, vo1, vo2⟩ := rowRo
  obtain ⟨bs, bo, be, zV⟩ := box2 w 37 47 (rcC C A n c) (opC k (vi : Nat) b e six ah al pt pr wy B m d)
  go_enter Tryz.func72, Tryz.ntmps72
  go_upto_region 1 with (fail)
  have HVe := Lib.hid (show ((w.alloc (.cells (rcC C A n c).toArray 37)).alloc (.cells (opC k (vi : Nat) b e six ah al pt pr wy B m d).toArray 47)).heap.size = w.heap.size + 1 + 1 by simp)
  generalize (w.alloc (.cells (rcC C A n c).toArray 37)).alloc (.cells (opC k (vi : Nat) b e six ah al pt pr wy B m d).toArray 47) = V at *
  have hz := Bk.newK 37 (Tryz.zeroCells37) _ HVe.out.symm rfl
  have hzl : (Tryz.zeroCells37).toList.length = 279 := by kernel_rfl
  have hv81 : (Tryz.zeroCells115).toList.length = 81 := by kernel_rfl
  have hbz : Below V.heap.size V (V.alloc (.cells (Tryz.zeroCells37) 37)) := Below.allocS (Below.refl _ _) _
  go_upto_region 1 with (fail)
  have hVs : w.heap.size + 2 ≤ V.heap.size := by have := bo.lt; omega
  generalize hV2 : V.alloc (.cells (Tryz.zeroCells37) 37) = V2 at *
  clear hV2
  generalize (Tryz.zeroCells37).toList = zl0 at *
  replace bs := bs.later hbz
  replace bo := bo.later hbz
  replace be := be.trans (hbz.mono be.size)
  clear hbz
  refine wp_region_lit ?_
  refine wpList_ldA (t := 37) 37 (.tmp 2) rfl rfl (rcC C A n c) rfl (bs) (whole_ _) vs1 vs2 (szRcS C hk hb A n c) ?_
  refine wpList_plain rfl (fun K hK => ?_); go_simp; with_reducible refine hK _ _ ?_; clear hK K
  refine wpList_ld1 (t := 47) (cs := opC k (vi : Nat) b e six ah al pt pr wy B m d) 45 (.tmp 14) rfl (by rfl) rfl (bo) rfl Tryz.underlying45 rfl ?_
  refine wpList_plain rfl (fun K hK => ?_)
  go_simp
  refine (HRI.out _ (HMR.out _ be)).mono ?_
  rintro e w1 ⟨bs1, d1, rfl, rfl⟩
  with_reducible refine hK _ _ ?_
  clear hK K
  have hb1 := below_plus V2 bs1 d1
  replace bs := bs.later hb1
  replace bo := bo.later hb1
  replace hz := hz.later hb1
  replace be := be.trans (hb1.mono be.size)
  clear hb1
  generalize plus V2 bs1 d1 = V3 at *
  refine wpList_plain rfl (fun K hK => ?_); go_simp; with_reducible refine hK _ _ ?_; clear hK K
  have hlE := HX0.out.len
  obtain ⟨bl, ol, hAe, hbl, -⟩ := HX0.out.row.at_ (by omega) (by decide)
  have hrow := HX0.out.row.later be
  have q278 : V3.cell? ⟨w.heap.size, 278, none⟩ = some (.slice A n c) := (bs.cell _).trans (rcC_vips C hk hb A n c)
  rw [hAe] at hrow q278
  have hNn := HN.out
  have hrg := hrow.rangeE rvC_len vi (by omega)
  have hum : E[vi]'(by omega) ∈ E := List.getElem_mem _
  have hui : (E[vi]'(by omega)).1 = uv := by
   have h1 : (E.map (·.1))[vi]? = some (E[vi]'(by omega)).1 := by rw [List.getElem?_map, List.getElem?_eq_getElem (by omega)]; rfl
   rw [HX0.out.vs, huv] at h1
   exact (Option.some.inj h1).symm
  obtain ⟨u, hu⟩ : ∃ u, u = E[vi]'(by omega) := ⟨_, rfl⟩
  rw [← hu] at hrg hum hui
  have HSSu := HX0.out.ss u hum
  obtain ⟨uv', uA, un, uc, uB, um, ud⟩ := u
  have hui2 : uv = uv' := hui.symm
  clear hui
  subst hui2
  replace HSSu : RSt G w uv.S.lv uB um ud := HSSu
  clear hlE hAe hrow hNn hu hum
  have hvi1 : (vi : Int) < (n : Int) := by omega
  go_upto_region 3 with (fail)
  refine wp_region_lit ?_
  iterate 3 (refine wpList_plain rfl (fun K hK => ?_); go_simp; with_reducible refine hK _ _ ?_; clear hK K)
  refine wpList_ld1 (t := 47) (cs := opC k (vi : Nat) b e six ah al pt pr wy B m d) 3 (.tmp 21) rfl (by rfl) rfl (bo) rfl Tryz.underlying3 rfl ?_
  refine wpList_plain rfl (fun K hK => ?_); go_simp; with_reducible refine hK _ _ ?_; clear hK K
  refine wpList_load_mid rfl 115 (.tmp 23) rfl bl (ol + vi * 81) rfl (rvC ((uv, ⟨uA, un, uc, uB, um, ud⟩) : Re)) _ hrg vr1 vr2 (szRv _) ?_
  refine wpList_plain rfl (fun K hK => ?_); go_simp; with_reducible refine hK _ _ ?_; clear hK K
  refine wpList_stA (t := 115) 115 (.tmp 6) (.tmp 24) rfl rfl (rvC ((uv, ⟨uA, un, uc, uB, um, ud⟩) : Re)) (Tryz.zeroCells115).toList (by rw [rvC_len]; exact hv81.symm) (rvC_one _) rfl rfl (Bk.new _ _ _) (szRv _) ?_
  intro W7 h7 g7
  simp only [Act.put, qsT, qsZ, qsS]
  have hbz7 := hz.lt
  replace bs := (bs.alloc (.cells (Tryz.zeroCells115) 115)).grown g7 (fun e => by injection e with e; have := bs.lt; omega)
  replace bo := (bo.alloc (.cells (Tryz.zeroCells115) 115)).grown g7 (fun e => by injection e with e; have := bo.lt; omega)
  replace hz := (hz.alloc (.cells (Tryz.zeroCells115) 115)).grown g7 (fun e => by injection e with e; have := hz.lt; omega)
  have be7 : Below w.heap.size w W7 := below_grown (Below.allocS be _) g7 (by have := be.size; omega)
  clear be g7 hrg q278
  have be := be7
  clear be7
  generalize V3.heap.size = gv at *
  have HSS := Lib.hid (fun W' (h : Below w.heap.size w W') => (HSSu.more (D' := (fun b => G b ∨ (w.heap.size ≤ b ∧ b < gv + 1))) (fun b hb => hb.elim .inl (fun h => .inr h.1))).later h)
  have hDs : ∀ W : World, gv + 1 ≤ W.heap.size → ∀ b, (fun b => G b ∨ (w.heap.size ≤ b ∧ b < gv + 1)) b → b < W.heap.size := fun W hW b hb => by
   rcases hb with hb | ⟨_, hb⟩
   ·have := hG b hb; omega
   ·omega
  have hgvs : w.heap.size + 2 < gv := by omega
  have HMW := Lib.hid (fun W' (h : Below W7.heap.size W7 W') => (hr.later be).later h)
  have hul := HSSu.len
  clear hr
  have q7 : W7.cell? ⟨gv, 7, none⟩ = some (.slice uB um ud) := h7.cell _
  by_cases h0 : 0 < um
  rotate_left
  focus
   have h00 : uv.S.lv.length = 0 := by omega
   have hTT := hlast0 h00
   have h0i : ¬ (0 : Int) < (um : Int) := by omega
   have HRW := Lib.hid (fun W' (h : Below W7.heap.size W7 W') => show Rs 1 W' none 0 0 (itK (refT T)) by rw [hTT]; exact Rs.nil_)
   clear hul hlast hlast0 h00 hTT h0
   go_upto_region 7 with (fail)
   clear q7
  rotate_left
  focus
   have hlst := hlast (by omega)
   obtain ⟨bk, ok, Aw, nw, cw, hA, -, hcw, hrw, hoff⟩ := (HSS.out W7 be).at_ (uv.S.lv.length - 1) (by omega)
   rw [List.getElem?_eq_getElem (by omega)] at hlst
   have hTT : T = (uv.S.lv[uv.S.lv.length - 1]'(by omega)).2 := hlst
   rw [← hTT] at hrw
   rw [← hul] at hcw
   rw [hA] at q7
   obtain ⟨n1, hn1⟩ : ∃ n1, um = n1 + 1 := ⟨um - 1, by omega⟩
   rw [hn1, Nat.add_sub_cancel] at hcw
   rw [hn1] at q7
   have HRW := Lib.hid (fun W' (h : Below W7.heap.size W7 W') => hrw.later h)
   have n8 : n1 + 1 ≤ 8 := by have := hok.len; omega
   have l1 : IntKind.i64.wrap (((n1 + 1 : Nat) : Int) - 1) = (n1 : Int) := by rw [IntWalk.i64_in _ (by omega)]; omega
   have l2 : IntKind.i64.wrap ((n1 : Int) + 1 - 1) = (n1 : Int) := by rw [IntWalk.i64_in _ (by omega)]; omega
   have l3 : IntKind.i64.wrap (n1 : Int) = (n1 : Int) := IntWalk.i64_in _ (by omega)
   have l4 : (n1 : Int) < ((n1 + 1 : Nat) : Int) := by omega
   have l5 : (n1 : Int) < (n1 : Int) + 1 := by omega
   have l6 : (0 : Int) < ((n1 + 1 : Nat) : Int) := by omega
   have l7 : (0 : Int) < (n1 : Int) + 1 := by omega
   clear hlst hTT hlast hlast0 hA hul hn1 h0 hrw hoff
   go_upto_region 6 with (fail)
   refine wp_region_lit ?_
   iterate 12 (refine wpList_plain rfl (fun K hK => ?_); go_simp; with_reducible refine hK _ _ ?_; clear hK K)
   clear q7 hcw
  iterate 2
   focus
    have qm : W7.cell? ⟨w.heap.size + 1, 10, none⟩ = some (.slice B m d) := bo.cell _
    have hO0 : Os 3 1 W7 W7.heap.size none 0 0 (itK ((ms.take 0).map (·.1))) := Os.nil_
    have HST := Lib.hid hO0
    have HQM := Lib.hid (fun W' (h : Below W7.heap.size W7 W') => show W'.cell? ⟨w.heap.size + 1, 10, none⟩ = some (.slice B m d) from (bo.later h).cell _)
    have hbeS := be.size
    have HF7 := Lib.hid (And.intro bs (And.intro bo (And.intro hz (And.intro h7 be))))
    clear hO0 bs bo hz h7 be
    go_upto_region 8 with (fail)
    clear qm
    go_loopw [8, 9] (fun L I wr => ∃ (i : Nat) (Bl : Option Addr) (kl dl : Nat), L = .slice Bl kl dl ∧ I = .int .i64 (i : Int) ∧ i ≤ m ∧ Os 3 1 wr W7.heap.size Bl kl dl (itK ((ms.take i).map (·.1))) ∧ Below W7.heap.size W7 wr) (fun _ I _ => m - (intOf I).toNat)
    case atStart => exact ⟨0, none, 0, 0, rfl, rfl, Nat.zero_le _, HST.out, Below.refl _ _⟩
    case round =>
     clear HST
     obtain ⟨i, Bl, kl, dl, rfl, rfl, hi, hO, hbl7⟩ := hrel
     have qm := HQM.out wr hbl7
     have hkl := hO.1
     rw [itK_len] at hkl
     have hkl2 : ((ms.take i).map (·.1)).length ≤ i := by simp; omega
     have hkl1 : kl ≤ 1000000 := by omega
     by_cases hil : i < m
     ·have hi1 : (i : Int) < (m : Int) := by omega
      obtain ⟨bm, om, hBe, hbm, -⟩ := HMR0.out.at_ (by omega) (by decide)
      rw [hBe] at qm
      have hmr := HMW.out wr hbl7
      rw [hBe] at hmr
      have qe : wr.cell? ⟨bm, om + i * 2, none⟩ = some (.int .i64 (ms[i]'(by omega)).1) := (hmr.range2 i (by omega)).1
      have hs := Lib.hid (show (ms.take (i + 1)).map (·.1) = (ms.take i).map (·.1) ++ [(ms[i]'(by omega)).1] by rw [List.take_succ_eq_append_getElem (by omega), List.map_append]; rfl)
      generalize (ms[i]'(by omega)).1 = xm at *
      clear hBe hmr
      have hsz7 := hbl7.size
      go_wp2_with (at_builtin; refine wpList_appS etI rfl (.tmp 48) (.tmp 55) rfl rfl (hO.later (Below.allocS (Below.refl _ _) _)) rfl (Rs.of_bk (n := 1) (c := 1) (Bk.new wr _ _) rfl (Nat.le_refl _)) (by simp [Value.oneCell']) (by omega) (by simp; omega) ?_; intro A2 n2 c2 w4 hn2 hO4 hb4 hg4; subst hn2)
      have he2 : Os 3 1 w4 W7.heap.size A2 (kl + 1) c2 (itK ((ms.take (i + 1)).map (·.1))) := by rw [hs.out, itK_append]; exact hO4
      exact ⟨⟨i + 1, A2, _, c2, rfl, by go_num, by omega, he2, (Below.allocS hbl7 _).trans hb4⟩, by simp [intOf]; omega⟩
     ·have hi1 : ¬ (i : Int) < (m : Int) := by omega
      rw [List.take_of_length_le (by omega)] at hO
      clear hi hil hkl2
      obtain ⟨bs, bo, hz, h7, be⟩ := HF7.out
      replace bs := bs.later hbl7
      replace bo := bo.later hbl7
      replace hz := hz.later hbl7
      replace h7 := h7.later hbl7
      replace be := be.trans (hbl7.mono hbeS)
      have hgv7 := h7.lt
      have HWx := Lib.hid (fun W' (h : Below wr.heap.size wr W') => show RSt (fun b => G b ∨ (w.heap.size ≤ b ∧ b < gv + 1)) W' uv.S.lv uB um ud ∧ Rs 1 W' _ _ _ (itK (refT T)) ∧ Rs 1 W' Bl kl dl (itK (ms.map (·.1))) from ⟨HSS.out W' (be.trans (h.mono be.size)), HRW.out W' (hbl7.trans (h.mono hbl7.size)), hO.rs.later h⟩)
      go_upto_region 11 with (fail)
      generalize wr = W at *
      have HW := HWx
      refine wp_relES 11 83 [8, 9] rfl (by kernel_rfl) (by kernel_rfl) ?_
      apply Steps.oneE (MP.eq _) 1 rfl (by decide)
      ·intro o ho FA x hO hD K hK
       obtain rfl := qoi ho
       have e6 := hO 6 (by kernel_rfl)
       simp only [eval_tmp, qgT, qgS, qgZ, qoS] at e6
       have ev6 := Lib.hid ((eval_tmp FA 6).trans e6)
       clear hO hD ho
       go_simp
       exact hK.out _ _ (Ex.refl _) rfl
      apply Steps.oneE (MP.eq (.agg (rstC uB um ud uv.S).toArray)) 2 rfl (by decide)
      ·intro o ho FA x hO hD K hK
       obtain rfl := qoi ho
       obtain ⟨e58, ev58⟩ := qE (hD 0 58 (by kernel_rfl))
       clear hO hD ho
       refine wanted_if rfl ?_
       refine wp_ldA (cs := rvC ((uv, ⟨uA, un, uc, uB, um, ud⟩) : Re)) 113 (.tmp 58) rfl (rstC uB um ud uv.S) ev58.out (h7.later (below_plus _ _ _)) (rvC_stk ((uv, ⟨uA, un, uc, uB, um, ud⟩) : Re)) vt1 vt2 (szRst _ _ _ _) ?_
       exact hK.out _ _ (Ex.refl _) rfl
      apply Steps.oneE (MP.eq _) 3 rfl (by decide)
      ·intro o ho FA x hO hD K hK
       obtain rfl := qoi ho
       have e7 := hO 7 (by kernel_rfl)
       simp only [eval_tmp, qgT, qgS, qgZ, qoS] at e7
       have ev7 := Lib.hid ((eval_tmp FA 7).trans e7)
       clear hO hD ho
       go_simp
       exact hK.out _ _ (Ex.refl _) rfl
      apply Steps.oneE (MP.eq _) 4 rfl (by decide)
      ·intro o ho FA x hO hD K hK
       obtain rfl := qoi ho
       have e8 := hO 8 (by kernel_rfl)
       simp only [eval_tmp, qgT, qgS, qgZ, qoS] at e8
       have ev8 := Lib.hid ((eval_tmp FA 8).trans e8)
       clear hO hD ho
       go_simp
       exact hK.out _ _ (Ex.refl _) rfl
      apply Steps.oneE (MP.osw 3 1 W.heap.size (itK (refT TT))) 5 rfl (by decide)
      ·intro o ho FA x hO hD K hK
       obtain rfl := qoi ho
       obtain ⟨e60, ev60⟩ := qE (hD 2 60 (by kernel_rfl))
       obtain ⟨e61, ev61⟩ := qE (hD 3 61 (by kernel_rfl))
       clear hO hD ho
       go_simp
       refine (HRN.out _ (HW.out _ (below_plus _ _ _)).2.1 _ _ _ (HW.out _ (below_plus _ _ _)).2.2).mono ?_
       rintro e w2 ⟨A7, n7, c7, bs7, d7, rfl, rfl, h7x⟩
       exact hK.out _ _ (Ex.plus_ _ _ _) ⟨_, _, _, rfl, h7x.mono (by simp [size_plus])⟩
      apply Steps.oneE (MP.rst (fun b => G b ∨ (w.heap.size ≤ b ∧ b < gv + 1)) ES (fun x => .tuple #[x, .int .i64 PV, .int .i64 PE])) 6 rfl (by decide)
      ·intro o ho FA x hO hD K hK
       obtain rfl := qoi ho
       obtain ⟨e59, ev59⟩ := qE (hD 1 59 (by kernel_rfl))
       obtain ⟨u62, f62, e62, ev62⟩ := qG (hD 4 62 (by kernel_rfl))
       clear hO hD ho
       obtain ⟨A7, n7, c7, rfl, h7x⟩ := f62
       go_simp
       refine (HRP.out _ _ _ _ _ (hDs _ (by simp [size_plus]; omega)) (HW.out _ (below_plus _ _ _)).1 h7x.rs (Off.own h7x (fun b hb => hDs _ (by omega) b hb))).mono ?_
       rintro e w2 ⟨A8, n8, c8, bs8, d8, rfl, rfl, h8⟩
       exact hK.out _ _ (Ex.plus_ _ _ _) ⟨_, _, _, rfl, h8⟩
      apply Steps.oneE (MP.rst (fun b => G b ∨ (w.heap.size ≤ b ∧ b < gv + 1)) ES (fun x => .tuple #[x, .int .i64 PV, .int .i64 PE])) 7 rfl (by decide)
      ·intro o ho FA x hO hD K hK
       obtain rfl := qoi ho
       obtain ⟨u63, f63, e63, ev63⟩ := qG (hD 5 63 (by kernel_rfl))
       clear hO hD ho
       go_simp
       exact hK.out _ _ (Ex.refl _) f63
      apply Steps.oneE (MP.rst (fun b => G b ∨ (w.heap.size ≤ b ∧ b < gv + 1)) ES (fun x => x)) 8 rfl (by decide)
      ·intro o ho FA x hO hD K hK
       obtain rfl := qoi ho
       obtain ⟨u57, f57, e57, ev57⟩ := qG (hD 6 57 (by kernel_rfl))
       clear hO hD ho
       obtain ⟨A7, n7, c7, rfl, h7x⟩ := f57
       go_simp
       exact hK.out _ _ (Ex.refl _) ⟨_, _, _, rfl, h7x⟩
      apply Steps.oneP (.int .i64 PV) 9 rfl (by decide)
      ·intro o ho FA x hO hD
       obtain rfl := qoi ho
       obtain ⟨u57, f57, e57, ev57⟩ := qG (hD 6 57 (by kernel_rfl))
       clear hO hD ho
       obtain ⟨A7, n7, c7, rfl, h7x⟩ := f57
       refine .inl ⟨by simp [Region.wanted], fun w => ?_⟩
       go_simp
      apply Steps.oneP (.int .i64 PE) 10 rfl (by decide)
      ·intro o ho FA x hO hD
       obtain rfl := qoi ho
       obtain ⟨u57, f57, e57, ev57⟩ := qG (hD 6 57 (by kernel_rfl))
       clear hO hD ho
       obtain ⟨A7, n7, c7, rfl, h7x⟩ := f57
       refine .inl ⟨by simp [Region.wanted], fun w => ?_⟩
       go_simp
      apply Steps.oneE (MP.blk W.heap.size 113 (rstC none 0 0 stk0)) 11 rfl (by decide)
      ·intro o ho FA x hO hD K hK
       obtain rfl := qoi ho
       clear hO hD ho
       go_simp
       refine hK.out _ _ (Ex.alloc _ _) ⟨_, rfl, ?_, ?_⟩
       ·simp [size_plus]
       ·refine Bk.newK _ _ _ ?_ rfl
        simp [size_plus]
      refine Steps.fin_ (fun vs x hp => ?_)
      have p0 : vs 0 = _ := hp 0 (by omega)
      have p1 : vs 1 = _ := hp 1 (by omega)
      have p2 : vs 2 = _ := hp 2 (by omega)
      have p3 : vs 3 = _ := hp 3 (by omega)
      have p4 := hp 4 (by omega)
      have p5 := hp 5 (by omega)
      have p6 := hp 6 (by omega)
      have p7 := hp 7 (by omega)
      have p8 : vs 8 = _ := hp 8 (by omega)
      have p9 : vs 9 = _ := hp 9 (by omega)
      have p10 := hp 10 (by omega)
      clear hp
      simp only [List.take_succ_cons, List.take_zero, List.drop_succ_cons, List.drop_zero, putAll, Nat.zero_add, Nat.reduceAdd, Act.put, qsT, qsZ, qsS, p0, p1, p2, p3, p8, p9]
      clear p0 p1 p2 p3 p8 p9
      generalize vs 4 = y4 at *
      generalize vs 5 = y5 at *
      generalize vs 6 = y6 at *
      generalize vs 7 = y7 at *
      generalize vs 10 = y10 at *
      clear vs
      obtain ⟨A9, n9, c9, rfl, hR9⟩ := p7
      obtain ⟨g16, rfl, zg16, b16⟩ := p10
      have hb8 := below_plus W x.bs x.d
      replace bs := bs.later hb8
      replace bo := bo.later hb8
      replace hz := hz.later hb8
      replace h7 := h7.later hb8
      replace be := be.trans (hb8.mono be.size)
      clear hb8 p5 p6 HW HWx HF7 hbl7 hO qm p4
      generalize plus W x.bs x.d = Z at *
      have b16z := b16
      have hgvZ := h7.lt
      refine wpList_stA (t := 113) 113 (.tmp 10) (.tmp 64) rfl rfl (rstC A9 n9 c9 ES) (rstC none 0 0 stk0) (by rw [rstC_len, rstC_len]) (rstC_one _ _ _ _) rfl rfl b16 (szRst _ _ _ _) ?_
      intro W6 h6 g6
      iterate 2 (refine wpList_plain rfl (fun K hK => ?_); go_simp; with_reducible refine hK _ _ ?_; clear hK K)
      replace bs := bs.grown g6 (fun e => by injection e with e; omega)
      replace bo := bo.grown g6 (fun e => by injection e with e; omega)
      replace hz := hz.grown g6 (fun e => by injection e with e; omega)
      replace h7 := h7.grown g6 (fun e => by injection e with e; omega)
      replace hR9 := hR9.noInt b16z (by
       intro u hu k z e
       subst e
       rcases List.mem_cons.1 hu with hu | hu
       ·cases hu
       ·rcases List.mem_append.1 hu with hu | hu <;> (obtain ⟨x, _, hx⟩ := List.mem_map.1 hu; cases hx)) g6
      replace be := below_grown be g6 (by omega)
      have b16 := h6
      clear g6 h6 b16z
      have hg16 := b16.lt
      go_wp2
      go_wp2
      apply_assumption
      by_cases hpe : pushE uv.S = 0
      ·have hpi : (PE != 0) = false := by rw [← HPE.out, hpe]; rfl
       have HE0 := Lib.hid (show setE C uv ms = 0 by unfold setE; rw [if_neg (by rw [HOKM.out]; decide)]; exact hpe)
       clear hpe
       go_upto_region 14 with (fail)
       refine wp_region_lit ?_
       refine wpList_ldA (t := 113) 113 (.tmp 10) rfl rfl (rstC A9 n9 c9 ES) rfl (b16) (whole_ _) vt1 vt2 (szRst _ _ _ _) ?_
       refine wpList_plain rfl (fun K hK => ?_); go_simp; with_reducible refine hK _ _ ?_; clear hK K
       refine wpList_stM (t := 115) (off := 7) 113 (.tmp 72) (.tmp 71) rfl rfl (rstC A9 n9 c9 ES) (rvC ((uv, ⟨uA, un, uc, uB, um, ud⟩) : Re)) (by rw [rvC_len, rstC_len]; decide) (rstC_one _ _ _ _) rfl rfl h7 (szRst _ _ _ _) ?_
       intro W4 h4 g4
       simp only [Act.put, qsT, qsZ, qsS]
       rw [rvC_setStk] at h4
       replace h4 : Bk W4 gv 115 (rvC (({ uv with S := ES }, ⟨uA, un, uc, A9, n9, c9⟩) : Re)) := h4
       replace bs := bs.grown g4 (fun e => by injection e with e; omega)
       replace bo := bo.grown g4 (fun e => by injection e with e; omega)
       replace hz := hz.grown g4 (fun e => by injection e with e; omega)
       replace be := below_grown be g4 (by omega)
       have hR4 := hR9.chg (Chg.one g4 (Or.inr ⟨by omega, by omega⟩))
       have hmr4 := HMR.out _ be
       have hgv4 := h4.lt
       have hws4 := be.size
       clear g4 h7 hR9
       go_upto_region 15 with (fail)
       refine wp_region_lit ?_
       iterate 2 (refine wpList_plain rfl (fun K hK => ?_); go_simp; with_reducible refine hK _ _ ?_; clear hK K)
       refine wpList_ld1 (t := 47) (cs := opC k (vi : Nat) b e six ah al pt pr wy B m d) 45 (.tmp 74) rfl (by rfl) rfl ((bo.alloc _)) rfl Tryz.underlying45 rfl ?_
       simp only [Act.put, qsT, qsZ, qsS]
       refine wpList_appS etRm rfl (.tmp 73) (.tmp 75) rfl rfl (Os.lit W4 (Nat.le_refl _) #[] 0 rfl (Nat.zero_le _)) rfl (hmr4.alloc _) (prs_one _ _) (by omega) (by simp) ?_
       intro A3 n3 c3 w5 hn3 hO5 hb5 hg5
       obtain rfl : m = n3 := by omega
       clear hn3
       simp only [Act.put, qsT, qsZ, qsS]
       have hb5W : Below W4.heap.size W4 w5 := (Below.allocS (Below.refl _ _) _).trans hb5
       simp only [List.nil_append, Nat.zero_add] at hO5
       replace h4 := h4.later hb5W
       refine wpList_plain rfl (fun K hK => ?_); go_simp; with_reducible refine hK _ _ ?_; clear hK K
       refine wpList_st1 (v := .slice A3 m c3) (t := 115) (cs := rvC (({ uv with S := ES }, ⟨uA, un, uc, A9, n9, c9⟩) : Re)) (off := 6) 45 (.tmp 77) (.tmp 76) rfl rfl rfl rfl h4 (by rw [rvC_len]; decide) rfl (by kernel_rfl) ?_
       intro W5 h5 g5
       simp only [Act.put, qsT, qsZ, qsS]
       replace h5 : Bk W5 gv 115 (rvC (({ uv with S := ES, ms := ms }, ⟨A3, m, c3, A9, n9, c9⟩) : Re)) := h5
       have hbe5 := be
       replace bs := (bs.later hb5W).grown g5 (fun e => by injection e with e; omega)
       replace bo := (bo.later hb5W).grown g5 (fun e => by injection e with e; omega)
       replace hz := (hz.later hb5W).grown g5 (fun e => by injection e with e; omega)
       replace be := below_grown (be.trans (hb5W.mono be.size)) g5 (by omega)
       have hws5 := be.size
       have hgv5 := h5.lt
       have hblk := hO5.blk
       have hO6 := hO5.grown g5 (fun k hk e => by have := (hblk k hk).1; injection e with e; omega)
       have h1w : Rs 2 W5 A3 m c3 (prs .i64 ms) := hO6.rs
       have h2w : Off (fun b => G b ∨ b = w.heap.size + 1 + 1) W5 A3 := Off.own hO6 (fun b hb => hb.elim (fun h => by have := hG b h; omega) (fun h => by omega))
       have h3w : RSt (fun b => G b ∨ b = w.heap.size + 1 + 1) W5 ES.lv A9 n9 c9 := ((hR4.later hb5W).chg (Chg.one g5 (Or.inr ⟨by omega, by omega⟩))).more (fun b hb => hb.elim (fun h => .inl (.inl h)) (fun h => .inl (.inr ⟨by omega, by omega⟩)))
       clear hb5 hg5 g5 hR4 hmr4 hO5 hblk h4 hbe5 hO6 hb5W
       go_upto_region 16 with (fail)
       refine wp_region_lit ?_
       refine wpList_ldA (t := 37) 37 (.tmp 2) rfl rfl (rcC C A n c) rfl (bs) (whole_ _) vs1 vs2 (szRcS C hk hb A n c) ?_
       refine wpList_plain rfl (fun K hK => ?_); go_simp; with_reducible refine hK _ _ ?_; clear hK K
       refine wpList_ld1 (t := 47) (cs := opC k (vi : Nat) b e six ah al pt pr wy B m d) 3 (.tmp 79) rfl (by rfl) rfl (bo) rfl Tryz.underlying3 rfl ?_
       simp only [Act.put, qsT, qsZ, qsS]
       refine wpList_ldA (t := 115) 115 (.tmp 6) rfl rfl (rvC (({ uv with S := ES, ms := ms }, ⟨A3, m, c3, A9, n9, c9⟩) : Re)) rfl (h5) (whole_ _) vr1 vr2 (szRv _) ?_
       refine wpList_plain rfl (fun K hK => ?_)
       go_simp
       refine (rcWith_any (G := fun b => G b ∨ b = w.heap.size + 1 + 1) C hk hb A n c E vi (({ uv with S := ES, ms := ms }, ⟨A3, m, c3, A9, n9, c9⟩) : Re) W5 (fun b hb => hb.elim (fun h => by have := hG b h; omega) (fun h => by omega)) ((HX0.out.more (fun b hb => hb.elim .inl (fun h => .inr (by omega)))).later be) hvn hn16 h1w h2w h3w).mono ?_
       rintro e w1 ⟨A8, c8, rfl, hX8, hb9⟩
       with_reducible refine hK _ _ ?_
       clear hK K
       replace hz := hz.later hb9
       replace be := be.trans (hb9.mono be.size)
       generalize hWW : w1 = W8 at *
       clear hWW
       refine wpList_stA (t := 37) 37 (.tmp 4) (.tmp 82) rfl rfl (rcC C A8 n c8) zl0 (hzl.trans (rcC_len C hk hb _ _ _).symm).symm (rcL_one _ _ _ _ _ _ _ _) rfl rfl hz (szRcS C hk hb _ _ _) ?_
       intro W9 h9 g9
       refine wpList_plain rfl (fun K hK => ?_); go_simp; with_reducible refine hK _ _ ?_; clear hK K
       replace be := below_grown be g9 (by omega)
       go_wp2
       refine bodyPost_agg2 Tryz.results72 rfl rfl h9.range vs1 vs2 (szRcS C hk hb _ _ _) rfl ?_
       rw [HE0.out]
       refine ⟨{ C with vs := C.vs.set vi (setV uv ms) }, A8, n, c8, E.set vi (({ uv with S := ES, ms := ms }, ⟨A3, m, c3, A9, n9, c9⟩) : Re), rfl, ?_, be, hk, hb, fun _ => by rw [HSV.out]⟩
       rw [HSV.out]
       exact (hX8.chg (Chg.one (D := fun b => b = w.heap.size + 1 + 1) g9 rfl) (fun b h => .inr h)).more (fun b h => .inl (.inl h))
      ·have hpi : (PE != 0) = true := by rw [← HPE.out]; unfold pushE at hpe ⊢; split at hpe <;> simp_all
       have HE0 := Lib.hid (show ((setE C uv ms : Nat) : Int) = PE by unfold setE; rw [if_neg (by rw [HOKM.out]; decide)]; exact HPE.out)
       have hpe2 := Lib.hid (show setE C uv ms ≠ 0 by unfold setE; rw [if_neg (by rw [HOKM.out]; decide)]; exact hpe)
       clear hpe
       go_upto_region 13 with (fail)
       refine wp_region_lit ?_
       refine wpList_ldA (t := 37) 37 (.tmp 2) rfl rfl (rcC C A n c) rfl (bs) (whole_ _) vs1 vs2 (szRcS C hk hb A n c) ?_
       refine wpList_plain rfl (fun K hK => ?_); go_simp; with_reducible refine hK _ _ ?_; clear hK K
       refine wpList_stA (t := 37) 37 (.tmp 4) (.tmp 69) rfl rfl (rcC C A n c) zl0 (hzl.trans (rcC_len C hk hb _ _ _).symm).symm (rcL_one _ _ _ _ _ _ _ _) rfl rfl hz (szRcS C hk hb _ _ _) ?_
       intro W9 h9 g9
       refine wpList_plain rfl (fun K hK => ?_); go_simp; with_reducible refine hK _ _ ?_; clear hK K
       replace be := below_grown be g9 (by omega)
       go_wp2
       refine bodyPost_agg2 Tryz.results72 rfl rfl h9.range vs1 vs2 (szRcS C hk hb _ _ _) rfl ?_
       rw [← HE0.out]
       exact RetRx.no HX0.out rfl hk hb hpe2.out be
end

section
open Go.Lib
open Go.RowKit
attribute [local go_sem ↓] sliced_cut
attribute [local go_sem] cutA_zero
set_option maxHeartbeats 4000000 in
set_option maxRecDepth 100000 in
theorem rcDoes1 {G : Nat → Prop} (v b e : Int) (six : Bool) (ah al pt pr : Nat) (wy : Int) (ms : List (Int × Int)) (B : Option Addr) (m d : Nat) (C : Cf) (hC : CfOk C) (A : Option Addr) (n c : Nat) (E : List Re) (w : World) (hG : ∀ b, G b → b < w.heap.size) (hX : RcX G w C A n c E) (hal : al < 18446744073709551616) : Calls Tryz.prog 23 #[.agg (rcC C A n c).toArray, .agg (opC 1 v b e six ah al pt pr wy B m d).toArray] w (RetRx G w (chC C ⟨1, v, b, e, six, ah, al, pt, pr, wy, ms⟩) (chE C ⟨1, v, b, e, six, ah, al, pt, pr, wy, ms⟩)) := by
 obtain ⟨dva1, va1, va2⟩ := rowAdC
 have hk := hC.key
 have hb := hC.bl
 have HX0 := Lib.hid hX
 have HRR := Lib.hid (fun W => refAdrRightC six ah al W hal)
 have hcase : (b < 1 ∧ Hid (chE C ⟨1, v, b, e, six, ah, al, pt, pr, wy, ms⟩ = 1)) ∨ (64 < b ∧ 1 ≤ b ∧ Hid (chE C ⟨1, v, b, e, six, ah, al, pt, pr, wy, ms⟩ = 1)) ∨ (1 ≤ b ∧ b ≤ 64) := by
  rcases (by omega : b < 1 ∨ (64 < b ∧ 1 ≤ b) ∨ (1 ≤ b ∧ b ≤ 64)) with h | ⟨h, h'⟩ | h
  ·exact .inl ⟨h, Lib.hid (by unfold chE numB; simp only []; rw [decide_eq_false (show ¬ 1 ≤ b by omega)]; simp)⟩
  ·exact .inr (.inl ⟨h, h', Lib.hid (by unfold chE numB; simp only []; rw [decide_eq_false (show ¬ b ≤ 64 by omega)]; simp)⟩)
  ·exact .inr (.inr h)
 rcases hcase with ⟨h1, HE0⟩ | ⟨h1, h2, HE0⟩ | ⟨h1, h2⟩
 iterate 2
  focus
   obtain ⟨dvs1, vs1, vs2⟩ := rowRcS
   obtain ⟨dvo1, vo1, vo2⟩ := rowRo
   obtain ⟨bs, bo, be, zV⟩ := box2 w 37 47 (rcC C A n c) (opC 1 v b e six ah al pt pr wy B m d)
   go_enter Tryz.func23, Tryz.ntmps23
   go_upto_region 1 with (fail)
   have HVe := Lib.hid (show ((w.alloc (.cells (rcC C A n c).toArray 37)).alloc (.cells (opC 1 v b e six ah al pt pr wy B m d).toArray 47)).heap.size = w.heap.size + 1 + 1 by simp)
   generalize (w.alloc (.cells (rcC C A n c).toArray 37)).alloc (.cells (opC 1 v b e six ah al pt pr wy B m d).toArray 47) = V at *
   have hz := Bk.newK 37 (Tryz.zeroCells37) _ HVe.out.symm rfl
   have hzl : (Tryz.zeroCells37).toList.length = 279 := by kernel_rfl
   have hbz : Below V.heap.size V (V.alloc (.cells (Tryz.zeroCells37) 37)) := Below.allocS (Below.refl _ _) _
   go_upto_region 1 with (fail)
   have hVs : w.heap.size + 2 ≤ V.heap.size := by have := bo.lt; omega
   generalize hV2 : V.alloc (.cells (Tryz.zeroCells37) 37) = V2 at *
   clear hV2
   generalize hzc : (Tryz.zeroCells37).toList = zl0 at *
   clear hzc
   replace bs := bs.later hbz
   replace bo := bo.later hbz
   replace be := be.trans (hbz.mono be.size)
   clear hbz
   have q0 : V2.cell? ⟨w.heap.size + 1, 0, none⟩ = some (.int .i64 1) := bo.cell 0
   go_upto_region 3 with (fail)
   refine wp_region_lit ?_
   refine wpList_plain rfl (fun K hK => ?_); go_simp; with_reducible refine hK _ _ ?_; clear hK K
   refine wpList_ld1 (t := 47) (cs := opC 1 v b e six ah al pt pr wy B m d) 3 (.tmp 12) rfl (by rfl) rfl (bo) rfl Tryz.underlying3 rfl ?_
   iterate 2 (refine wpList_plain rfl (fun K hK => ?_); go_simp; with_reducible refine hK _ _ ?_; clear hK K)
   first | ((with_reducible refine wpList_skip ?_ ?_); (· first | (go_simp; done) | (go_simp; intro h; cases h)); simp only [Act.put, qsT, qsZ, qsS]) | (refine wpList_step (fun K hK => ?_); go_simp; (with_reducible refine hK _ _ ?_); clear hK K)
   first | ((with_reducible refine wpList_skip ?_ ?_); (· first | (go_simp; done) | (go_simp; intro h; cases h)); simp only [Act.put, qsT, qsZ, qsS]) | (refine wpList_ld1 (t := 47) (cs := opC 1 v b e six ah al pt pr wy B m d) 3 (.tmp 16) rfl (by go_simp) rfl (bo) rfl Tryz.underlying3 rfl ?_; simp only [Act.put, qsT, qsZ, qsS])
   first | ((with_reducible refine wpList_skip ?_ ?_); (· first | (go_simp; done) | (go_simp; intro h; cases h)); simp only [Act.put, qsT, qsZ, qsS]) | (refine wpList_step (fun K hK => ?_); go_simp; (with_reducible refine hK _ _ ?_); clear hK K)
   iterate 2 (refine wpList_plain rfl (fun K hK => ?_); go_simp; with_reducible refine hK _ _ ?_; clear hK K)
   iterate 4 ((with_reducible refine wpList_skip ?_ ?_); (· first | (go_simp; done) | (go_simp; intro h; cases h)); simp only [Act.put, qsT, qsZ, qsS])
   refine wpList_plain rfl (fun K hK => ?_); go_simp; with_reducible refine hK _ _ ?_; clear hK K
   go_upto_region 4 with (fail)
   refine wp_region_lit ?_
   refine wpList_ldA (t := 37) 37 (.tmp 2) rfl rfl (rcC C A n c) rfl (bs) (whole_ _) vs1 vs2 (szRcS C hk hb A n c) ?_
   simp only [Act.put, qsT, qsZ, qsS]
   refine wpList_stA (t := 37) 37 (.tmp 4) (.tmp 26) rfl rfl (rcC C A n c) zl0 (hzl.trans (rcC_len C (by assumption) (by assumption) _ _ _).symm).symm (rcL_one _ _ _ _ _ _ _ _) rfl rfl hz (szRcS C (by assumption) (by assumption) _ _ _) ?_
   intro W9 h9 g9
   refine wpList_plain rfl (fun K hK => ?_); go_simp; with_reducible refine hK _ _ ?_; clear hK K
   replace be := below_grown be g9 (by omega)
   go_wp2
   refine bodyPost_agg2 Tryz.results23 rfl rfl h9.range vs1 vs2 (szRcS C (by assumption) (by assumption) _ _ _) rfl ?_
   exact RetRx.no HX0.out HE0.out hk hb (by decide) be
 focus
  ·obtain ⟨i, rfl⟩ : ∃ i : Nat, b = i := ⟨b.toNat, by omega⟩
   cases hag : adG six ah al with
   | false =>
    have HE0 := Lib.hid (show chE C ⟨1, v, i, e, six, ah, al, pt, pr, wy, ms⟩ = 1 by unfold chE; simp only []; rw [hag]; simp)
    rw [hag] at HRR
    clear hag
    obtain ⟨dvs1, vs1, vs2⟩ := rowRcS
    obtain ⟨dvo1, vo1, vo2⟩ := rowRo
    obtain ⟨bs, bo, be, zV⟩ := box2 w 37 47 (rcC C A n c) (opC 1 v (i : Int) e six ah al pt pr wy B m d)
    go_enter Tryz.func23, Tryz.ntmps23
    go_upto_region 1 with (fail)
    have HVe := Lib.hid (show ((w.alloc (.cells (rcC C A n c).toArray 37)).alloc (.cells (opC 1 v (i : Int) e six ah al pt pr wy B m d).toArray 47)).heap.size = w.heap.size + 1 + 1 by simp)
    generalize (w.alloc (.cells (rcC C A n c).toArray 37)).alloc (.cells (opC 1 v (i : Int) e six ah al pt pr wy B m d).toArray 47) = V at *
    have hz := Bk.newK 37 (Tryz.zeroCells37) _ HVe.out.symm rfl
    have hzl : (Tryz.zeroCells37).toList.length = 279 := by kernel_rfl
    have hbz : Below V.heap.size V (V.alloc (.cells (Tryz.zeroCells37) 37)) := Below.allocS (Below.refl _ _) _
    go_upto_region 1 with (fail)
    have hVs : w.heap.size + 2 ≤ V.heap.size := by have := bo.lt; omega
    generalize hV2 : V.alloc (.cells (Tryz.zeroCells37) 37) = V2 at *
    clear hV2
    generalize hzc : (Tryz.zeroCells37).toList = zl0 at *
    clear hzc
    replace bs := bs.later hbz
    replace bo := bo.later hbz
    replace be := be.trans (hbz.mono be.size)
    clear hbz
    have q0 : V2.cell? ⟨w.heap.size + 1, 0, none⟩ = some (.int .i64 1) := bo.cell 0
    go_upto_region 3 with (fail)
    refine wp_region_lit ?_
    refine wpList_plain rfl (fun K hK => ?_); go_simp; with_reducible refine hK _ _ ?_; clear hK K
    refine wpList_ld1 (t := 47) (cs := opC 1 v (i : Int) e six ah al pt pr wy B m d) 3 (.tmp 12) rfl (by rfl) rfl (bo) rfl Tryz.underlying3 rfl ?_
    iterate 2 (refine wpList_plain rfl (fun K hK => ?_); go_simp; with_reducible refine hK _ _ ?_; clear hK K)
    refine wpList_step (fun K hK => ?_); go_simp; with_reducible refine hK _ _ ?_; clear hK K
    refine wpList_ld1 (t := 47) (cs := opC 1 v (i : Int) e six ah al pt pr wy B m d) 3 (.tmp 16) rfl (by go_simp) rfl (bo) rfl Tryz.underlying3 rfl ?_
    refine wpList_step (fun K hK => ?_); go_simp; with_reducible refine hK _ _ ?_; clear hK K
    iterate 2 (refine wpList_plain rfl (fun K hK => ?_); go_simp; with_reducible refine hK _ _ ?_; clear hK K)
    refine wpList_step (fun K hK => ?_); go_simp; with_reducible refine hK _ _ ?_; clear hK K
    refine wpList_ldG (t := 47) (cs := opC 1 v (i : Int) e six ah al pt pr wy B m d) 32 (.tmp 21) rfl (by go_simp) (adC six ah al) rfl (bo) rfl va1 va2 (szAd _ _ _) ?_
    refine wpList_step (fun K hK => ?_)
    go_simp
    refine (HRR.out _).mono ?_
    rintro e w1 ⟨bs1, d1, rfl, rfl⟩
    with_reducible refine hK _ _ ?_
    clear hK K
    have hb1 := below_plus V2 bs1 d1
    replace bs := bs.later hb1
    replace bo := bo.later hb1
    replace hz := hz.later hb1
    replace be := be.trans (hb1.mono be.size)
    clear hb1
    generalize plus V2 bs1 d1 = V3 at *
    refine wpList_step (fun K hK => ?_); go_simp; with_reducible refine hK _ _ ?_; clear hK K
    refine wpList_plain rfl (fun K hK => ?_); go_simp; with_reducible refine hK _ _ ?_; clear hK K
    go_upto_region 4 with (fail)
    refine wp_region_lit ?_
    refine wpList_ldA (t := 37) 37 (.tmp 2) rfl rfl (rcC C A n c) rfl (bs) (whole_ _) vs1 vs2 (szRcS C hk hb A n c) ?_
    simp only [Act.put, qsT, qsZ, qsS]
    refine wpList_stA (t := 37) 37 (.tmp 4) (.tmp 26) rfl rfl (rcC C A n c) zl0 (hzl.trans (rcC_len C (by assumption) (by assumption) _ _ _).symm).symm (rcL_one _ _ _ _ _ _ _ _) rfl rfl hz (szRcS C (by assumption) (by assumption) _ _ _) ?_
    intro W9 h9 g9
    refine wpList_plain rfl (fun K hK => ?_); go_simp; with_reducible refine hK _ _ ?_; clear hK K
    replace be := below_grown be g9 (by omega)
    go_wp2
    refine bodyPost_agg2 Tryz.results23 rfl rfl h9.range vs1 vs2 (szRcS C (by assumption) (by assumption) _ _ _) rfl ?_
    exact RetRx.no HX0.out HE0.out hk hb (by decide) be
   | true =>
    have HE0 := Lib.hid (show chE C ⟨1, v, i, e, six, ah, al, pt, pr, wy, ms⟩ = 0 by unfold chE numB; simp only []; rw [hag, decide_eq_true (show (1 : Int) ≤ i by omega), decide_eq_true (show (i : Int) ≤ 64 by omega)]; rfl)
    have HC0 := Lib.hid (show chC C ⟨1, v, i, e, six, ah, al, pt, pr, wy, ms⟩ = { C with bk := C.bk.set i (some (six, ah, al)) } from rfl)
    rw [hag] at HRR
    clear hag
    have hb2 : ({ C with bk := C.bk.set i (some (six, ah, al)) } : Cf).bk.length = 65 := by simp [hb]
    have hi1 : 1 ≤ i := by omega
    have hi64 : i ≤ 64 := by omega
    have hi65 : (i : Int) < 65 := by omega
    have hi65n : i < 65 := by omega
    have HSA := Lib.hid (show splice (rcC C A n c) (18 + i * 3) (adC six ah al) = rcL C.num C.key C.now ((C.bk.map adZ).set i (six, ah, al)) (C.bk.map Option.isSome) A n c from rcL_setAd C.num C.key C.now (C.bk.map adZ) (C.bk.map Option.isSome) A n c hk (by simp [hb]) i (by omega) (six, ah, al))
    have HSL := Lib.hid (show (rcL C.num C.key C.now ((C.bk.map adZ).set i (six, ah, al)) (C.bk.map Option.isSome) A n c).length = 279 from rcL_len _ _ _ _ _ _ _ _ hk (by simp [hb]) (by simp [hb]))
    have HSB := Lib.hid (show (rcL C.num C.key C.now ((C.bk.map adZ).set i (six, ah, al)) (C.bk.map Option.isSome) A n c).set (213 + i) (.bool true) = rcC { C with bk := C.bk.set i (some (six, ah, al)) } A n c by
     rw [rcL_setBool C.num C.key C.now _ (C.bk.map Option.isSome) A n c hk (by simp [hb]) (by simp [hb]) i (by omega) true]
     unfold rcC
     simp only [List.map_set]
     rfl)
    obtain ⟨dvs1, vs1, vs2⟩ := rowRcS
    obtain ⟨dvo1, vo1, vo2⟩ := rowRo
    obtain ⟨bs, bo, be, zV⟩ := box2 w 37 47 (rcC C A n c) (opC 1 v (i : Int) e six ah al pt pr wy B m d)
    go_enter Tryz.func23, Tryz.ntmps23
    go_upto_region 1 with (fail)
    have HVe := Lib.hid (show ((w.alloc (.cells (rcC C A n c).toArray 37)).alloc (.cells (opC 1 v (i : Int) e six ah al pt pr wy B m d).toArray 47)).heap.size = w.heap.size + 1 + 1 by simp)
    generalize (w.alloc (.cells (rcC C A n c).toArray 37)).alloc (.cells (opC 1 v (i : Int) e six ah al pt pr wy B m d).toArray 47) = V at *
    have hz := Bk.newK 37 (Tryz.zeroCells37) _ HVe.out.symm rfl
    have hzl : (Tryz.zeroCells37).toList.length = 279 := by kernel_rfl
    have hbz : Below V.heap.size V (V.alloc (.cells (Tryz.zeroCells37) 37)) := Below.allocS (Below.refl _ _) _
    go_upto_region 1 with (fail)
    have hVs : w.heap.size + 2 ≤ V.heap.size := by have := bo.lt; omega
    generalize hV2 : V.alloc (.cells (Tryz.zeroCells37) 37) = V2 at *
    clear hV2
    generalize hzc : (Tryz.zeroCells37).toList = zl0 at *
    clear hzc
    replace bs := bs.later hbz
    replace bo := bo.later hbz
    replace be := be.trans (hbz.mono be.size)
    clear hbz
    have q0 : V2.cell? ⟨w.heap.size + 1, 0, none⟩ = some (.int .i64 1) := bo.cell 0
    go_upto_region 3 with (fail)
    refine wp_region_lit ?_
    refine wpList_plain rfl (fun K hK => ?_); go_simp; with_reducible refine hK _ _ ?_; clear hK K
    refine wpList_ld1 (t := 47) (cs := opC 1 v (i : Int) e six ah al pt pr wy B m d) 3 (.tmp 12) rfl (by rfl) rfl (bo) rfl Tryz.underlying3 rfl ?_
    iterate 2 (refine wpList_plain rfl (fun K hK => ?_); go_simp; with_reducible refine hK _ _ ?_; clear hK K)
    refine wpList_step (fun K hK => ?_); go_simp; with_reducible refine hK _ _ ?_; clear hK K
    refine wpList_ld1 (t := 47) (cs := opC 1 v (i : Int) e six ah al pt pr wy B m d) 3 (.tmp 16) rfl (by go_simp) rfl (bo) rfl Tryz.underlying3 rfl ?_
    refine wpList_step (fun K hK => ?_); go_simp; with_reducible refine hK _ _ ?_; clear hK K
    iterate 2 (refine wpList_plain rfl (fun K hK => ?_); go_simp; with_reducible refine hK _ _ ?_; clear hK K)
    refine wpList_step (fun K hK => ?_); go_simp; with_reducible refine hK _ _ ?_; clear hK K
    refine wpList_ldG (t := 47) (cs := opC 1 v (i : Int) e six ah al pt pr wy B m d) 32 (.tmp 21) rfl (by go_simp) (adC six ah al) rfl (bo) rfl va1 va2 (szAd _ _ _) ?_
    refine wpList_step (fun K hK => ?_)
    go_simp
    refine (HRR.out _).mono ?_
    rintro e w1 ⟨bs1, d1, rfl, rfl⟩
    with_reducible refine hK _ _ ?_
    clear hK K
    have hb1 := below_plus V2 bs1 d1
    replace bs := bs.later hb1
    replace bo := bo.later hb1
    replace hz := hz.later hb1
    replace be := be.trans (hb1.mono be.size)
    clear hb1
    generalize plus V2 bs1 d1 = V3 at *
    refine wpList_step (fun K hK => ?_); go_simp; with_reducible refine hK _ _ ?_; clear hK K
    refine wpList_plain rfl (fun K hK => ?_); go_simp; with_reducible refine hK _ _ ?_; clear hK K
    go_upto_region 5 with (fail)
    refine wp_suS (fun b => b = w.heap.size) 12 117 2 [8, 11] rfl (by kernel_rfl) (by kernel_rfl) (fun k w' => Bk w' w.heap.size 37 (match k with | 0 => rcC C A n c | 1 => rcL C.num C.key C.now ((C.bk.map adZ).set i (six, ah, al)) (C.bk.map Option.isSome) A n c | _ => rcC { C with bk := C.bk.set i (some (six, ah, al)) } A n c)) (fun k _ _ h hx => h.later hx.below) (bs) ?_
    apply StepsC.one (MC.eq _) 1 rfl (by decide)
    ·intro o ho FA w' hC hO hD K hK
     obtain rfl := qoi ho
     have e3 := hO 3 (by kernel_rfl)
     simp only [eval_tmp, qgT, qgS, qgZ, qoS] at e3
     have ev3 := Lib.hid ((eval_tmp FA 3).trans e3)
     clear hO hD ho
     go_simp
     exact hK.out _ _ (Ex.refl _) rfl
    apply StepsC.one (MC.eq _) 2 rfl (by decide)
    ·intro o ho FA w' hC hO hD K hK
     obtain rfl := qoi ho
     obtain ⟨e27, ev27⟩ := qE (hD 0 27 (by kernel_rfl))
     clear hO hD ho
     refine wanted_if rfl ?_
     refine wp_ld1 3 (.tmp 27) rfl ev27.out (bo.chg hC (by omega)) rfl Tryz.underlying3 rfl ?_
     exact hK.out _ _ (Ex.refl _) rfl
    apply StepsC.one (MC.eq _) 3 rfl (by decide)
    ·intro o ho FA w' hC hO hD K hK
     obtain rfl := qoi ho
     have e3 := hO 3 (by kernel_rfl)
     simp only [eval_tmp, qgT, qgS, qgZ, qoS] at e3
     have ev3 := Lib.hid ((eval_tmp FA 3).trans e3)
     clear hO hD ho
     go_simp
     exact hK.out _ _ (Ex.refl _) rfl
    apply StepsC.one (MC.eq _) 4 rfl (by decide)
    ·intro o ho FA w' hC hO hD K hK
     obtain rfl := qoi ho
     obtain ⟨e29, ev29⟩ := qE (hD 2 29 (by kernel_rfl))
     clear hO hD ho
     refine wanted_if rfl ?_
     refine wp_ld1 3 (.tmp 29) rfl ev29.out (bo.chg hC (by omega)) rfl Tryz.underlying3 rfl ?_
     exact hK.out _ _ (Ex.refl _) rfl
    apply StepsC.one (MC.eq _) 5 rfl (by decide)
    ·intro o ho FA w' hC hO hD K hK
     obtain rfl := qoi ho
     have e3 := hO 3 (by kernel_rfl)
     simp only [eval_tmp, qgT, qgS, qgZ, qoS] at e3
     have ev3 := Lib.hid ((eval_tmp FA 3).trans e3)
     clear hO hD ho
     go_simp
     exact hK.out _ _ (Ex.refl _) rfl
    apply StepsC.one (MC.eq _) 6 rfl (by decide)
    ·intro o ho FA w' hC hO hD K hK
     obtain rfl := qoi ho
     obtain ⟨e31, ev31⟩ := qE (hD 4 31 (by kernel_rfl))
     clear hO hD ho
     refine wanted_if rfl ?_
     refine wp_ldA 32 (.tmp 31) rfl (adC six ah al) ev31.out (bo.chg hC (by omega)) rfl va1 va2 (szAd _ _ _) ?_
     exact hK.out _ _ (Ex.refl _) rfl
    apply StepsC.one (MC.eq _) 7 rfl (by decide)
    ·intro o ho FA w' hC hO hD K hK
     obtain rfl := qoi ho
     have e2 := hO 2 (by kernel_rfl)
     simp only [eval_tmp, qgT, qgS, qgZ, qoS] at e2
     have ev2 := Lib.hid ((eval_tmp FA 2).trans e2)
     clear hO hD ho
     go_simp
     exact hK.out _ _ (Ex.refl _) rfl
    apply StepsC.one (MC.eq _) 8 rfl (by decide)
    ·intro o ho FA w' hC hO hD K hK
     obtain rfl := qoi ho
     obtain ⟨e33, ev33⟩ := qE (hD 6 33 (by kernel_rfl))
     obtain ⟨e28, ev28⟩ := qE (hD 1 28 (by kernel_rfl))
     clear hO hD ho
     go_simp
     exact hK.out _ _ (Ex.refl _) rfl
    apply StepsC.mov (MC.any) 9 0 rfl rfl rfl
    ·intro o ho FA w' hC hO hD hS K hK
     obtain rfl := qoi ho
     obtain ⟨e34, ev34⟩ := qE (hD 7 34 (by kernel_rfl))
     obtain ⟨e32, ev32⟩ := qE (hD 5 32 (by kernel_rfl))
     clear hO hD ho
     refine wanted_if rfl ?_
     refine wp_stM (off := 18 + i * 3) 32 (.tmp 34) (.tmp 32) rfl (adC six ah al) (rcC C A n c) (by rw [rcC_len C hk hb]; simp [adC]; omega) (by simp [adC, Value.oneCell']) ev34.out ev32.out hS (szAd _ _ _) ?_
     intro w'' hn hgr
     rw [HSA.out] at hn
     exact hK.out undef _ (Chg.one hgr rfl) hn trivial
    apply StepsC.one (MC.eq _) 10 rfl (by decide)
    ·intro o ho FA w' hC hO hD K hK
     obtain rfl := qoi ho
     have e2 := hO 2 (by kernel_rfl)
     simp only [eval_tmp, qgT, qgS, qgZ, qoS] at e2
     have ev2 := Lib.hid ((eval_tmp FA 2).trans e2)
     clear hO hD ho
     go_simp
     exact hK.out _ _ (Ex.refl _) rfl
    apply StepsC.one (MC.eq _) 11 rfl (by decide)
    ·intro o ho FA w' hC hO hD K hK
     obtain rfl := qoi ho
     obtain ⟨e35, ev35⟩ := qE (hD 9 35 (by kernel_rfl))
     obtain ⟨e30, ev30⟩ := qE (hD 3 30 (by kernel_rfl))
     clear hO hD ho
     go_simp
     exact hK.out _ _ (Ex.refl _) rfl
    apply StepsC.mov (MC.any) 12 1 rfl rfl rfl
    ·intro o ho FA w' hC hO hD hS K hK
     obtain rfl := qoi ho
     obtain ⟨e36, ev36⟩ := qE (hD 10 36 (by kernel_rfl))
     clear hO hD ho
     refine wanted_if rfl ?_
     refine wp_st1 (v := .bool true) (off := 213 + i) (cs := rcL C.num C.key C.now ((C.bk.map adZ).set i (six, ah, al)) (C.bk.map Option.isSome) A n c) 4 (.tmp 36) (.const (.bool true)) rfl ev36.out rfl hS (by rw [HSL.out]; omega) rfl (by kernel_rfl) ?_
     intro w'' hn hgr
     rw [HSB.out] at hn
     exact hK.out undef _ (Chg.one hgr rfl) hn trivial
    refine StepsC.fin_ (fun vs w' hC hS hp => ?_)
    have p0 : vs 0 = _ := hp 0 (by omega) rfl
    have p1 : vs 1 = _ := hp 1 (by omega) rfl
    have p2 : vs 2 = _ := hp 2 (by omega) rfl
    have p3 : vs 3 = _ := hp 3 (by omega) rfl
    have p4 : vs 4 = _ := hp 4 (by omega) rfl
    have p5 : vs 5 = _ := hp 5 (by omega) rfl
    have p6 : vs 6 = _ := hp 6 (by omega) rfl
    have p7 : vs 7 = _ := hp 7 (by omega) rfl
    have p9 : vs 9 = _ := hp 9 (by omega) rfl
    have p10 : vs 10 = _ := hp 10 (by omega) rfl
    clear hp
    simp only [List.take_succ_cons, List.take_zero, List.drop_succ_cons, List.drop_zero, putAll, Nat.zero_add, Nat.reduceAdd, Act.put, qsT, qsZ, qsS, p0, p1, p2, p3, p4, p5, p6, p7, p9, p10]
    clear p0 p1 p2 p3 p4 p5 p6 p7 p9 p10
    clear vs
    have bsN := hS
    have hzN := hz.chg hC (by omega)
    replace be := be.trans (hC.below (B := w.heap.size) (fun b hb => by omega) be.size)
    clear hC hS hz bs bo
    have hz := hzN
    go_upto_region 6 with (fail)
    refine wp_region_lit ?_
    refine wpList_ldA (t := 37) 37 (.tmp 2) rfl rfl (rcC { C with bk := C.bk.set i (some (six, ah, al)) } A n c) rfl (bsN) (whole_ _) vs1 vs2 (szRcS { C with bk := C.bk.set i (some (six, ah, al)) } hk hb2 A n c) ?_
    simp only [Act.put, qsT, qsZ, qsS]
    refine wpList_stA (t := 37) 37 (.tmp 4) (.tmp 37) rfl rfl (rcC { C with bk := C.bk.set i (some (six, ah, al)) } A n c) zl0 (hzl.trans (rcC_len { C with bk := C.bk.set i (some (six, ah, al)) } (by assumption) (by assumption) _ _ _).symm).symm (rcL_one _ _ _ _ _ _ _ _) rfl rfl hz (szRcS { C with bk := C.bk.set i (some (six, ah, al)) } (by assumption) (by assumption) _ _ _) ?_
    intro W9 h9 g9
    refine wpList_plain rfl (fun K hK => ?_); go_simp; with_reducible refine hK _ _ ?_; clear hK K
    replace be := below_grown be g9 (by omega)
    go_wp2
    refine bodyPost_agg2 Tryz.results23 rfl rfl h9.range vs1 vs2 (szRcS { C with bk := C.bk.set i (some (six, ah, al)) } (by assumption) (by assumption) _ _ _) rfl ?_
    rw [HE0.out, HC0.out]
    exact ⟨{ C with bk := C.bk.set i (some (six, ah, al)) }, A, n, c, E, rfl, ⟨HX0.out.vs, (HX0.out.later be).row, (HX0.out.later be).off, (HX0.out.later be).mm, (HX0.out.later be).mo, (HX0.out.later be).ss⟩, be, hk, hb2, fun _ => rfl⟩
end

section
open Go.Lib
open Go.RowKit
attribute [local go_sem ↓] sliced_cut
attribute [local go_sem] cutA_zero
theorem RetRc.rx {G : Nat → Prop} {w : World} {v : Nat} {f : Nat} {args : Array Value} (C C7 : Cf) (h : Calls Tryz.prog f args w (RetRc G w C7 v)) (hk : C7.key.length = 16) (hb : C7.bk.length = 65) : Calls Tryz.prog f args w (RetRx G w C7 v) :=
 h.mono (fun _ _ ⟨A, n, c, E, h1, h2, h3⟩ => ⟨C7, A, n, c, E, h1, h2, h3, hk, hb, fun _ => rfl⟩)
set_option maxHeartbeats 4000000
set_option maxRecDepth 100000
theorem rcDoes2 {G : Nat → Prop} (v b e : Int) (six : Bool) (ah al pt pr : Nat) (wy : Int) (ms : List (Int × Int)) (B : Option Addr) (m d : Nat) (C : Cf) (hC : CfOk C) (A : Option Addr) (n c : Nat) (E : List Re) (w : World) (hG : ∀ b, G b → b < w.heap.size) (hX : RcX G w C A n c E) (hal : al < 18446744073709551616) : Calls Tryz.prog 23 #[.agg (rcC C A n c).toArray, .agg (opC 2 v b e six ah al pt pr wy B m d).toArray] w (RetRx G w (chC C ⟨2, v, b, e, six, ah, al, pt, pr, wy, ms⟩) (chE C ⟨2, v, b, e, six, ah, al, pt, pr, wy, ms⟩)) := by
 obtain ⟨dva1, va1, va2⟩ := rowAdC
 obtain ⟨dvr1, vr1, vr2⟩ := rowRv
 obtain ⟨dvt1, vt1, vt2⟩ := rowRst
 have hk := hC.key
 have hb := hC.bl
 have HX0 := Lib.hid hX
 have HE0 := Lib.hid (show chE C ⟨2, v, b, e, six, ah, al, pt, pr, wy, ms⟩ = addE C ⟨2, v, b, e, six, ah, al, pt, pr, wy, ms⟩ from rfl)
 have HCA := Lib.hid (fun W G' hG' h => RetRc.rx C _ (rcAdded_any (G := G') 2 v b e six ah al pt pr wy ms B m d C hC A n c E W hG' h hal) (by unfold addR; split <;> exact hk) (by unfold addR; split <;> exact hb))
 obtain ⟨dvs1, vs1, vs2⟩ := rowRcS
 obtain ⟨dvo1, vo1, vo2⟩ := rowRo
 obtain ⟨bs, bo, be, zV⟩ := box2 w 37 47 (rcC C A n c) (opC 2 v b e six ah al pt pr wy B m d)
 go_enter Tryz.func23, Tryz.ntmps23
 go_upto_region 1 with (fail)
 have HVe := Lib.hid (show ((w.alloc (.cells (rcC C A n c).toArray 37)).alloc (.cells (opC 2 v b e six ah al pt pr wy B m d).toArray 47)).heap.size = w.heap.size + 1 + 1 by simp)
 generalize (w.alloc (.cells (rcC C A n c).toArray 37)).alloc (.cells (opC 2 v b e six ah al pt pr wy B m d).toArray 47) = V at *
 have hz := Bk.newK 37 (Tryz.zeroCells37) _ HVe.out.symm rfl
 have hzl : (Tryz.zeroCells37).toList.length = 279 := by kernel_rfl
 have hbz : Below V.heap.size V (V.alloc (.cells (Tryz.zeroCells37) 37)) := Below.allocS (Below.refl _ _) _
 go_upto_region 1 with (fail)
 have hVs : w.heap.size + 2 ≤ V.heap.size := by have := bo.lt; omega
 generalize hV2 : V.alloc (.cells (Tryz.zeroCells37) 37) = V2 at *
 clear hV2
 generalize hzc : (Tryz.zeroCells37).toList = zl0 at *
 clear hzc
 replace bs := bs.later hbz
 replace bo := bo.later hbz
 replace be := be.trans (hbz.mono be.size)
 clear hbz
 have q0 : V2.cell? ⟨w.heap.size + 1, 0, none⟩ = some (.int .i64 2) := bo.cell 0
 go_upto_region 8 with (fail)
 refine wp_region_lit ?_
 refine wpList_ldA (t := 37) 37 (.tmp 2) rfl rfl (rcC C A n c) rfl (bs) (whole_ _) vs1 vs2 (szRcS C hk hb A n c) ?_
 simp only [Act.put, qsT, qsZ, qsS]
 refine wpList_ldA (t := 47) 47 (.tmp 3) rfl rfl (opC 2 v b e six ah al pt pr wy B m d) rfl (bo) (whole_ _) vo1 vo2 (szRo _ _ _ _ _ _ _ _ _ _ _ _ _) ?_
 refine wpList_plain rfl (fun K hK => ?_)
 go_simp
 refine (HCA.out V2 (fun b => G b ∨ b = w.heap.size + 1 + 1) (fun b hb => hb.elim (fun h => by have := hG b h; have := be.size; omega) (fun h => by have := hz.lt; omega) : ∀ b, (fun b => G b ∨ b = w.heap.size + 1 + 1) b → b < V2.heap.size) ((HX0.out.more (G' := fun b => G b ∨ b = w.heap.size + 1 + 1) (fun b hb => hb.elim .inl (fun h => .inr (by omega)))).later be)).mono ?_
 rintro e w1 ⟨C7, A7, n7, c7, E7, rfl, hX7, hb7, hk7, hbl7, h07⟩
 with_reducible refine hK _ _ ?_
 clear hK K
 replace hz := hz.later hb7
 replace be := be.trans (hb7.mono be.size)
 generalize hWW : w1 = W8 at *
 clear hWW
 iterate 2 (refine wpList_plain rfl (fun K hK => ?_); go_simp; with_reducible refine hK _ _ ?_; clear hK K)
 refine wpList_stA (t := 37) 37 (.tmp 4) (.tmp 43) rfl rfl (rcC C7 A7 n7 c7) zl0 (hzl.trans (rcC_len C7 (by assumption) (by assumption) _ _ _).symm).symm (rcL_one _ _ _ _ _ _ _ _) rfl rfl hz (szRcS C7 (by assumption) (by assumption) _ _ _) ?_
 intro W9 h9 g9
 refine wpList_plain rfl (fun K hK => ?_); go_simp; with_reducible refine hK _ _ ?_; clear hK K
 replace be := below_grown be g9 (by omega)
 go_wp2
 refine bodyPost_agg2 Tryz.results23 rfl rfl h9.range vs1 vs2 (szRcS C7 (by assumption) (by assumption) _ _ _) rfl ?_
 have hX9 := (hX7.chg (Chg.one (D := fun b => b = w.heap.size + 1 + 1) g9 rfl) (fun b h => .inr h)).more (G' := G) (fun b h => .inl (.inl h))
 rw [HE0.out]
 refine ⟨C7, A7, n7, c7, E7, rfl, hX9, be, hk7, hbl7, fun h => (h07 h).trans ?_⟩
 unfold addR
 rw [if_pos h]
 rfl
theorem rcDoes6 {G : Nat → Prop} (v b e : Int) (six : Bool) (ah al pt pr : Nat) (wy : Int) (ms : List (Int × Int)) (B : Option Addr) (m d : Nat) (C : Cf) (hC : CfOk C) (A : Option Addr) (n c : Nat) (E : List Re) (w : World) (hG : ∀ b, G b → b < w.heap.size) (hX : RcX G w C A n c E)  : Calls Tryz.prog 23 #[.agg (rcC C A n c).toArray, .agg (opC 6 v b e six ah al pt pr wy B m d).toArray] w (RetRx G w (chC C ⟨6, v, b, e, six, ah, al, pt, pr, wy, ms⟩) (chE C ⟨6, v, b, e, six, ah, al, pt, pr, wy, ms⟩)) := by
 obtain ⟨dva1, va1, va2⟩ := rowAdC
 obtain ⟨dvr1, vr1, vr2⟩ := rowRv
 obtain ⟨dvt1, vt1, vt2⟩ := rowRst
 have hk := hC.key
 have hb := hC.bl
 have HX0 := Lib.hid hX
 have HE0 := Lib.hid (show chE C ⟨6, v, b, e, six, ah, al, pt, pr, wy, ms⟩ = markE C 6 b from rfl)
 obtain ⟨dvs1, vs1, vs2⟩ := rowRcS
 obtain ⟨dvo1, vo1, vo2⟩ := rowRo
 obtain ⟨bs, bo, be, zV⟩ := box2 w 37 47 (rcC C A n c) (opC 6 v b e six ah al pt pr wy B m d)
 go_enter Tryz.func23, Tryz.ntmps23
 go_upto_region 1 with (fail)
 have HVe := Lib.hid (show ((w.alloc (.cells (rcC C A n c).toArray 37)).alloc (.cells (opC 6 v b e six ah al pt pr wy B m d).toArray 47)).heap.size = w.heap.size + 1 + 1 by simp)
 generalize (w.alloc (.cells (rcC C A n c).toArray 37)).alloc (.cells (opC 6 v b e six ah al pt pr wy B m d).toArray 47) = V at *
 have hz := Bk.newK 37 (Tryz.zeroCells37) _ HVe.out.symm rfl
 have hzl : (Tryz.zeroCells37).toList.length = 279 := by kernel_rfl
 have hbz : Below V.heap.size V (V.alloc (.cells (Tryz.zeroCells37) 37)) := Below.allocS (Below.refl _ _) _
 go_upto_region 1 with (fail)
 have hVs : w.heap.size + 2 ≤ V.heap.size := by have := bo.lt; omega
 generalize hV2 : V.alloc (.cells (Tryz.zeroCells37) 37) = V2 at *
 clear hV2
 generalize hzc : (Tryz.zeroCells37).toList = zl0 at *
 clear hzc
 replace bs := bs.later hbz
 replace bo := bo.later hbz
 replace be := be.trans (hbz.mono be.size)
 clear hbz
 have q0 : V2.cell? ⟨w.heap.size + 1, 0, none⟩ = some (.int .i64 6) := bo.cell 0
 go_upto_region 11 with (fail)
 refine wp_region_lit ?_
 refine wpList_ldA (t := 37) 37 (.tmp 2) rfl rfl (rcC C A n c) rfl (bs) (whole_ _) vs1 vs2 (szRcS C hk hb A n c) ?_
 simp only [Act.put, qsT, qsZ, qsS]
 refine wpList_ldA (t := 47) 47 (.tmp 3) rfl rfl (opC 6 v b e six ah al pt pr wy B m d) rfl (bo) (whole_ _) vo1 vo2 (szRo _ _ _ _ _ _ _ _ _ _ _ _ _) ?_
 refine wpList_plain rfl (fun K hK => ?_)
 go_simp
 refine (rcEvicted_any (G := (fun b => G b ∨ b = w.heap.size + 1 + 1)) 6 v b e six ah al pt pr wy B m d C hC A n c E V2 (fun b hb => hb.elim (fun h => by have := hG b h; have := be.size; omega) (fun h => by have := hz.lt; omega) : ∀ b, (fun b => G b ∨ b = w.heap.size + 1 + 1) b → b < V2.heap.size) ((HX0.out.more (G' := fun b => G b ∨ b = w.heap.size + 1 + 1) (fun b hb => hb.elim .inl (fun h => .inr (by omega)))).later be) (.inl rfl)).mono ?_
 rintro e w1 ⟨C7, A7, n7, c7, E7, rfl, hX7, hb7, hk7, hbl7, h07⟩
 with_reducible refine hK _ _ ?_
 clear hK K
 replace hz := hz.later hb7
 replace be := be.trans (hb7.mono be.size)
 generalize hWW : w1 = W8 at *
 clear hWW
 iterate 2 (refine wpList_plain rfl (fun K hK => ?_); go_simp; with_reducible refine hK _ _ ?_; clear hK K)
 refine wpList_stA (t := 37) 37 (.tmp 4) (.tmp 51) rfl rfl (rcC C7 A7 n7 c7) zl0 (hzl.trans (rcC_len C7 (by assumption) (by assumption) _ _ _).symm).symm (rcL_one _ _ _ _ _ _ _ _) rfl rfl hz (szRcS C7 (by assumption) (by assumption) _ _ _) ?_
 intro W9 h9 g9
 refine wpList_plain rfl (fun K hK => ?_); go_simp; with_reducible refine hK _ _ ?_; clear hK K
 replace be := below_grown be g9 (by omega)
 go_wp2
 refine bodyPost_agg2 Tryz.results23 rfl rfl h9.range vs1 vs2 (szRcS C7 (by assumption) (by assumption) _ _ _) rfl ?_
 have hX9 := (hX7.chg (Chg.one (D := fun b => b = w.heap.size + 1 + 1) g9 rfl) (fun b h => .inr h)).more (G' := G) (fun b h => .inl (.inl h))
 rw [HE0.out]
 exact ⟨C7, A7, n7, c7, E7, rfl, hX9, be, hk7, hbl7, fun h => (h07 h).trans rfl⟩
theorem rcDoes7 {G : Nat → Prop} (v b e : Int) (six : Bool) (ah al pt pr : Nat) (wy : Int) (ms : List (Int × Int)) (B : Option Addr) (m d : Nat) (C : Cf) (hC : CfOk C) (A : Option Addr) (n c : Nat) (E : List Re) (w : World) (hG : ∀ b, G b → b < w.heap.size) (hX : RcX G w C A n c E)  : Calls Tryz.prog 23 #[.agg (rcC C A n c).toArray, .agg (opC 7 v b e six ah al pt pr wy B m d).toArray] w (RetRx G w (chC C ⟨7, v, b, e, six, ah, al, pt, pr, wy, ms⟩) (chE C ⟨7, v, b, e, six, ah, al, pt, pr, wy, ms⟩)) := by
 obtain ⟨dva1, va1, va2⟩ := rowAdC
 obtain ⟨dvr1, vr1, vr2⟩ := rowRv
 obtain ⟨dvt1, vt1, vt2⟩ := rowRst
 have hk := hC.key
 have hb := hC.bl
 have HX0 := Lib.hid hX
 have HE0 := Lib.hid (show chE C ⟨7, v, b, e, six, ah, al, pt, pr, wy, ms⟩ = markE C 7 b from rfl)
 obtain ⟨dvs1, vs1, vs2⟩ := rowRcS
 obtain ⟨dvo1, vo1, vo2⟩ := rowRo
 obtain ⟨bs, bo, be, zV⟩ := box2 w 37 47 (rcC C A n c) (opC 7 v b e six ah al pt pr wy B m d)
 go_enter Tryz.func23, Tryz.ntmps23
 go_upto_region 1 with (fail)
 have HVe := Lib.hid (show ((w.alloc (.cells (rcC C A n c).toArray 37)).alloc (.cells (opC 7 v b e six ah al pt pr wy B m d).toArray 47)).heap.size = w.heap.size + 1 + 1 by simp)
 generalize (w.alloc (.cells (rcC C A n c).toArray 37)).alloc (.cells (opC 7 v b e six ah al pt pr wy B m d).toArray 47) = V at *
 have hz := Bk.newK 37 (Tryz.zeroCells37) _ HVe.out.symm rfl
 have hzl : (Tryz.zeroCells37).toList.length = 279 := by kernel_rfl
 have hbz : Below V.heap.size V (V.alloc (.cells (Tryz.zeroCells37) 37)) := Below.allocS (Below.refl _ _) _
 go_upto_region 1 with (fail)
 have hVs : w.heap.size + 2 ≤ V.heap.size := by have := bo.lt; omega
 generalize hV2 : V.alloc (.cells (Tryz.zeroCells37) 37) = V2 at *
 clear hV2
 generalize hzc : (Tryz.zeroCells37).toList = zl0 at *
 clear hzc
 replace bs := bs.later hbz
 replace bo := bo.later hbz
 replace be := be.trans (hbz.mono be.size)
 clear hbz
 have q0 : V2.cell? ⟨w.heap.size + 1, 0, none⟩ = some (.int .i64 7) := bo.cell 0
 go_upto_region 11 with (fail)
 refine wp_region_lit ?_
 refine wpList_ldA (t := 37) 37 (.tmp 2) rfl rfl (rcC C A n c) rfl (bs) (whole_ _) vs1 vs2 (szRcS C hk hb A n c) ?_
 simp only [Act.put, qsT, qsZ, qsS]
 refine wpList_ldA (t := 47) 47 (.tmp 3) rfl rfl (opC 7 v b e six ah al pt pr wy B m d) rfl (bo) (whole_ _) vo1 vo2 (szRo _ _ _ _ _ _ _ _ _ _ _ _ _) ?_
 refine wpList_plain rfl (fun K hK => ?_)
 go_simp
 refine (rcEvicted_any (G := (fun b => G b ∨ b = w.heap.size + 1 + 1)) 7 v b e six ah al pt pr wy B m d C hC A n c E V2 (fun b hb => hb.elim (fun h => by have := hG b h; have := be.size; omega) (fun h => by have := hz.lt; omega) : ∀ b, (fun b => G b ∨ b = w.heap.size + 1 + 1) b → b < V2.heap.size) ((HX0.out.more (G' := fun b => G b ∨ b = w.heap.size + 1 + 1) (fun b hb => hb.elim .inl (fun h => .inr (by omega)))).later be) (.inr rfl)).mono ?_
 rintro e w1 ⟨C7, A7, n7, c7, E7, rfl, hX7, hb7, hk7, hbl7, h07⟩
 with_reducible refine hK _ _ ?_
 clear hK K
 replace hz := hz.later hb7
 replace be := be.trans (hb7.mono be.size)
 generalize hWW : w1 = W8 at *
 clear hWW
 iterate 2 (refine wpList_plain rfl (fun K hK => ?_); go_simp; with_reducible refine hK _ _ ?_; clear hK K)
 refine wpList_stA (t := 37) 37 (.tmp 4) (.tmp 51) rfl rfl (rcC C7 A7 n7 c7) zl0 (hzl.trans (rcC_len C7 (by assumption) (by assumption) _ _ _).symm).symm (rcL_one _ _ _ _ _ _ _ _) rfl rfl hz (szRcS C7 (by assumption) (by assumption) _ _ _) ?_
 intro W9 h9 g9
 refine wpList_plain rfl (fun K hK => ?_); go_simp; with_reducible refine hK _ _ ?_; clear hK K
 replace be := below_grown be g9 (by omega)
 go_wp2
 refine bodyPost_agg2 Tryz.results23 rfl rfl h9.range vs1 vs2 (szRcS C7 (by assumption) (by assumption) _ _ _) rfl ?_
 have hX9 := (hX7.chg (Chg.one (D := fun b => b = w.heap.size + 1 + 1) g9 rfl) (fun b h => .inr h)).more (G' := G) (fun b h => .inl (.inl h))
 rw [HE0.out]
 exact ⟨C7, A7, n7, c7, E7, rfl, hX9, be, hk7, hbl7, fun h => (h07 h).trans rfl⟩
theorem rcDoes8 {G : Nat → Prop} (v b e : Int) (six : Bool) (ah al pt pr : Nat) (wy : Int) (ms : List (Int × Int)) (B : Option Addr) (m d : Nat) (C : Cf) (hC : CfOk C) (A : Option Addr) (n c : Nat) (E : List Re) (w : World) (hG : ∀ b, G b → b < w.heap.size) (hX : RcX G w C A n c E)  : Calls Tryz.prog 23 #[.agg (rcC C A n c).toArray, .agg (opC 8 v b e six ah al pt pr wy B m d).toArray] w (RetRx G w (chC C ⟨8, v, b, e, six, ah, al, pt, pr, wy, ms⟩) (chE C ⟨8, v, b, e, six, ah, al, pt, pr, wy, ms⟩)) := by
 obtain ⟨dva1, va1, va2⟩ := rowAdC
 obtain ⟨dvr1, vr1, vr2⟩ := rowRv
 obtain ⟨dvt1, vt1, vt2⟩ := rowRst
 have hk := hC.key
 have hb := hC.bl
 have HX0 := Lib.hid hX
 have HE0 := Lib.hid (show chE C ⟨8, v, b, e, six, ah, al, pt, pr, wy, ms⟩ = 0 from rfl)
 have hw8 : IntKind.u64.wrap ((C.now : Int) + 1) = (((C.now + 1) % 18446744073709551616 : Nat) : Int) := by rw [IntKind.wrap_u64]; omega
 have HS8 := Lib.hid (show (rcC C A n c).set 17 (.int .u64 (((C.now + 1) % 18446744073709551616 : Nat) : Int)) = rcC { C with now := (C.now + 1) % 18446744073709551616 } A n c from rcL_setNow _ _ _ _ _ _ _ _ hk _)
 obtain ⟨dvs1, vs1, vs2⟩ := rowRcS
 obtain ⟨dvo1, vo1, vo2⟩ := rowRo
 obtain ⟨bs, bo, be, zV⟩ := box2 w 37 47 (rcC C A n c) (opC 8 v b e six ah al pt pr wy B m d)
 go_enter Tryz.func23, Tryz.ntmps23
 go_upto_region 1 with (fail)
 have HVe := Lib.hid (show ((w.alloc (.cells (rcC C A n c).toArray 37)).alloc (.cells (opC 8 v b e six ah al pt pr wy B m d).toArray 47)).heap.size = w.heap.size + 1 + 1 by simp)
 generalize (w.alloc (.cells (rcC C A n c).toArray 37)).alloc (.cells (opC 8 v b e six ah al pt pr wy B m d).toArray 47) = V at *
 have hz := Bk.newK 37 (Tryz.zeroCells37) _ HVe.out.symm rfl
 have hzl : (Tryz.zeroCells37).toList.length = 279 := by kernel_rfl
 have hbz : Below V.heap.size V (V.alloc (.cells (Tryz.zeroCells37) 37)) := Below.allocS (Below.refl _ _) _
 go_upto_region 1 with (fail)
 have hVs : w.heap.size + 2 ≤ V.heap.size := by have := bo.lt; omega
 generalize hV2 : V.alloc (.cells (Tryz.zeroCells37) 37) = V2 at *
 clear hV2
 generalize hzc : (Tryz.zeroCells37).toList = zl0 at *
 clear hzc
 replace bs := bs.later hbz
 replace bo := bo.later hbz
 replace be := be.trans (hbz.mono be.size)
 clear hbz
 have q0 : V2.cell? ⟨w.heap.size + 1, 0, none⟩ = some (.int .i64 8) := bo.cell 0
 go_upto_region 13 with (fail)
 refine wp_region_lit ?_
 iterate 2 (refine wpList_plain rfl (fun K hK => ?_); go_simp; with_reducible refine hK _ _ ?_; clear hK K)
 refine wpList_ld1 (t := 37) (cs := rcC C A n c) 28 (.tmp 56) rfl rfl rfl bs (rcL_now _ _ _ _ _ _ _ _ hk) Tryz.underlying28 rfl ?_
 iterate 3 (refine wpList_plain rfl (fun K hK => ?_); go_simp; with_reducible refine hK _ _ ?_; clear hK K)
 refine wpList_st1 (v := .int .u64 (((C.now + 1) % 18446744073709551616 : Nat) : Int)) (t := 37) (cs := rcC C A n c) (off := 17) 28 (.tmp 60) (.tmp 58) rfl rfl rfl rfl bs (by rw [rcC_len C hk hb]; omega) rfl (by kernel_rfl) ?_
 intro W8 h8 g8
 simp only [Act.put, qsT, qsZ, qsS]
 rw [HS8.out] at h8
 have hz8 := hz.grown g8 (fun e => by injection e with e; have := hz.lt; omega)
 have be8 := below_grown be g8 (Nat.le_refl _)
 clear hz be g8 bs bo q0
 have hz := hz8
 have be := be8
 go_upto_region 14 with (fail)
 refine wp_region_lit ?_
 refine wpList_ldA (t := 37) 37 (.tmp 2) rfl rfl (rcC { C with now := (C.now + 1) % 18446744073709551616 } A n c) rfl (h8) (whole_ _) vs1 vs2 (szRcS { C with now := (C.now + 1) % 18446744073709551616 } hk hb A n c) ?_
 simp only [Act.put, qsT, qsZ, qsS]
 refine wpList_stA (t := 37) 37 (.tmp 4) (.tmp 61) rfl rfl (rcC { C with now := (C.now + 1) % 18446744073709551616 } A n c) zl0 (hzl.trans (rcC_len { C with now := (C.now + 1) % 18446744073709551616 } (by assumption) (by assumption) _ _ _).symm).symm (rcL_one _ _ _ _ _ _ _ _) rfl rfl hz (szRcS { C with now := (C.now + 1) % 18446744073709551616 } (by assumption) (by assumption) _ _ _) ?_
 intro W9 h9 g9
 refine wpList_plain rfl (fun K hK => ?_); go_simp; with_reducible refine hK _ _ ?_; clear hK K
 replace be := below_grown be g9 (by omega)
 go_wp2
 refine bodyPost_agg2 Tryz.results23 rfl rfl h9.range vs1 vs2 (szRcS { C with now := (C.now + 1) % 18446744073709551616 } (by assumption) (by assumption) _ _ _) rfl ?_
 rw [HE0.out]
 exact ⟨{ C with now := (C.now + 1) % 18446744073709551616 }, A, n, c, E, rfl, ⟨HX0.out.vs, (HX0.out.later be).row, (HX0.out.later be).off, (HX0.out.later be).mm, (HX0.out.later be).mo, (HX0.out.later be).ss⟩, be, hk, hb, fun _ => rfl⟩
theorem rcDoesN {G : Nat → Prop} (k v b e : Int) (six : Bool) (ah al pt pr : Nat) (wy : Int) (ms : List (Int × Int)) (B : Option Addr) (m d : Nat) (C : Cf) (hC : CfOk C) (A : Option Addr) (n c : Nat) (E : List Re) (w : World) (hG : ∀ b, G b → b < w.heap.size) (hX : RcX G w C A n c E) (hk1 : ¬ k = 1) (hk2 : ¬ k = 2) (hk67 : ¬ (k = 6 ∨ k = 7)) (hk8 : ¬ k = 8) (hvv : v < 0 ∨ (n : Int) ≤ v) : Calls Tryz.prog 23 #[.agg (rcC C A n c).toArray, .agg (opC k v b e six ah al pt pr wy B m d).toArray] w (RetRx G w (chC C ⟨k, v, b, e, six, ah, al, pt, pr, wy, ms⟩) (chE C ⟨k, v, b, e, six, ah, al, pt, pr, wy, ms⟩)) := by
 obtain ⟨dva1, va1, va2⟩ := rowAdC
 obtain ⟨dvr1, vr1, vr2⟩ := rowRv
 obtain ⟨dvt1, vt1, vt2⟩ := rowRst
 have hk := hC.key
 have hb := hC.bl
 have HX0 := Lib.hid hX
 have hv : vAt C v = none := by
  unfold vAt
  split
  ·rw [List.getElem?_eq_none_iff]
   have := hX.n_
   omega
  ·rfl
 have HE0 := Lib.hid (show chE C ⟨k, v, b, e, six, ah, al, pt, pr, wy, ms⟩ = 6 by unfold chE; simp only []; rw [if_neg hk1, if_neg hk2, if_neg hk67, if_neg hk8, hv])
 clear hv
 have k1 : (k == 1) = false := by simpa using hk1
 have k2 : (k == 2) = false := by simpa using hk2
 have k6 : (k == 6) = false := by simp; omega
 have k7 : (k == 7) = false := by simp; omega
 have k8 : (k == 8) = false := by simpa using hk8
 clear hk1 hk2 hk67 hk8
 by_cases hv0 : v < 0
 ·clear hvv
  obtain ⟨dvs1, vs1, vs2⟩ := rowRcS
  obtain ⟨dvo1, vo1, vo2⟩ := rowRo
  obtain ⟨bs, bo, be, zV⟩ := box2 w 37 47 (rcC C A n c) (opC k v b e six ah al pt pr wy B m d)
  go_enter Tryz.func23, Tryz.ntmps23
  go_upto_region 1 with (fail)
  have HVe := Lib.hid (show ((w.alloc (.cells (rcC C A n c).toArray 37)).alloc (.cells (opC k v b e six ah al pt pr wy B m d).toArray 47)).heap.size = w.heap.size + 1 + 1 by simp)
  generalize (w.alloc (.cells (rcC C A n c).toArray 37)).alloc (.cells (opC k v b e six ah al pt pr wy B m d).toArray 47) = V at *
  have hz := Bk.newK 37 (Tryz.zeroCells37) _ HVe.out.symm rfl
  have hzl : (Tryz.zeroCells37).toList.length = 279 := by kernel_rfl
  have hbz : Below V.heap.size V (V.alloc (.cells (Tryz.zeroCells37) 37)) := Below.allocS (Below.refl _ _) _
  go_upto_region 1 with (fail)
  have hVs : w.heap.size + 2 ≤ V.heap.size := by have := bo.lt; omega
  generalize hV2 : V.alloc (.cells (Tryz.zeroCells37) 37) = V2 at *
  clear hV2
  generalize hzc : (Tryz.zeroCells37).toList = zl0 at *
  clear hzc
  replace bs := bs.later hbz
  replace bo := bo.later hbz
  replace be := be.trans (hbz.mono be.size)
  clear hbz
  have q0 : V2.cell? ⟨w.heap.size + 1, 0, none⟩ = some (.int .i64 k) := bo.cell 0
  go_upto_region 15 with (fail)
  refine wp_region_lit ?_
  refine wpList_plain rfl (fun K hK => ?_); go_simp; with_reducible refine hK _ _ ?_; clear hK K
  refine wpList_ld1 (t := 47) (cs := opC k v b e six ah al pt pr wy B m d) 3 (.tmp 62) rfl (by rfl) rfl (bo) rfl Tryz.underlying3 rfl ?_
  iterate 2 (refine wpList_plain rfl (fun K hK => ?_); go_simp; with_reducible refine hK _ _ ?_; clear hK K)
  iterate 6 ((with_reducible refine wpList_skip ?_ ?_); (· first | (go_simp; done) | (go_simp; intro h; cases h)); simp only [Act.put, qsT, qsZ, qsS])
  refine wpList_plain rfl (fun K hK => ?_); go_simp; with_reducible refine hK _ _ ?_; clear hK K
  go_upto_region 16 with (fail)
  refine wp_region_lit ?_
  refine wpList_ldA (t := 37) 37 (.tmp 2) rfl rfl (rcC C A n c) rfl (bs) (whole_ _) vs1 vs2 (szRcS C hk hb A n c) ?_
  simp only [Act.put, qsT, qsZ, qsS]
  refine wpList_stA (t := 37) 37 (.tmp 4) (.tmp 73) rfl rfl (rcC C A n c) zl0 (hzl.trans (rcC_len C (by assumption) (by assumption) _ _ _).symm).symm (rcL_one _ _ _ _ _ _ _ _) rfl rfl hz (szRcS C (by assumption) (by assumption) _ _ _) ?_
  intro W9 h9 g9
  refine wpList_plain rfl (fun K hK => ?_); go_simp; with_reducible refine hK _ _ ?_; clear hK K
  replace be := below_grown be g9 (by omega)
  go_wp2
  refine bodyPost_agg2 Tryz.results23 rfl rfl h9.range vs1 vs2 (szRcS C (by assumption) (by assumption) _ _ _) rfl ?_
  exact RetRx.no HX0.out HE0.out hk hb (by decide) be
 ·have hvn : (n : Int) ≤ v := by omega
  clear hvv
  obtain ⟨dvs1, vs1, vs2⟩ := rowRcS
  obtain ⟨dvo1, vo1, vo2⟩ := rowRo
  obtain ⟨bs, bo, be, zV⟩ := box2 w 37 47 (rcC C A n c) (opC k v b e six ah al pt pr wy B m d)
  go_enter Tryz.func23, Tryz.ntmps23
  go_upto_region 1 with (fail)
  have HVe := Lib.hid (show ((w.alloc (.cells (rcC C A n c).toArray 37)).alloc (.cells (opC k v b e six ah al pt pr wy B m d).toArray 47)).heap.size = w.heap.size + 1 + 1 by simp)
  generalize (w.alloc (.cells (rcC C A n c).toArray 37)).alloc (.cells (opC k v b e six ah al pt pr wy B m d).toArray 47) = V at *
  have hz := Bk.newK 37 (Tryz.zeroCells37) _ HVe.out.symm rfl
  have hzl : (Tryz.zeroCells37).toList.length = 279 := by kernel_rfl
  have hbz : Below V.heap.size V (V.alloc (.cells (Tryz.zeroCells37) 37)) := Below.allocS (Below.refl _ _) _
  go_upto_region 1 with (fail)
  have hVs : w.heap.size + 2 ≤ V.heap.size := by have := bo.lt; omega
  generalize hV2 : V.alloc (.cells (Tryz.zeroCells37) 37) = V2 at *
  clear hV2
  generalize hzc : (Tryz.zeroCells37).toList = zl0 at *
  clear hzc
  replace bs := bs.later hbz
  replace bo := bo.later hbz
  replace be := be.trans (hbz.mono be.size)
  clear hbz
  have q0 : V2.cell? ⟨w.heap.size + 1, 0, none⟩ = some (.int .i64 k) := bo.cell 0
  go_upto_region 15 with (fail)
  refine wp_region_lit ?_
  refine wpList_plain rfl (fun K hK => ?_); go_simp; with_reducible refine hK _ _ ?_; clear hK K
  refine wpList_ld1 (t := 47) (cs := opC k v b e six ah al pt pr wy B m d) 3 (.tmp 62) rfl (by rfl) rfl (bo) rfl Tryz.underlying3 rfl ?_
  iterate 2 (refine wpList_plain rfl (fun K hK => ?_); go_simp; with_reducible refine hK _ _ ?_; clear hK K)
  refine wpList_step (fun K hK => ?_); go_simp; with_reducible refine hK _ _ ?_; clear hK K
  refine wpList_ld1 (t := 47) (cs := opC k v b e six ah al pt pr wy B m d) 3 (.tmp 66) rfl (by go_simp) rfl (bo) rfl Tryz.underlying3 rfl ?_
  refine wpList_step (fun K hK => ?_); go_simp; with_reducible refine hK _ _ ?_; clear hK K
  refine wpList_ld1 (t := 37) (cs := rcC C A n c) 35 (.tmp 68) rfl (by go_simp) rfl bs (rcC_vips C hk hb A n c) Tryz.underlying35 rfl ?_
  iterate 2 (refine wpList_step (fun K hK => ?_); go_simp; with_reducible refine hK _ _ ?_; clear hK K)
  refine wpList_plain rfl (fun K hK => ?_); go_simp; with_reducible refine hK _ _ ?_; clear hK K
  go_upto_region 16 with (fail)
  refine wp_region_lit ?_
  refine wpList_ldA (t := 37) 37 (.tmp 2) rfl rfl (rcC C A n c) rfl (bs) (whole_ _) vs1 vs2 (szRcS C hk hb A n c) ?_
  simp only [Act.put, qsT, qsZ, qsS]
  refine wpList_stA (t := 37) 37 (.tmp 4) (.tmp 73) rfl rfl (rcC C A n c) zl0 (hzl.trans (rcC_len C (by assumption) (by assumption) _ _ _).symm).symm (rcL_one _ _ _ _ _ _ _ _) rfl rfl hz (szRcS C (by assumption) (by assumption) _ _ _) ?_
  intro W9 h9 g9
  refine wpList_plain rfl (fun K hK => ?_); go_simp; with_reducible refine hK _ _ ?_; clear hK K
  replace be := below_grown be g9 (by omega)
  go_wp2
  refine bodyPost_agg2 Tryz.results23 rfl rfl h9.range vs1 vs2 (szRcS C (by assumption) (by assumption) _ _ _) rfl ?_
  exact RetRx.no HX0.out HE0.out hk hb (by decide) be
theorem rcDoesV {G : Nat → Prop} (k b e : Int) (vi : Nat) (six : Bool) (ah al pt pr : Nat) (wy : Int) (ms : List (Int × Int)) (B : Option Addr) (m d : Nat) (C : Cf) (hC : CfOk C) (A : Option Addr) (n c : Nat) (E : List Re) (w : World) (hG : ∀ b, G b → b < w.heap.size) (hX : RcX G w C A n c E) (hr : Rs 2 w B m d (prs .i64 ms)) (hm : m ≤ 1000000) (uv : Vp) (huv : C.vs[vi]? = some uv) (hk1 : ¬ k = 1) (hk2 : ¬ k = 2) (hk67 : ¬ (k = 6 ∨ k = 7)) (hk8 : ¬ k = 8) : Calls Tryz.prog 23 #[.agg (rcC C A n c).toArray, .agg (opC k (vi : Nat) b e six ah al pt pr wy B m d).toArray] w (RetRx G w (chC C ⟨k, ((vi : Nat) : Int), b, e, six, ah, al, pt, pr, wy, ms⟩) (chE C ⟨k, ((vi : Nat) : Int), b, e, six, ah, al, pt, pr, wy, ms⟩)) := by
 obtain ⟨dva1, va1, va2⟩ := rowAdC
 obtain ⟨dvr1, vr1, vr2⟩ := rowRv
 obtain ⟨dvt1, vt1, vt2⟩ := rowRst
 have hk := hC.key
 have hb := hC.bl
 have HX0 := Lib.hid hX
 have hvn : vi < n := by have := (List.getElem?_eq_some_iff.1 huv).1; have := hX.n_; omega
 have hn16 : n ≤ 16 := by have := hC.vl; have := hX.n_; omega
 have hvi1 : (vi : Int) < (n : Int) := by omega
 have hvi2 : ¬ (n : Int) ≤ (vi : Int) := by omega
 have hok : StkOk uv.S := (hC.vs uv (List.mem_of_getElem? huv)).st
 have HMR := Lib.hid hr
 clear hr
 have HEV := Lib.hid (show chE C ⟨k, ((vi : Nat) : Int), b, e, six, ah, al, pt, pr, wy, ms⟩ = vipE C ⟨k, ((vi : Nat) : Int), b, e, six, ah, al, pt, pr, wy, ms⟩ uv by unfold chE vAt; simp only []; rw [if_neg hk1, if_neg hk2, if_neg hk67, if_neg hk8, if_pos (by omega), Int.toNat_natCast, huv])
 have HCV := Lib.hid (show chC C ⟨k, ((vi : Nat) : Int), b, e, six, ah, al, pt, pr, wy, ms⟩ = { C with vs := C.vs.set vi (vipV ⟨k, ((vi : Nat) : Int), b, e, six, ah, al, pt, pr, wy, ms⟩ uv) } by unfold chC vAt; simp only []; rw [if_neg hk1, if_neg hk2, if_neg hk67, if_neg hk8, if_pos (by omega), Int.toNat_natCast, huv])
 have k1 : (k == 1) = false := by simpa using hk1
 have k2 : (k == 2) = false := by simpa using hk2
 have k6 : (k == 6) = false := by simp; omega
 have k7 : (k == 7) = false := by simp; omega
 have k8 : (k == 8) = false := by simpa using hk8
 clear hk1 hk2 hk67 hk8
 obtain ⟨dvs1, vs1, vs2⟩ := rowRcS
 obtain ⟨dvo1, vo1, vo2⟩ := rowRo
 obtain ⟨bs, bo, be, zV⟩ := box2 w 37 47 (rcC C A n c) (opC k (vi : Nat) b e six ah al pt pr wy B m d)
 go_enter Tryz.func23, Tryz.ntmps23
 go_upto_region 1 with (fail)
 have HVe := Lib.hid (show ((w.alloc (.cells (rcC C A n c).toArray 37)).alloc (.cells (opC k (vi : Nat) b e six ah al pt pr wy B m d).toArray 47)).heap.size = w.heap.size + 1 + 1 by simp)
 generalize (w.alloc (.cells (rcC C A n c).toArray 37)).alloc (.cells (opC k (vi : Nat) b e six ah al pt pr wy B m d).toArray 47) = V at *
 have hz := Bk.newK 37 (Tryz.zeroCells37) _ HVe.out.symm rfl
 have hzl : (Tryz.zeroCells37).toList.length = 279 := by kernel_rfl
 have hbz : Below V.heap.size V (V.alloc (.cells (Tryz.zeroCells37) 37)) := Below.allocS (Below.refl _ _) _
 go_upto_region 1 with (fail)
 have hVs : w.heap.size + 2 ≤ V.heap.size := by have := bo.lt; omega
 generalize hV2 : V.alloc (.cells (Tryz.zeroCells37) 37) = V2 at *
 clear hV2
 generalize hzc : (Tryz.zeroCells37).toList = zl0 at *
 clear hzc
 replace bs := bs.later hbz
 replace bo := bo.later hbz
 replace be := be.trans (hbz.mono be.size)
 clear hbz
 have q0 : V2.cell? ⟨w.heap.size + 1, 0, none⟩ = some (.int .i64 k) := bo.cell 0
 have hv81 : (Tryz.zeroCells115).toList.length = 81 := by kernel_rfl
 go_upto_region 15 with (fail)
 refine wp_region_lit ?_
 refine wpList_plain rfl (fun K hK => ?_); go_simp; with_reducible refine hK _ _ ?_; clear hK K
 refine wpList_ld1 (t := 47) (cs := opC k (vi : Nat) b e six ah al pt pr wy B m d) 3 (.tmp 62) rfl (by rfl) rfl (bo) rfl Tryz.underlying3 rfl ?_
 iterate 2 (refine wpList_plain rfl (fun K hK => ?_); go_simp; with_reducible refine hK _ _ ?_; clear hK K)
 refine wpList_step (fun K hK => ?_); go_simp; with_reducible refine hK _ _ ?_; clear hK K
 refine wpList_ld1 (t := 47) (cs := opC k (vi : Nat) b e six ah al pt pr wy B m d) 3 (.tmp 66) rfl (by go_simp) rfl (bo) rfl Tryz.underlying3 rfl ?_
 refine wpList_step (fun K hK => ?_); go_simp; with_reducible refine hK _ _ ?_; clear hK K
 refine wpList_ld1 (t := 37) (cs := rcC C A n c) 35 (.tmp 68) rfl (by go_simp) rfl bs (rcC_vips C hk hb A n c) Tryz.underlying35 rfl ?_
 iterate 2 (refine wpList_step (fun K hK => ?_); go_simp; with_reducible refine hK _ _ ?_; clear hK K)
 refine wpList_plain rfl (fun K hK => ?_); go_simp; with_reducible refine hK _ _ ?_; clear hK K
 have hlE := HX0.out.len
 have hNn := HX0.out.n_
 obtain ⟨bl, ol, hAe, hbl, -⟩ := HX0.out.row.at_ (by omega) (by decide)
 have hrow := HX0.out.row.later be
 rw [hAe] at hrow
 have hvip : (rcC C A n c)[278]? = some (.slice (some ⟨bl, ol, none⟩) n c) := by rw [← hAe]; exact rcC_vips C hk hb A n c
 have hrg := hrow.rangeE rvC_len vi (by omega)
 have hum : E[vi]'(by omega) ∈ E := List.getElem_mem _
 have hui : (E[vi]'(by omega)).1 = uv := by
  have h1 : (E.map (·.1))[vi]? = some (E[vi]'(by omega)).1 := by rw [List.getElem?_map, List.getElem?_eq_getElem (by omega)]; rfl
  rw [HX0.out.vs, huv] at h1
  exact (Option.some.inj h1).symm
 obtain ⟨u, hu⟩ : ∃ u, u = E[vi]'(by omega) := ⟨_, rfl⟩
 rw [← hu] at hrg hum hui
 have HSSu := HX0.out.ss u hum
 have HMMu := HX0.out.mm u hum
 have HMOu := HX0.out.mo u hum
 obtain ⟨uv', uA, un, uc, uB, um, ud⟩ := u
 have hui2 : uv = uv' := hui.symm
 clear hui
 subst hui2
 replace HSSu : RSt G w uv.S.lv uB um ud := HSSu
 replace HMMu : Rs 2 w uA un uc (prs .i64 uv.ms) := HMMu
 replace HMOu : Off G w uA := HMOu
 clear hlE hAe hrow hNn hu hum
 go_upto_region 17 with (fail)
 refine wp_region_lit ?_
 refine wpList_plain rfl (fun K hK => ?_); go_simp; with_reducible refine hK _ _ ?_; clear hK K
 refine wpList_ld1 (t := 37) (cs := rcC C A n c) 35 (.tmp 74) rfl rfl rfl bs hvip Tryz.underlying35 rfl ?_
 refine wpList_plain rfl (fun K hK => ?_); go_simp; with_reducible refine hK _ _ ?_; clear hK K
 refine wpList_ld1 (t := 47) (cs := opC k (vi : Nat) b e six ah al pt pr wy B m d) 3 (.tmp 76) rfl (by rfl) rfl (bo) rfl Tryz.underlying3 rfl ?_
 refine wpList_plain rfl (fun K hK => ?_); go_simp; with_reducible refine hK _ _ ?_; clear hK K
 refine wpList_load_mid rfl 115 (.tmp 78) rfl bl (ol + vi * 81) rfl (rvC ((uv, ⟨uA, un, uc, uB, um, ud⟩) : Re)) _ hrg vr1 vr2 (szRv _) ?_
 refine wpList_plain rfl (fun K hK => ?_); go_simp; with_reducible refine hK _ _ ?_; clear hK K
 refine wpList_stA (t := 115) 115 (.tmp 6) (.tmp 79) rfl rfl (rvC ((uv, ⟨uA, un, uc, uB, um, ud⟩) : Re)) (Tryz.zeroCells115).toList (by rw [rvC_len]; exact hv81.symm) (rvC_one _) rfl rfl (Bk.new _ _ _) (szRv _) ?_
 intro W7 h7 g7
 simp only [Act.put, qsT, qsZ, qsS]
 have hbz7 := hz.lt
 replace bs := (bs.alloc (.cells (Tryz.zeroCells115) 115)).grown g7 (fun e => by injection e with e; have := bs.lt; omega)
 replace bo := (bo.alloc (.cells (Tryz.zeroCells115) 115)).grown g7 (fun e => by injection e with e; have := bo.lt; omega)
 replace hz := (hz.alloc (.cells (Tryz.zeroCells115) 115)).grown g7 (fun e => by injection e with e; have := hz.lt; omega)
 have be7 : Below w.heap.size w W7 := below_grown (Below.allocS be _) g7 (by have := be.size; omega)
 clear be g7 hrg hvip
 have be := be7
 clear be7
 generalize V2.heap.size = gv at *
 have q0 : W7.cell? ⟨w.heap.size + 1, 0, none⟩ = some (.int .i64 k) := bo.cell 0
 have hgv7 := h7.lt
 by_cases hk3 : k = 3
 ·have k3 : (k == 3) = true := by simp [hk3]
  have HE0 := Lib.hid (show vipE C ⟨k, ((vi : Nat) : Int), b, e, six, ah, al, pt, pr, wy, ms⟩ uv = setE C uv ms by unfold vipE; simp only []; rw [if_pos hk3])
  have HC0 := Lib.hid (show vipV ⟨k, ((vi : Nat) : Int), b, e, six, ah, al, pt, pr, wy, ms⟩ uv = setV uv ms by unfold vipV; simp only []; rw [if_pos hk3])
  clear hk3
  go_upto_region 21 with (fail)
  clear q0
  refine wp_region_lit ?_
  refine wpList_ldA (t := 37) 37 (.tmp 2) rfl rfl (rcC C A n c) rfl (bs) (whole_ _) vs1 vs2 (szRcS C hk hb A n c) ?_
  simp only [Act.put, qsT, qsZ, qsS]
  refine wpList_ldA (t := 47) 47 (.tmp 3) rfl rfl (opC k (vi : Nat) b e six ah al pt pr wy B m d) rfl (bo) (whole_ _) vo1 vo2 (szRo _ _ _ _ _ _ _ _ _ _ _ _ _) ?_
  refine wpList_plain rfl (fun K hK => ?_)
  go_simp
  refine (rcMembers_any (G := (fun b => G b ∨ b = w.heap.size + 1 + 1)) k b e vi six ah al pt pr wy ms B m d C hC A n c E W7 (fun b hb => hb.elim (fun h => by have := hG b h; have := be.size; omega) (fun h => by have := hz.lt; omega) : ∀ b, (fun b => G b ∨ b = w.heap.size + 1 + 1) b → b < W7.heap.size) ((HX0.out.more (G' := fun b => G b ∨ b = w.heap.size + 1 + 1) (fun b hb => hb.elim .inl (fun h => .inr (by omega)))).later be) (HMR.out.later be) hm uv huv).mono ?_
  rintro e w1 ⟨C7, A7, n7, c7, E7, rfl, hX7, hb7, hk7, hbl7, h07⟩
  with_reducible refine hK _ _ ?_
  clear hK K
  replace hz := hz.later hb7
  replace be := be.trans (hb7.mono be.size)
  generalize hWW : w1 = W8 at *
  clear hWW
  iterate 2 (refine wpList_plain rfl (fun K hK => ?_); go_simp; with_reducible refine hK _ _ ?_; clear hK K)
  refine wpList_stA (t := 37) 37 (.tmp 4) (.tmp 87) rfl rfl (rcC C7 A7 n7 c7) zl0 (hzl.trans (rcC_len C7 (by assumption) (by assumption) _ _ _).symm).symm (rcL_one _ _ _ _ _ _ _ _) rfl rfl hz (szRcS C7 (by assumption) (by assumption) _ _ _) ?_
  intro W9 h9 g9
  refine wpList_plain rfl (fun K hK => ?_); go_simp; with_reducible refine hK _ _ ?_; clear hK K
  replace be := below_grown be g9 (by omega)
  go_wp2
  refine bodyPost_agg2 Tryz.results23 rfl rfl h9.range vs1 vs2 (szRcS C7 (by assumption) (by assumption) _ _ _) rfl ?_
  have hX9 := (hX7.chg (Chg.one (D := fun b => b = w.heap.size + 1 + 1) g9 rfl) (fun b h => .inr h)).more (G' := G) (fun b h => .inl (.inl h))
  rw [HEV.out, HCV.out, HE0.out, HC0.out]
  exact ⟨C7, A7, n7, c7, E7, rfl, hX9, be, hk7, hbl7, h07⟩
 have k3 : (k == 3) = false := by simpa using hk3
 by_cases hk4 : k = 4
 ·have k4 : (k == 4) = true := by simp [hk4]
  have HE0 := Lib.hid (show vipE C ⟨k, ((vi : Nat) : Int), b, e, six, ah, al, pt, pr, wy, ms⟩ uv = retE uv.S e by unfold vipE; simp only []; rw [if_neg hk3, if_pos hk4])
  have HC0 := Lib.hid (show vipV ⟨k, ((vi : Nat) : Int), b, e, six, ah, al, pt, pr, wy, ms⟩ uv = { uv with S := retS uv.S e } by unfold vipV; simp only []; rw [if_neg hk3, if_pos hk4])
  have hD7 : ∀ b, (fun b => G b ∨ (w.heap.size ≤ b ∧ b < gv + 1)) b → b < W7.heap.size := fun b hb => by
   rcases hb with hb | ⟨_, hb⟩
   ·have := hG b hb; have := be.size; omega
   ·omega
  have hst7 : RSt (fun b => G b ∨ (w.heap.size ≤ b ∧ b < gv + 1)) W7 uv.S.lv uB um ud := (HSSu.more (fun b hb => hb.elim .inl (fun h => .inr h.1))).later be
  clear hk3 hk4
  go_upto_region 23 with (fail)
  clear q0
  refine wp_region_lit ?_
  refine wpList_plain rfl (fun K hK => ?_); go_simp; with_reducible refine hK _ _ ?_; clear hK K
  refine wpList_ldA (t := 115) (cs := rvC ((uv, ⟨uA, un, uc, uB, um, ud⟩) : Re)) 113 (.tmp 92) rfl rfl (rstC uB um ud uv.S) rfl h7 (rvC_stk ((uv, ⟨uA, un, uc, uB, um, ud⟩) : Re)) vt1 vt2 (szRst _ _ _ _) ?_
  refine wpList_plain rfl (fun K hK => ?_); go_simp; with_reducible refine hK _ _ ?_; clear hK K
  refine wpList_ld1 (t := 47) (cs := opC k (vi : Nat) b e six ah al pt pr wy B m d) 3 (.tmp 94) rfl (by rfl) rfl (bo) rfl Tryz.underlying3 rfl ?_
  refine wpList_plain rfl (fun K hK => ?_)
  go_simp
  refine (refRetire_any uv.S hok uB um ud e W7 hD7 hst7).mono ?_
  rintro ee w1 ⟨A7, n7, c7, bs7, d7, rfl, rfl, hst8⟩
  with_reducible refine hK _ _ ?_
  clear hK K
  have hb8 := below_plus W7 bs7 d7
  replace bs := bs.later hb8
  replace bo := bo.later hb8
  replace hz := hz.later hb8
  replace h7 := h7.later hb8
  replace be := be.trans (hb8.mono be.size)
  clear hb8
  generalize plus W7 bs7 d7 = W8 at *
  iterate 4 (refine wpList_plain rfl (fun K hK => ?_); go_simp; with_reducible refine hK _ _ ?_; clear hK K)
  refine wpList_stM (t := 115) (off := 7) 113 (.tmp 99) (.tmp 97) rfl rfl (rstC A7 n7 c7 (retS uv.S e)) (rvC ((uv, ⟨uA, un, uc, uB, um, ud⟩) : Re)) (by rw [rvC_len, rstC_len]; decide) (rstC_one _ _ _ _) rfl rfl h7 (szRst _ _ _ _) ?_
  intro W4 h4 g4
  refine wpList_plain rfl (fun K hK => ?_); go_simp; with_reducible refine hK _ _ ?_; clear hK K
  rw [rvC_setStk] at h4
  replace h4 : Bk W4 gv 115 (rvC (({ uv with S := retS uv.S e }, ⟨uA, un, uc, A7, n7, c7⟩) : Re)) := h4
  replace bs := bs.grown g4 (fun e => by injection e with e; omega)
  replace bo := bo.grown g4 (fun e => by injection e with e; omega)
  replace hz := hz.grown g4 (fun e => by injection e with e; omega)
  replace be := below_grown be g4 (by omega)
  have h3w : RSt (fun b => G b ∨ b = w.heap.size + 1 + 1) W4 (retS uv.S e).lv A7 n7 c7 := (hst8.chg (Chg.one g4 (Or.inr ⟨by omega, by omega⟩))).more (fun b hb => hb.elim (fun h => .inl (.inl h)) (fun h => .inl (.inr ⟨by omega, by omega⟩)))
  have h1w : Rs 2 W4 uA un uc (prs .i64 uv.ms) := HMMu.later be
  have h2w : Off (fun b => G b ∨ b = w.heap.size + 1 + 1) W4 uA := (HMOu.more (fun b hb => hb.elim .inl (fun h => .inr (by omega)))).size be.size
  clear g4 h7 hst7 hst8 hD7 HSSu HMMu HMOu
  go_upto_region 26 with (fail)
  refine wp_region_lit ?_
  refine wpList_ldA (t := 37) 37 (.tmp 2) rfl rfl (rcC C A n c) rfl (bs) (whole_ _) vs1 vs2 (szRcS C hk hb A n c) ?_
  refine wpList_plain rfl (fun K hK => ?_); go_simp; with_reducible refine hK _ _ ?_; clear hK K
  refine wpList_ld1 (t := 47) (cs := opC k (vi : Nat) b e six ah al pt pr wy B m d) 3 (.tmp 112) rfl (by rfl) rfl (bo) rfl Tryz.underlying3 rfl ?_
  simp only [Act.put, qsT, qsZ, qsS]
  refine wpList_ldA (t := 115) 115 (.tmp 6) rfl rfl (rvC (({ uv with S := retS uv.S e }, ⟨uA, un, uc, A7, n7, c7⟩) : Re)) rfl (h4) (whole_ _) vr1 vr2 (szRv _) ?_
  refine wpList_plain rfl (fun K hK => ?_)
  go_simp
  refine (rcWith_any (G := (fun b => G b ∨ b = w.heap.size + 1 + 1)) C hk hb A n c E vi (({ uv with S := retS uv.S e }, ⟨uA, un, uc, A7, n7, c7⟩) : Re) W4 (fun b hb => hb.elim (fun h => by have := hG b h; have := be.size; omega) (fun h => by have := hz.lt; omega) : ∀ b, (fun b => G b ∨ b = w.heap.size + 1 + 1) b → b < W4.heap.size) ((HX0.out.more (G' := fun b => G b ∨ b = w.heap.size + 1 + 1) (fun b hb => hb.elim .inl (fun h => .inr (by omega)))).later be) hvn hn16 h1w h2w h3w).mono ?_
  rintro e w1 ⟨A8, c8, rfl, hX7, hb7⟩
  with_reducible refine hK _ _ ?_
  clear hK K
  replace hz := hz.later hb7
  replace be := be.trans (hb7.mono be.size)
  generalize hWW : w1 = W6 at *
  clear hWW
  refine wpList_plain rfl (fun K hK => ?_); go_simp; with_reducible refine hK _ _ ?_; clear hK K
  refine wpList_stA (t := 37) 37 (.tmp 4) (.tmp 115) rfl rfl (rcC C A8 n c8) zl0 (hzl.trans (rcC_len C (by assumption) (by assumption) _ _ _).symm).symm (rcL_one _ _ _ _ _ _ _ _) rfl rfl hz (szRcS C (by assumption) (by assumption) _ _ _) ?_
  intro W9 h9 g9
  refine wpList_plain rfl (fun K hK => ?_); go_simp; with_reducible refine hK _ _ ?_; clear hK K
  replace be := below_grown be g9 (by omega)
  go_wp2
  refine bodyPost_agg2 Tryz.results23 rfl rfl h9.range vs1 vs2 (szRcS C (by assumption) (by assumption) _ _ _) rfl ?_
  have hX9 := (hX7.chg (Chg.one (D := fun b => b = w.heap.size + 1 + 1) g9 rfl) (fun b h => .inr h)).more (G' := G) (fun b h => .inl (.inl h))
  rw [HEV.out, HCV.out, HE0.out, HC0.out]
  exact ⟨{ C with vs := C.vs.set vi { uv with S := retS uv.S e } }, A8, n, c8, E.set vi (({ uv with S := retS uv.S e }, ⟨uA, un, uc, A7, n7, c7⟩) : Re), rfl, hX9, be, hk, hb, fun _ => rfl⟩
 have k4 : (k == 4) = false := by simpa using hk4
 by_cases hk5 : k = 5
 ·have k5 : (k == 5) = true := by simp [hk5]
  have HE0 := Lib.hid (show vipE C ⟨k, ((vi : Nat) : Int), b, e, six, ah, al, pt, pr, wy, ms⟩ uv = rlsE uv.S e by unfold vipE; simp only []; rw [if_neg hk3, if_neg hk4, if_pos hk5])
  have HC0 := Lib.hid (show vipV ⟨k, ((vi : Nat) : Int), b, e, six, ah, al, pt, pr, wy, ms⟩ uv = { uv with S := rlsS uv.S e } by unfold vipV; simp only []; rw [if_neg hk3, if_neg hk4])
  have hD7 : ∀ b, (fun b => G b ∨ (w.heap.size ≤ b ∧ b < gv + 1)) b → b < W7.heap.size := fun b hb => by
   rcases hb with hb | ⟨_, hb⟩
   ·have := hG b hb; have := be.size; omega
   ·omega
  have hst7 : RSt (fun b => G b ∨ (w.heap.size ≤ b ∧ b < gv + 1)) W7 uv.S.lv uB um ud := (HSSu.more (fun b hb => hb.elim .inl (fun h => .inr h.1))).later be
  clear hk3 hk4 hk5
  go_upto_region 25 with (fail)
  clear q0
  refine wp_region_lit ?_
  refine wpList_plain rfl (fun K hK => ?_); go_simp; with_reducible refine hK _ _ ?_; clear hK K
  refine wpList_ldA (t := 115) (cs := rvC ((uv, ⟨uA, un, uc, uB, um, ud⟩) : Re)) 113 (.tmp 103) rfl rfl (rstC uB um ud uv.S) rfl h7 (rvC_stk ((uv, ⟨uA, un, uc, uB, um, ud⟩) : Re)) vt1 vt2 (szRst _ _ _ _) ?_
  refine wpList_plain rfl (fun K hK => ?_); go_simp; with_reducible refine hK _ _ ?_; clear hK K
  refine wpList_ld1 (t := 47) (cs := opC k (vi : Nat) b e six ah al pt pr wy B m d) 3 (.tmp 105) rfl (by rfl) rfl (bo) rfl Tryz.underlying3 rfl ?_
  refine wpList_plain rfl (fun K hK => ?_)
  go_simp
  refine (refRelease_any uv.S hok uB um ud e W7 hD7 hst7).mono ?_
  rintro ee w1 ⟨A7, n7, c7, bs7, d7, rfl, rfl, hst8⟩
  with_reducible refine hK _ _ ?_
  clear hK K
  have hb8 := below_plus W7 bs7 d7
  replace bs := bs.later hb8
  replace bo := bo.later hb8
  replace hz := hz.later hb8
  replace h7 := h7.later hb8
  replace be := be.trans (hb8.mono be.size)
  clear hb8
  generalize plus W7 bs7 d7 = W8 at *
  iterate 4 (refine wpList_plain rfl (fun K hK => ?_); go_simp; with_reducible refine hK _ _ ?_; clear hK K)
  refine wpList_stM (t := 115) (off := 7) 113 (.tmp 110) (.tmp 108) rfl rfl (rstC A7 n7 c7 (rlsS uv.S e)) (rvC ((uv, ⟨uA, un, uc, uB, um, ud⟩) : Re)) (by rw [rvC_len, rstC_len]; decide) (rstC_one _ _ _ _) rfl rfl h7 (szRst _ _ _ _) ?_
  intro W4 h4 g4
  refine wpList_plain rfl (fun K hK => ?_); go_simp; with_reducible refine hK _ _ ?_; clear hK K
  rw [rvC_setStk] at h4
  replace h4 : Bk W4 gv 115 (rvC (({ uv with S := rlsS uv.S e }, ⟨uA, un, uc, A7, n7, c7⟩) : Re)) := h4
  replace bs := bs.grown g4 (fun e => by injection e with e; omega)
  replace bo := bo.grown g4 (fun e => by injection e with e; omega)
  replace hz := hz.grown g4 (fun e => by injection e with e; omega)
  replace be := below_grown be g4 (by omega)
  have h3w : RSt (fun b => G b ∨ b = w.heap.size + 1 + 1) W4 (rlsS uv.S e).lv A7 n7 c7 := (hst8.chg (Chg.one g4 (Or.inr ⟨by omega, by omega⟩))).more (fun b hb => hb.elim (fun h => .inl (.inl h)) (fun h => .inl (.inr ⟨by omega, by omega⟩)))
  have h1w : Rs 2 W4 uA un uc (prs .i64 uv.ms) := HMMu.later be
  have h2w : Off (fun b => G b ∨ b = w.heap.size + 1 + 1) W4 uA := (HMOu.more (fun b hb => hb.elim .inl (fun h => .inr (by omega)))).size be.size
  clear g4 h7 hst7 hst8 hD7 HSSu HMMu HMOu
  go_upto_region 26 with (fail)
  refine wp_region_lit ?_
  refine wpList_ldA (t := 37) 37 (.tmp 2) rfl rfl (rcC C A n c) rfl (bs) (whole_ _) vs1 vs2 (szRcS C hk hb A n c) ?_
  refine wpList_plain rfl (fun K hK => ?_); go_simp; with_reducible refine hK _ _ ?_; clear hK K
  refine wpList_ld1 (t := 47) (cs := opC k (vi : Nat) b e six ah al pt pr wy B m d) 3 (.tmp 112) rfl (by rfl) rfl (bo) rfl Tryz.underlying3 rfl ?_
  simp only [Act.put, qsT, qsZ, qsS]
  refine wpList_ldA (t := 115) 115 (.tmp 6) rfl rfl (rvC (({ uv with S := rlsS uv.S e }, ⟨uA, un, uc, A7, n7, c7⟩) : Re)) rfl (h4) (whole_ _) vr1 vr2 (szRv _) ?_
  refine wpList_plain rfl (fun K hK => ?_)
  go_simp
  refine (rcWith_any (G := (fun b => G b ∨ b = w.heap.size + 1 + 1)) C hk hb A n c E vi (({ uv with S := rlsS uv.S e }, ⟨uA, un, uc, A7, n7, c7⟩) : Re) W4 (fun b hb => hb.elim (fun h => by have := hG b h; have := be.size; omega) (fun h => by have := hz.lt; omega) : ∀ b, (fun b => G b ∨ b = w.heap.size + 1 + 1) b → b < W4.heap.size) ((HX0.out.more (G' := fun b => G b ∨ b = w.heap.size + 1 + 1) (fun b hb => hb.elim .inl (fun h => .inr (by omega)))).later be) hvn hn16 h1w h2w h3w).mono ?_
  rintro e w1 ⟨A8, c8, rfl, hX7, hb7⟩
  with_reducible refine hK _ _ ?_
  clear hK K
  replace hz := hz.later hb7
  replace be := be.trans (hb7.mono be.size)
  generalize hWW : w1 = W6 at *
  clear hWW
  refine wpList_plain rfl (fun K hK => ?_); go_simp; with_reducible refine hK _ _ ?_; clear hK K
  refine wpList_stA (t := 37) 37 (.tmp 4) (.tmp 115) rfl rfl (rcC C A8 n c8) zl0 (hzl.trans (rcC_len C (by assumption) (by assumption) _ _ _).symm).symm (rcL_one _ _ _ _ _ _ _ _) rfl rfl hz (szRcS C (by assumption) (by assumption) _ _ _) ?_
  intro W9 h9 g9
  refine wpList_plain rfl (fun K hK => ?_); go_simp; with_reducible refine hK _ _ ?_; clear hK K
  replace be := below_grown be g9 (by omega)
  go_wp2
  refine bodyPost_agg2 Tryz.results23 rfl rfl h9.range vs1 vs2 (szRcS C (by assumption) (by assumption) _ _ _) rfl ?_
  have hX9 := (hX7.chg (Chg.one (D := fun b => b = w.heap.size + 1 + 1) g9 rfl) (fun b h => .inr h)).more (G' := G) (fun b h => .inl (.inl h))
  rw [HEV.out, HCV.out, HE0.out, HC0.out]
  exact ⟨{ C with vs := C.vs.set vi { uv with S := rlsS uv.S e } }, A8, n, c8, E.set vi (({ uv with S := rlsS uv.S e }, ⟨uA, un, uc, A7, n7, c7⟩) : Re), rfl, hX9, be, hk, hb, fun _ => rfl⟩
 have k5 : (k == 5) = false := by simpa using hk5
 have HE0 := Lib.hid (show vipE C ⟨k, ((vi : Nat) : Int), b, e, six, ah, al, pt, pr, wy, ms⟩ uv = 1 by unfold vipE; simp only []; rw [if_neg hk3, if_neg hk4, if_neg hk5])
 clear hk3 hk4 hk5
 have h3w : RSt (fun b => G b ∨ b = w.heap.size + 1 + 1) W7 uv.S.lv uB um ud := (HSSu.more (fun b hb => hb.elim .inl (fun h => .inr (by omega)))).later be
 have h1w : Rs 2 W7 uA un uc (prs .i64 uv.ms) := HMMu.later be
 have h2w : Off (fun b => G b ∨ b = w.heap.size + 1 + 1) W7 uA := (HMOu.more (fun b hb => hb.elim .inl (fun h => .inr (by omega)))).size be.size
 clear HSSu HMMu HMOu
 go_upto_region 26 with (fail)
 clear q0
 refine wp_region_lit ?_
 refine wpList_ldA (t := 37) 37 (.tmp 2) rfl rfl (rcC C A n c) rfl (bs) (whole_ _) vs1 vs2 (szRcS C hk hb A n c) ?_
 refine wpList_plain rfl (fun K hK => ?_); go_simp; with_reducible refine hK _ _ ?_; clear hK K
 refine wpList_ld1 (t := 47) (cs := opC k (vi : Nat) b e six ah al pt pr wy B m d) 3 (.tmp 112) rfl (by rfl) rfl (bo) rfl Tryz.underlying3 rfl ?_
 simp only [Act.put, qsT, qsZ, qsS]
 refine wpList_ldA (t := 115) 115 (.tmp 6) rfl rfl (rvC ((uv, ⟨uA, un, uc, uB, um, ud⟩) : Re)) rfl (h7) (whole_ _) vr1 vr2 (szRv _) ?_
 refine wpList_plain rfl (fun K hK => ?_)
 go_simp
 refine (rcWith_any (G := (fun b => G b ∨ b = w.heap.size + 1 + 1)) C hk hb A n c E vi ((uv, ⟨uA, un, uc, uB, um, ud⟩) : Re) W7 (fun b hb => hb.elim (fun h => by have := hG b h; have := be.size; omega) (fun h => by have := hz.lt; omega) : ∀ b, (fun b => G b ∨ b = w.heap.size + 1 + 1) b → b < W7.heap.size) ((HX0.out.more (G' := fun b => G b ∨ b = w.heap.size + 1 + 1) (fun b hb => hb.elim .inl (fun h => .inr (by omega)))).later be) hvn hn16 h1w h2w h3w).mono ?_
 rintro e w1 ⟨A8, c8, rfl, hX7, hb7⟩
 with_reducible refine hK _ _ ?_
 clear hK K
 replace hz := hz.later hb7
 replace be := be.trans (hb7.mono be.size)
 generalize hWW : w1 = W6 at *
 clear hWW
 refine wpList_plain rfl (fun K hK => ?_); go_simp; with_reducible refine hK _ _ ?_; clear hK K
 refine wpList_stA (t := 37) 37 (.tmp 4) (.tmp 115) rfl rfl (rcC C A8 n c8) zl0 (hzl.trans (rcC_len C (by assumption) (by assumption) _ _ _).symm).symm (rcL_one _ _ _ _ _ _ _ _) rfl rfl hz (szRcS C (by assumption) (by assumption) _ _ _) ?_
 intro W9 h9 g9
 refine wpList_plain rfl (fun K hK => ?_); go_simp; with_reducible refine hK _ _ ?_; clear hK K
 replace be := below_grown be g9 (by omega)
 go_wp2
 refine bodyPost_agg2 Tryz.results23 rfl rfl h9.range vs1 vs2 (szRcS C (by assumption) (by assumption) _ _ _) rfl ?_
 have hX9 := (hX7.chg (Chg.one (D := fun b => b = w.heap.size + 1 + 1) g9 rfl) (fun b h => .inr h)).more (G' := G) (fun b h => .inl (.inl h))
 rw [HEV.out, HE0.out]
 exact ⟨{ C with vs := C.vs.set vi uv }, A8, n, c8, E.set vi ((uv, ⟨uA, un, uc, uB, um, ud⟩) : Re), rfl, hX9, be, hk, hb, fun h => absurd h (by decide)⟩
end

section
open Go.Lib
open Go.RowKit
attribute [local go_sem ↓] sliced_cut
attribute [local go_sem] cutA_zero
theorem rcDoes_any {G : Nat → Prop} (k v b e : Int) (six : Bool) (ah al pt pr : Nat) (wy : Int) (ms : List (Int × Int)) (B : Option Addr) (m d : Nat) (C : Cf) (hC : CfOk C) (A : Option Addr) (n c : Nat) (E : List Re) (w : World) (hG : ∀ b, G b → b < w.heap.size) (hX : RcX G w C A n c E) (hr : Rs 2 w B m d (prs .i64 ms)) (hm : m ≤ 1000000) (hal : al < 18446744073709551616) : Calls Tryz.prog 23 #[.agg (rcC C A n c).toArray, .agg (opC k v b e six ah al pt pr wy B m d).toArray] w (RetRx G w (chC C ⟨k, v, b, e, six, ah, al, pt, pr, wy, ms⟩) (chE C ⟨k, v, b, e, six, ah, al, pt, pr, wy, ms⟩)) := by
 by_cases hk1 : k = 1
 ·subst hk1; exact rcDoes1 v b e six ah al pt pr wy ms B m d C hC A n c E w hG hX hal
 by_cases hk2 : k = 2
 ·subst hk2; exact rcDoes2 v b e six ah al pt pr wy ms B m d C hC A n c E w hG hX hal
 by_cases hk6 : k = 6
 ·subst hk6; exact rcDoes6 v b e six ah al pt pr wy ms B m d C hC A n c E w hG hX
 by_cases hk7 : k = 7
 ·subst hk7; exact rcDoes7 v b e six ah al pt pr wy ms B m d C hC A n c E w hG hX
 by_cases hk8 : k = 8
 ·subst hk8; exact rcDoes8 v b e six ah al pt pr wy ms B m d C hC A n c E w hG hX
 by_cases hvv : v < 0 ∨ (n : Int) ≤ v
 ·exact rcDoesN k v b e six ah al pt pr wy ms B m d C hC A n c E w hG hX hk1 hk2 (by omega) hk8 hvv
 obtain ⟨vi, rfl⟩ : ∃ vi : Nat, v = vi := ⟨v.toNat, by omega⟩
 have hvl : vi < C.vs.length := by have := hX.n_; omega
 have huv : C.vs[vi]? = some C.vs[vi] := List.getElem?_eq_getElem hvl
 generalize C.vs[vi] = uv at huv
 exact rcDoesV k b e vi six ah al pt pr wy ms B m d C hC A n c E w hG hX hr hm uv huv hk1 hk2 (by omega) hk8
theorem chC_num (C : Cf) (o : OpR) : (chC C o).num = C.num := by
 unfold chC
 repeat' split
 all_goals rfl
set_option maxHeartbeats 4000000 in
set_option maxRecDepth 100000 in
theorem refApply_any {G : Nat → Prop} (k v b e : Int) (six : Bool) (ah al pt pr : Nat) (wy : Int) (ms : List (Int × Int)) (B : Option Addr) (m d : Nat) (C : Cf) (hC : CfOk C) (A : Option Addr) (n c : Nat) (E : List Re) (w : World) (hG : ∀ b, G b → b < w.heap.size) (hX : RcX G w C A n c E) (hr : Rs 2 w B m d (prs .i64 ms)) (hm : m ≤ 1000000) (hal : al < 18446744073709551616) : Calls Tryz.prog 10 #[.agg (rcC C A n c).toArray, .agg (opC k v b e six ah al pt pr wy B m d).toArray] w (RetRc G w (apC C ⟨k, v, b, e, six, ah, al, pt, pr, wy, ms⟩) (chE C ⟨k, v, b, e, six, ah, al, pt, pr, wy, ms⟩)) := by
 have hk := hC.key
 have hb := hC.bl
 have HX0 := Lib.hid hX
 have HDO := Lib.hid (fun W G' hG' (h : RcX G' W C A n c E) (hb : Below w.heap.size w W) => rcDoes_any (G := G') k v b e six ah al pt pr wy ms B m d C hC A n c E W hG' h (hr.later hb) hm hal)
 have HAP := Lib.hid (show apC C ⟨k, v, b, e, six, ah, al, pt, pr, wy, ms⟩ = if chE C ⟨k, v, b, e, six, ah, al, pt, pr, wy, ms⟩ = 0 then upN (chC C ⟨k, v, b, e, six, ah, al, pt, pr, wy, ms⟩) else C from rfl)
 have HNU := Lib.hid (chC_num C ⟨k, v, b, e, six, ah, al, pt, pr, wy, ms⟩)
 generalize chE C ⟨k, v, b, e, six, ah, al, pt, pr, wy, ms⟩ = EE at *
 generalize chC C ⟨k, v, b, e, six, ah, al, pt, pr, wy, ms⟩ = CC at *
 generalize apC C ⟨k, v, b, e, six, ah, al, pt, pr, wy, ms⟩ = CA at *
 have hwn : IntKind.u64.wrap ((C.num : Int) + 1) = (((C.num + 1) % 18446744073709551616 : Nat) : Int) := by rw [IntKind.wrap_u64]; omega
 obtain ⟨dvs1, vs1, vs2⟩ := rowRcS
 obtain ⟨dvo1, vo1, vo2⟩ := rowRo
 obtain ⟨bs, bo, be, zV⟩ := box2 w 37 47 (rcC C A n c) (opC k v b e six ah al pt pr wy B m d)
 go_enter Tryz.func10, Tryz.ntmps10
 go_upto_region 1 with (fail)
 have HVe := Lib.hid (show ((w.alloc (.cells (rcC C A n c).toArray 37)).alloc (.cells (opC k v b e six ah al pt pr wy B m d).toArray 47)).heap.size = w.heap.size + 1 + 1 by simp)
 generalize (w.alloc (.cells (rcC C A n c).toArray 37)).alloc (.cells (opC k v b e six ah al pt pr wy B m d).toArray 47) = V at *
 have hz := Bk.newK 37 (Tryz.zeroCells37) _ HVe.out.symm rfl
 have hzl : (Tryz.zeroCells37).toList.length = 279 := by kernel_rfl
 have hbz : Below V.heap.size V (V.alloc (.cells (Tryz.zeroCells37) 37)) := Below.allocS (Below.refl _ _) _
 go_upto_region 1 with (fail)
 have hVs : w.heap.size + 2 ≤ V.heap.size := by have := bo.lt; omega
 generalize hV2 : V.alloc (.cells (Tryz.zeroCells37) 37) = V2 at *
 clear hV2
 generalize hzc : (Tryz.zeroCells37).toList = zl0 at *
 clear hzc
 replace bs := bs.later hbz
 replace bo := bo.later hbz
 replace be := be.trans (hbz.mono be.size)
 clear hbz
 have HZL := Lib.hid (show (Tryz.zeroCells37).toList.length = 279 by kernel_rfl)
 refine wp_region_lit ?_
 refine wpList_ldA (t := 37) 37 (.tmp 2) rfl rfl (rcC C A n c) rfl (bs) (whole_ _) vs1 vs2 (szRcS C hk hb A n c) ?_
 simp only [Act.put, qsT, qsZ, qsS]
 refine wpList_ldA (t := 47) 47 (.tmp 3) rfl rfl (opC k v b e six ah al pt pr wy B m d) rfl (bo) (whole_ _) vo1 vo2 (szRo _ _ _ _ _ _ _ _ _ _ _ _ _) ?_
 refine wpList_plain rfl (fun K hK => ?_)
 go_simp
 refine (HDO.out V2 (fun b => G b ∨ b = w.heap.size + 1 + 1) (fun b hb => hb.elim (fun h => by have := hG b h; have := be.size; omega) (fun h => by have := hz.lt; omega) : ∀ b, (fun b => G b ∨ b = w.heap.size + 1 + 1) b → b < V2.heap.size) ((HX0.out.more (G' := fun b => G b ∨ b = w.heap.size + 1 + 1) (fun b hb => hb.elim .inl (fun h => .inr (by omega)))).later be) be).mono ?_
 rintro e w1 ⟨C7, A7, n7, c7, E7, rfl, hX7, hb7, hk7, hbl7, h07⟩
 with_reducible refine hK _ _ ?_
 clear hK K
 replace bs := bs.later hb7
 replace hz := hz.later hb7
 replace be := be.trans (hb7.mono be.size)
 generalize hWW : w1 = W8 at *
 clear hWW
 iterate 4 (refine wpList_plain rfl (fun K hK => ?_); go_simp; with_reducible refine hK _ _ ?_; clear hK K)
 refine wpList_stA (t := 37) 37 (.tmp 6) (.tmp 12) rfl rfl (rcC C7 A7 n7 c7) (Tryz.zeroCells37).toList (HZL.out.trans (rcC_len C7 hk7 hbl7 _ _ _).symm).symm (rcL_one _ _ _ _ _ _ _ _) rfl rfl (Bk.new _ _ _) (szRcS C7 hk7 hbl7 _ _ _) ?_
 intro W7 h7 g7
 refine wpList_plain rfl (fun K hK => ?_); go_simp; with_reducible refine hK _ _ ?_; clear hK K
 have hgx : w.heap.size + 2 < W8.heap.size := hz.lt
 have hbW : Below W8.heap.size W8 W7 := below_grown (Below.allocS (Below.refl _ _) _) g7 (Nat.le_refl _)
 replace bs := bs.later hbW
 replace hz := hz.later hbW
 replace be := be.trans (hbW.mono be.size)
 clear g7 bo
 by_cases he : EE = 0
 ·have he0 : ((EE : Int) != 0) = false := by simp [he]
  have HCA := Lib.hid (show CA = upN C7 by rw [HAP.out, if_pos he, h07 he])
  have HN7 := Lib.hid (show C7.num = C.num by rw [h07 he]; exact HNU.out)
  have HE := Lib.hid he
  clear he h07
  go_upto_region 4 with (fail)
  refine wp_region_lit ?_
  refine wpList_plain rfl (fun K hK => ?_); go_simp; with_reducible refine hK _ _ ?_; clear hK K
  refine wpList_ld1 (t := 37) (cs := rcC C A n c) 28 (.tmp 18) rfl rfl rfl bs (show (rcC C A n c)[0]? = some (.int .u64 (C.num : Int)) from rfl) Tryz.underlying28 rfl ?_
  iterate 2 (refine wpList_plain rfl (fun K hK => ?_); go_simp; with_reducible refine hK _ _ ?_; clear hK K)
  refine wpList_st1 (v := .int .u64 (((C.num + 1) % 18446744073709551616 : Nat) : Int)) (t := 37) (cs := rcC C7 A7 n7 c7) (off := 0) 28 (.tmp 21) (.tmp 20) rfl rfl rfl rfl h7 (by rw [rcC_len C7 hk7 hbl7]; omega) rfl (by kernel_rfl) ?_
  intro W4 h4 g4
  simp only [Act.put, qsT, qsZ, qsS]
  replace h4 : Bk W4 W8.heap.size 37 (rcC { C7 with num := (C.num + 1) % 18446744073709551616 } A7 n7 c7) := h4
  have hbW4 : Below W8.heap.size W8 W4 := below_grown hbW g4 (Nat.le_refl _)
  have hz4 := hz.grown g4 (fun e => by injection e with e; omega)
  have be4 := below_grown be g4 (by omega)
  clear hbW hz be g4 h7 bs
  have hbW := hbW4
  have hz := hz4
  have be := be4
  clear hbW4 hz4 be4
  go_upto_region 5 with (fail)
  refine wp_region_lit ?_
  refine wpList_ldA (t := 37) 37 (.tmp 6) rfl rfl (rcC { C7 with num := (C.num + 1) % 18446744073709551616 } A7 n7 c7) rfl (h4) (whole_ _) vs1 vs2 (szRcS { C7 with num := (C.num + 1) % 18446744073709551616 } hk7 hbl7 _ _ _) ?_
  simp only [Act.put, qsT, qsZ, qsS]
  refine wpList_stA (t := 37) 37 (.tmp 4) (.tmp 22) rfl rfl (rcC { C7 with num := (C.num + 1) % 18446744073709551616 } A7 n7 c7) zl0 (hzl.trans (rcC_len { C7 with num := (C.num + 1) % 18446744073709551616 } (by assumption) (by assumption) _ _ _).symm).symm (rcL_one _ _ _ _ _ _ _ _) rfl rfl hz (szRcS { C7 with num := (C.num + 1) % 18446744073709551616 } (by assumption) (by assumption) _ _ _) ?_
  intro W9 h9 g9
  refine wpList_plain rfl (fun K hK => ?_); go_simp; with_reducible refine hK _ _ ?_; clear hK K
  replace be := below_grown be g9 (by omega)
  go_wp2
  refine bodyPost_agg2 Tryz.results10 rfl rfl h9.range vs1 vs2 (szRcS { C7 with num := (C.num + 1) % 18446744073709551616 } (by assumption) (by assumption) _ _ _) rfl ?_
  have hX9 := ((hX7.later hbW).chg (Chg.one (D := fun b => b = w.heap.size + 1 + 1) g9 rfl) (fun b h => .inr h)).more (G' := G) (fun b h => .inl (.inl h))
  rw [HCA.out, HE.out]
  refine ⟨A7, n7, c7, E7, ?_, ⟨hX9.vs, hX9.row, hX9.off, hX9.mm, hX9.mo, hX9.ss⟩, be⟩
  rw [show upN C7 = { C7 with num := (C.num + 1) % 18446744073709551616 } by unfold upN; rw [HN7.out]]
  rfl
 ·have he0 : ((EE : Int) != 0) = true := by simp [he]
  have HCA := Lib.hid (show CA = C by rw [HAP.out, if_neg he])
  clear he h07
  go_upto_region 3 with (fail)
  refine wp_region_lit ?_
  refine wpList_ldA (t := 37) 37 (.tmp 2) rfl rfl (rcC C A n c) rfl (bs) (whole_ _) vs1 vs2 (szRcS C hk hb A n c) ?_
  refine wpList_plain rfl (fun K hK => ?_); go_simp; with_reducible refine hK _ _ ?_; clear hK K
  refine wpList_stA (t := 37) 37 (.tmp 4) (.tmp 16) rfl rfl (rcC C A n c) zl0 (hzl.trans (rcC_len C (by assumption) (by assumption) _ _ _).symm).symm (rcL_one _ _ _ _ _ _ _ _) rfl rfl hz (szRcS C (by assumption) (by assumption) _ _ _) ?_
  intro W9 h9 g9
  refine wpList_plain rfl (fun K hK => ?_); go_simp; with_reducible refine hK _ _ ?_; clear hK K
  replace be := below_grown be g9 (by omega)
  go_wp2
  refine bodyPost_agg2 Tryz.results10 rfl rfl h9.range vs1 vs2 (szRcS C (by assumption) (by assumption) _ _ _) rfl ?_
  rw [HCA.out]
  exact ⟨A, n, c, E, rfl, HX0.out.later be, be⟩
end

section
open Go.Lib
open Go.RowKit
attribute [local go_sem ↓] sliced_cut
attribute [local go_sem] cutA_zero
def BothS (B0 : Nat) (W : World) (g r : Nat) (C : Cf) : Prop := ∃ G D, CfM G D W g C ∧ (∀ b, G b → B0 ≤ b) ∧ G r ∧ ¬ D r ∧ ∃ A n c E, RcX G W C A n c E ∧ Bk W r 37 (rcC C A n c)
theorem CfM.ltr {G D : Nat → Prop} {w w' : World} {g : Nat} {C : Cf} (h : CfM G D w g C) (hb : Below w.heap.size w w') : CfM G D w' g C := by
 obtain ⟨A, n, c, E, hX⟩ := h
 exact ⟨A, n, c, E, hX.later hb⟩
theorem BothS.later {B0 : Nat} {W W' : World} {g r : Nat} {C : Cf} (h : BothS B0 W g r C) (hb : Below W.heap.size W W') : BothS B0 W' g r C := by
 obtain ⟨G, D, h1, h2, h3, h4, A, n, c, E, h5, h6⟩ := h
 exact ⟨G, D, h1.ltr hb, h2, h3, h4, A, n, c, E, h5.later hb, h6.later hb⟩
def MidS (B0 : Nat) (W : World) (g r : Nat) (C C' : Cf) : Prop := ∃ G D, CfM G D W g C' ∧ (∀ b, G b → B0 ≤ b) ∧ G r ∧ ¬ D r ∧ ∃ A n c E, RcX G W C A n c E ∧ Bk W r 37 (rcC C A n c)
theorem BothS.apply {B0 : Nat} {W W1 : World} {g r : Nat} {C : Cf} (h : BothS B0 W g r C) (hC : CfOk C) (hb : Below W.heap.size W W1) (h0 : B0 ≤ W.heap.size) (x : OpX) (ho : OpOk x.o) {B : Option Addr} {d : Nat} (hr : Os 87 2 W1 W.heap.size B x.n d (prs .i64 x.ms)) (hm : x.n ≤ 1000000) :
  Calls Tryz.prog 8 #[.pointer (some ⟨g, 0, none⟩), .agg (opC x.k x.v x.b x.e x.six x.ah x.al x.pt x.pr x.wy B x.n d).toArray] W1 fun e w' => e = .returned (.int .i64 (chE C x.o : Nat)) ∧ MidS B0 w' g r C (apC C x.o) ∧ Below B0 W1 w' := by
 obtain ⟨G, D, ⟨A, n, c, E, hX⟩, h1, h3, h4, A2, n2, c2, E2, hR, hk⟩ := h
 have hX1 := hX.later hb
 refine (apply_any x.k x.v x.b x.e x.six x.ah x.al x.pt x.pr x.wy x.ms B x.n d C hC g A n c E W1 hX1 ho hr.rs (Off.own hr (fun b hg => hX.lt b hg)) hm).mono ?_
 rintro e w' ⟨rfl, G2, D2, hM, hgr, hc⟩
 have hs := hb.size
 have hrl := hk.lt
 have hR1 := (hR.later hb).more (G' := G2) (fun b hb2 => hgr.gn b hb2)
 exact ⟨rfl, ⟨G2, D2, hM, fun b hb2 => (hgr.gn b hb2).elim (h1 b) (fun h => by omega), hgr.gg r h3, fun hd => (hgr.dn r hd).elim h4 (fun h => by omega), A2, n2, c2, E2, hR1.chg hc (fun b hD => hgr.gg b (hX.sub b hD)), (hk.later hb).chg hc h4⟩, hc.below (fun b hD => h1 b (hX.sub b hD)) (by omega)⟩
def MP.rc (G : Nat → Prop) (C : Cf) (F : Value → Value) : MP := ⟨fun v w => ∃ A n c E, v = F (.agg (rcC C A n c).toArray) ∧ RcX G w C A n c E, fun _ _ _ ⟨A, n, c, E, h1, h2⟩ h => ⟨A, n, c, E, h1, h2.later h.below⟩⟩
def MC.rc {D : Nat → Prop} (G : Nat → Prop) (C : Cf) (F : Value → Value) (hd : ∀ b, D b → G b) : MC D := ⟨fun v w => ∃ A n c E, v = F (.agg (rcC C A n c).toArray) ∧ RcX G w C A n c E, fun _ _ _ ⟨A, n, c, E, h1, h2⟩ h => ⟨A, n, c, E, h1, h2.chg h hd⟩⟩
theorem st12_later (G : Nat → Prop) (r : Nat) (C C' : Cf) (As : Option Addr) (ns cs : Nat) : ∀ k w w', (match k with | 0 => Bk w r 37 (rcC C As ns cs) | 1 => Bk w r 37 (rcC C As ns cs) | _ => ∃ A n c E, RcX G w C' A n c E ∧ Bk w r 37 (rcC C' A n c)) → Ex w w' → (match k with | 0 => Bk w' r 37 (rcC C As ns cs) | 1 => Bk w' r 37 (rcC C As ns cs) | _ => ∃ A n c E, RcX G w' C' A n c E ∧ Bk w' r 37 (rcC C' A n c))
 | 0, w, w', h, hx => h.later hx.below
 | 1, w, w', h, hx => h.later hx.below
 | _ + 2, w, w', ⟨A, n, c, E, h1, h2⟩, hx => ⟨A, n, c, E, h1.later hx.below, h2.later hx.below⟩
theorem szK16 (key : List UInt8) (hk : key.length = 16) : (Tryz.prog.info? 22).map (·.size) = some (bcs key).length := by rw [bcs_length, hk]; kernel_rfl
theorem rowK16 : ∃ d, Tryz.prog.underlying 22 = some d ∧ d.isRow = true := ⟨_, Tryz.underlying22, rfl⟩
def k16o : List UInt8 := List.replicate 16 0
set_option maxHeartbeats 4000000
set_option maxRecDepth 100000
theorem run_buildSt0 (w : World) : (Instr.build 37 #[]).run Tryz.prog w = .ok (.agg (rcC (cf0 k16o) none 0 0).toArray) w := by kernel_rfl
theorem rc_setKey (key : List UInt8) (hk : key.length = 16) : splice (rcC (cf0 k16o) none 0 0) 1 (bcs key) = rcC (cf0 key) none 0 0 := by
 have e1 : rcC (cf0 k16o) none 0 0 = .int .u64 0 :: (bcs k16o ++ (.int .u64 0 :: (((List.replicate 65 none).map adZ).flatMap adF ++ (((List.replicate 65 (none : Option Adr)).map Option.isSome).map Value.bool ++ [.slice none 0 0])))) := by
  unfold rcC rcL ringC cf0
  simp only [List.append_assoc, List.cons_append, List.nil_append]
  rfl
 have e2 : rcC (cf0 key) none 0 0 = .int .u64 0 :: (bcs key ++ (.int .u64 0 :: (((List.replicate 65 none).map adZ).flatMap adF ++ (((List.replicate 65 (none : Option Adr)).map Option.isSome).map Value.bool ++ [.slice none 0 0])))) := by
  unfold rcC rcL ringC cf0
  simp only [List.append_assoc, List.cons_append, List.nil_append]
  rfl
 rw [e1, e2]
 generalize (.int .u64 0 :: (((List.replicate 65 none).map adZ).flatMap adF ++ (((List.replicate 65 (none : Option Adr)).map Option.isSome).map Value.bool ++ [.slice none 0 0])) : List Value) = T
 have h1 : (bcs k16o).length = (bcs key).length := by simp [bcs_length, hk, k16o]
 unfold splice
 simp only [List.take_succ_cons, List.take_zero, List.cons_append, List.nil_append]
 rw [show 1 + (bcs key).length = (bcs k16o).length + 1 by omega, List.drop_succ_cons, List.drop_left]
theorem rc0_X {G : Nat → Prop} {w : World} (key : List UInt8) : RcX G w (cf0 key) none 0 0 [] := ⟨rfl, Rs.nil_, Off.none_, (fun x h => by cases h), (fun x h => by cases h), (fun x h => by cases h)⟩
theorem codecStateNil (w : World) : Calls Tryz.prog 11 #[.pointer none] w fun e w' => e = .returned (.slice none 0 0) ∧ w = w' := by
 go_enter Tryz.func11, Tryz.ntmps11
 go_wp2
 go_ret
 exact ⟨rfl, rfl⟩
theorem codecStates_walk (key : List UInt8) (hk16 : key.length = 16) (L : List OpX) (A : Option Addr) (n c : Nat) (w : World) (hl : Rs 11 w A n c (L.flatMap OpX.cs)) (hL : ∀ x ∈ L, x.ok w) (hn : n ≤ 9223372036854775807) (hT : TabB w) : Calls Tryz.prog 3 #[.agg (bcs key).toArray, .slice A n c] w fun e w' => e = .returned (.bool true) ∧ Below w.heap.size w w' := by
 obtain ⟨dur, ur1, ur2⟩ : ∃ d, Tryz.prog.underlying 47 = some d ∧ d.isRow = true := ⟨_, Tryz.underlying47, rfl⟩
 obtain ⟨dvk, vk1, vk2⟩ := rowK16
 obtain ⟨dvs, vs1, vs2⟩ := rowRcS
 have HSZ := Lib.hid (fun x : OpX => show (Tryz.prog.info? 47).map (·.size) = some x.cs.length by rw [OpX.cs_len]; kernel_rfl)
 have HZL := Lib.hid (show (Tryz.zeroCells37).toList.length = 279 by kernel_rfl)
 have hLn : L.length = n := by have := hl.1; rw [flat_len OpX.cs 11 OpX.cs_len] at this; omega
 have hT0 := Lib.hid hT
 have HLL := Lib.hid hL
 have HLI := Lib.hid (fun W (h : Below w.heap.size w W) => light_any L A n c W (hl.later h) hn)
 have hu1 := Lib.hid (fun h : ltB L = true => ltB_use h)
 generalize ltB L = b1 at *
 have HL2 := Lib.hid hl
 have HTOX := Lib.hid (fun (x : OpX) (h : x.ok w) (hx : x.n ≤ 1000000) W (hb : Below w.heap.size w W) => show Calls Tryz.prog 9 #[.agg x.cs.toArray] W (fun e w2 => ∃ B d bs d0, e = .returned (.agg (opC x.k x.v x.b x.e x.six x.ah x.al x.pt x.pr x.wy B x.n d).toArray) ∧ w2 = plus W bs d0 ∧ Os 87 2 (plus W bs d0) W.heap.size B x.n d (prs .i64 x.ms)) from to23_own x.k x.v x.b x.e x.six x.ah x.al x.pt x.pr x.wy x.ms x.A x.n x.c W ((OpX.rs h).later hb) hx)
 clear hT hL hl
 have kb : Bk (w.alloc (.cells (bcs key).toArray 22)) w.heap.size 22 (bcs key) := Bk.new w 22 (bcs key).toArray
 have be : Below w.heap.size w (w.alloc (.cells (bcs key).toArray 22)) := Below.allocS (Below.refl _ _) _
 go_enter Tryz.func3, Tryz.ntmps3
 go_upto_region 1 with (fail)
 generalize w.alloc (.cells (bcs key).toArray 22) = V at *
 go_upto_region 3 with (go_at_call 5; refine (awake23 _).mono ?_; rintro e w1 ⟨bs1, d1, rfl, rfl⟩)
 replace kb := kb.later (below_plus V bs1 d1)
 replace be := belowP be bs1 d1
 generalize plus V bs1 d1 = W1 at *
 cases b1 with
 | false =>
  refine wp_region_lit ?_
  refine wpList_plain rfl (fun K hK => ?_); go_simp; with_reducible refine hK _ _ ?_; clear hK K
  refine wpList_plain rfl (fun K hK => ?_)
  go_simp
  refine (HLI.out _ be).mono ?_
  rintro e w1 ⟨rfl, rfl⟩
  with_reducible refine hK _ _ ?_
  clear hK K
  refine wpList_plain rfl (fun K hK => ?_); go_simp; with_reducible refine hK _ _ ?_; clear hK K
  go_wp2_with (go_at_call 5; refine (awake23 _).mono ?_; rintro e w1 ⟨bs2, d2, rfl, rfl⟩)
  go_ret
  exact ⟨rfl, be.trans ((below_plus _ _ _).mono be.size)⟩
 | true =>
 have hl40 := hu1.out rfl
 have HL40 := Lib.hid hl40.2
 have hn40 : n ≤ 40 := by have := hl40.1; omega
 clear hl40
 refine wp_region_lit ?_
 refine wpList_plain rfl (fun K hK => ?_); go_simp; with_reducible refine hK _ _ ?_; clear hK K
 refine wpList_plain rfl (fun K hK => ?_)
 go_simp
 refine (HLI.out _ be).mono ?_
 rintro e w1 ⟨rfl, rfl⟩
 with_reducible refine hK _ _ ?_
 clear hK K
 refine wpList_plain rfl (fun K hK => ?_); go_simp; with_reducible refine hK _ _ ?_; clear hK K
 go_upto_region 5 with (fail)
 refine wp_region_lit ?_
 refine wpList_ldA (t := 22) 22 (.tmp 2) rfl rfl (bcs key) rfl (kb) (whole_ _) vk1 vk2 (szK16 key hk16) ?_
 refine wpList_plain rfl (fun K hK => ?_)
 go_simp
 refine (new_any key hk16 _).mono ?_
 rintro e w1 ⟨g, rfl, hg0, hbN, hst⟩
 with_reducible refine hK _ _ ?_
 clear hK K
 generalize hWW : w1 = W2 at *
 clear hWW
 refine wpList_plain rfl (fun K hK => ?_); go_simp; with_reducible refine hK _ _ ?_; clear hK K
 have kb2 := kb.later hbN
 have hk1 := kb.lt
 have be2 := be.trans (hbN.mono be.size)
 have hbe := be.size
 go_upto_region 6 with (fail)
 refine wp_region_lit ?_
 refine wpList_build 37 [] rfl rfl (.agg (rcC (cf0 k16o) none 0 0).toArray) (run_buildSt0 _) ?_
 refine wpList_plain rfl (fun K hK => ?_); go_simp; with_reducible refine hK _ _ ?_; clear hK K
 refine wpList_stA (t := 37) 37 (.tmp 6) (.tmp 20) rfl rfl (rcC (cf0 k16o) none 0 0) (Tryz.zeroCells37).toList (by rw [rcC_len _ rfl (by simp [cf0])]; exact HZL.out.symm) (rcL_one _ _ _ _ _ _ _ _) rfl rfl (Bk.new _ _ _) (szRcS _ rfl (by simp [cf0]) _ _ _) ?_
 intro W3 h3 g3
 simp only [Act.put, qsT, qsZ, qsS]
 have hgl := hst.lt
 have hst3 := (hst.later (Below.allocS (Below.refl W2.heap.size W2) (.cells (Tryz.zeroCells37) 37))).grown g3 (fun e => by injection e with e; omega)
 have kb3 := (kb2.later (Below.allocS (Below.refl W2.heap.size W2) (.cells (Tryz.zeroCells37) 37))).grown g3 (fun e => by injection e with e; have := kb2.lt; omega)
 have be3 : Below w.heap.size w W3 := below_grown (Below.allocS be2 _) g3 (by have := be2.size; omega)
 have hrs : w.heap.size < W2.heap.size := by have := kb2.lt; omega
 clear hst kb2 be2 kb be hbN g3
 generalize W2.heap.size = r at *
 go_upto_region 7 with (fail)
 refine wp_region_lit ?_
 refine wpList_ldA (t := 22) 22 (.tmp 2) rfl rfl (bcs key) rfl (kb3) (whole_ _) vk1 vk2 (szK16 key hk16) ?_
 iterate 2 (refine wpList_plain rfl (fun K hK => ?_); go_simp; with_reducible refine hK _ _ ?_; clear hK K)
 refine wpList_stM (t := 37) (off := 1) 22 (.tmp 23) (.tmp 21) rfl rfl (bcs key) (rcC (cf0 k16o) none 0 0) (by rw [rcC_len _ rfl (by simp [cf0]), bcs_length, hk16]; decide) (bcs_one key) rfl rfl h3 (szK16 key hk16) ?_
 intro W4 h4 g4
 simp only [Act.put, qsT, qsZ, qsS]
 rw [rc_setKey key hk16] at h4
 have hst4 := hst3.grown g4 (fun e => by injection e with e; omega)
 have be4 := below_grown be3 g4 (by omega)
 have hS : BothS w.heap.size W4 g r (cf0 key) := ⟨_, _, ⟨_, _, _, _, cf0_X (G := fun b => b = r) hst4 (fun b hb => by have := h4.lt; omega)⟩, fun b hb => hb.elim (fun e => by omega) (fun e => by omega), .inl rfl, (fun hb => by have hb9 : r = g := hb; omega), none, 0, 0, [], rc0_X key, h4⟩
 have HST := Lib.hid (And.intro hS be4)
 clear hS be4 hst4 hst3 kb3 be3 h3 h4 g4
 go_upto_region 9 with (fail)
 go_loopw [7] (fun I wr => ∃ (i : Nat) (C : Cf), I = .int .i64 (i : Int) ∧ i ≤ n ∧ CfOk C ∧ BothS w.heap.size wr g r C ∧ Below w.heap.size w wr) (fun I _ => n - (intOf I).toNat)
 case atStart => exact ⟨0, _, rfl, by omega, cf0_ok key hk16, HST.out.1, HST.out.2⟩
 case round =>
  clear HST
  obtain ⟨i, C, rfl, hi, hC, hS, be⟩ := hrel
  by_cases hil : i < n
  ·have hi1 : (i : Int) < (n : Int) := by omega
   obtain ⟨bl, ol, rfl, hbl, -⟩ := HL2.out.at_ (by omega) (by decide)
   have hrgB := fun W (h : Below w.heap.size w W) => (HL2.out.later h).rangeE OpX.cs_len i (by omega)
   have hxm : (L[i]'(by omega)) ∈ L := List.getElem_mem _
   generalize (L[i]'(by omega)) = y at *
   have hxo := HLL.out y hxm
   have hx100 := HL40.out y hxm
   have hoo := OpX.ok_o hxo
   have HTO := Lib.hid (HTOX.out y hxo (by omega))
   have hsz := HSZ.out y
   have hs0 := be.size
   have HAP := Lib.hid (fun (bs : List Obj) (dd : Nat) (B5 : Option Addr) {d5 : Nat} (h : Os 87 2 (plus wr bs dd) wr.heap.size B5 y.n d5 (prs .i64 y.ms)) => show Calls Tryz.prog 8 #[.pointer (some ⟨g, 0, none⟩), .agg (opC y.k y.v y.b y.e y.six y.ah y.al y.pt y.pr y.wy B5 y.n d5).toArray] (plus wr bs dd) (fun e w' => e = .returned (.int .i64 (chE C y.o : Nat)) ∧ MidS w.heap.size w' g r C (apC C y.o) ∧ Below w.heap.size (plus wr bs dd) w') from BothS.apply hS hC (below_plus _ _ _) (by omega) y hoo h (by omega))
   have HOK := Lib.hid (apC_ok hC hoo)
   have HCO := Lib.hid hC
   have HOO := Lib.hid hoo
   have HMR := Lib.hid (fun W (h : Below w.heap.size w W) => (OpX.rs hxo).later h)
   have hal : y.al < 18446744073709551616 := hoo.al
   clear hxm hxo hoo hS hC
   go_upto_region 11 with (fail)
   refine wp_region_lit ?_
   iterate 4 (refine wpList_plain rfl (fun K hK => ?_); go_simp; with_reducible refine hK _ _ ?_; clear hK K)
   refine wpList_load_mid rfl 47 (.tmp 33) rfl bl (ol + i * 11) rfl y.cs _ (hrgB wr be) ur1 ur2 hsz ?_
   refine wpList_plain rfl (fun K hK => ?_)
   go_simp
   refine (HTO.out _ be).mono ?_
   rintro e w1 ⟨B5, d5, bs5, dd5, rfl, rfl, ho5⟩
   with_reducible refine hK _ _ ?_
   clear hK K
   refine wpList_plain rfl (fun K hK => ?_)
   go_simp
   refine (HAP.out _ _ _ ho5).mono ?_
   rintro e w1 ⟨rfl, hS2, hb2⟩
   with_reducible refine hK _ _ ?_
   clear hK K
   generalize hWW : w1 = W6 at *
   clear hWW
   have hbE : Below w.heap.size w W6 := (be.trans ((below_plus wr bs5 dd5).mono hs0)).trans hb2
   obtain ⟨G, D, hM, hG0, hGr, hr0, As, ns, cs, Es, hXr, hbk⟩ := hS2
   have hk := HCO.out.key
   have hb := HCO.out.bl
   have hk2 := HOK.out.key
   have hb2l := HOK.out.bl
   have hGlt : ∀ b, G b → b < W6.heap.size := fun b hb3 => by obtain ⟨_, _, _, _, hZ⟩ := hM; exact hZ.lt b hb3
   have hrB : w.heap.size ≤ r := hG0 r hGr
   have hDG : ∀ b, b = r → G b := fun b h => by rw [h]; exact hGr
   have HBC := Lib.hid (fun W (h : Chg (fun b => b = r) W6 W) => hbE.trans (h.below (B := w.heap.size) (fun b hb3 => by rw [hb3]; exact hrB) hbE.size))
   have HRA := Lib.hid (fun W (h : Chg (fun b => b = r) W6 W) => show Calls Tryz.prog 10 #[.agg (rcC C As ns cs).toArray, .agg y.cs.toArray] W (RetRc G W (apC C y.o) (chE C y.o)) from refApply_any y.k y.v y.b y.e y.six y.ah y.al y.pt y.pr y.wy y.ms y.A y.n y.c C HCO.out As ns cs Es W (fun b hb3 => Nat.lt_of_lt_of_le (hGlt b hb3) h.size) (hXr.chg h hDG) (HMR.out W (HBC.out W h)) (by omega) hal)
   clear hb2 be ho5 HAP HTO
   go_upto_region 12 with (fail)
   refine wp_suS (fun b => b = r) 10 91 2 [0, 9] rfl (by kernel_rfl) (by kernel_rfl) (fun k w' => match k with | 0 => Bk w' r 37 (rcC C As ns cs) | 1 => Bk w' r 37 (rcC C As ns cs) | _ => ∃ A n c E, RcX G w' (apC C y.o) A n c E ∧ Bk w' r 37 (rcC (apC C y.o) A n c)) (st12_later G r C (apC C y.o) As ns cs) (hbk) ?_
   apply StepsC.mov (MC.eq (.agg (rcC C As ns cs).toArray)) 1 0 rfl rfl rfl
   ·intro o ho FA w' hC hO hD hS K hK
    obtain rfl := qoi ho
    have e6 := hO 6 (by kernel_rfl)
    simp only [eval_tmp, qgT, qgS, qgZ, qoS] at e6
    have ev6 := Lib.hid ((eval_tmp FA 6).trans e6)
    clear hO hD ho
    refine wanted_if rfl ?_
    refine wp_ldA 37 (.tmp 6) rfl (rcC C As ns cs) ev6.out hS (whole_ _) vs1 vs2 (szRcS C hk hb As ns cs) ?_
    exact hK.out _ _ (Chg.refl _) hS rfl
   apply StepsC.one (MC.eq _) 2 rfl (by decide)
   ·intro o ho FA w' hC hO hD K hK
    obtain rfl := qoi ho
    have e1 := hO 1 (by kernel_rfl)
    simp only [eval_tmp, qgT, qgS, qgZ, qoS] at e1
    have ev1 := Lib.hid ((eval_tmp FA 1).trans e1)
    clear hO hD ho
    go_simp
    exact hK.out _ _ (Ex.refl _) rfl
   apply StepsC.one (MC.eq _) 3 rfl (by decide)
   ·intro o ho FA w' hC hO hD K hK
    obtain rfl := qoi ho
    have e7 := hO 7 (by kernel_rfl)
    simp only [eval_tmp, qgT, qgS, qgZ, qoS] at e7
    have ev7 := Lib.hid ((eval_tmp FA 7).trans e7)
    clear hO hD ho
    go_simp
    exact hK.out _ _ (Ex.refl _) rfl
   apply StepsC.one (MC.eq _) 4 rfl (by decide)
   ·intro o ho FA w' hC hO hD K hK
    obtain rfl := qoi ho
    obtain ⟨e39, ev39⟩ := qE (hD 1 39 (by kernel_rfl))
    obtain ⟨e40, ev40⟩ := qE (hD 2 40 (by kernel_rfl))
    clear hO hD ho
    go_simp
    exact hK.out _ _ (Ex.refl _) rfl
   apply StepsC.one (MC.eq _) 5 rfl (by decide)
   ·intro o ho FA w' hC hO hD K hK
    obtain rfl := qoi ho
    obtain ⟨e41, ev41⟩ := qE (hD 3 41 (by kernel_rfl))
    clear hO hD ho
    refine wanted_if rfl ?_
    refine wp_load_mid 47 (.tmp 41) rfl bl (ol + i * 11) ev41.out y.cs _ (hrgB _ (HBC.out _ hC)) ur1 ur2 hsz ?_
    exact hK.out _ _ (Ex.refl _) rfl
   apply StepsC.one (MC.rc G (apC C y.o) (fun v => .tuple #[v, .int .i64 (chE C y.o : Nat)]) hDG) 6 rfl (by decide)
   ·intro o ho FA w' hC hO hD K hK
    obtain rfl := qoi ho
    obtain ⟨e38, ev38⟩ := qE (hD 0 38 (by kernel_rfl))
    obtain ⟨e42, ev42⟩ := qE (hD 4 42 (by kernel_rfl))
    clear hO hD ho
    go_simp
    refine (HRA.out w' hC).mono ?_
    rintro e w2 ⟨A7, n7, c7, E7, rfl, hX7, hb7⟩
    exact hK.out _ _ (Ex.of hb7) ⟨_, _, _, _, rfl, hX7⟩
   apply StepsC.one (MC.rc G (apC C y.o) (fun v => .tuple #[v, .int .i64 (chE C y.o : Nat)]) hDG) 7 rfl (by decide)
   ·intro o ho FA w' hC hO hD K hK
    obtain rfl := qoi ho
    obtain ⟨u43, f43, e43, ev43⟩ := qC (hD 5 43 (by kernel_rfl))
    clear hO hD ho
    go_simp
    exact hK.out _ _ (Ex.refl _) f43
   apply StepsC.one (MC.rc G (apC C y.o) (fun v => v) hDG) 8 rfl (by decide)
   ·intro o ho FA w' hC hO hD K hK
    obtain rfl := qoi ho
    obtain ⟨u37, f37, e37, ev37⟩ := qC (hD 6 37 (by kernel_rfl))
    clear hO hD ho
    obtain ⟨A7, n7, c7, E7, rfl, hX7⟩ := f37
    go_simp
    exact hK.out _ _ (Ex.refl _) ⟨_, _, _, _, rfl, hX7⟩
   apply StepsC.one (MC.any) 9 rfl (by decide)
   ·intro o ho FA w' hC hO hD K hK
    obtain rfl := qoi ho
    obtain ⟨u37, f37, e37, ev37⟩ := qC (hD 6 37 (by kernel_rfl))
    clear hO hD ho
    obtain ⟨A7, n7, c7, E7, rfl, hX7⟩ := f37
    go_simp
    exact hK.out _ _ (Ex.refl _) trivial
   apply StepsC.mov (MC.any) 10 1 rfl rfl rfl
   ·intro o ho FA w' hC hO hD hS K hK
    obtain rfl := qoi ho
    have e6 := hO 6 (by kernel_rfl)
    simp only [eval_tmp, qgT, qgS, qgZ, qoS] at e6
    have ev6 := Lib.hid ((eval_tmp FA 6).trans e6)
    obtain ⟨u44, f44, e44, ev44⟩ := qC (hD 7 44 (by kernel_rfl))
    clear hO hD ho
    obtain ⟨A7, n7, c7, E7, hv7, hX7⟩ := f44
    refine wanted_if rfl ?_
    refine wp_stA 37 (.tmp 6) (.tmp 44) rfl (rcC (apC C y.o) A7 n7 c7) (rcC C As ns cs) (by rw [rcC_len _ hk2 hb2l, rcC_len _ hk hb]) (rcL_one _ _ _ _ _ _ _ _) ev6.out (ev44.out.trans hv7) hS (szRcS _ hk2 hb2l _ _ _) ?_
    intro w'' hn hgr
    exact hK.out undef _ (Chg.one hgr rfl) ⟨A7, n7, c7, E7, hX7.chg (Chg.one (D := fun b => b = r) hgr rfl) hDG, hn⟩ trivial
   refine StepsC.fin_ (fun vs w' hC hS hp => ?_)
   have p0 : vs 0 = _ := hp 0 (by omega) rfl
   have p1 : vs 1 = _ := hp 1 (by omega) rfl
   have p2 : vs 2 = _ := hp 2 (by omega) rfl
   have p3 : vs 3 = _ := hp 3 (by omega) rfl
   have p4 : vs 4 = _ := hp 4 (by omega) rfl
   have p5 := hp 5 (by omega) rfl
   have p6 := hp 6 (by omega) rfl
   have p7 := hp 7 (by omega) rfl
   have p8 := hp 8 (by omega) rfl
   clear hp
   simp only [List.take_succ_cons, List.take_zero, List.drop_succ_cons, List.drop_zero, putAll, Nat.zero_add, Nat.reduceAdd, Act.put, qsT, qsZ, qsS, p0, p1, p2, p3, p4]
   clear p0 p1 p2 p3 p4
   generalize vs 5 = y5 at *
   generalize vs 6 = y6 at *
   generalize vs 7 = y7 at *
   generalize vs 8 = y8 at *
   clear vs
   obtain ⟨A9, n9, c9, E9, hX9, h9⟩ := hS
   have hb9 := hbE.trans (hC.below (B := w.heap.size) (fun b hb3 => by rw [hb3]; exact hrB) hbE.size)
   have hM9 : CfM G D w' g (apC C y.o) := by
    obtain ⟨Aq, nq, cq, Eq_, hZ⟩ := hM
    exact ⟨Aq, nq, cq, Eq_, hZ.chg hC (fun b h => by rw [h]; exact hGr) (fun b h => by rw [h]; exact hr0)⟩
   go_wp2
   exact ⟨⟨i + 1, _, by go_num, by omega, HOK.out, ⟨G, D, hM9, hG0, hGr, hr0, A9, n9, c9, E9, hX9, h9⟩, hb9⟩, by simp [intOf]; omega⟩
  ·have hi1 : ¬ (i : Int) < (n : Int) := by omega
   clear hi hil
   obtain ⟨G, D, ⟨Ac, nc, cc, Ec, hXc⟩, hG0, hGr, hr0, As, ns, cs, Es, hXr, hbk⟩ := hS
   have hk := hC.key
   have hb := hC.bl
   have hTB := hT0.out.later be
   have HCS := Lib.hid (codecState_own C hC g Ac nc cc Ec wr hXc hTB)
   have hC2 := Lib.hid hC
   have hs0 := be.size
   clear hTB hG0 hGr hr0 hXc hC
   go_upto_region 13 with (fail)
   refine wp_region_lit ?_
   refine wpList_plain rfl (fun K hK => ?_); go_simp; with_reducible refine hK _ _ ?_; clear hK K
   refine wpList_plain rfl (fun K hK => ?_)
   go_simp
   refine (HCS.out).mono ?_
   rintro e w1 ⟨A8, n8, c8, bs8, dd8, rfl, rfl, ho8⟩
   with_reducible refine hK _ _ ?_
   clear hK K
   refine wpList_plain rfl (fun K hK => ?_); go_simp; with_reducible refine hK _ _ ?_; clear hK K
   have hb5 := below_plus wr bs8 dd8
   replace hXr := hXr.later hb5
   replace hbk := hbk.later hb5
   have be5 := be.trans (hb5.mono hs0)
   have hr8 := ho8.rb
   have hs5 := be5.size
   clear hb5 be ho8 HCS
   generalize plus wr bs8 dd8 = W5 at *
   go_upto_region 14 with (fail)
   refine wp_region_lit ?_
   refine wpList_plain rfl (fun K hK => ?_); go_simp; with_reducible refine hK _ _ ?_; clear hK K
   refine wpList_plain rfl (fun K hK => ?_)
   go_simp
   refine (parseState_ok C hC2.out (fun _ => False) _ _ _ W5 (fun b hb => hb.elim) hr8).mono ?_
   rintro e w1 ⟨gx, Gx, Dx, rfl, hbx, hMx, -, -, -⟩
   with_reducible refine hK _ _ ?_
   clear hK K
   generalize hWW : w1 = W6 at *
   clear hWW
   iterate 5 (refine wpList_plain rfl (fun K hK => ?_); go_simp; with_reducible refine hK _ _ ?_; clear hK K)
   replace hXr := hXr.later hbx
   replace hbk := hbk.later hbx
   replace hr8 := hr8.later hbx
   have be6 := be5.trans (hbx.mono hs5)
   have hTB6 := hT0.out.later be6
   obtain ⟨Aq, nq, cq, Eq_, hXq⟩ := hMx
   have HCX := Lib.hid (fun W (h : Below W6.heap.size W6 W) => codecState_own C hC2.out gx Aq nq cq Eq_ W (hXq.later h) (hTB6.later h))
   have HQX := Lib.hid (fun W (h : Below W6.heap.size W6 W) => show W.cell? ⟨gx, 0, none⟩ = some (.int .u64 (C.num : Int)) from ((hXq.later h).st).cell 0)
   clear hbx be5 hXq hTB6
   go_upto_region 15 with (fail)
   refine wp_relS 31 91 rfl (by kernel_rfl) (by kernel_rfl) ?_
   apply Steps.o1 (MP.eq _) 1 rfl rfl
   ·intro FA x hO hD K hK
    have e8 := hO 8 (by kernel_rfl)
    simp only [eval_tmp, qgT, qgS, qgZ, qoS] at e8
    have ev8 := Lib.hid ((eval_tmp FA 8).trans e8)
    clear hO hD
    go_simp
    exact hK.out _ _ (Ex.refl _) rfl
   apply Steps.o1 (MP.eq _) 2 rfl rfl
   ·intro FA x hO hD K hK
    obtain ⟨e53, ev53⟩ := qE (hD 0 53 (by kernel_rfl))
    clear hO hD
    have es := run_str bt Tryz.underlying9 (hr8.later (below_plus W6 x.bs x.d))
    go_simp
    exact hK.out _ _ (Ex.refl _) rfl
   apply Steps.o1 (MP.eq _) 3 rfl rfl
   ·intro FA x hO hD K hK
    have e6 := hO 6 (by kernel_rfl)
    simp only [eval_tmp, qgT, qgS, qgZ, qoS] at e6
    have ev6 := Lib.hid ((eval_tmp FA 6).trans e6)
    clear hO hD
    refine wanted_if rfl ?_
    refine wp_ldA 37 (.tmp 6) rfl (rcC C As ns cs) ev6.out (hbk.later (below_plus _ _ _)) (whole_ _) vs1 vs2 (szRcS C hk hb As ns cs) ?_
    exact hK.out _ _ (Ex.refl _) rfl
   apply Steps.o1 (MP.rb (sttB C)) 4 rfl rfl
   ·intro FA x hO hD K hK
    obtain ⟨e55, ev55⟩ := qE (hD 2 55 (by kernel_rfl))
    clear hO hD
    go_simp
    refine (refState_any C hC2.out As ns cs Es _ (hXr.later (below_plus _ _ _))).mono ?_
    rintro e w1 ⟨A2, n2, c2, bs2, d2, rfl, rfl, ho2⟩
    exact hK.out _ _ (Ex.plus_ _ _ _) ⟨_, _, _, rfl, ho2.rb⟩
   apply Steps.o1 (MP.eq _) 5 rfl rfl
   ·intro FA x hO hD K hK
    obtain ⟨u56, f56, e56, ev56⟩ := qG (hD 3 56 (by kernel_rfl))
    clear hO hD
    obtain ⟨A1, n1, c1, rfl, hr1⟩ := f56
    have es := run_str bt Tryz.underlying9 hr1
    go_simp
    exact hK.out _ _ (Ex.refl _) rfl
   apply Steps.o1 (MP.eq _) 6 rfl rfl
   ·intro FA x hO hD K hK
    obtain ⟨e54, ev54⟩ := qE (hD 1 54 (by kernel_rfl))
    obtain ⟨e57, ev57⟩ := qE (hD 4 57 (by kernel_rfl))
    clear hO hD
    go_simp
    exact hK.out _ _ (Ex.refl _) rfl
   apply Steps.o1 (MP.eq _) 7 rfl rfl
   ·intro FA x hO hD K hK
    obtain ⟨e58, ev58⟩ := qE (hD 5 58 (by kernel_rfl))
    clear hO hD
    go_simp
    exact hK.out _ _ (Ex.refl _) rfl
   apply Steps.o1 (MP.eq _) 8 rfl rfl
   ·intro FA x hO hD K hK
    have e10 := hO 10 (by kernel_rfl)
    simp only [eval_tmp, qgT, qgS, qgZ, qoS] at e10
    have ev10 := Lib.hid ((eval_tmp FA 10).trans e10)
    obtain ⟨e59, ev59⟩ := qE (hD 6 59 (by kernel_rfl))
    first | have ge59 := slot_of e59 | have ge59 := slot_un e59
    clear hO hD
    first | (go_simp; exact hK.out _ _ (Ex.refl _) rfl) | (rcases ge59 with ge59 | ge59 <;> (go_simp; exact hK.out _ _ (Ex.refl _) rfl))
   apply Steps.o1 (MP.eq _) 9 rfl rfl
   ·intro FA x hO hD K hK
    obtain ⟨e60, ev60⟩ := qE (hD 7 60 (by kernel_rfl))
    obtain ⟨e59, ev59⟩ := qE (hD 6 59 (by kernel_rfl))
    first | have ge59 := slot_of e59 | have ge59 := slot_un e59
    clear hO hD
    first | (go_simp; exact hK.out _ _ (Ex.refl _) rfl) | (rcases ge59 with ge59 | ge59 <;> (go_simp; exact hK.out _ _ (Ex.refl _) rfl))
   apply Steps.o1 (MP.eq _) 10 rfl rfl
   ·intro FA x hO hD K hK
    obtain ⟨e59, ev59⟩ := qE (hD 6 59 (by kernel_rfl))
    obtain ⟨e61, ev61⟩ := qE (hD 8 61 (by kernel_rfl))
    clear hO hD
    go_simp
    exact hK.out _ _ (Ex.refl _) rfl
   apply Steps.o1 (MP.eq _) 11 rfl rfl
   ·intro FA x hO hD K hK
    obtain ⟨e62, ev62⟩ := qE (hD 9 62 (by kernel_rfl))
    clear hO hD
    go_simp
    exact hK.out _ _ (Ex.refl _) rfl
   apply Steps.o1 (MP.eq _) 12 rfl rfl
   ·intro FA x hO hD K hK
    have e9 := hO 9 (by kernel_rfl)
    simp only [eval_tmp, qgT, qgS, qgZ, qoS] at e9
    have ev9 := Lib.hid ((eval_tmp FA 9).trans e9)
    obtain ⟨e63, ev63⟩ := qE (hD 10 63 (by kernel_rfl))
    first | have ge63 := slot_of e63 | have ge63 := slot_un e63
    clear hO hD
    first | (go_simp; exact hK.out _ _ (Ex.refl _) rfl) | (rcases ge63 with ge63 | ge63 <;> (go_simp; exact hK.out _ _ (Ex.refl _) rfl))
   apply Steps.o1 (MP.eq _) 13 rfl rfl
   ·intro FA x hO hD K hK
    obtain ⟨e64, ev64⟩ := qE (hD 11 64 (by kernel_rfl))
    obtain ⟨e63, ev63⟩ := qE (hD 10 63 (by kernel_rfl))
    first | have ge63 := slot_of e63 | have ge63 := slot_un e63
    clear hO hD
    first | (go_simp; exact hK.out _ _ (Ex.refl _) rfl) | (rcases ge63 with ge63 | ge63 <;> (go_simp; exact hK.out _ _ (Ex.refl _) rfl))
   apply Steps.o1 (MP.eq _) 14 rfl rfl
   ·intro FA x hO hD K hK
    obtain ⟨e63, ev63⟩ := qE (hD 10 63 (by kernel_rfl))
    obtain ⟨e65, ev65⟩ := qE (hD 12 65 (by kernel_rfl))
    clear hO hD
    go_simp
    exact hK.out _ _ (Ex.refl _) rfl
   apply Steps.o1 (MP.eq _) 15 rfl rfl
   ·intro FA x hO hD K hK
    obtain ⟨e66, ev66⟩ := qE (hD 13 66 (by kernel_rfl))
    clear hO hD
    go_simp
    exact hK.out _ _ (Ex.refl _) rfl
   apply Steps.o1 (MP.eq _) 16 rfl rfl
   ·intro FA x hO hD K hK
    have e9 := hO 9 (by kernel_rfl)
    simp only [eval_tmp, qgT, qgS, qgZ, qoS] at e9
    have ev9 := Lib.hid ((eval_tmp FA 9).trans e9)
    obtain ⟨e67, ev67⟩ := qE (hD 14 67 (by kernel_rfl))
    first | have ge67 := slot_of e67 | have ge67 := slot_un e67
    clear hO hD
    first | (go_simp; exact hK.out _ _ (Ex.refl _) rfl) | (rcases ge67 with ge67 | ge67 <;> (go_simp; exact hK.out _ _ (Ex.refl _) rfl))
   apply Steps.o1 (MP.rb (sttB C)) 17 rfl rfl
   ·intro FA x hO hD K hK
    obtain ⟨e68, ev68⟩ := qE (hD 15 68 (by kernel_rfl))
    obtain ⟨e67, ev67⟩ := qE (hD 14 67 (by kernel_rfl))
    first | have ge67 := slot_of e67 | have ge67 := slot_un e67
    clear hO hD
    refine wanted_ifG (by go_simp) ?_
    go_simp
    refine (HCX.out _ (below_plus _ _ _)).mono ?_
    rintro e w1 ⟨A2, n2, c2, bs2, d2, rfl, rfl, ho2⟩
    exact hK.out _ _ (Ex.plus_ _ _ _) ⟨_, _, _, rfl, ho2.rb⟩
   apply Steps.o1 (MP.eq _) 18 rfl rfl
   ·intro FA x hO hD K hK
    obtain ⟨u69, f69, e69, ev69⟩ := qG (hD 16 69 (by kernel_rfl))
    obtain ⟨e67, ev67⟩ := qE (hD 14 67 (by kernel_rfl))
    first | have ge67 := slot_of e67 | have ge67 := slot_un e67
    clear hO hD
    refine wanted_ifG (by go_simp) ?_
    obtain ⟨A1, n1, c1, rfl, hr1⟩ := f69
    have es := run_str bt Tryz.underlying9 hr1
    go_simp
    exact hK.out _ _ (Ex.refl _) rfl
   apply Steps.o1 (MP.eq _) 19 rfl rfl
   ·intro FA x hO hD K hK
    have e8 := hO 8 (by kernel_rfl)
    simp only [eval_tmp, qgT, qgS, qgZ, qoS] at e8
    have ev8 := Lib.hid ((eval_tmp FA 8).trans e8)
    obtain ⟨e67, ev67⟩ := qE (hD 14 67 (by kernel_rfl))
    first | have ge67 := slot_of e67 | have ge67 := slot_un e67
    clear hO hD
    first | (go_simp; exact hK.out _ _ (Ex.refl _) rfl) | (rcases ge67 with ge67 | ge67 <;> (go_simp; exact hK.out _ _ (Ex.refl _) rfl))
   apply Steps.o1 (MP.eq _) 20 rfl rfl
   ·intro FA x hO hD K hK
    obtain ⟨e71, ev71⟩ := qE (hD 18 71 (by kernel_rfl))
    obtain ⟨e67, ev67⟩ := qE (hD 14 67 (by kernel_rfl))
    first | have ge67 := slot_of e67 | have ge67 := slot_un e67
    clear hO hD
    refine wanted_ifG (by go_simp) ?_
    have es := run_str bt Tryz.underlying9 (hr8.later (below_plus W6 x.bs x.d))
    go_simp
    exact hK.out _ _ (Ex.refl _) rfl
   apply Steps.o1 (MP.eq _) 21 rfl rfl
   ·intro FA x hO hD K hK
    obtain ⟨e70, ev70⟩ := qE (hD 17 70 (by kernel_rfl))
    obtain ⟨e72, ev72⟩ := qE (hD 19 72 (by kernel_rfl))
    obtain ⟨e67, ev67⟩ := qE (hD 14 67 (by kernel_rfl))
    first | have ge67 := slot_of e67 | have ge67 := slot_un e67
    clear hO hD
    first | (go_simp; exact hK.out _ _ (Ex.refl _) rfl) | (rcases ge67 with ge67 | ge67 <;> (go_simp; exact hK.out _ _ (Ex.refl _) rfl))
   apply Steps.o1 (MP.eq _) 22 rfl rfl
   ·intro FA x hO hD K hK
    obtain ⟨e67, ev67⟩ := qE (hD 14 67 (by kernel_rfl))
    obtain ⟨e73, ev73⟩ := qE (hD 20 73 (by kernel_rfl))
    clear hO hD
    go_simp
    exact hK.out _ _ (Ex.refl _) rfl
   apply Steps.o1 (MP.eq _) 23 rfl rfl
   ·intro FA x hO hD K hK
    obtain ⟨e74, ev74⟩ := qE (hD 21 74 (by kernel_rfl))
    clear hO hD
    go_simp
    exact hK.out _ _ (Ex.refl _) rfl
   apply Steps.o1 (MP.eq _) 24 rfl rfl
   ·intro FA x hO hD K hK
    have e9 := hO 9 (by kernel_rfl)
    simp only [eval_tmp, qgT, qgS, qgZ, qoS] at e9
    have ev9 := Lib.hid ((eval_tmp FA 9).trans e9)
    obtain ⟨e75, ev75⟩ := qE (hD 22 75 (by kernel_rfl))
    first | have ge75 := slot_of e75 | have ge75 := slot_un e75
    clear hO hD
    first | (go_simp; exact hK.out _ _ (Ex.refl _) rfl) | (rcases ge75 with ge75 | ge75 <;> (go_simp; exact hK.out _ _ (Ex.refl _) rfl))
   apply Steps.o1 (MP.eq _) 25 rfl rfl
   ·intro FA x hO hD K hK
    obtain ⟨e76, ev76⟩ := qE (hD 23 76 (by kernel_rfl))
    obtain ⟨e75, ev75⟩ := qE (hD 22 75 (by kernel_rfl))
    first | have ge75 := slot_of e75 | have ge75 := slot_un e75
    clear hO hD
    first | (go_simp; exact hK.out _ _ (Ex.refl _) rfl) | (rcases ge75 with ge75 | ge75 <;> (go_simp; exact hK.out _ _ (Ex.refl _) rfl))
   apply Steps.o1 (MP.eq _) 26 rfl rfl
   ·intro FA x hO hD K hK
    obtain ⟨e77, ev77⟩ := qE (hD 24 77 (by kernel_rfl))
    obtain ⟨e75, ev75⟩ := qE (hD 22 75 (by kernel_rfl))
    first | have ge75 := slot_of e75 | have ge75 := slot_un e75
    clear hO hD
    first | (go_simp; exact hK.out _ _ (Ex.refl _) rfl) | (rcases ge75 with ge75 | ge75 <;> (go_simp; exact hK.out _ _ (Ex.refl _) rfl))
   apply Steps.o1 (MP.eq _) 27 rfl rfl
   ·intro FA x hO hD K hK
    obtain ⟨e78, ev78⟩ := qE (hD 25 78 (by kernel_rfl))
    obtain ⟨e75, ev75⟩ := qE (hD 22 75 (by kernel_rfl))
    first | have ge75 := slot_of e75 | have ge75 := slot_un e75
    clear hO hD
    have qx := HQX.out (plus W6 x.bs x.d) (below_plus _ _ _)
    refine wanted_ifG (by go_simp) ?_
    go_simp
    exact hK.out _ _ (Ex.refl _) rfl
   apply Steps.o1 (MP.eq _) 28 rfl rfl
   ·intro FA x hO hD K hK
    have e6 := hO 6 (by kernel_rfl)
    simp only [eval_tmp, qgT, qgS, qgZ, qoS] at e6
    have ev6 := Lib.hid ((eval_tmp FA 6).trans e6)
    obtain ⟨e75, ev75⟩ := qE (hD 22 75 (by kernel_rfl))
    first | have ge75 := slot_of e75 | have ge75 := slot_un e75
    clear hO hD
    first | (go_simp; exact hK.out _ _ (Ex.refl _) rfl) | (rcases ge75 with ge75 | ge75 <;> (go_simp; exact hK.out _ _ (Ex.refl _) rfl))
   apply Steps.o1 (MP.eq _) 29 rfl rfl
   ·intro FA x hO hD K hK
    obtain ⟨e80, ev80⟩ := qE (hD 27 80 (by kernel_rfl))
    obtain ⟨e75, ev75⟩ := qE (hD 22 75 (by kernel_rfl))
    first | have ge75 := slot_of e75 | have ge75 := slot_un e75
    clear hO hD
    have qr := (hbk.later (below_plus W6 x.bs x.d)).cell 0
    have qr2 : (plus W6 x.bs x.d).cell? ⟨r, 0, none⟩ = some (.int .u64 (C.num : Int)) := qr
    clear qr
    refine wanted_ifG (by go_simp) ?_
    go_simp
    exact hK.out _ _ (Ex.refl _) rfl
   apply Steps.o1 (MP.eq _) 30 rfl rfl
   ·intro FA x hO hD K hK
    obtain ⟨e79, ev79⟩ := qE (hD 26 79 (by kernel_rfl))
    obtain ⟨e81, ev81⟩ := qE (hD 28 81 (by kernel_rfl))
    obtain ⟨e75, ev75⟩ := qE (hD 22 75 (by kernel_rfl))
    first | have ge75 := slot_of e75 | have ge75 := slot_un e75
    clear hO hD
    first | (go_simp; exact hK.out _ _ (Ex.refl _) rfl) | (rcases ge75 with ge75 | ge75 <;> (go_simp; exact hK.out _ _ (Ex.refl _) rfl))
   apply Steps.o1 (MP.eq _) 31 rfl rfl
   ·intro FA x hO hD K hK
    obtain ⟨e75, ev75⟩ := qE (hD 22 75 (by kernel_rfl))
    obtain ⟨e82, ev82⟩ := qE (hD 29 82 (by kernel_rfl))
    clear hO hD
    go_simp
    exact hK.out _ _ (Ex.refl _) rfl
   refine Steps.fin_ (fun vs x hp => ?_)
   have p0 : vs 0 = _ := hp 0 (by omega)
   have p1 : vs 1 = _ := hp 1 (by omega)
   have p2 : vs 2 = _ := hp 2 (by omega)
   have p3 := hp 3 (by omega)
   have p4 : vs 4 = _ := hp 4 (by omega)
   have p5 : vs 5 = _ := hp 5 (by omega)
   have p6 : vs 6 = _ := hp 6 (by omega)
   have p7 : vs 7 = _ := hp 7 (by omega)
   have p8 : vs 8 = _ := hp 8 (by omega)
   have p9 : vs 9 = _ := hp 9 (by omega)
   have p10 : vs 10 = _ := hp 10 (by omega)
   have p11 : vs 11 = _ := hp 11 (by omega)
   have p12 : vs 12 = _ := hp 12 (by omega)
   have p13 : vs 13 = _ := hp 13 (by omega)
   have p14 : vs 14 = _ := hp 14 (by omega)
   have p15 : vs 15 = _ := hp 15 (by omega)
   have p16 := hp 16 (by omega)
   have p17 : vs 17 = _ := hp 17 (by omega)
   have p18 : vs 18 = _ := hp 18 (by omega)
   have p19 : vs 19 = _ := hp 19 (by omega)
   have p20 : vs 20 = _ := hp 20 (by omega)
   have p21 : vs 21 = _ := hp 21 (by omega)
   have p22 : vs 22 = _ := hp 22 (by omega)
   have p23 : vs 23 = _ := hp 23 (by omega)
   have p24 : vs 24 = _ := hp 24 (by omega)
   have p25 : vs 25 = _ := hp 25 (by omega)
   have p26 : vs 26 = _ := hp 26 (by omega)
   have p27 : vs 27 = _ := hp 27 (by omega)
   have p28 : vs 28 = _ := hp 28 (by omega)
   have p29 : vs 29 = _ := hp 29 (by omega)
   have p30 : vs 30 = _ := hp 30 (by omega)
   clear hp
   simp only [List.take_succ_cons, List.take_zero, List.drop_succ_cons, List.drop_zero, putAll, Nat.zero_add, Nat.reduceAdd, Act.put, qsT, qsZ, qsS, p0, p1, p2, p4, p5, p6, p7, p8, p9, p10, p11, p12, p13, p14, p15, p17, p18, p19, p20, p21, p22, p23, p24, p25, p26, p27, p28, p29, p30]
   clear p0 p1 p2 p4 p5 p6 p7 p8 p9 p10 p11 p12 p13 p14 p15 p17 p18 p19 p20 p21 p22 p23 p24 p25 p26 p27 p28 p29 p30
   generalize vs 3 = y3 at *
   generalize vs 16 = y16 at *
   clear vs
   have be7 := be6.trans ((below_plus W6 x.bs x.d).mono be6.size)
   generalize plus W6 x.bs x.d = W7 at *
   go_upto_region 18 with (fail)
   refine wp_region_lit ?_
   refine wpList_plain rfl (fun K hK => ?_); go_simp; with_reducible refine hK _ _ ?_; clear hK K
   refine wpList_plain rfl (fun K hK => ?_)
   go_simp
   refine (codecStateNil _).mono ?_
   rintro e w1 ⟨rfl, rfl⟩
   with_reducible refine hK _ _ ?_
   clear hK K
   iterate 3 (refine wpList_plain rfl (fun K hK => ?_); go_simp; with_reducible refine hK _ _ ?_; clear hK K)
   refine wpList_step (fun K hK => ?_)
   go_simp
   refine (awake23 _).mono ?_
   rintro e w1 ⟨bs3, d3, rfl, rfl⟩
   with_reducible refine hK _ _ ?_
   clear hK K
   iterate 2 (refine wpList_plain rfl (fun K hK => ?_); go_simp; with_reducible refine hK _ _ ?_; clear hK K)
   go_wp2
   go_ret
   exact ⟨rfl, be7.trans ((below_plus _ _ _).mono be7.size)⟩
theorem codecStates_row (W : World) (key : List UInt8) (hk : key.length = 16) (A : Option Addr) (k : Nat) (L : List OpX) (h1 : L.length ≤ k) (h2 : k ≤ maxLen) (h3 : Rd W W.heap.size A (L.flatMap OpX.cs)) (h4 : ∀ x ∈ L, x.ok W) (hT : TabB W) :
  Calls Tryz.prog 3 #[.agg (bcs key).toArray, .slice A L.length k] W fun e W' => e = .returned (.bool true) ∧ Below W.heap.size W W' := by
 have e : maxLen ≤ 9223372036854775807 := by decide
 exact codecStates_walk key hk L A L.length k W ⟨flat_len OpX.cs 11 OpX.cs_len L, h1, h3⟩ h4 (by omega) hT
end

section
open Go.ChangeShapes Go.WideShapes Go.ChangeAt Go.RowKit
theorem trodAll_below {H : Type} {enc : TypeId × Value → H} {P : Program} (hl : laidOutB P = true) {W W' : World} (hb : Below W.heap.size W W') :
  ∀ {ts : List TypeId} {vs : List Value} {ds : List (DataW H)} {ps : List MemPlace}, (ts.all fun t => P.readableRec t && decide (t < P.types.size)) = true →
   DataW.TrodAll enc P W 0 (fun _ => true) true ts vs ds ps → DataW.TrodAll enc P W' 0 (fun b => decide (b < W.heap.size)) true ts vs ds ps
 | [], vs, ds, ps, _, h => by
  obtain ⟨rfl, rfl, rfl⟩ := trodAll_nil h
  exact trodAll_mk0
 | t :: ts, vs, ds, ps, hr, h => by
  obtain ⟨v, vs', d, ds', p, q, rfl, rfl, rfl, h0, hs⟩ := trodAll_cons h
  simp only [List.all_cons, Bool.and_eq_true, decide_eq_true_eq] at hr
  have lt0 : ∀ x ∈ p, x.block < W.heap.size := by
   obtain ⟨m, hm⟩ := h0
   exact DataW.trod_lt m _ _ _ hm
  exact trodAll_cons_mk (Below.trod hl hr.1.1 hr.1.2 h0 hb lt0) (trodAll_below hl hb (by simpa using hr.2) hs)
end

section
open Go.ChangeShapes Go.WideShapes Go.ChangeAt Go.RowKit
theorem liftL {C : Checked} {os : Go.Os} {f : FuncId} {fn : Func} {s : ChangeSpec} {H : Type} {enc : TypeId × Value → H} {tb : TypeId} {X : World → Prop} (n : Nat) (hX : ∀ w w' : World, w.heap = w'.heap → X w → X w')
  (own : ownKnob C.prog.godebug = none) (started : os.Started) (noInit : C.prog.inits.idxOf? f = none) (hfn : C.prog.funcs[f]? = some fn)
  (witness : ∃ (w : World) (tape : Tape) (i : Input), w.os = os ∧ (w.forCall tape i).Shaped C.prog ∧ i.vars = [] ∧ Input.okWide C.prog (w.forCall tape i) .any w.heap.size f i ∧
   ((s.pre enc C.prog fn [] false (w.forCall tape i).memory i.args ∧ X (w.forCall tape i).memory) ∧ sizedMet enc C.prog fn (OpenSpec.ofChange s) false (w.forCall tape i).memory i.args) ∧ ({} : Assume).holds C.prog (lone (Frame.enter C.prog f i.args .normal) [] (w.forCall tape i)))
  (hl : laidOutB C.prog = true) (hrd : (fn.params.toList.all fun t => C.prog.readableRec t && decide (t < C.prog.types.size)) = true)
  (htb : C.prog.underlying tb = some .bool) (hres : fn.resultTypes = #[tb]) (hn : fn.params.toList.length = n) (hvars : s.vars = [])
  (hspec : ∀ ds : List (DataW H), ds.length = n → (s.fn H ds).results = [.lit (.bool true)] ∧ (s.fn H ds).args = ds ∧ (s.fn H ds).vars = [])
  (walk : ∀ (W : World) (base : Nat) (args : Array Value) (ds : List (DataW H)) (ps : List MemPlace),
   (∀ (j : Nat) t v, fn.params[j]? = some t → args[j]? = some v → Value.okWide C.prog W .any base t v) →
   DataW.TrodAll enc C.prog W 0 (fun _ => true) true fn.params.toList args.toList ds ps → X W →
   Calls C.prog f args W fun e W' => e = .returned (.bool true) ∧ Below W.heap.size W W') :
  ReturnsInHanded {} C os f .any (fun w args => (s.pre enc C.prog fn [] false w args ∧ X w) ∧ sizedMet enc C.prog fn (OpenSpec.ofChange s) false w args) (s.post enc C.prog fn false true false false) := by
 refine returnsInHanded_of_change_and (C := C) (X := fun w _ => X w) (fun w w' _ hh h => hX w w' hh h) own started noInit hfn witness ?_
 intro W base args ds gs before hval hW _ _ hXW _
 have hW' := hW
 obtain ⟨p, q, hA, hV, rfl, _, _⟩ := hW
 rw [hvars] at hV
 obtain ⟨rfl, rfl⟩ := trodVars_none hV
 have hlen : ds.length = n := by
  have aux : ∀ {ts : List TypeId} {vs : List Value} {ds : List (DataW H)} {ps : List MemPlace}, DataW.TrodAll enc C.prog W 0 (fun _ => true) true ts vs ds ps → ds.length = ts.length := by
   intro ts
   induction ts with
   | nil => intro vs ds ps h; obtain ⟨_, rfl, _⟩ := trodAll_nil h; rfl
   | cons t ts ih =>
    intro vs ds ps h
    obtain ⟨v, vs', d, ds', p, q, rfl, rfl, rfl, _, hs⟩ := trodAll_cons h
    simp [ih hs]
  rw [aux hA, hn]
 obtain ⟨r1, r2, r3⟩ := hspec ds hlen
 refine (walk W base args ds p hval hA hXW).mono fun e W' ⟨he, bel⟩ => ?_
 subst he
 refine ⟨_, rfl, ds, [], p ++ [], [], p, [], hW', ?_, ?_, ?_, bel.frame _, fun h => by cases h⟩
 ·simp only [List.append_nil, r1, hres]
  exact trodAll_mk1 (shut_bool htb _)
 ·simp only [List.append_nil, r2]
  exact trodAll_below hl bel hrd hA
 ·simp only [List.append_nil, r3, hvars]
  rfl
def laidTab : List (String × DataW Unit) := [("math/bits.deBruijn64tab", Rows.laid_math_bits_deBruijn64tab)]
theorem gTab : Tryz.prog.globalNamed "math/bits.deBruijn64tab" = some 0 := by kernel_rfl
theorem tTab : (Tryz.prog.globals[0]?).map (·.type) = some 267 := by kernel_rfl
theorem laid_list : (Rows.laid_math_bits_deBruijn64tab : DataW Unit) = .agg (deB.map fun b => .lit (.int .u8 (b.toNat : Int))) := by rfl
theorem of_laid {W : World} (h : laidMetH Tryz.prog laidTab W) : TabB W := by
 rw [MakeChecks.laidMetH_plain _ _ _ (by kernel_rfl)] at h
 obtain ⟨ps, ⟨g0, t0, cs0, f0, p0, q0, hg0, ht0, hv0, hd0, _, _⟩, _, hcell⟩ := h
 obtain rfl := Option.some.inj (gTab.symm.trans hg0)
 obtain rfl := Option.some.inj (tTab.symm.trans ht0)
 obtain ⟨xs, m1, rfl, hx1, hlen, hn3, hel⟩ := DataW.trod_array Tryz.underlying267 hd0
 have c1 : Tryz.prog.cellsOf 5 = 1 := by kernel_rfl
 have c64 : Tryz.prog.cellsOf 267 = 64 := by kernel_rfl
 rw [laid_list] at hx1
 have hx2 : (deB.map fun b => DataW.lit (Lit.int .u8 (b.toNat : Int))) = xs.map (·.1) := by
  have := congrArg Prod.fst hx1
  simpa using this
 have hc : ∀ j, j < 64 → W.cell? ⟨0, j, none⟩ = (bcs deB)[j]? := by
  intro j hj
  have h0 := hel j hj
  rw [c1, Nat.mul_one] at h0
  have hxj : xs[j]? = some (xs[j]'(by omega)) := List.getElem?_eq_getElem (by omega)
  rw [hxj] at h0
  obtain ⟨k, e1, e2, _⟩ := DataW.trod_int Tryz.underlying5 h0
  have hjc : j < cs0.toList.length := by rw [hlen, c64]; exact hj
  simp only [List.drop_eq_getElem_cons hjc, List.take_succ_cons, List.take_zero, List.cons.injEq, and_true] at e1
  rw [World.var?_cell hg0 hv0 j]
  have hja : j < cs0.size := by simpa using hjc
  rw [Array.getElem?_eq_getElem hja]
  have e3 : cs0[j] = .int .u8 k := by rw [← e1]; simp
  rw [e3, bcs_get deB j (by rw [deB_len]; exact hj)]
  have h4 := congrArg (fun L : List (DataW Unit) => L[j]?) hx2
  simp only [List.getElem?_map] at h4
  rw [hxj, List.getElem?_eq_getElem (show j < deB.length by rw [deB_len]; exact hj)] at h4
  simp only [Option.map_some, Option.some.injEq] at h4
  rw [e2] at h4
  simp only [DataW.lit.injEq, Lit.int.injEq, true_and] at h4
  rw [← h4]
 have hlt : 0 < W.heap.size := by
  have h1 := hc 0 (by decide)
  exact lt_of_cell (a := ⟨0, 0, none⟩) (h1.trans (bcs_get deB 0 (by decide)))
 refine ⟨deB_len, Nat.le_refl _, .inr ⟨0, 0, rfl, hlt, fun i u hu => ?_⟩⟩
 rw [Nat.zero_add]
 have hi : i < 64 := by
  rcases Nat.lt_or_ge i 64 with h' | h'
  ·exact h'
  ·rw [List.getElem?_eq_none (by rw [bcs_length, deB_len]; exact h')] at hu
   cases hu
 exact (hc i hi).trans hu
theorem door_met (os : Go.Os) (args : Array Value) : laidMetH Tryz.prog laidTab ((World.doorLaid Tryz.prog 2000 os).forCall (fun _ _ => 0) ⟨#[], args, []⟩).memory :=
 laidMetH_of_parts3 (fuel := 8) (laidMet_of_run' 8 (by kernel_rfl) (by kernel_rfl)) (by kernel_rfl) (by kernel_rfl)
end

end Go.Proofs.YtljlflmkmjcnnaaGreatDoor
