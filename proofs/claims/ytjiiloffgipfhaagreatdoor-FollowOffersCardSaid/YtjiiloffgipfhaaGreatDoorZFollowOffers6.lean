/- Texts of the law FollowOffers, part 6. -/
import Derived.Test.YtjiiloffgipfhaaGreatDoorZFollowOffers5
set_option linter.unusedVariables false
set_option linter.unusedSimpArgs false
set_option maxHeartbeats 4000000
set_option maxRecDepth 100000
namespace Go.Proofs.YtjiiloffgipfhaaGreatDoor
section
attribute [local go_sem ↓] sliced_cut
attribute [local go_sem] cutA_zero
open Go.Lib
open Go.RowKit
theorem etRm : ET Tryz.prog 55 127 (.agg #[.int .i64 0, .int .i64 0]) 2 16 := ⟨Tryz.underlying55, by kernel_rfl, rfl, by decide, by decide⟩
structure CfR (C : Cf) : Prop where
 key : C.key.length = 16
 bl : C.bk.length = 65
 vl : C.vs.length ≤ 16
 vs : ∀ v ∈ C.vs, StkOk v.S
theorem CfOk.r {C : Cf} (h : CfOk C) : CfR C := ⟨h.key, h.bl, h.vl, fun v hv => (h.vs v hv).st⟩
def RetRo (G : Nat → Prop) (w : World) (C' : Cf) (v : Nat) (e : Ending) (w' : World) : Prop := ∃ C'' A n c E, e = .returned (.tuple #[.agg (rcC C'' A n c).toArray, .int .i64 (v : Nat)]) ∧ RcX G w' C'' A n c E ∧ Below w.heap.size w w' ∧ C''.key.length = 16 ∧ C''.bk.length = 65 ∧ (v = 0 → C'' = C') ∧ (v = 0 → RcO G w.heap.size w' C'' A n c E)
theorem RetRo.no {G : Nat → Prop} {w w' : World} {C C' : Cf} {A : Option Addr} {n c : Nat} {E : List Re} {v v' : Nat} (h : RcX G w C A n c E) (hv : v' = v) (hk : C.key.length = 16) (hb : C.bk.length = 65) (h0 : v ≠ 0) (hbw : Below w.heap.size w w') : RetRo G w C' v' (.returned (.tuple #[.agg (rcC C A n c).toArray, .int .i64 (v : Nat)])) w' := by
 subst hv
 exact ⟨C, A, n, c, E, rfl, h.later hbw, hbw, hk, hb, (fun h => absurd h h0), fun h => absurd h h0⟩
theorem RetRo.rx {G : Nat → Prop} {w w' : World} {C' : Cf} {v : Nat} {e : Ending} (h : RetRo G w C' v e w') : RetRx G w C' v e w' := by
 obtain ⟨C2, A, n, c, E, h1, h2, h3, h4, h5, h6, -⟩ := h
 exact ⟨C2, A, n, c, E, h1, h2, h3, h4, h5, h6⟩
theorem rcMembers_own {G : Nat → Prop} (k b e : Int) (vi : Nat) (six : Bool) (ah al pt pr : Nat) (wy : Int) (ms : List (Int × Int)) (B : Option Addr) (m d : Nat) (C : Cf) (hC : CfR C) (A : Option Addr) (n c : Nat) (E : List Re) (w : World) (hG : ∀ b, G b → b < w.heap.size) (hX : RcX G w C A n c E) (hr : Rs 2 w B m d (prs .i64 ms)) (hm : m ≤ 1000000) (uv : Vp) (huv : C.vs[vi]? = some uv) : Calls Tryz.prog 123 #[.agg (rcC C A n c).toArray, .agg (opC k (vi : Nat) b e six ah al pt pr wy B m d).toArray] w (RetRo G w { C with vs := C.vs.set vi (setV uv ms) } (setE C uv ms)) := by
 obtain ⟨dvr1, vr1, vr2⟩ := rowRv
 obtain ⟨dvt1, vt1, vt2⟩ := rowRst
 have hk := hC.key
 have hb := hC.bl
 have HX0 := qy hX
 have HN := qy hX.n_
 have hml : ms.length = m := by have := hr.1; rw [prs_length] at this; omega
 have HMR := qy (fun W (h : Below w.heap.size w W) => hr.later h)
 have HMR0 := qy hr
 have HRI := qy (fun W (h : Rs 2 W B m d (prs .i64 ms)) => rcRight_any C hk hb A n c ms B m d W h hm)
 have hvn : vi < n := by have := (List.getElem?_eq_some_iff.1 huv).1; have := HN.out; omega
 have hn16 : n ≤ 16 := by have := hC.vl; have := HN.out; omega
 have hok : StkOk uv.S := hC.vs uv (List.mem_of_getElem? huv)
 cases hokm : okM C ms with
 | false =>
  have HE0 := qy (show setE C uv ms = 1 by unfold setE; rw [if_pos hokm])
  rw [hokm] at HRI
  clear hokm hr
  obtain ⟨dvs1, vs1, vs2⟩ := rowRcS
  obtain ⟨dvo1, vo1, vo2⟩ := rowRo
  obtain ⟨bs, bo, be, zV⟩ := box2 w 83 57 (rcC C A n c) (opC k (vi : Nat) b e six ah al pt pr wy B m d)
  go_enter Tryz.func123, Tryz.ntmps123
  go_upto_region 1 with (fail)
  have HVe := qy (show ((w.alloc (.cells (rcC C A n c).toArray 83)).alloc (.cells (opC k (vi : Nat) b e six ah al pt pr wy B m d).toArray 57)).heap.size = w.heap.size + 1 + 1 by simp)
  generalize (w.alloc (.cells (rcC C A n c).toArray 83)).alloc (.cells (opC k (vi : Nat) b e six ah al pt pr wy B m d).toArray 57) = V at *
  have hz := Bk.newK 83 (Tryz.zeroCells83) _ HVe.out.symm rfl
  have hzl : (Tryz.zeroCells83).toList.length = 279 := by kernel_rfl
  have hv81 : (Tryz.zeroCells154).toList.length = 81 := by kernel_rfl
  have hbz : Below V.heap.size V (V.alloc (.cells (Tryz.zeroCells83) 83)) := Below.allocS (Below.refl _ _) _
  go_upto_region 1 with (fail)
  have hVs : w.heap.size + 2 ≤ V.heap.size := by have := bo.lt; omega
  generalize hV2 : V.alloc (.cells (Tryz.zeroCells83) 83) = V2 at *
  clear hV2
  generalize (Tryz.zeroCells83).toList = zl0 at *
  replace bs := bs.later hbz
  replace bo := bo.later hbz
  replace be := be.trans (hbz.mono be.size)
  clear hbz
  refine wp_region_lit ?_
  refine qA 83 (.tmp 2) bs vs1 vs2 (szRcS C hk hb A n c) ?_
  refine qw ?_
  refine qL 55 (.tmp 14) bo Tryz.underlying55 ?_
  refine wpq fun K hK => ?_
  go_simp
  refine (HRI.out _ (HMR.out _ be)).mono ?_
  rintro e w1 ⟨bs1, d1, rfl, rfl⟩
  with_reducible refine hK _ _ ?_
  clear hK K
  have hb1 := below_plus V2 bs1 d1
  replace bs := bs.later hb1
  replace bo := bo.later hb1
  replace hz := hz.later hb1
  replace be := be.trans (hb1.mono be.size)
  clear hb1
  generalize plus V2 bs1 d1 = V3 at *
  refine qw ?_
  go_upto_region 2 with (fail)
  refine wp_region_lit ?_
  refine qA 83 (.tmp 2) bs vs1 vs2 (szRcS C hk hb A n c) ?_
  simp only [Act.put, qsT, qsZ, qsS]
  refine wpList_stA (t := 83) 83 (.tmp 4) (.tmp 18) rfl rfl (rcC C A n c) zl0 (hzl.trans (rcC_len C hk hb _ _ _).symm).symm (rcL_one _ _ _ _ _ _ _ _) rfl rfl hz (szRcS C hk hb _ _ _) ?_
  intro W9 h9 g9
  refine qw ?_
  replace be := below_grown be g9 (by omega)
  go_wp2
  refine bodyPost_agg2 Tryz.results123 rfl rfl h9.range vs1 vs2 (szRcS C hk hb _ _ _) rfl ?_
  exact RetRo.no HX0.out HE0.out hk hb (by decide) be
 | true =>
  have HOKM := qy hokm
  rw [hokm] at HRI
  clear hokm
  have htk := newT_ok hok
  have hnr := next_ref (newT uv.S) htk (ms.map (·.1))
  have htl := htk.len
  have hrgT : ∀ x ∈ refT (newT uv.S), -1000 ≤ x ∧ x ≤ 1000 := fun x hx => by
   obtain ⟨s, hs, rfl⟩ := List.mem_map.1 hx
   have := htk.rg s hs
   unfold sgT
   split <;> omega
  have hlast : 0 < uv.S.lv.length → newT uv.S = (uv.S.lv[uv.S.lv.length - 1]?.map (·.2)).getD [] := fun h => by unfold newT; rw [List.getLast?_eq_getElem?]
  have hlast0 : uv.S.lv.length = 0 → newT uv.S = [] := fun h => by unfold newT; rw [List.getLast?_eq_getElem?, List.getElem?_eq_none (by omega)]; rfl
  have HTS := qy (show tabS uv.S ms = tNext (newT uv.S) (ms.map (·.1)) from rfl)
  obtain ⟨T, hT⟩ : ∃ T, T = newT uv.S := ⟨_, rfl⟩
  rw [← hT] at hnr htl hrgT hlast hlast0 HTS
  have HRN := qy (fun w' {A1 n1 c1} (h1 : Rs 1 w' A1 n1 c1 (itK (refT T))) A2 n2 c2 (h2 : Rs 1 w' A2 n2 c2 (itK (ms.map (·.1)))) => refNext_any (refT T) (ms.map (·.1)) A1 n1 c1 A2 n2 c2 w' h1 h2 (by have := h1.1; rw [itK_len] at this; simp [refT] at this; omega) (by have := h2.1; rw [itK_len] at this; simp at this; omega) hrgT)
  rw [← hnr] at HRN
  clear hT htk hnr
  generalize tNext T (ms.map (·.1)) = TT at *
  have HRP := qy (fun (D : Nat → Prop) A1 n1 c1 w' hD {A0 n0 c0} (h : RSt D w' uv.S.lv A0 n0 c0) (h2 : Rs 1 w' A1 n1 c1 (itK (refT TT))) (h3 : Off D w' A1) => refPush_any uv.S hok A0 n0 c0 TT A1 n1 c1 w' (D := D) hD h h2 h3)
  obtain ⟨ES, hES⟩ : ∃ ES, pushS uv.S TT = ES := ⟨_, rfl⟩
  rw [hES] at HRP
  have HSV := qy (show setV uv ms = { uv with S := ES, ms := ms } by unfold setV; rw [HTS.out, hES])
  rw [HSV.out]
  clear hES HTS
  generalize hPV : ((pushV uv.S : Nat) : Int) = PV at HRP
  generalize hPE : ((pushE uv.S : Nat) : Int) = PE at HRP
  have HPE := qy hPE
  clear hPV hPE
  obtain ⟨dvs1, vs1, vs2⟩ := rowRcS
  obtain ⟨dvo1, vo1, vo2⟩ := rowRo
  obtain ⟨bs, bo, be, zV⟩ := box2 w 83 57 (rcC C A n c) (opC k (vi : Nat) b e six ah al pt pr wy B m d)
  go_enter Tryz.func123, Tryz.ntmps123
  go_upto_region 1 with (fail)
  have HVe := qy (show ((w.alloc (.cells (rcC C A n c).toArray 83)).alloc (.cells (opC k (vi : Nat) b e six ah al pt pr wy B m d).toArray 57)).heap.size = w.heap.size + 1 + 1 by simp)
  generalize (w.alloc (.cells (rcC C A n c).toArray 83)).alloc (.cells (opC k (vi : Nat) b e six ah al pt pr wy B m d).toArray 57) = V at *
  have hz := Bk.newK 83 (Tryz.zeroCells83) _ HVe.out.symm rfl
  have hzl : (Tryz.zeroCells83).toList.length = 279 := by kernel_rfl
  have hv81 : (Tryz.zeroCells154).toList.length = 81 := by kernel_rfl
  have hbz : Below V.heap.size V (V.alloc (.cells (Tryz.zeroCells83) 83)) := Below.allocS (Below.refl _ _) _
  go_upto_region 1 with (fail)
  have hVs : w.heap.size + 2 ≤ V.heap.size := by have := bo.lt; omega
  generalize hV2 : V.alloc (.cells (Tryz.zeroCells83) 83) = V2 at *
  clear hV2
  generalize (Tryz.zeroCells83).toList = zl0 at *
  replace bs := bs.later hbz
  replace bo := bo.later hbz
  replace be := be.trans (hbz.mono be.size)
  clear hbz
  refine wp_region_lit ?_
  refine qA 83 (.tmp 2) bs vs1 vs2 (szRcS C hk hb A n c) ?_
  refine qw ?_
  refine qL 55 (.tmp 14) bo Tryz.underlying55 ?_
  refine wpq fun K hK => ?_
  go_simp
  refine (HRI.out _ (HMR.out _ be)).mono ?_
  rintro e w1 ⟨bs1, d1, rfl, rfl⟩
  with_reducible refine hK _ _ ?_
  clear hK K
  have hb1 := below_plus V2 bs1 d1
  replace bs := bs.later hb1
  replace bo := bo.later hb1
  replace hz := hz.later hb1
  replace be := be.trans (hb1.mono be.size)
  clear hb1
  generalize plus V2 bs1 d1 = V3 at *
  refine qw ?_
  have hlE := HX0.out.len
  obtain ⟨bl, ol, hAe, hbl, -⟩ := HX0.out.row.at_ (by omega) (by decide)
  have hrow := HX0.out.row.later be
  have q278 : V3.cell? ⟨w.heap.size, 278, none⟩ = some (.slice A n c) := (bs.cell _).trans (rcC_vips C hk hb A n c)
  rw [hAe] at hrow q278
  have hNn := HN.out
  have hrg := hrow.rangeE rvC_len vi (by omega)
  have hum : E[vi]'(by omega) ∈ E := List.getElem_mem _
  have hui : (E[vi]'(by omega)).1 = uv := by
   have h1 : (E.map (·.1))[vi]? = some (E[vi]'(by omega)).1 := by rw [List.getElem?_map, List.getElem?_eq_getElem (by omega)]; rfl
   rw [HX0.out.vs, huv] at h1
   exact (Option.some.inj h1).symm
  obtain ⟨u, hu⟩ : ∃ u, u = E[vi]'(by omega) := ⟨_, rfl⟩
  rw [← hu] at hrg hum hui
  have HSSu := HX0.out.ss u hum
  obtain ⟨uv', uA, un, uc, uB, um, ud⟩ := u
  have hui2 : uv = uv' := hui.symm
  clear hui
  subst hui2
  replace HSSu : RSt G w uv.S.lv uB um ud := HSSu
  clear hlE hAe hrow hNn hu hum
  have hvi1 : (vi : Int) < (n : Int) := by omega
  go_upto_region 3 with (fail)
  refine wp_region_lit ?_
  iterate 3 (refine qw ?_)
  refine qL 3 (.tmp 21) bo Tryz.underlying3 ?_
  refine qw ?_
  refine wpList_load_mid rfl 154 (.tmp 23) rfl bl (ol + vi * 81) rfl (rvC ((uv, ⟨uA, un, uc, uB, um, ud⟩) : Re)) _ hrg vr1 vr2 (szRv _) ?_
  refine qw ?_
  refine wpList_stA (t := 154) 154 (.tmp 6) (.tmp 24) rfl rfl (rvC ((uv, ⟨uA, un, uc, uB, um, ud⟩) : Re)) (Tryz.zeroCells154).toList (by rw [rvC_len]; exact hv81.symm) (rvC_one _) rfl rfl (Bk.new _ _ _) (szRv _) ?_
  intro W7 h7 g7
  simp only [Act.put, qsT, qsZ, qsS]
  have hbz7 := hz.lt
  replace bs := (bs.alloc (.cells (Tryz.zeroCells154) 154)).grown g7 (fun e => by injection e with e; have := bs.lt; omega)
  replace bo := (bo.alloc (.cells (Tryz.zeroCells154) 154)).grown g7 (fun e => by injection e with e; have := bo.lt; omega)
  replace hz := (hz.alloc (.cells (Tryz.zeroCells154) 154)).grown g7 (fun e => by injection e with e; have := hz.lt; omega)
  have be7 : Below w.heap.size w W7 := below_grown (Below.allocS be _) g7 (by have := be.size; omega)
  clear be g7 hrg q278
  have be := be7
  clear be7
  generalize V3.heap.size = gv at *
  have HSS := qy (fun W' (h : Below w.heap.size w W') => (HSSu.more (D' := (fun b => G b ∨ (w.heap.size ≤ b ∧ b < gv + 1))) (fun b hb => hb.elim .inl (fun h => .inr h.1))).later h)
  have hDs : ∀ W : World, gv + 1 ≤ W.heap.size → ∀ b, (fun b => G b ∨ (w.heap.size ≤ b ∧ b < gv + 1)) b → b < W.heap.size := fun W hW b hb => by
   rcases hb with hb | ⟨_, hb⟩
   ·have := hG b hb; omega
   ·omega
  have hgvs : w.heap.size + 2 < gv := by omega
  have HMW := qy (fun W' (h : Below W7.heap.size W7 W') => (hr.later be).later h)
  have hul := HSSu.len
  clear hr
  have q7 : W7.cell? ⟨gv, 7, none⟩ = some (.slice uB um ud) := h7.cell _
  by_cases h0 : 0 < um
  rotate_left
  focus
   have h00 : uv.S.lv.length = 0 := by omega
   have hTT := hlast0 h00
   have h0i : ¬ (0 : Int) < (um : Int) := by omega
   have HRW := qy (fun W' (h : Below W7.heap.size W7 W') => show Rs 1 W' none 0 0 (itK (refT T)) by rw [hTT]; exact Rs.nil_)
   clear hul hlast hlast0 h00 hTT h0
   go_upto_region 7 with (fail)
   clear q7
  rotate_left
  focus
   have hlst := hlast (by omega)
   obtain ⟨bk, ok, Aw, nw, cw, hA, -, hcw, hrw, hoff⟩ := (HSS.out W7 be).at_ (uv.S.lv.length - 1) (by omega)
   rw [List.getElem?_eq_getElem (by omega)] at hlst
   have hTT : T = (uv.S.lv[uv.S.lv.length - 1]'(by omega)).2 := hlst
   rw [← hTT] at hrw
   rw [← hul] at hcw
   rw [hA] at q7
   obtain ⟨n1, hn1⟩ : ∃ n1, um = n1 + 1 := ⟨um - 1, by omega⟩
   rw [hn1, Nat.add_sub_cancel] at hcw
   rw [hn1] at q7
   have HRW := qy (fun W' (h : Below W7.heap.size W7 W') => hrw.later h)
   have n8 : n1 + 1 ≤ 8 := by have := hok.len; omega
   have l1 : IntKind.i64.wrap (((n1 + 1 : Nat) : Int) - 1) = (n1 : Int) := by rw [IntWalk.i64_in _ (by omega)]; omega
   have l2 : IntKind.i64.wrap ((n1 : Int) + 1 - 1) = (n1 : Int) := by rw [IntWalk.i64_in _ (by omega)]; omega
   have l3 : IntKind.i64.wrap (n1 : Int) = (n1 : Int) := IntWalk.i64_in _ (by omega)
   have l4 : (n1 : Int) < ((n1 + 1 : Nat) : Int) := by omega
   have l5 : (n1 : Int) < (n1 : Int) + 1 := by omega
   have l6 : (0 : Int) < ((n1 + 1 : Nat) : Int) := by omega
   have l7 : (0 : Int) < (n1 : Int) + 1 := by omega
   clear hlst hTT hlast hlast0 hA hul hn1 h0 hrw hoff
   go_upto_region 6 with (fail)
   refine wp_region_lit ?_
   iterate 12 (refine qw ?_)
   clear q7 hcw
  iterate 2
   focus
    have qm : W7.cell? ⟨w.heap.size + 1, 10, none⟩ = some (.slice B m d) := bo.cell _
    have hO0 : Os 3 1 W7 W7.heap.size none 0 0 (itK ((ms.take 0).map (·.1))) := Os.nil_
    have HST := qy hO0
    have HQM := qy (fun W' (h : Below W7.heap.size W7 W') => show W'.cell? ⟨w.heap.size + 1, 10, none⟩ = some (.slice B m d) from (bo.later h).cell _)
    have hbeS := be.size
    have HF7 := qy (And.intro bs (And.intro bo (And.intro hz (And.intro h7 be))))
    clear hO0 bs bo hz h7 be
    go_upto_region 8 with (fail)
    clear qm
    go_loopw [8, 9] (fun L I wr => ∃ (i : Nat) (Bl : Option Addr) (kl dl : Nat), L = .slice Bl kl dl ∧ I = .int .i64 (i : Int) ∧ i ≤ m ∧ Os 3 1 wr W7.heap.size Bl kl dl (itK ((ms.take i).map (·.1))) ∧ Below W7.heap.size W7 wr) (fun _ I _ => m - (intOf I).toNat)
    case atStart => exact ⟨0, none, 0, 0, rfl, rfl, Nat.zero_le _, HST.out, Below.refl _ _⟩
    case round =>
     clear HST
     obtain ⟨i, Bl, kl, dl, rfl, rfl, hi, hO, hbl7⟩ := hrel
     have qm := HQM.out wr hbl7
     have hkl := hO.1
     rw [itK_len] at hkl
     have hkl2 : ((ms.take i).map (·.1)).length ≤ i := by simp; omega
     have hkl1 : kl ≤ 1000000 := by omega
     by_cases hil : i < m
     ·have hi1 : (i : Int) < (m : Int) := by omega
      obtain ⟨bm, om, hBe, hbm, -⟩ := HMR0.out.at_ (by omega) (by decide)
      rw [hBe] at qm
      have hmr := HMW.out wr hbl7
      rw [hBe] at hmr
      have qe : wr.cell? ⟨bm, om + i * 2, none⟩ = some (.int .i64 (ms[i]'(by omega)).1) := (hmr.range2 i (by omega)).1
      have hs := qy (show (ms.take (i + 1)).map (·.1) = (ms.take i).map (·.1) ++ [(ms[i]'(by omega)).1] by rw [List.take_succ_eq_append_getElem (by omega), List.map_append]; rfl)
      generalize (ms[i]'(by omega)).1 = xm at *
      clear hBe hmr
      have hsz7 := hbl7.size
      go_wp2_with (at_builtin; refine wpList_appS etI rfl (.tmp 48) (.tmp 55) rfl rfl (hO.later (Below.allocS (Below.refl _ _) _)) rfl (Rs.of_bk (n := 1) (c := 1) (Bk.new wr _ _) rfl (Nat.le_refl _)) (by simp [Value.oneCell']) (by omega) (by simp; omega) ?_; intro A2 n2 c2 w4 hn2 hO4 hb4 hg4; subst hn2)
      have he2 : Os 3 1 w4 W7.heap.size A2 (kl + 1) c2 (itK ((ms.take (i + 1)).map (·.1))) := by rw [hs.out, itK_append]; exact hO4
      exact ⟨⟨i + 1, A2, _, c2, rfl, by go_num, by omega, he2, (Below.allocS hbl7 _).trans hb4⟩, by simp [intOf]; omega⟩
     ·have hi1 : ¬ (i : Int) < (m : Int) := by omega
      rw [List.take_of_length_le (by omega)] at hO
      clear hi hil hkl2
      obtain ⟨bs, bo, hz, h7, be⟩ := HF7.out
      replace bs := bs.later hbl7
      replace bo := bo.later hbl7
      replace hz := hz.later hbl7
      replace h7 := h7.later hbl7
      replace be := be.trans (hbl7.mono hbeS)
      have hgv7 := h7.lt
      have HWx := qy (fun W' (h : Below wr.heap.size wr W') => show RSt (fun b => G b ∨ (w.heap.size ≤ b ∧ b < gv + 1)) W' uv.S.lv uB um ud ∧ Rs 1 W' _ _ _ (itK (refT T)) ∧ Rs 1 W' Bl kl dl (itK (ms.map (·.1))) from ⟨HSS.out W' (be.trans (h.mono be.size)), HRW.out W' (hbl7.trans (h.mono hbl7.size)), hO.rs.later h⟩)
      go_upto_region 11 with (fail)
      generalize wr = W at *
      have HW := HWx
      refine wp_relES 11 83 [8, 9] rfl (by kernel_rfl) (by kernel_rfl) ?_
      apply Steps.oneE (MP.eq _) 1 rfl (by decide)
      ·intro o ho FA x hO hD K hK
       obtain rfl := qoi ho
       have e6 := hO 6 (by kernel_rfl)
       simp only [eval_tmp, qgT, qgS, qgZ, qoS] at e6
       have ev6 := qy ((eval_tmp FA 6).trans e6)
       clear hO hD ho
       go_simp
       exact qk hK rfl
      apply Steps.oneE (MP.eq (.agg (rstC uB um ud uv.S).toArray)) 2 rfl (by decide)
      ·intro o ho FA x hO hD K hK
       obtain rfl := qoi ho
       obtain ⟨e58, ev58⟩ := qE (hD 0 58 (by kernel_rfl))
       clear hO hD ho
       refine wanted_if rfl ?_
       refine wp_ldA (cs := rvC ((uv, ⟨uA, un, uc, uB, um, ud⟩) : Re)) 152 (.tmp 58) rfl (rstC uB um ud uv.S) ev58.out (h7.later bpl) (rvC_stk ((uv, ⟨uA, un, uc, uB, um, ud⟩) : Re)) vt1 vt2 (szRst _ _ _ _) ?_
       exact qk hK rfl
      apply Steps.oneE (MP.eq _) 3 rfl (by decide)
      ·intro o ho FA x hO hD K hK
       obtain rfl := qoi ho
       have e7 := hO 7 (by kernel_rfl)
       simp only [eval_tmp, qgT, qgS, qgZ, qoS] at e7
       have ev7 := qy ((eval_tmp FA 7).trans e7)
       clear hO hD ho
       go_simp
       exact qk hK rfl
      apply Steps.oneE (MP.eq _) 4 rfl (by decide)
      ·intro o ho FA x hO hD K hK
       obtain rfl := qoi ho
       have e8 := hO 8 (by kernel_rfl)
       simp only [eval_tmp, qgT, qgS, qgZ, qoS] at e8
       have ev8 := qy ((eval_tmp FA 8).trans e8)
       clear hO hD ho
       go_simp
       exact qk hK rfl
      apply Steps.oneE (MP.osw 3 1 W.heap.size (itK (refT TT))) 5 rfl (by decide)
      ·intro o ho FA x hO hD K hK
       obtain rfl := qoi ho
       obtain ⟨e60, ev60⟩ := qE (hD 2 60 (by kernel_rfl))
       obtain ⟨e61, ev61⟩ := qE (hD 3 61 (by kernel_rfl))
       clear hO hD ho
       go_simp
       refine (HRN.out _ (HW.out _ bpl).2.1 _ _ _ (HW.out _ bpl).2.2).mono ?_
       rintro e w2 ⟨A7, n7, c7, bs7, d7, rfl, rfl, h7x⟩
       exact hK.out _ _ (Ex.plus_ _ _ _) ⟨_, _, _, rfl, h7x.mono (by simp [size_plus])⟩
      apply Steps.oneE (MP.rst (fun b => G b ∨ (w.heap.size ≤ b ∧ b < gv + 1)) ES (fun x => .tuple #[x, .int .i64 PV, .int .i64 PE])) 6 rfl (by decide)
      ·intro o ho FA x hO hD K hK
       obtain rfl := qoi ho
       obtain ⟨e59, ev59⟩ := qE (hD 1 59 (by kernel_rfl))
       obtain ⟨u62, f62, e62, ev62⟩ := qG (hD 4 62 (by kernel_rfl))
       clear hO hD ho
       obtain ⟨A7, n7, c7, rfl, h7x⟩ := f62
       go_simp
       refine (HRP.out _ _ _ _ _ (hDs _ (by simp [size_plus]; omega)) (HW.out _ bpl).1 h7x.rs (Off.own h7x (fun b hb => hDs _ (by omega) b hb))).mono ?_
       rintro e w2 ⟨A8, n8, c8, bs8, d8, rfl, rfl, h8⟩
       exact hK.out _ _ (Ex.plus_ _ _ _) ⟨_, _, _, rfl, h8⟩
      apply Steps.oneE (MP.rst (fun b => G b ∨ (w.heap.size ≤ b ∧ b < gv + 1)) ES (fun x => .tuple #[x, .int .i64 PV, .int .i64 PE])) 7 rfl (by decide)
      ·intro o ho FA x hO hD K hK
       obtain rfl := qoi ho
       obtain ⟨u63, f63, e63, ev63⟩ := qG (hD 5 63 (by kernel_rfl))
       clear hO hD ho
       go_simp
       exact qk hK f63
      apply Steps.oneE (MP.rst (fun b => G b ∨ (w.heap.size ≤ b ∧ b < gv + 1)) ES (fun x => x)) 8 rfl (by decide)
      ·intro o ho FA x hO hD K hK
       obtain rfl := qoi ho
       obtain ⟨u57, f57, e57, ev57⟩ := qG (hD 6 57 (by kernel_rfl))
       clear hO hD ho
       obtain ⟨A7, n7, c7, rfl, h7x⟩ := f57
       go_simp
       exact qk hK ⟨_, _, _, rfl, h7x⟩
      apply Steps.oneP (.int .i64 PV) 9 rfl (by decide)
      ·intro o ho FA x hO hD
       obtain rfl := qoi ho
       obtain ⟨u57, f57, e57, ev57⟩ := qG (hD 6 57 (by kernel_rfl))
       clear hO hD ho
       obtain ⟨A7, n7, c7, rfl, h7x⟩ := f57
       refine .inl ⟨by simp [Region.wanted], fun w => ?_⟩
       go_simp
      apply Steps.oneP (.int .i64 PE) 10 rfl (by decide)
      ·intro o ho FA x hO hD
       obtain rfl := qoi ho
       obtain ⟨u57, f57, e57, ev57⟩ := qG (hD 6 57 (by kernel_rfl))
       clear hO hD ho
       obtain ⟨A7, n7, c7, rfl, h7x⟩ := f57
       refine .inl ⟨by simp [Region.wanted], fun w => ?_⟩
       go_simp
      apply Steps.oneE (MP.blk W.heap.size 152 (rstC none 0 0 stk0)) 11 rfl (by decide)
      ·intro o ho FA x hO hD K hK
       obtain rfl := qoi ho
       clear hO hD ho
       go_simp
       refine hK.out _ _ (Ex.alloc _ _) ⟨_, rfl, ?_, ?_⟩
       ·simp [size_plus]
       ·refine Bk.newK _ _ _ ?_ rfl
        simp [size_plus]
      refine Steps.fin_ (fun vs x hp => ?_)
      have p4 := hp 4 qd
      have p5 := hp 5 qd
      have p6 := hp 6 qd
      have p7 := hp 7 qd
      have p10 := hp 10 qd
      simp only [qta, qtb, qda, qdb, putAll, Nat.zero_add, Nat.reduceAdd, Act.put, qsT, qsZ, qsS, qi (hp 0 qd), qi (hp 1 qd), qi (hp 2 qd), qi (hp 3 qd), qi (hp 8 qd), qi (hp 9 qd)]
      clear hp
      generalize vs 4 = y4 at *
      generalize vs 5 = y5 at *
      generalize vs 6 = y6 at *
      generalize vs 7 = y7 at *
      generalize vs 10 = y10 at *
      clear vs
      obtain ⟨A9, n9, c9, rfl, hR9⟩ := p7
      obtain ⟨g16, rfl, zg16, b16⟩ := p10
      have hb8 := below_plus W x.bs x.d
      replace bs := bs.later hb8
      replace bo := bo.later hb8
      replace hz := hz.later hb8
      replace h7 := h7.later hb8
      replace be := be.trans (hb8.mono be.size)
      clear hb8 p5 p6 HW HWx HF7 hbl7 hO qm p4
      generalize plus W x.bs x.d = Z at *
      have b16z := b16
      have hgvZ := h7.lt
      refine wpList_stA (t := 152) 152 (.tmp 10) (.tmp 64) rfl rfl (rstC A9 n9 c9 ES) (rstC none 0 0 stk0) (by rw [rstC_len, rstC_len]) (rstC_one _ _ _ _) rfl rfl b16 (szRst _ _ _ _) ?_
      intro W6 h6 g6
      iterate 2 (refine qw ?_)
      replace bs := bs.grown g6 (fun e => by injection e with e; omega)
      replace bo := bo.grown g6 (fun e => by injection e with e; omega)
      replace hz := hz.grown g6 (fun e => by injection e with e; omega)
      replace h7 := h7.grown g6 (fun e => by injection e with e; omega)
      replace hR9 := hR9.noInt b16z (by
       intro u hu k z e
       subst e
       rcases List.mem_cons.1 hu with hu | hu
       ·cases hu
       ·rcases List.mem_append.1 hu with hu | hu <;> (obtain ⟨x, _, hx⟩ := List.mem_map.1 hu; cases hx)) g6
      replace be := below_grown be g6 (by omega)
      have b16 := h6
      clear g6 h6 b16z
      have hg16 := b16.lt
      go_wp2
      go_wp2
      apply_assumption
      by_cases hpe : pushE uv.S = 0
      ·have hpi : (PE != 0) = false := by rw [← HPE.out, hpe]; rfl
       have HE0 := qy (show setE C uv ms = 0 by unfold setE; rw [if_neg (by rw [HOKM.out]; decide)]; exact hpe)
       clear hpe
       go_upto_region 14 with (fail)
       refine wp_region_lit ?_
       refine qA 152 (.tmp 10) b16 vt1 vt2 (szRst _ _ _ _) ?_
       refine qw ?_
       refine wpList_stM (t := 154) (off := 7) 152 (.tmp 72) (.tmp 71) rfl rfl (rstC A9 n9 c9 ES) (rvC ((uv, ⟨uA, un, uc, uB, um, ud⟩) : Re)) (by rw [rvC_len, rstC_len]; decide) (rstC_one _ _ _ _) rfl rfl h7 (szRst _ _ _ _) ?_
       intro W4 h4 g4
       simp only [Act.put, qsT, qsZ, qsS]
       rw [rvC_setStk] at h4
       replace h4 : Bk W4 gv 154 (rvC (({ uv with S := ES }, ⟨uA, un, uc, A9, n9, c9⟩) : Re)) := h4
       replace bs := bs.grown g4 (fun e => by injection e with e; omega)
       replace bo := bo.grown g4 (fun e => by injection e with e; omega)
       replace hz := hz.grown g4 (fun e => by injection e with e; omega)
       replace be := below_grown be g4 (by omega)
       have hR4 := hR9.chg (Chg.one g4 (Or.inr ⟨by omega, by omega⟩))
       have hmr4 := HMR.out _ be
       have hgv4 := h4.lt
       have hws4 := be.size
       clear g4 h7 hR9
       go_upto_region 15 with (fail)
       refine wp_region_lit ?_
       iterate 2 (refine qw ?_)
       refine wpList_ld1 (t := 57) (cs := opC k (vi : Nat) b e six ah al pt pr wy B m d) 55 (.tmp 74) rfl (by rfl) rfl ((bo.alloc _)) rfl Tryz.underlying55 rfl ?_
       simp only [Act.put, qsT, qsZ, qsS]
       refine wpList_appS etRm rfl (.tmp 73) (.tmp 75) rfl rfl (Os.lit W4 (Nat.le_refl _) #[] 0 rfl (Nat.zero_le _)) rfl (hmr4.alloc _) (prs_one _ _) (by omega) (by simp) ?_
       intro A3 n3 c3 w5 hn3 hO5 hb5 hg5
       obtain rfl : m = n3 := by omega
       clear hn3
       simp only [Act.put, qsT, qsZ, qsS]
       have hb5W : Below W4.heap.size W4 w5 := (Below.allocS (Below.refl _ _) _).trans hb5
       simp only [List.nil_append, Nat.zero_add] at hO5
       replace h4 := h4.later hb5W
       refine qw ?_
       refine wpList_st1 (v := .slice A3 m c3) (t := 154) (cs := rvC (({ uv with S := ES }, ⟨uA, un, uc, A9, n9, c9⟩) : Re)) (off := 6) 55 (.tmp 77) (.tmp 76) rfl rfl rfl rfl h4 (by rw [rvC_len]; decide) rfl (by kernel_rfl) ?_
       intro W5 h5 g5
       simp only [Act.put, qsT, qsZ, qsS]
       replace h5 : Bk W5 gv 154 (rvC (({ uv with S := ES, ms := ms }, ⟨A3, m, c3, A9, n9, c9⟩) : Re)) := h5
       have hbe5 := be
       replace bs := (bs.later hb5W).grown g5 (fun e => by injection e with e; omega)
       replace bo := (bo.later hb5W).grown g5 (fun e => by injection e with e; omega)
       replace hz := (hz.later hb5W).grown g5 (fun e => by injection e with e; omega)
       replace be := below_grown (be.trans (hb5W.mono be.size)) g5 (by omega)
       have hws5 := be.size
       have hgv5 := h5.lt
       have hblk := hO5.blk
       have hO6 := hO5.grown g5 (fun k hk e => by have := (hblk k hk).1; injection e with e; omega)
       have h1w : Rs 2 W5 A3 m c3 (prs .i64 ms) := hO6.rs
       have h2w : Off (fun b => G b ∨ b = w.heap.size + 1 + 1) W5 A3 := Off.own hO6 (fun b hb => hb.elim (fun h => by have := hG b h; omega) (fun h => by omega))
       have h3w : RSt (fun b => G b ∨ b = w.heap.size + 1 + 1) W5 ES.lv A9 n9 c9 := ((hR4.later hb5W).chg (Chg.one g5 (Or.inr ⟨by omega, by omega⟩))).more (fun b hb => hb.elim (fun h => .inl (.inl h)) (fun h => .inl (.inr ⟨by omega, by omega⟩)))
       have hbe5 := qy be.size
       clear hb5 hg5 g5 hR4 hmr4 hO5 hblk h4 hO6 hb5W
       go_upto_region 16 with (fail)
       refine wp_region_lit ?_
       refine qA 83 (.tmp 2) bs vs1 vs2 (szRcS C hk hb A n c) ?_
       refine qw ?_
       refine qL 3 (.tmp 79) bo Tryz.underlying3 ?_
       simp only [Act.put, qsT, qsZ, qsS]
       refine qA 154 (.tmp 6) h5 vr1 vr2 (szRv _) ?_
       refine wpq fun K hK => ?_
       go_simp
       refine (rcWith_own (G := fun b => G b ∨ b = w.heap.size + 1 + 1) C hk hb A n c E vi (({ uv with S := ES, ms := ms }, ⟨A3, m, c3, A9, n9, c9⟩) : Re) W5 (fun b hb => hb.elim (fun h => by have := hG b h; omega) (fun h => by omega)) ((HX0.out.more (fun b hb => hb.elim .inl (fun h => .inr (by omega)))).later be) hvn hn16 h1w h2w h3w).mono ?_
       rintro e w1 ⟨A8, c8, rfl, hX8, hb9⟩
       with_reducible refine hK _ _ ?_
       clear hK K
       replace hz := hz.later hb9
       replace be := be.trans (hb9.mono be.size)
       generalize hWW : w1 = W8 at *
       clear hWW
       refine wpList_stA (t := 83) 83 (.tmp 4) (.tmp 82) rfl rfl (rcC C A8 n c8) zl0 (hzl.trans (rcC_len C hk hb _ _ _).symm).symm (rcL_one _ _ _ _ _ _ _ _) rfl rfl hz (szRcS C hk hb _ _ _) ?_
       intro W9 h9 g9
       refine qw ?_
       replace be := below_grown be g9 (by omega)
       go_wp2
       refine bodyPost_agg2 Tryz.results123 rfl rfl h9.range vs1 vs2 (szRcS C hk hb _ _ _) rfl ?_
       rw [HE0.out]
       refine ⟨{ C with vs := C.vs.set vi (setV uv ms) }, A8, n, c8, E.set vi (({ uv with S := ES, ms := ms }, ⟨A3, m, c3, A9, n9, c9⟩) : Re), rfl, ?_, be, hk, hb, (fun _ => by rw [HSV.out]), fun _ => ?_⟩
       all_goals rw [HSV.out]
       ·exact ((hX8.chg (Chg.one (D := fun b => b = w.heap.size + 1 + 1) g9 rfl) (fun b h => .inr h)).more (G' := G) (fun b h => .inl (.inl h))).x
       ·exact ((hX8.chg (Chg.one (D := fun b => b = w.heap.size + 1 + 1) g9 rfl) (fun b h => .inr h)).more (G' := G) (fun b h => .inl (.inl h))).base_ hbe5.out
      ·have hpi : (PE != 0) = true := by rw [← HPE.out]; unfold pushE at hpe ⊢; split at hpe <;> simp_all
       have HE0 := qy (show ((setE C uv ms : Nat) : Int) = PE by unfold setE; rw [if_neg (by rw [HOKM.out]; decide)]; exact HPE.out)
       have hpe2 := qy (show setE C uv ms ≠ 0 by unfold setE; rw [if_neg (by rw [HOKM.out]; decide)]; exact hpe)
       clear hpe
       go_upto_region 13 with (fail)
       refine wp_region_lit ?_
       refine qA 83 (.tmp 2) bs vs1 vs2 (szRcS C hk hb A n c) ?_
       refine qw ?_
       refine wpList_stA (t := 83) 83 (.tmp 4) (.tmp 69) rfl rfl (rcC C A n c) zl0 (hzl.trans (rcC_len C hk hb _ _ _).symm).symm (rcL_one _ _ _ _ _ _ _ _) rfl rfl hz (szRcS C hk hb _ _ _) ?_
       intro W9 h9 g9
       refine qw ?_
       replace be := below_grown be g9 (by omega)
       go_wp2
       refine bodyPost_agg2 Tryz.results123 rfl rfl h9.range vs1 vs2 (szRcS C hk hb _ _ _) rfl ?_
       rw [← HE0.out]
       exact RetRo.no HX0.out rfl hk hb hpe2.out be
theorem rcMembers_any {G : Nat → Prop} (k b e : Int) (vi : Nat) (six : Bool) (ah al pt pr : Nat) (wy : Int) (ms : List (Int × Int)) (B : Option Addr) (m d : Nat) (C : Cf) (hC : CfR C) (A : Option Addr) (n c : Nat) (E : List Re) (w : World) (hG : ∀ b, G b → b < w.heap.size) (hX : RcX G w C A n c E) (hr : Rs 2 w B m d (prs .i64 ms)) (hm : m ≤ 1000000) (uv : Vp) (huv : C.vs[vi]? = some uv) : Calls Tryz.prog 123 #[.agg (rcC C A n c).toArray, .agg (opC k (vi : Nat) b e six ah al pt pr wy B m d).toArray] w (RetRx G w { C with vs := C.vs.set vi (setV uv ms) } (setE C uv ms)) :=
 (rcMembers_own k b e vi six ah al pt pr wy ms B m d C hC A n c E w hG hX hr hm uv huv).mono (fun _ _ h => h.rx)
end

section
open Go.RowKit
theorem wp_stM {P : Program} {w : World} {o : Oper} {a : Act} {K : Act → World → Prop} {Q : Exit → Act → World → Prop} (ty : TypeId) (x y : Operand) (ho : o.op = .store ty x y)
  {g off : Nat} {t : TypeId} (new old : List Value) (hl : off + new.length ≤ old.length) (h1 : ∀ u ∈ new, u.oneCell' = true) (hx : a.eval x = .pointer (some ⟨g, off, none⟩)) (hy : a.eval y = .agg new.toArray) (hb : Bk w g t old)
  (hi : (P.info? ty).map (·.size) = some new.length) (h : ∀ w', Bk w' g t (splice old off new) → w.grownBy w' (some g) → K (a.put o.dst undef) w') : o.wp P a w K Q := by
 refine wp_store_mid ty x y ho g off new.toArray hx hy (fun j hj => ?_) (by simpa using hi) (all_oneCell_toArray h1) (h _ (Bk.setMid new old off hb hl) ?_)
 ·have hj' : off + j < old.length := by simp at hj; omega
  exact ⟨by rw [hb.cell, List.getElem?_eq_getElem hj']; rfl, hb.frozen _⟩
 ·generalize off = k
  clear hi h hb hy hl hx
  induction new generalizing w k with
  | nil => exact World.grownBy.refl _ _
  | cons v r ih => exact (grownBy_setCell _ _ _ _).trans (ih (fun u hu => h1 u (List.mem_cons_of_mem _ hu)) _)
end

section
attribute [local go_sem ↓] sliced_cut
attribute [local go_sem] cutA_zero
open Go.Lib
open Go.RowKit
theorem rcDoes1 {G : Nat → Prop} (v b e : Int) (six : Bool) (ah al pt pr : Nat) (wy : Int) (ms : List (Int × Int)) (B : Option Addr) (m d : Nat) (C : Cf) (hC : CfOk C) (A : Option Addr) (n c : Nat) (E : List Re) (w : World) (hG : ∀ b, G b → b < w.heap.size) (hX : RcX G w C A n c E) (hal : al < 18446744073709551616) : Calls Tryz.prog 91 #[.agg (rcC C A n c).toArray, .agg (opC 1 v b e six ah al pt pr wy B m d).toArray] w (RetRx G w (chC C ⟨1, v, b, e, six, ah, al, pt, pr, wy, ms⟩) (chE C ⟨1, v, b, e, six, ah, al, pt, pr, wy, ms⟩)) := by
 obtain ⟨dva1, va1, va2⟩ := rowAdC
 have hk := hC.key
 have hb := hC.bl
 have HX0 := qy hX
 have HRR := qy (fun W => refAdrRightC six ah al W hal)
 have hcase : (b < 1 ∧ Hid (chE C ⟨1, v, b, e, six, ah, al, pt, pr, wy, ms⟩ = 1)) ∨ (64 < b ∧ 1 ≤ b ∧ Hid (chE C ⟨1, v, b, e, six, ah, al, pt, pr, wy, ms⟩ = 1)) ∨ (1 ≤ b ∧ b ≤ 64) := by
  rcases (by omega : b < 1 ∨ (64 < b ∧ 1 ≤ b) ∨ (1 ≤ b ∧ b ≤ 64)) with h | ⟨h, h'⟩ | h
  ·exact .inl ⟨h, qy (by unfold chE numB; simp only []; rw [decide_eq_false (show ¬ 1 ≤ b by omega)]; simp)⟩
  ·exact .inr (.inl ⟨h, h', qy (by unfold chE numB; simp only []; rw [decide_eq_false (show ¬ b ≤ 64 by omega)]; simp)⟩)
  ·exact .inr (.inr h)
 rcases hcase with ⟨h1, HE0⟩ | ⟨h1, h2, HE0⟩ | ⟨h1, h2⟩
 iterate 2
  focus
   obtain ⟨dvs1, vs1, vs2⟩ := rowRcS
   obtain ⟨dvo1, vo1, vo2⟩ := rowRo
   obtain ⟨bs, bo, be, zV⟩ := box2 w 83 57 (rcC C A n c) (opC 1 v b e six ah al pt pr wy B m d)
   go_enter Tryz.func91, Tryz.ntmps91
   go_upto_region 1 with (fail)
   have HVe := qy (show ((w.alloc (.cells (rcC C A n c).toArray 83)).alloc (.cells (opC 1 v b e six ah al pt pr wy B m d).toArray 57)).heap.size = w.heap.size + 1 + 1 by simp)
   generalize (w.alloc (.cells (rcC C A n c).toArray 83)).alloc (.cells (opC 1 v b e six ah al pt pr wy B m d).toArray 57) = V at *
   have hz := Bk.newK 83 (Tryz.zeroCells83) _ HVe.out.symm rfl
   have hzl : (Tryz.zeroCells83).toList.length = 279 := by kernel_rfl
   have hbz : Below V.heap.size V (V.alloc (.cells (Tryz.zeroCells83) 83)) := Below.allocS (Below.refl _ _) _
   go_upto_region 1 with (fail)
   have hVs : w.heap.size + 2 ≤ V.heap.size := by have := bo.lt; omega
   generalize hV2 : V.alloc (.cells (Tryz.zeroCells83) 83) = V2 at *
   clear hV2
   generalize hzc : (Tryz.zeroCells83).toList = zl0 at *
   clear hzc
   replace bs := bs.later hbz
   replace bo := bo.later hbz
   replace be := be.trans (hbz.mono be.size)
   clear hbz
   have q0 : V2.cell? ⟨w.heap.size + 1, 0, none⟩ = some (.int .i64 1) := bo.cell 0
   go_upto_region 3 with (fail)
   refine wp_region_lit ?_
   refine qw ?_
   refine qL 3 (.tmp 12) bo Tryz.underlying3 ?_
   iterate 2 (refine qw ?_)
   first | ((with_reducible refine wpList_skip ?_ ?_); (· first | (go_simp; done) | (go_simp; intro h; cases h)); simp only [Act.put, qsT, qsZ, qsS]) | (refine wpList_step (fun K hK => ?_); go_simp; (with_reducible refine hK _ _ ?_); clear hK K)
   first | ((with_reducible refine wpList_skip ?_ ?_); (· first | (go_simp; done) | (go_simp; intro h; cases h)); simp only [Act.put, qsT, qsZ, qsS]) | (refine wpList_ld1 (t := 57) (cs := opC 1 v b e six ah al pt pr wy B m d) 3 (.tmp 16) rfl (by go_simp) rfl (bo) rfl Tryz.underlying3 rfl ?_; simp only [Act.put, qsT, qsZ, qsS])
   first | ((with_reducible refine wpList_skip ?_ ?_); (· first | (go_simp; done) | (go_simp; intro h; cases h)); simp only [Act.put, qsT, qsZ, qsS]) | (refine wpList_step (fun K hK => ?_); go_simp; (with_reducible refine hK _ _ ?_); clear hK K)
   iterate 2 (refine qw ?_)
   iterate 4 ((with_reducible refine wpList_skip ?_ ?_); (· first | (go_simp; done) | (go_simp; intro h; cases h)); simp only [Act.put, qsT, qsZ, qsS])
   refine qw ?_
   go_upto_region 4 with (fail)
   refine wp_region_lit ?_
   refine qA 83 (.tmp 2) bs vs1 vs2 (szRcS C hk hb A n c) ?_
   simp only [Act.put, qsT, qsZ, qsS]
   refine wpList_stA (t := 83) 83 (.tmp 4) (.tmp 26) rfl rfl (rcC C A n c) zl0 (hzl.trans (rcC_len C (by assumption) (by assumption) _ _ _).symm).symm (rcL_one _ _ _ _ _ _ _ _) rfl rfl hz (szRcS C (by assumption) (by assumption) _ _ _) ?_
   intro W9 h9 g9
   refine qw ?_
   replace be := below_grown be g9 (by omega)
   go_wp2
   refine bodyPost_agg2 Tryz.results91 rfl rfl h9.range vs1 vs2 (szRcS C (by assumption) (by assumption) _ _ _) rfl ?_
   exact RetRx.no HX0.out HE0.out hk hb (by decide) be
 focus
  ·obtain ⟨i, rfl⟩ : ∃ i : Nat, b = i := ⟨b.toNat, by omega⟩
   cases hag : adG six ah al with
   | false =>
    have HE0 := qy (show chE C ⟨1, v, i, e, six, ah, al, pt, pr, wy, ms⟩ = 1 by unfold chE; simp only []; rw [hag]; simp)
    rw [hag] at HRR
    clear hag
    obtain ⟨dvs1, vs1, vs2⟩ := rowRcS
    obtain ⟨dvo1, vo1, vo2⟩ := rowRo
    obtain ⟨bs, bo, be, zV⟩ := box2 w 83 57 (rcC C A n c) (opC 1 v (i : Int) e six ah al pt pr wy B m d)
    go_enter Tryz.func91, Tryz.ntmps91
    go_upto_region 1 with (fail)
    have HVe := qy (show ((w.alloc (.cells (rcC C A n c).toArray 83)).alloc (.cells (opC 1 v (i : Int) e six ah al pt pr wy B m d).toArray 57)).heap.size = w.heap.size + 1 + 1 by simp)
    generalize (w.alloc (.cells (rcC C A n c).toArray 83)).alloc (.cells (opC 1 v (i : Int) e six ah al pt pr wy B m d).toArray 57) = V at *
    have hz := Bk.newK 83 (Tryz.zeroCells83) _ HVe.out.symm rfl
    have hzl : (Tryz.zeroCells83).toList.length = 279 := by kernel_rfl
    have hbz : Below V.heap.size V (V.alloc (.cells (Tryz.zeroCells83) 83)) := Below.allocS (Below.refl _ _) _
    go_upto_region 1 with (fail)
    have hVs : w.heap.size + 2 ≤ V.heap.size := by have := bo.lt; omega
    generalize hV2 : V.alloc (.cells (Tryz.zeroCells83) 83) = V2 at *
    clear hV2
    generalize hzc : (Tryz.zeroCells83).toList = zl0 at *
    clear hzc
    replace bs := bs.later hbz
    replace bo := bo.later hbz
    replace be := be.trans (hbz.mono be.size)
    clear hbz
    have q0 : V2.cell? ⟨w.heap.size + 1, 0, none⟩ = some (.int .i64 1) := bo.cell 0
    go_upto_region 3 with (fail)
    refine wp_region_lit ?_
    refine qw ?_
    refine qL 3 (.tmp 12) bo Tryz.underlying3 ?_
    iterate 2 (refine qw ?_)
    refine wpList_step (fun K hK => ?_); go_simp; with_reducible refine hK _ _ ?_; clear hK K
    refine wpList_ld1 (t := 57) (cs := opC 1 v (i : Int) e six ah al pt pr wy B m d) 3 (.tmp 16) rfl (by go_simp) rfl (bo) rfl Tryz.underlying3 rfl ?_
    refine wpList_step (fun K hK => ?_); go_simp; with_reducible refine hK _ _ ?_; clear hK K
    iterate 2 (refine qw ?_)
    refine wpList_step (fun K hK => ?_); go_simp; with_reducible refine hK _ _ ?_; clear hK K
    refine wpList_ldG (t := 57) (cs := opC 1 v (i : Int) e six ah al pt pr wy B m d) 53 (.tmp 21) rfl (by go_simp) (adC six ah al) rfl (bo) rfl va1 va2 (szAd _ _ _) ?_
    refine wpList_step (fun K hK => ?_)
    go_simp
    refine (HRR.out _).mono ?_
    rintro e w1 ⟨bs1, d1, rfl, rfl⟩
    with_reducible refine hK _ _ ?_
    clear hK K
    have hb1 := below_plus V2 bs1 d1
    replace bs := bs.later hb1
    replace bo := bo.later hb1
    replace hz := hz.later hb1
    replace be := be.trans (hb1.mono be.size)
    clear hb1
    generalize plus V2 bs1 d1 = V3 at *
    refine wpList_step (fun K hK => ?_); go_simp; with_reducible refine hK _ _ ?_; clear hK K
    refine qw ?_
    go_upto_region 4 with (fail)
    refine wp_region_lit ?_
    refine qA 83 (.tmp 2) bs vs1 vs2 (szRcS C hk hb A n c) ?_
    simp only [Act.put, qsT, qsZ, qsS]
    refine wpList_stA (t := 83) 83 (.tmp 4) (.tmp 26) rfl rfl (rcC C A n c) zl0 (hzl.trans (rcC_len C (by assumption) (by assumption) _ _ _).symm).symm (rcL_one _ _ _ _ _ _ _ _) rfl rfl hz (szRcS C (by assumption) (by assumption) _ _ _) ?_
    intro W9 h9 g9
    refine qw ?_
    replace be := below_grown be g9 (by omega)
    go_wp2
    refine bodyPost_agg2 Tryz.results91 rfl rfl h9.range vs1 vs2 (szRcS C (by assumption) (by assumption) _ _ _) rfl ?_
    exact RetRx.no HX0.out HE0.out hk hb (by decide) be
   | true =>
    have HE0 := qy (show chE C ⟨1, v, i, e, six, ah, al, pt, pr, wy, ms⟩ = 0 by unfold chE numB; simp only []; rw [hag, decide_eq_true (show (1 : Int) ≤ i by omega), decide_eq_true (show (i : Int) ≤ 64 by omega)]; rfl)
    have HC0 := qy (show chC C ⟨1, v, i, e, six, ah, al, pt, pr, wy, ms⟩ = { C with bk := C.bk.set i (some (six, ah, al)) } from rfl)
    rw [hag] at HRR
    clear hag
    have hb2 : ({ C with bk := C.bk.set i (some (six, ah, al)) } : Cf).bk.length = 65 := by simp [hb]
    have hi1 : 1 ≤ i := by omega
    have hi64 : i ≤ 64 := by omega
    have hi65 : (i : Int) < 65 := by omega
    have hi65n : i < 65 := by omega
    have HSA := qy (show splice (rcC C A n c) (18 + i * 3) (adC six ah al) = rcL C.num C.key C.now ((C.bk.map adZ).set i (six, ah, al)) (C.bk.map Option.isSome) A n c from rcL_setAd C.num C.key C.now (C.bk.map adZ) (C.bk.map Option.isSome) A n c hk (by simp [hb]) i (by omega) (six, ah, al))
    have HSL := qy (show (rcL C.num C.key C.now ((C.bk.map adZ).set i (six, ah, al)) (C.bk.map Option.isSome) A n c).length = 279 from rcL_len _ _ _ _ _ _ _ _ hk (by simp [hb]) (by simp [hb]))
    have HSB := qy (show (rcL C.num C.key C.now ((C.bk.map adZ).set i (six, ah, al)) (C.bk.map Option.isSome) A n c).set (213 + i) (.bool true) = rcC { C with bk := C.bk.set i (some (six, ah, al)) } A n c by
     rw [rcL_setBool C.num C.key C.now _ (C.bk.map Option.isSome) A n c hk (by simp [hb]) (by simp [hb]) i (by omega) true]
     unfold rcC
     simp only [List.map_set]
     rfl)
    obtain ⟨dvs1, vs1, vs2⟩ := rowRcS
    obtain ⟨dvo1, vo1, vo2⟩ := rowRo
    obtain ⟨bs, bo, be, zV⟩ := box2 w 83 57 (rcC C A n c) (opC 1 v (i : Int) e six ah al pt pr wy B m d)
    go_enter Tryz.func91, Tryz.ntmps91
    go_upto_region 1 with (fail)
    have HVe := qy (show ((w.alloc (.cells (rcC C A n c).toArray 83)).alloc (.cells (opC 1 v (i : Int) e six ah al pt pr wy B m d).toArray 57)).heap.size = w.heap.size + 1 + 1 by simp)
    generalize (w.alloc (.cells (rcC C A n c).toArray 83)).alloc (.cells (opC 1 v (i : Int) e six ah al pt pr wy B m d).toArray 57) = V at *
    have hz := Bk.newK 83 (Tryz.zeroCells83) _ HVe.out.symm rfl
    have hzl : (Tryz.zeroCells83).toList.length = 279 := by kernel_rfl
    have hbz : Below V.heap.size V (V.alloc (.cells (Tryz.zeroCells83) 83)) := Below.allocS (Below.refl _ _) _
    go_upto_region 1 with (fail)
    have hVs : w.heap.size + 2 ≤ V.heap.size := by have := bo.lt; omega
    generalize hV2 : V.alloc (.cells (Tryz.zeroCells83) 83) = V2 at *
    clear hV2
    generalize hzc : (Tryz.zeroCells83).toList = zl0 at *
    clear hzc
    replace bs := bs.later hbz
    replace bo := bo.later hbz
    replace be := be.trans (hbz.mono be.size)
    clear hbz
    have q0 : V2.cell? ⟨w.heap.size + 1, 0, none⟩ = some (.int .i64 1) := bo.cell 0
    go_upto_region 3 with (fail)
    refine wp_region_lit ?_
    refine qw ?_
    refine qL 3 (.tmp 12) bo Tryz.underlying3 ?_
    iterate 2 (refine qw ?_)
    refine wpList_step (fun K hK => ?_); go_simp; with_reducible refine hK _ _ ?_; clear hK K
    refine wpList_ld1 (t := 57) (cs := opC 1 v (i : Int) e six ah al pt pr wy B m d) 3 (.tmp 16) rfl (by go_simp) rfl (bo) rfl Tryz.underlying3 rfl ?_
    refine wpList_step (fun K hK => ?_); go_simp; with_reducible refine hK _ _ ?_; clear hK K
    iterate 2 (refine qw ?_)
    refine wpList_step (fun K hK => ?_); go_simp; with_reducible refine hK _ _ ?_; clear hK K
    refine wpList_ldG (t := 57) (cs := opC 1 v (i : Int) e six ah al pt pr wy B m d) 53 (.tmp 21) rfl (by go_simp) (adC six ah al) rfl (bo) rfl va1 va2 (szAd _ _ _) ?_
    refine wpList_step (fun K hK => ?_)
    go_simp
    refine (HRR.out _).mono ?_
    rintro e w1 ⟨bs1, d1, rfl, rfl⟩
    with_reducible refine hK _ _ ?_
    clear hK K
    have hb1 := below_plus V2 bs1 d1
    replace bs := bs.later hb1
    replace bo := bo.later hb1
    replace hz := hz.later hb1
    replace be := be.trans (hb1.mono be.size)
    clear hb1
    generalize plus V2 bs1 d1 = V3 at *
    refine wpList_step (fun K hK => ?_); go_simp; with_reducible refine hK _ _ ?_; clear hK K
    refine qw ?_
    go_upto_region 5 with (fail)
    refine wp_suS (fun b => b = w.heap.size) 12 117 2 [8, 11] rfl (by kernel_rfl) (by kernel_rfl) (fun k w' => Bk w' w.heap.size 83 (match k with | 0 => rcC C A n c | 1 => rcL C.num C.key C.now ((C.bk.map adZ).set i (six, ah, al)) (C.bk.map Option.isSome) A n c | _ => rcC { C with bk := C.bk.set i (some (six, ah, al)) } A n c)) (fun k _ _ h hx => h.later hx.below) (bs) ?_
    apply StepsC.one (MC.eq _) 1 rfl (by decide)
    ·intro o ho FA w' hC hO hD K hK
     obtain rfl := qoi ho
     have e3 := hO 3 (by kernel_rfl)
     simp only [eval_tmp, qgT, qgS, qgZ, qoS] at e3
     have ev3 := qy ((eval_tmp FA 3).trans e3)
     clear hO hD ho
     go_simp
     exact qk hK rfl
    apply StepsC.one (MC.eq _) 2 rfl (by decide)
    ·intro o ho FA w' hC hO hD K hK
     obtain rfl := qoi ho
     obtain ⟨e27, ev27⟩ := qE (hD 0 27 (by kernel_rfl))
     clear hO hD ho
     refine wanted_if rfl ?_
     refine wp_ld1 3 (.tmp 27) rfl ev27.out (bo.chg hC (by omega)) rfl Tryz.underlying3 rfl ?_
     exact qk hK rfl
    apply StepsC.one (MC.eq _) 3 rfl (by decide)
    ·intro o ho FA w' hC hO hD K hK
     obtain rfl := qoi ho
     have e3 := hO 3 (by kernel_rfl)
     simp only [eval_tmp, qgT, qgS, qgZ, qoS] at e3
     have ev3 := qy ((eval_tmp FA 3).trans e3)
     clear hO hD ho
     go_simp
     exact qk hK rfl
    apply StepsC.one (MC.eq _) 4 rfl (by decide)
    ·intro o ho FA w' hC hO hD K hK
     obtain rfl := qoi ho
     obtain ⟨e29, ev29⟩ := qE (hD 2 29 (by kernel_rfl))
     clear hO hD ho
     refine wanted_if rfl ?_
     refine wp_ld1 3 (.tmp 29) rfl ev29.out (bo.chg hC (by omega)) rfl Tryz.underlying3 rfl ?_
     exact qk hK rfl
    apply StepsC.one (MC.eq _) 5 rfl (by decide)
    ·intro o ho FA w' hC hO hD K hK
     obtain rfl := qoi ho
     have e3 := hO 3 (by kernel_rfl)
     simp only [eval_tmp, qgT, qgS, qgZ, qoS] at e3
     have ev3 := qy ((eval_tmp FA 3).trans e3)
     clear hO hD ho
     go_simp
     exact qk hK rfl
    apply StepsC.one (MC.eq _) 6 rfl (by decide)
    ·intro o ho FA w' hC hO hD K hK
     obtain rfl := qoi ho
     obtain ⟨e31, ev31⟩ := qE (hD 4 31 (by kernel_rfl))
     clear hO hD ho
     refine wanted_if rfl ?_
     refine wp_ldA 53 (.tmp 31) rfl (adC six ah al) ev31.out (bo.chg hC (by omega)) rfl va1 va2 (szAd _ _ _) ?_
     exact qk hK rfl
    apply StepsC.one (MC.eq _) 7 rfl (by decide)
    ·intro o ho FA w' hC hO hD K hK
     obtain rfl := qoi ho
     have e2 := hO 2 (by kernel_rfl)
     simp only [eval_tmp, qgT, qgS, qgZ, qoS] at e2
     have ev2 := qy ((eval_tmp FA 2).trans e2)
     clear hO hD ho
     go_simp
     exact qk hK rfl
    apply StepsC.one (MC.eq _) 8 rfl (by decide)
    ·intro o ho FA w' hC hO hD K hK
     obtain rfl := qoi ho
     obtain ⟨e33, ev33⟩ := qE (hD 6 33 (by kernel_rfl))
     obtain ⟨e28, ev28⟩ := qE (hD 1 28 (by kernel_rfl))
     clear hO hD ho
     go_simp
     exact qk hK rfl
    apply StepsC.mov (MC.any) 9 0 rfl rfl rfl
    ·intro o ho FA w' hC hO hD hS K hK
     obtain rfl := qoi ho
     obtain ⟨e34, ev34⟩ := qE (hD 7 34 (by kernel_rfl))
     obtain ⟨e32, ev32⟩ := qE (hD 5 32 (by kernel_rfl))
     clear hO hD ho
     refine wanted_if rfl ?_
     refine wp_stM (off := 18 + i * 3) 53 (.tmp 34) (.tmp 32) rfl (adC six ah al) (rcC C A n c) (by rw [rcC_len C hk hb]; simp [adC]; omega) (by simp [adC, Value.oneCell']) ev34.out ev32.out hS (szAd _ _ _) ?_
     intro w'' hn hgr
     rw [HSA.out] at hn
     exact hK.out undef _ (Chg.one hgr rfl) hn trivial
    apply StepsC.one (MC.eq _) 10 rfl (by decide)
    ·intro o ho FA w' hC hO hD K hK
     obtain rfl := qoi ho
     have e2 := hO 2 (by kernel_rfl)
     simp only [eval_tmp, qgT, qgS, qgZ, qoS] at e2
     have ev2 := qy ((eval_tmp FA 2).trans e2)
     clear hO hD ho
     go_simp
     exact qk hK rfl
    apply StepsC.one (MC.eq _) 11 rfl (by decide)
    ·intro o ho FA w' hC hO hD K hK
     obtain rfl := qoi ho
     obtain ⟨e35, ev35⟩ := qE (hD 9 35 (by kernel_rfl))
     obtain ⟨e30, ev30⟩ := qE (hD 3 30 (by kernel_rfl))
     clear hO hD ho
     go_simp
     exact qk hK rfl
    apply StepsC.mov (MC.any) 12 1 rfl rfl rfl
    ·intro o ho FA w' hC hO hD hS K hK
     obtain rfl := qoi ho
     obtain ⟨e36, ev36⟩ := qE (hD 10 36 (by kernel_rfl))
     clear hO hD ho
     refine wanted_if rfl ?_
     refine wp_st1 (v := .bool true) (off := 213 + i) (cs := rcL C.num C.key C.now ((C.bk.map adZ).set i (six, ah, al)) (C.bk.map Option.isSome) A n c) 4 (.tmp 36) (.const (.bool true)) rfl ev36.out rfl hS (by rw [HSL.out]; omega) rfl (by kernel_rfl) ?_
     intro w'' hn hgr
     rw [HSB.out] at hn
     exact hK.out undef _ (Chg.one hgr rfl) hn trivial
    refine StepsC.fin_ (fun vs w' hC hS hp => ?_)
    have p0 : vs 0 = _ := hp 0 (by omega) rfl
    have p1 : vs 1 = _ := hp 1 (by omega) rfl
    have p2 : vs 2 = _ := hp 2 (by omega) rfl
    have p3 : vs 3 = _ := hp 3 (by omega) rfl
    have p4 : vs 4 = _ := hp 4 (by omega) rfl
    have p5 : vs 5 = _ := hp 5 (by omega) rfl
    have p6 : vs 6 = _ := hp 6 (by omega) rfl
    have p7 : vs 7 = _ := hp 7 (by omega) rfl
    have p9 : vs 9 = _ := hp 9 (by omega) rfl
    have p10 : vs 10 = _ := hp 10 (by omega) rfl
    clear hp
    simp only [qta, qtb, qda, qdb, putAll, Nat.zero_add, Nat.reduceAdd, Act.put, qsT, qsZ, qsS, p0, p1, p2, p3, p4, p5, p6, p7, p9, p10]
    clear p0 p1 p2 p3 p4 p5 p6 p7 p9 p10
    clear vs
    have bsN := hS
    have hzN := hz.chg hC (by omega)
    replace be := be.trans (hC.below (B := w.heap.size) (fun b hb => by omega) be.size)
    clear hC hS hz bs bo
    have hz := hzN
    go_upto_region 6 with (fail)
    refine wp_region_lit ?_
    refine qA 83 (.tmp 2) bsN vs1 vs2 (szRcS { C with bk := C.bk.set i (some (six, ah, al)) } hk hb2 A n c) ?_
    simp only [Act.put, qsT, qsZ, qsS]
    refine wpList_stA (t := 83) 83 (.tmp 4) (.tmp 37) rfl rfl (rcC { C with bk := C.bk.set i (some (six, ah, al)) } A n c) zl0 (hzl.trans (rcC_len { C with bk := C.bk.set i (some (six, ah, al)) } (by assumption) (by assumption) _ _ _).symm).symm (rcL_one _ _ _ _ _ _ _ _) rfl rfl hz (szRcS { C with bk := C.bk.set i (some (six, ah, al)) } (by assumption) (by assumption) _ _ _) ?_
    intro W9 h9 g9
    refine qw ?_
    replace be := below_grown be g9 (by omega)
    go_wp2
    refine bodyPost_agg2 Tryz.results91 rfl rfl h9.range vs1 vs2 (szRcS { C with bk := C.bk.set i (some (six, ah, al)) } (by assumption) (by assumption) _ _ _) rfl ?_
    rw [HE0.out, HC0.out]
    exact ⟨{ C with bk := C.bk.set i (some (six, ah, al)) }, A, n, c, E, rfl, ⟨HX0.out.vs, (HX0.out.later be).row, (HX0.out.later be).off, (HX0.out.later be).mm, (HX0.out.later be).mo, (HX0.out.later be).ss⟩, be, hk, hb2, fun _ => rfl⟩
theorem RetRc.rx {G : Nat → Prop} {w : World} {v : Nat} {f : Nat} {args : Array Value} (C C7 : Cf) (h : Calls Tryz.prog f args w (RetRc G w C7 v)) (hk : C7.key.length = 16) (hb : C7.bk.length = 65) : Calls Tryz.prog f args w (RetRx G w C7 v) :=
 h.mono (fun _ _ ⟨A, n, c, E, h1, h2, h3⟩ => ⟨C7, A, n, c, E, h1, h2, h3, hk, hb, fun _ => rfl⟩)
theorem rcDoes2 {G : Nat → Prop} (v b e : Int) (six : Bool) (ah al pt pr : Nat) (wy : Int) (ms : List (Int × Int)) (B : Option Addr) (m d : Nat) (C : Cf) (hC : CfOk C) (A : Option Addr) (n c : Nat) (E : List Re) (w : World) (hG : ∀ b, G b → b < w.heap.size) (hX : RcX G w C A n c E) (hal : al < 18446744073709551616) : Calls Tryz.prog 91 #[.agg (rcC C A n c).toArray, .agg (opC 2 v b e six ah al pt pr wy B m d).toArray] w (RetRx G w (chC C ⟨2, v, b, e, six, ah, al, pt, pr, wy, ms⟩) (chE C ⟨2, v, b, e, six, ah, al, pt, pr, wy, ms⟩)) := by
 obtain ⟨dva1, va1, va2⟩ := rowAdC
 obtain ⟨dvr1, vr1, vr2⟩ := rowRv
 obtain ⟨dvt1, vt1, vt2⟩ := rowRst
 have hk := hC.key
 have hb := hC.bl
 have HX0 := qy hX
 have HE0 := qy (show chE C ⟨2, v, b, e, six, ah, al, pt, pr, wy, ms⟩ = addE C ⟨2, v, b, e, six, ah, al, pt, pr, wy, ms⟩ from rfl)
 have HCA := qy (fun W G' hG' h => RetRc.rx C _ (rcAdded_any (G := G') 2 v b e six ah al pt pr wy ms B m d C hC A n c E W hG' h hal) (by unfold addR; split <;> exact hk) (by unfold addR; split <;> exact hb))
 obtain ⟨dvs1, vs1, vs2⟩ := rowRcS
 obtain ⟨dvo1, vo1, vo2⟩ := rowRo
 obtain ⟨bs, bo, be, zV⟩ := box2 w 83 57 (rcC C A n c) (opC 2 v b e six ah al pt pr wy B m d)
 go_enter Tryz.func91, Tryz.ntmps91
 go_upto_region 1 with (fail)
 have HVe := qy (show ((w.alloc (.cells (rcC C A n c).toArray 83)).alloc (.cells (opC 2 v b e six ah al pt pr wy B m d).toArray 57)).heap.size = w.heap.size + 1 + 1 by simp)
 generalize (w.alloc (.cells (rcC C A n c).toArray 83)).alloc (.cells (opC 2 v b e six ah al pt pr wy B m d).toArray 57) = V at *
 have hz := Bk.newK 83 (Tryz.zeroCells83) _ HVe.out.symm rfl
 have hzl : (Tryz.zeroCells83).toList.length = 279 := by kernel_rfl
 have hbz : Below V.heap.size V (V.alloc (.cells (Tryz.zeroCells83) 83)) := Below.allocS (Below.refl _ _) _
 go_upto_region 1 with (fail)
 have hVs : w.heap.size + 2 ≤ V.heap.size := by have := bo.lt; omega
 generalize hV2 : V.alloc (.cells (Tryz.zeroCells83) 83) = V2 at *
 clear hV2
 generalize hzc : (Tryz.zeroCells83).toList = zl0 at *
 clear hzc
 replace bs := bs.later hbz
 replace bo := bo.later hbz
 replace be := be.trans (hbz.mono be.size)
 clear hbz
 have q0 : V2.cell? ⟨w.heap.size + 1, 0, none⟩ = some (.int .i64 2) := bo.cell 0
 go_upto_region 8 with (fail)
 refine wp_region_lit ?_
 refine qA 83 (.tmp 2) bs vs1 vs2 (szRcS C hk hb A n c) ?_
 simp only [Act.put, qsT, qsZ, qsS]
 refine qA 57 (.tmp 3) bo vo1 vo2 (szRo _ _ _ _ _ _ _ _ _ _ _ _ _) ?_
 refine wpq fun K hK => ?_
 go_simp
 refine (HCA.out V2 (fun b => G b ∨ b = w.heap.size + 1 + 1) (fun b hb => hb.elim (fun h => by have := hG b h; have := be.size; omega) (fun h => by have := hz.lt; omega) : ∀ b, (fun b => G b ∨ b = w.heap.size + 1 + 1) b → b < V2.heap.size) ((HX0.out.more (G' := fun b => G b ∨ b = w.heap.size + 1 + 1) (fun b hb => hb.elim .inl (fun h => .inr (by omega)))).later be)).mono ?_
 rintro e w1 ⟨C7, A7, n7, c7, E7, rfl, hX7, hb7, hk7, hbl7, h07⟩
 with_reducible refine hK _ _ ?_
 clear hK K
 replace hz := hz.later hb7
 replace be := be.trans (hb7.mono be.size)
 generalize hWW : w1 = W8 at *
 clear hWW
 iterate 2 (refine qw ?_)
 refine wpList_stA (t := 83) 83 (.tmp 4) (.tmp 43) rfl rfl (rcC C7 A7 n7 c7) zl0 (hzl.trans (rcC_len C7 (by assumption) (by assumption) _ _ _).symm).symm (rcL_one _ _ _ _ _ _ _ _) rfl rfl hz (szRcS C7 (by assumption) (by assumption) _ _ _) ?_
 intro W9 h9 g9
 refine qw ?_
 replace be := below_grown be g9 (by omega)
 go_wp2
 refine bodyPost_agg2 Tryz.results91 rfl rfl h9.range vs1 vs2 (szRcS C7 (by assumption) (by assumption) _ _ _) rfl ?_
 have hX9 := (hX7.chg (Chg.one (D := fun b => b = w.heap.size + 1 + 1) g9 rfl) (fun b h => .inr h)).more (G' := G) (fun b h => .inl (.inl h))
 rw [HE0.out]
 refine ⟨C7, A7, n7, c7, E7, rfl, hX9, be, hk7, hbl7, fun h => (h07 h).trans ?_⟩
 unfold addR
 rw [if_pos h]
 rfl
theorem rcDoes6 {G : Nat → Prop} (v b e : Int) (six : Bool) (ah al pt pr : Nat) (wy : Int) (ms : List (Int × Int)) (B : Option Addr) (m d : Nat) (C : Cf) (hC : CfOk C) (A : Option Addr) (n c : Nat) (E : List Re) (w : World) (hG : ∀ b, G b → b < w.heap.size) (hX : RcX G w C A n c E)  : Calls Tryz.prog 91 #[.agg (rcC C A n c).toArray, .agg (opC 6 v b e six ah al pt pr wy B m d).toArray] w (RetRx G w (chC C ⟨6, v, b, e, six, ah, al, pt, pr, wy, ms⟩) (chE C ⟨6, v, b, e, six, ah, al, pt, pr, wy, ms⟩)) := by
 obtain ⟨dva1, va1, va2⟩ := rowAdC
 obtain ⟨dvr1, vr1, vr2⟩ := rowRv
 obtain ⟨dvt1, vt1, vt2⟩ := rowRst
 have hk := hC.key
 have hb := hC.bl
 have HX0 := qy hX
 have HE0 := qy (show chE C ⟨6, v, b, e, six, ah, al, pt, pr, wy, ms⟩ = markE C 6 b from rfl)
 obtain ⟨dvs1, vs1, vs2⟩ := rowRcS
 obtain ⟨dvo1, vo1, vo2⟩ := rowRo
 obtain ⟨bs, bo, be, zV⟩ := box2 w 83 57 (rcC C A n c) (opC 6 v b e six ah al pt pr wy B m d)
 go_enter Tryz.func91, Tryz.ntmps91
 go_upto_region 1 with (fail)
 have HVe := qy (show ((w.alloc (.cells (rcC C A n c).toArray 83)).alloc (.cells (opC 6 v b e six ah al pt pr wy B m d).toArray 57)).heap.size = w.heap.size + 1 + 1 by simp)
 generalize (w.alloc (.cells (rcC C A n c).toArray 83)).alloc (.cells (opC 6 v b e six ah al pt pr wy B m d).toArray 57) = V at *
 have hz := Bk.newK 83 (Tryz.zeroCells83) _ HVe.out.symm rfl
 have hzl : (Tryz.zeroCells83).toList.length = 279 := by kernel_rfl
 have hbz : Below V.heap.size V (V.alloc (.cells (Tryz.zeroCells83) 83)) := Below.allocS (Below.refl _ _) _
 go_upto_region 1 with (fail)
 have hVs : w.heap.size + 2 ≤ V.heap.size := by have := bo.lt; omega
 generalize hV2 : V.alloc (.cells (Tryz.zeroCells83) 83) = V2 at *
 clear hV2
 generalize hzc : (Tryz.zeroCells83).toList = zl0 at *
 clear hzc
 replace bs := bs.later hbz
 replace bo := bo.later hbz
 replace be := be.trans (hbz.mono be.size)
 clear hbz
 have q0 : V2.cell? ⟨w.heap.size + 1, 0, none⟩ = some (.int .i64 6) := bo.cell 0
 go_upto_region 11 with (fail)
 refine wp_region_lit ?_
 refine qA 83 (.tmp 2) bs vs1 vs2 (szRcS C hk hb A n c) ?_
 simp only [Act.put, qsT, qsZ, qsS]
 refine qA 57 (.tmp 3) bo vo1 vo2 (szRo _ _ _ _ _ _ _ _ _ _ _ _ _) ?_
 refine wpq fun K hK => ?_
 go_simp
 refine (rcEvicted_any (G := (fun b => G b ∨ b = w.heap.size + 1 + 1)) 6 v b e six ah al pt pr wy B m d C hC A n c E V2 (fun b hb => hb.elim (fun h => by have := hG b h; have := be.size; omega) (fun h => by have := hz.lt; omega) : ∀ b, (fun b => G b ∨ b = w.heap.size + 1 + 1) b → b < V2.heap.size) ((HX0.out.more (G' := fun b => G b ∨ b = w.heap.size + 1 + 1) (fun b hb => hb.elim .inl (fun h => .inr (by omega)))).later be) (.inl rfl)).mono ?_
 rintro e w1 ⟨C7, A7, n7, c7, E7, rfl, hX7, hb7, hk7, hbl7, h07⟩
 with_reducible refine hK _ _ ?_
 clear hK K
 replace hz := hz.later hb7
 replace be := be.trans (hb7.mono be.size)
 generalize hWW : w1 = W8 at *
 clear hWW
 iterate 2 (refine qw ?_)
 refine wpList_stA (t := 83) 83 (.tmp 4) (.tmp 51) rfl rfl (rcC C7 A7 n7 c7) zl0 (hzl.trans (rcC_len C7 (by assumption) (by assumption) _ _ _).symm).symm (rcL_one _ _ _ _ _ _ _ _) rfl rfl hz (szRcS C7 (by assumption) (by assumption) _ _ _) ?_
 intro W9 h9 g9
 refine qw ?_
 replace be := below_grown be g9 (by omega)
 go_wp2
 refine bodyPost_agg2 Tryz.results91 rfl rfl h9.range vs1 vs2 (szRcS C7 (by assumption) (by assumption) _ _ _) rfl ?_
 have hX9 := (hX7.chg (Chg.one (D := fun b => b = w.heap.size + 1 + 1) g9 rfl) (fun b h => .inr h)).more (G' := G) (fun b h => .inl (.inl h))
 rw [HE0.out]
 exact ⟨C7, A7, n7, c7, E7, rfl, hX9, be, hk7, hbl7, fun h => (h07 h).trans rfl⟩
theorem rcDoes7 {G : Nat → Prop} (v b e : Int) (six : Bool) (ah al pt pr : Nat) (wy : Int) (ms : List (Int × Int)) (B : Option Addr) (m d : Nat) (C : Cf) (hC : CfOk C) (A : Option Addr) (n c : Nat) (E : List Re) (w : World) (hG : ∀ b, G b → b < w.heap.size) (hX : RcX G w C A n c E)  : Calls Tryz.prog 91 #[.agg (rcC C A n c).toArray, .agg (opC 7 v b e six ah al pt pr wy B m d).toArray] w (RetRx G w (chC C ⟨7, v, b, e, six, ah, al, pt, pr, wy, ms⟩) (chE C ⟨7, v, b, e, six, ah, al, pt, pr, wy, ms⟩)) := by
 obtain ⟨dva1, va1, va2⟩ := rowAdC
 obtain ⟨dvr1, vr1, vr2⟩ := rowRv
 obtain ⟨dvt1, vt1, vt2⟩ := rowRst
 have hk := hC.key
 have hb := hC.bl
 have HX0 := qy hX
 have HE0 := qy (show chE C ⟨7, v, b, e, six, ah, al, pt, pr, wy, ms⟩ = markE C 7 b from rfl)
 obtain ⟨dvs1, vs1, vs2⟩ := rowRcS
 obtain ⟨dvo1, vo1, vo2⟩ := rowRo
 obtain ⟨bs, bo, be, zV⟩ := box2 w 83 57 (rcC C A n c) (opC 7 v b e six ah al pt pr wy B m d)
 go_enter Tryz.func91, Tryz.ntmps91
 go_upto_region 1 with (fail)
 have HVe := qy (show ((w.alloc (.cells (rcC C A n c).toArray 83)).alloc (.cells (opC 7 v b e six ah al pt pr wy B m d).toArray 57)).heap.size = w.heap.size + 1 + 1 by simp)
 generalize (w.alloc (.cells (rcC C A n c).toArray 83)).alloc (.cells (opC 7 v b e six ah al pt pr wy B m d).toArray 57) = V at *
 have hz := Bk.newK 83 (Tryz.zeroCells83) _ HVe.out.symm rfl
 have hzl : (Tryz.zeroCells83).toList.length = 279 := by kernel_rfl
 have hbz : Below V.heap.size V (V.alloc (.cells (Tryz.zeroCells83) 83)) := Below.allocS (Below.refl _ _) _
 go_upto_region 1 with (fail)
 have hVs : w.heap.size + 2 ≤ V.heap.size := by have := bo.lt; omega
 generalize hV2 : V.alloc (.cells (Tryz.zeroCells83) 83) = V2 at *
 clear hV2
 generalize hzc : (Tryz.zeroCells83).toList = zl0 at *
 clear hzc
 replace bs := bs.later hbz
 replace bo := bo.later hbz
 replace be := be.trans (hbz.mono be.size)
 clear hbz
 have q0 : V2.cell? ⟨w.heap.size + 1, 0, none⟩ = some (.int .i64 7) := bo.cell 0
 go_upto_region 11 with (fail)
 refine wp_region_lit ?_
 refine qA 83 (.tmp 2) bs vs1 vs2 (szRcS C hk hb A n c) ?_
 simp only [Act.put, qsT, qsZ, qsS]
 refine qA 57 (.tmp 3) bo vo1 vo2 (szRo _ _ _ _ _ _ _ _ _ _ _ _ _) ?_
 refine wpq fun K hK => ?_
 go_simp
 refine (rcEvicted_any (G := (fun b => G b ∨ b = w.heap.size + 1 + 1)) 7 v b e six ah al pt pr wy B m d C hC A n c E V2 (fun b hb => hb.elim (fun h => by have := hG b h; have := be.size; omega) (fun h => by have := hz.lt; omega) : ∀ b, (fun b => G b ∨ b = w.heap.size + 1 + 1) b → b < V2.heap.size) ((HX0.out.more (G' := fun b => G b ∨ b = w.heap.size + 1 + 1) (fun b hb => hb.elim .inl (fun h => .inr (by omega)))).later be) (.inr rfl)).mono ?_
 rintro e w1 ⟨C7, A7, n7, c7, E7, rfl, hX7, hb7, hk7, hbl7, h07⟩
 with_reducible refine hK _ _ ?_
 clear hK K
 replace hz := hz.later hb7
 replace be := be.trans (hb7.mono be.size)
 generalize hWW : w1 = W8 at *
 clear hWW
 iterate 2 (refine qw ?_)
 refine wpList_stA (t := 83) 83 (.tmp 4) (.tmp 51) rfl rfl (rcC C7 A7 n7 c7) zl0 (hzl.trans (rcC_len C7 (by assumption) (by assumption) _ _ _).symm).symm (rcL_one _ _ _ _ _ _ _ _) rfl rfl hz (szRcS C7 (by assumption) (by assumption) _ _ _) ?_
 intro W9 h9 g9
 refine qw ?_
 replace be := below_grown be g9 (by omega)
 go_wp2
 refine bodyPost_agg2 Tryz.results91 rfl rfl h9.range vs1 vs2 (szRcS C7 (by assumption) (by assumption) _ _ _) rfl ?_
 have hX9 := (hX7.chg (Chg.one (D := fun b => b = w.heap.size + 1 + 1) g9 rfl) (fun b h => .inr h)).more (G' := G) (fun b h => .inl (.inl h))
 rw [HE0.out]
 exact ⟨C7, A7, n7, c7, E7, rfl, hX9, be, hk7, hbl7, fun h => (h07 h).trans rfl⟩
theorem rcDoes8 {G : Nat → Prop} (v b e : Int) (six : Bool) (ah al pt pr : Nat) (wy : Int) (ms : List (Int × Int)) (B : Option Addr) (m d : Nat) (C : Cf) (hC : CfOk C) (A : Option Addr) (n c : Nat) (E : List Re) (w : World) (hG : ∀ b, G b → b < w.heap.size) (hX : RcX G w C A n c E)  : Calls Tryz.prog 91 #[.agg (rcC C A n c).toArray, .agg (opC 8 v b e six ah al pt pr wy B m d).toArray] w (RetRx G w (chC C ⟨8, v, b, e, six, ah, al, pt, pr, wy, ms⟩) (chE C ⟨8, v, b, e, six, ah, al, pt, pr, wy, ms⟩)) := by
 obtain ⟨dva1, va1, va2⟩ := rowAdC
 obtain ⟨dvr1, vr1, vr2⟩ := rowRv
 obtain ⟨dvt1, vt1, vt2⟩ := rowRst
 have hk := hC.key
 have hb := hC.bl
 have HX0 := qy hX
 have HE0 := qy (show chE C ⟨8, v, b, e, six, ah, al, pt, pr, wy, ms⟩ = 0 from rfl)
 have hw8 : IntKind.u64.wrap ((C.now : Int) + 1) = (((C.now + 1) % 18446744073709551616 : Nat) : Int) := by rw [IntKind.wrap_u64]; omega
 have HS8 := qy (show (rcC C A n c).set 17 (.int .u64 (((C.now + 1) % 18446744073709551616 : Nat) : Int)) = rcC { C with now := (C.now + 1) % 18446744073709551616 } A n c from rcL_setNow _ _ _ _ _ _ _ _ hk _)
 obtain ⟨dvs1, vs1, vs2⟩ := rowRcS
 obtain ⟨dvo1, vo1, vo2⟩ := rowRo
 obtain ⟨bs, bo, be, zV⟩ := box2 w 83 57 (rcC C A n c) (opC 8 v b e six ah al pt pr wy B m d)
 go_enter Tryz.func91, Tryz.ntmps91
 go_upto_region 1 with (fail)
 have HVe := qy (show ((w.alloc (.cells (rcC C A n c).toArray 83)).alloc (.cells (opC 8 v b e six ah al pt pr wy B m d).toArray 57)).heap.size = w.heap.size + 1 + 1 by simp)
 generalize (w.alloc (.cells (rcC C A n c).toArray 83)).alloc (.cells (opC 8 v b e six ah al pt pr wy B m d).toArray 57) = V at *
 have hz := Bk.newK 83 (Tryz.zeroCells83) _ HVe.out.symm rfl
 have hzl : (Tryz.zeroCells83).toList.length = 279 := by kernel_rfl
 have hbz : Below V.heap.size V (V.alloc (.cells (Tryz.zeroCells83) 83)) := Below.allocS (Below.refl _ _) _
 go_upto_region 1 with (fail)
 have hVs : w.heap.size + 2 ≤ V.heap.size := by have := bo.lt; omega
 generalize hV2 : V.alloc (.cells (Tryz.zeroCells83) 83) = V2 at *
 clear hV2
 generalize hzc : (Tryz.zeroCells83).toList = zl0 at *
 clear hzc
 replace bs := bs.later hbz
 replace bo := bo.later hbz
 replace be := be.trans (hbz.mono be.size)
 clear hbz
 have q0 : V2.cell? ⟨w.heap.size + 1, 0, none⟩ = some (.int .i64 8) := bo.cell 0
 go_upto_region 13 with (fail)
 refine wp_region_lit ?_
 iterate 2 (refine qw ?_)
 refine wpList_ld1 (t := 83) (cs := rcC C A n c) 23 (.tmp 56) rfl rfl rfl bs (rcL_now _ _ _ _ _ _ _ _ hk) Tryz.underlying23 rfl ?_
 iterate 3 (refine qw ?_)
 refine wpList_st1 (v := .int .u64 (((C.now + 1) % 18446744073709551616 : Nat) : Int)) (t := 83) (cs := rcC C A n c) (off := 17) 23 (.tmp 60) (.tmp 58) rfl rfl rfl rfl bs (by rw [rcC_len C hk hb]; omega) rfl (by kernel_rfl) ?_
 intro W8 h8 g8
 simp only [Act.put, qsT, qsZ, qsS]
 rw [HS8.out] at h8
 have hz8 := hz.grown g8 (fun e => by injection e with e; have := hz.lt; omega)
 have be8 := below_grown be g8 (Nat.le_refl _)
 clear hz be g8 bs bo q0
 have hz := hz8
 have be := be8
 go_upto_region 14 with (fail)
 refine wp_region_lit ?_
 refine qA 83 (.tmp 2) h8 vs1 vs2 (szRcS { C with now := (C.now + 1) % 18446744073709551616 } hk hb A n c) ?_
 simp only [Act.put, qsT, qsZ, qsS]
 refine wpList_stA (t := 83) 83 (.tmp 4) (.tmp 61) rfl rfl (rcC { C with now := (C.now + 1) % 18446744073709551616 } A n c) zl0 (hzl.trans (rcC_len { C with now := (C.now + 1) % 18446744073709551616 } (by assumption) (by assumption) _ _ _).symm).symm (rcL_one _ _ _ _ _ _ _ _) rfl rfl hz (szRcS { C with now := (C.now + 1) % 18446744073709551616 } (by assumption) (by assumption) _ _ _) ?_
 intro W9 h9 g9
 refine qw ?_
 replace be := below_grown be g9 (by omega)
 go_wp2
 refine bodyPost_agg2 Tryz.results91 rfl rfl h9.range vs1 vs2 (szRcS { C with now := (C.now + 1) % 18446744073709551616 } (by assumption) (by assumption) _ _ _) rfl ?_
 rw [HE0.out]
 exact ⟨{ C with now := (C.now + 1) % 18446744073709551616 }, A, n, c, E, rfl, ⟨HX0.out.vs, (HX0.out.later be).row, (HX0.out.later be).off, (HX0.out.later be).mm, (HX0.out.later be).mo, (HX0.out.later be).ss⟩, be, hk, hb, fun _ => rfl⟩
theorem rcDoesN {G : Nat → Prop} (k v b e : Int) (six : Bool) (ah al pt pr : Nat) (wy : Int) (ms : List (Int × Int)) (B : Option Addr) (m d : Nat) (C : Cf) (hC : CfOk C) (A : Option Addr) (n c : Nat) (E : List Re) (w : World) (hG : ∀ b, G b → b < w.heap.size) (hX : RcX G w C A n c E) (hk1 : ¬ k = 1) (hk2 : ¬ k = 2) (hk67 : ¬ (k = 6 ∨ k = 7)) (hk8 : ¬ k = 8) (hvv : v < 0 ∨ (n : Int) ≤ v) : Calls Tryz.prog 91 #[.agg (rcC C A n c).toArray, .agg (opC k v b e six ah al pt pr wy B m d).toArray] w (RetRx G w (chC C ⟨k, v, b, e, six, ah, al, pt, pr, wy, ms⟩) (chE C ⟨k, v, b, e, six, ah, al, pt, pr, wy, ms⟩)) := by
 obtain ⟨dva1, va1, va2⟩ := rowAdC
 obtain ⟨dvr1, vr1, vr2⟩ := rowRv
 obtain ⟨dvt1, vt1, vt2⟩ := rowRst
 have hk := hC.key
 have hb := hC.bl
 have HX0 := qy hX
 have hv : vAt C v = none := by
  unfold vAt
  split
  ·rw [List.getElem?_eq_none_iff]
   have := hX.n_
   omega
  ·rfl
 have HE0 := qy (show chE C ⟨k, v, b, e, six, ah, al, pt, pr, wy, ms⟩ = 6 by unfold chE; simp only []; rw [if_neg hk1, if_neg hk2, if_neg hk67, if_neg hk8, hv])
 clear hv
 have k1 : (k == 1) = false := by simpa using hk1
 have k2 : (k == 2) = false := by simpa using hk2
 have k6 : (k == 6) = false := by simp; omega
 have k7 : (k == 7) = false := by simp; omega
 have k8 : (k == 8) = false := by simpa using hk8
 clear hk1 hk2 hk67 hk8
 by_cases hv0 : v < 0
 ·clear hvv
  obtain ⟨dvs1, vs1, vs2⟩ := rowRcS
  obtain ⟨dvo1, vo1, vo2⟩ := rowRo
  obtain ⟨bs, bo, be, zV⟩ := box2 w 83 57 (rcC C A n c) (opC k v b e six ah al pt pr wy B m d)
  go_enter Tryz.func91, Tryz.ntmps91
  go_upto_region 1 with (fail)
  have HVe := qy (show ((w.alloc (.cells (rcC C A n c).toArray 83)).alloc (.cells (opC k v b e six ah al pt pr wy B m d).toArray 57)).heap.size = w.heap.size + 1 + 1 by simp)
  generalize (w.alloc (.cells (rcC C A n c).toArray 83)).alloc (.cells (opC k v b e six ah al pt pr wy B m d).toArray 57) = V at *
  have hz := Bk.newK 83 (Tryz.zeroCells83) _ HVe.out.symm rfl
  have hzl : (Tryz.zeroCells83).toList.length = 279 := by kernel_rfl
  have hbz : Below V.heap.size V (V.alloc (.cells (Tryz.zeroCells83) 83)) := Below.allocS (Below.refl _ _) _
  go_upto_region 1 with (fail)
  have hVs : w.heap.size + 2 ≤ V.heap.size := by have := bo.lt; omega
  generalize hV2 : V.alloc (.cells (Tryz.zeroCells83) 83) = V2 at *
  clear hV2
  generalize hzc : (Tryz.zeroCells83).toList = zl0 at *
  clear hzc
  replace bs := bs.later hbz
  replace bo := bo.later hbz
  replace be := be.trans (hbz.mono be.size)
  clear hbz
  have q0 : V2.cell? ⟨w.heap.size + 1, 0, none⟩ = some (.int .i64 k) := bo.cell 0
  go_upto_region 15 with (fail)
  refine wp_region_lit ?_
  refine qw ?_
  refine qL 3 (.tmp 62) bo Tryz.underlying3 ?_
  iterate 2 (refine qw ?_)
  iterate 6 ((with_reducible refine wpList_skip ?_ ?_); (· first | (go_simp; done) | (go_simp; intro h; cases h)); simp only [Act.put, qsT, qsZ, qsS])
  refine qw ?_
  go_upto_region 16 with (fail)
  refine wp_region_lit ?_
  refine qA 83 (.tmp 2) bs vs1 vs2 (szRcS C hk hb A n c) ?_
  simp only [Act.put, qsT, qsZ, qsS]
  refine wpList_stA (t := 83) 83 (.tmp 4) (.tmp 73) rfl rfl (rcC C A n c) zl0 (hzl.trans (rcC_len C (by assumption) (by assumption) _ _ _).symm).symm (rcL_one _ _ _ _ _ _ _ _) rfl rfl hz (szRcS C (by assumption) (by assumption) _ _ _) ?_
  intro W9 h9 g9
  refine qw ?_
  replace be := below_grown be g9 (by omega)
  go_wp2
  refine bodyPost_agg2 Tryz.results91 rfl rfl h9.range vs1 vs2 (szRcS C (by assumption) (by assumption) _ _ _) rfl ?_
  exact RetRx.no HX0.out HE0.out hk hb (by decide) be
 ·have hvn : (n : Int) ≤ v := by omega
  clear hvv
  obtain ⟨dvs1, vs1, vs2⟩ := rowRcS
  obtain ⟨dvo1, vo1, vo2⟩ := rowRo
  obtain ⟨bs, bo, be, zV⟩ := box2 w 83 57 (rcC C A n c) (opC k v b e six ah al pt pr wy B m d)
  go_enter Tryz.func91, Tryz.ntmps91
  go_upto_region 1 with (fail)
  have HVe := qy (show ((w.alloc (.cells (rcC C A n c).toArray 83)).alloc (.cells (opC k v b e six ah al pt pr wy B m d).toArray 57)).heap.size = w.heap.size + 1 + 1 by simp)
  generalize (w.alloc (.cells (rcC C A n c).toArray 83)).alloc (.cells (opC k v b e six ah al pt pr wy B m d).toArray 57) = V at *
  have hz := Bk.newK 83 (Tryz.zeroCells83) _ HVe.out.symm rfl
  have hzl : (Tryz.zeroCells83).toList.length = 279 := by kernel_rfl
  have hbz : Below V.heap.size V (V.alloc (.cells (Tryz.zeroCells83) 83)) := Below.allocS (Below.refl _ _) _
  go_upto_region 1 with (fail)
  have hVs : w.heap.size + 2 ≤ V.heap.size := by have := bo.lt; omega
  generalize hV2 : V.alloc (.cells (Tryz.zeroCells83) 83) = V2 at *
  clear hV2
  generalize hzc : (Tryz.zeroCells83).toList = zl0 at *
  clear hzc
  replace bs := bs.later hbz
  replace bo := bo.later hbz
  replace be := be.trans (hbz.mono be.size)
  clear hbz
  have q0 : V2.cell? ⟨w.heap.size + 1, 0, none⟩ = some (.int .i64 k) := bo.cell 0
  go_upto_region 15 with (fail)
  refine wp_region_lit ?_
  refine qw ?_
  refine qL 3 (.tmp 62) bo Tryz.underlying3 ?_
  iterate 2 (refine qw ?_)
  refine wpList_step (fun K hK => ?_); go_simp; with_reducible refine hK _ _ ?_; clear hK K
  refine wpList_ld1 (t := 57) (cs := opC k v b e six ah al pt pr wy B m d) 3 (.tmp 66) rfl (by go_simp) rfl (bo) rfl Tryz.underlying3 rfl ?_
  refine wpList_step (fun K hK => ?_); go_simp; with_reducible refine hK _ _ ?_; clear hK K
  refine wpList_ld1 (t := 83) (cs := rcC C A n c) 81 (.tmp 68) rfl (by go_simp) rfl bs (rcC_vips C hk hb A n c) Tryz.underlying81 rfl ?_
  iterate 2 (refine wpList_step (fun K hK => ?_); go_simp; with_reducible refine hK _ _ ?_; clear hK K)
  refine qw ?_
  go_upto_region 16 with (fail)
  refine wp_region_lit ?_
  refine qA 83 (.tmp 2) bs vs1 vs2 (szRcS C hk hb A n c) ?_
  simp only [Act.put, qsT, qsZ, qsS]
  refine wpList_stA (t := 83) 83 (.tmp 4) (.tmp 73) rfl rfl (rcC C A n c) zl0 (hzl.trans (rcC_len C (by assumption) (by assumption) _ _ _).symm).symm (rcL_one _ _ _ _ _ _ _ _) rfl rfl hz (szRcS C (by assumption) (by assumption) _ _ _) ?_
  intro W9 h9 g9
  refine qw ?_
  replace be := below_grown be g9 (by omega)
  go_wp2
  refine bodyPost_agg2 Tryz.results91 rfl rfl h9.range vs1 vs2 (szRcS C (by assumption) (by assumption) _ _ _) rfl ?_
  exact RetRx.no HX0.out HE0.out hk hb (by decide) be
theorem rcDoesV {G : Nat → Prop} (k b e : Int) (vi : Nat) (six : Bool) (ah al pt pr : Nat) (wy : Int) (ms : List (Int × Int)) (B : Option Addr) (m d : Nat) (C : Cf) (hC : CfR C) (A : Option Addr) (n c : Nat) (E : List Re) (w : World) (hG : ∀ b, G b → b < w.heap.size) (hX : RcX G w C A n c E) (hr : Rs 2 w B m d (prs .i64 ms)) (hm : m ≤ 1000000) (uv : Vp) (huv : C.vs[vi]? = some uv) (hk1 : ¬ k = 1) (hk2 : ¬ k = 2) (hk67 : ¬ (k = 6 ∨ k = 7)) (hk8 : ¬ k = 8) : Calls Tryz.prog 91 #[.agg (rcC C A n c).toArray, .agg (opC k (vi : Nat) b e six ah al pt pr wy B m d).toArray] w (RetRx G w (chC C ⟨k, ((vi : Nat) : Int), b, e, six, ah, al, pt, pr, wy, ms⟩) (chE C ⟨k, ((vi : Nat) : Int), b, e, six, ah, al, pt, pr, wy, ms⟩)) := by
 obtain ⟨dva1, va1, va2⟩ := rowAdC
 obtain ⟨dvr1, vr1, vr2⟩ := rowRv
 obtain ⟨dvt1, vt1, vt2⟩ := rowRst
 have hk := hC.key
 have hb := hC.bl
 have HX0 := qy hX
 have hvn : vi < n := by have := (List.getElem?_eq_some_iff.1 huv).1; have := hX.n_; omega
 have hn16 : n ≤ 16 := by have := hC.vl; have := hX.n_; omega
 have hvi1 : (vi : Int) < (n : Int) := by omega
 have hvi2 : ¬ (n : Int) ≤ (vi : Int) := by omega
 have hok : StkOk uv.S := hC.vs uv (List.mem_of_getElem? huv)
 have HMR := qy hr
 clear hr
 have HEV := qy (show chE C ⟨k, ((vi : Nat) : Int), b, e, six, ah, al, pt, pr, wy, ms⟩ = vipE C ⟨k, ((vi : Nat) : Int), b, e, six, ah, al, pt, pr, wy, ms⟩ uv by unfold chE vAt; simp only []; rw [if_neg hk1, if_neg hk2, if_neg hk67, if_neg hk8, if_pos (by omega), Int.toNat_natCast, huv])
 have HCV := qy (show chC C ⟨k, ((vi : Nat) : Int), b, e, six, ah, al, pt, pr, wy, ms⟩ = { C with vs := C.vs.set vi (vipV ⟨k, ((vi : Nat) : Int), b, e, six, ah, al, pt, pr, wy, ms⟩ uv) } by unfold chC vAt; simp only []; rw [if_neg hk1, if_neg hk2, if_neg hk67, if_neg hk8, if_pos (by omega), Int.toNat_natCast, huv])
 have k1 : (k == 1) = false := by simpa using hk1
 have k2 : (k == 2) = false := by simpa using hk2
 have k6 : (k == 6) = false := by simp; omega
 have k7 : (k == 7) = false := by simp; omega
 have k8 : (k == 8) = false := by simpa using hk8
 clear hk1 hk2 hk67 hk8
 obtain ⟨dvs1, vs1, vs2⟩ := rowRcS
 obtain ⟨dvo1, vo1, vo2⟩ := rowRo
 obtain ⟨bs, bo, be, zV⟩ := box2 w 83 57 (rcC C A n c) (opC k (vi : Nat) b e six ah al pt pr wy B m d)
 go_enter Tryz.func91, Tryz.ntmps91
 go_upto_region 1 with (fail)
 have HVe := qy (show ((w.alloc (.cells (rcC C A n c).toArray 83)).alloc (.cells (opC k (vi : Nat) b e six ah al pt pr wy B m d).toArray 57)).heap.size = w.heap.size + 1 + 1 by simp)
 generalize (w.alloc (.cells (rcC C A n c).toArray 83)).alloc (.cells (opC k (vi : Nat) b e six ah al pt pr wy B m d).toArray 57) = V at *
 have hz := Bk.newK 83 (Tryz.zeroCells83) _ HVe.out.symm rfl
 have hzl : (Tryz.zeroCells83).toList.length = 279 := by kernel_rfl
 have hbz : Below V.heap.size V (V.alloc (.cells (Tryz.zeroCells83) 83)) := Below.allocS (Below.refl _ _) _
 go_upto_region 1 with (fail)
 have hVs : w.heap.size + 2 ≤ V.heap.size := by have := bo.lt; omega
 generalize hV2 : V.alloc (.cells (Tryz.zeroCells83) 83) = V2 at *
 clear hV2
 generalize hzc : (Tryz.zeroCells83).toList = zl0 at *
 clear hzc
 replace bs := bs.later hbz
 replace bo := bo.later hbz
 replace be := be.trans (hbz.mono be.size)
 clear hbz
 have q0 : V2.cell? ⟨w.heap.size + 1, 0, none⟩ = some (.int .i64 k) := bo.cell 0
 have hv81 : (Tryz.zeroCells154).toList.length = 81 := by kernel_rfl
 go_upto_region 15 with (fail)
 refine wp_region_lit ?_
 refine qw ?_
 refine qL 3 (.tmp 62) bo Tryz.underlying3 ?_
 iterate 2 (refine qw ?_)
 refine wpList_step (fun K hK => ?_); go_simp; with_reducible refine hK _ _ ?_; clear hK K
 refine wpList_ld1 (t := 57) (cs := opC k (vi : Nat) b e six ah al pt pr wy B m d) 3 (.tmp 66) rfl (by go_simp) rfl (bo) rfl Tryz.underlying3 rfl ?_
 refine wpList_step (fun K hK => ?_); go_simp; with_reducible refine hK _ _ ?_; clear hK K
 refine wpList_ld1 (t := 83) (cs := rcC C A n c) 81 (.tmp 68) rfl (by go_simp) rfl bs (rcC_vips C hk hb A n c) Tryz.underlying81 rfl ?_
 iterate 2 (refine wpList_step (fun K hK => ?_); go_simp; with_reducible refine hK _ _ ?_; clear hK K)
 refine qw ?_
 have hlE := HX0.out.len
 have hNn := HX0.out.n_
 obtain ⟨bl, ol, hAe, hbl, -⟩ := HX0.out.row.at_ (by omega) (by decide)
 have hrow := HX0.out.row.later be
 rw [hAe] at hrow
 have hvip : (rcC C A n c)[278]? = some (.slice (some ⟨bl, ol, none⟩) n c) := by rw [← hAe]; exact rcC_vips C hk hb A n c
 have hrg := hrow.rangeE rvC_len vi (by omega)
 have hum : E[vi]'(by omega) ∈ E := List.getElem_mem _
 have hui : (E[vi]'(by omega)).1 = uv := by
  have h1 : (E.map (·.1))[vi]? = some (E[vi]'(by omega)).1 := by rw [List.getElem?_map, List.getElem?_eq_getElem (by omega)]; rfl
  rw [HX0.out.vs, huv] at h1
  exact (Option.some.inj h1).symm
 obtain ⟨u, hu⟩ : ∃ u, u = E[vi]'(by omega) := ⟨_, rfl⟩
 rw [← hu] at hrg hum hui
 have HSSu := HX0.out.ss u hum
 have HMMu := HX0.out.mm u hum
 have HMOu := HX0.out.mo u hum
 obtain ⟨uv', uA, un, uc, uB, um, ud⟩ := u
 have hui2 : uv = uv' := hui.symm
 clear hui
 subst hui2
 replace HSSu : RSt G w uv.S.lv uB um ud := HSSu
 replace HMMu : Rs 2 w uA un uc (prs .i64 uv.ms) := HMMu
 replace HMOu : Off G w uA := HMOu
 clear hlE hAe hrow hNn hu hum
 go_upto_region 17 with (fail)
 refine wp_region_lit ?_
 refine qw ?_
 refine wpList_ld1 (t := 83) (cs := rcC C A n c) 81 (.tmp 74) rfl rfl rfl bs hvip Tryz.underlying81 rfl ?_
 refine qw ?_
 refine qL 3 (.tmp 76) bo Tryz.underlying3 ?_
 refine qw ?_
 refine wpList_load_mid rfl 154 (.tmp 78) rfl bl (ol + vi * 81) rfl (rvC ((uv, ⟨uA, un, uc, uB, um, ud⟩) : Re)) _ hrg vr1 vr2 (szRv _) ?_
 refine qw ?_
 refine wpList_stA (t := 154) 154 (.tmp 6) (.tmp 79) rfl rfl (rvC ((uv, ⟨uA, un, uc, uB, um, ud⟩) : Re)) (Tryz.zeroCells154).toList (by rw [rvC_len]; exact hv81.symm) (rvC_one _) rfl rfl (Bk.new _ _ _) (szRv _) ?_
 intro W7 h7 g7
 simp only [Act.put, qsT, qsZ, qsS]
 have hbz7 := hz.lt
 replace bs := (bs.alloc (.cells (Tryz.zeroCells154) 154)).grown g7 (fun e => by injection e with e; have := bs.lt; omega)
 replace bo := (bo.alloc (.cells (Tryz.zeroCells154) 154)).grown g7 (fun e => by injection e with e; have := bo.lt; omega)
 replace hz := (hz.alloc (.cells (Tryz.zeroCells154) 154)).grown g7 (fun e => by injection e with e; have := hz.lt; omega)
 have be7 : Below w.heap.size w W7 := below_grown (Below.allocS be _) g7 (by have := be.size; omega)
 clear be g7 hrg hvip
 have be := be7
 clear be7
 generalize V2.heap.size = gv at *
 have q0 : W7.cell? ⟨w.heap.size + 1, 0, none⟩ = some (.int .i64 k) := bo.cell 0
 have hgv7 := h7.lt
 by_cases hk3 : k = 3
 ·have k3 : (k == 3) = true := by simp [hk3]
  have HE0 := qy (show vipE C ⟨k, ((vi : Nat) : Int), b, e, six, ah, al, pt, pr, wy, ms⟩ uv = setE C uv ms by unfold vipE; simp only []; rw [if_pos hk3])
  have HC0 := qy (show vipV ⟨k, ((vi : Nat) : Int), b, e, six, ah, al, pt, pr, wy, ms⟩ uv = setV uv ms by unfold vipV; simp only []; rw [if_pos hk3])
  clear hk3
  go_upto_region 21 with (fail)
  clear q0
  refine wp_region_lit ?_
  refine qA 83 (.tmp 2) bs vs1 vs2 (szRcS C hk hb A n c) ?_
  simp only [Act.put, qsT, qsZ, qsS]
  refine qA 57 (.tmp 3) bo vo1 vo2 (szRo _ _ _ _ _ _ _ _ _ _ _ _ _) ?_
  refine wpq fun K hK => ?_
  go_simp
  refine (rcMembers_any (G := (fun b => G b ∨ b = w.heap.size + 1 + 1)) k b e vi six ah al pt pr wy ms B m d C hC A n c E W7 (fun b hb => hb.elim (fun h => by have := hG b h; have := be.size; omega) (fun h => by have := hz.lt; omega) : ∀ b, (fun b => G b ∨ b = w.heap.size + 1 + 1) b → b < W7.heap.size) ((HX0.out.more (G' := fun b => G b ∨ b = w.heap.size + 1 + 1) (fun b hb => hb.elim .inl (fun h => .inr (by omega)))).later be) (HMR.out.later be) hm uv huv).mono ?_
  rintro e w1 ⟨C7, A7, n7, c7, E7, rfl, hX7, hb7, hk7, hbl7, h07⟩
  with_reducible refine hK _ _ ?_
  clear hK K
  replace hz := hz.later hb7
  replace be := be.trans (hb7.mono be.size)
  generalize hWW : w1 = W8 at *
  clear hWW
  iterate 2 (refine qw ?_)
  refine wpList_stA (t := 83) 83 (.tmp 4) (.tmp 87) rfl rfl (rcC C7 A7 n7 c7) zl0 (hzl.trans (rcC_len C7 (by assumption) (by assumption) _ _ _).symm).symm (rcL_one _ _ _ _ _ _ _ _) rfl rfl hz (szRcS C7 (by assumption) (by assumption) _ _ _) ?_
  intro W9 h9 g9
  refine qw ?_
  replace be := below_grown be g9 (by omega)
  go_wp2
  refine bodyPost_agg2 Tryz.results91 rfl rfl h9.range vs1 vs2 (szRcS C7 (by assumption) (by assumption) _ _ _) rfl ?_
  have hX9 := (hX7.chg (Chg.one (D := fun b => b = w.heap.size + 1 + 1) g9 rfl) (fun b h => .inr h)).more (G' := G) (fun b h => .inl (.inl h))
  rw [HEV.out, HCV.out, HE0.out, HC0.out]
  exact ⟨C7, A7, n7, c7, E7, rfl, hX9, be, hk7, hbl7, h07⟩
 have k3 : (k == 3) = false := by simpa using hk3
 by_cases hk4 : k = 4
 ·have k4 : (k == 4) = true := by simp [hk4]
  have HE0 := qy (show vipE C ⟨k, ((vi : Nat) : Int), b, e, six, ah, al, pt, pr, wy, ms⟩ uv = retE uv.S e by unfold vipE; simp only []; rw [if_neg hk3, if_pos hk4])
  have HC0 := qy (show vipV ⟨k, ((vi : Nat) : Int), b, e, six, ah, al, pt, pr, wy, ms⟩ uv = { uv with S := retS uv.S e } by unfold vipV; simp only []; rw [if_neg hk3, if_pos hk4])
  have hD7 : ∀ b, (fun b => G b ∨ (w.heap.size ≤ b ∧ b < gv + 1)) b → b < W7.heap.size := fun b hb => by
   rcases hb with hb | ⟨_, hb⟩
   ·have := hG b hb; have := be.size; omega
   ·omega
  have hst7 : RSt (fun b => G b ∨ (w.heap.size ≤ b ∧ b < gv + 1)) W7 uv.S.lv uB um ud := (HSSu.more (fun b hb => hb.elim .inl (fun h => .inr h.1))).later be
  clear hk3 hk4
  go_upto_region 23 with (fail)
  clear q0
  refine wp_region_lit ?_
  refine qw ?_
  refine wpList_ldA (t := 154) (cs := rvC ((uv, ⟨uA, un, uc, uB, um, ud⟩) : Re)) 152 (.tmp 92) rfl rfl (rstC uB um ud uv.S) rfl h7 (rvC_stk ((uv, ⟨uA, un, uc, uB, um, ud⟩) : Re)) vt1 vt2 (szRst _ _ _ _) ?_
  refine qw ?_
  refine qL 3 (.tmp 94) bo Tryz.underlying3 ?_
  refine wpq fun K hK => ?_
  go_simp
  refine (refRetire_any uv.S hok uB um ud e W7 hD7 hst7).mono ?_
  rintro ee w1 ⟨A7, n7, c7, bs7, d7, rfl, rfl, hst8⟩
  with_reducible refine hK _ _ ?_
  clear hK K
  have hb8 := below_plus W7 bs7 d7
  replace bs := bs.later hb8
  replace bo := bo.later hb8
  replace hz := hz.later hb8
  replace h7 := h7.later hb8
  replace be := be.trans (hb8.mono be.size)
  clear hb8
  generalize plus W7 bs7 d7 = W8 at *
  iterate 4 (refine qw ?_)
  refine wpList_stM (t := 154) (off := 7) 152 (.tmp 99) (.tmp 97) rfl rfl (rstC A7 n7 c7 (retS uv.S e)) (rvC ((uv, ⟨uA, un, uc, uB, um, ud⟩) : Re)) (by rw [rvC_len, rstC_len]; decide) (rstC_one _ _ _ _) rfl rfl h7 (szRst _ _ _ _) ?_
  intro W4 h4 g4
  refine qw ?_
  rw [rvC_setStk] at h4
  replace h4 : Bk W4 gv 154 (rvC (({ uv with S := retS uv.S e }, ⟨uA, un, uc, A7, n7, c7⟩) : Re)) := h4
  replace bs := bs.grown g4 (fun e => by injection e with e; omega)
  replace bo := bo.grown g4 (fun e => by injection e with e; omega)
  replace hz := hz.grown g4 (fun e => by injection e with e; omega)
  replace be := below_grown be g4 (by omega)
  have h3w : RSt (fun b => G b ∨ b = w.heap.size + 1 + 1) W4 (retS uv.S e).lv A7 n7 c7 := (hst8.chg (Chg.one g4 (Or.inr ⟨by omega, by omega⟩))).more (fun b hb => hb.elim (fun h => .inl (.inl h)) (fun h => .inl (.inr ⟨by omega, by omega⟩)))
  have h1w : Rs 2 W4 uA un uc (prs .i64 uv.ms) := HMMu.later be
  have h2w : Off (fun b => G b ∨ b = w.heap.size + 1 + 1) W4 uA := (HMOu.more (fun b hb => hb.elim .inl (fun h => .inr (by omega)))).size be.size
  clear g4 h7 hst7 hst8 hD7 HSSu HMMu HMOu
  go_upto_region 26 with (fail)
  refine wp_region_lit ?_
  refine qA 83 (.tmp 2) bs vs1 vs2 (szRcS C hk hb A n c) ?_
  refine qw ?_
  refine qL 3 (.tmp 112) bo Tryz.underlying3 ?_
  simp only [Act.put, qsT, qsZ, qsS]
  refine qA 154 (.tmp 6) h4 vr1 vr2 (szRv _) ?_
  refine wpq fun K hK => ?_
  go_simp
  refine (rcWith_any (G := (fun b => G b ∨ b = w.heap.size + 1 + 1)) C hk hb A n c E vi (({ uv with S := retS uv.S e }, ⟨uA, un, uc, A7, n7, c7⟩) : Re) W4 (fun b hb => hb.elim (fun h => by have := hG b h; have := be.size; omega) (fun h => by have := hz.lt; omega) : ∀ b, (fun b => G b ∨ b = w.heap.size + 1 + 1) b → b < W4.heap.size) ((HX0.out.more (G' := fun b => G b ∨ b = w.heap.size + 1 + 1) (fun b hb => hb.elim .inl (fun h => .inr (by omega)))).later be) hvn hn16 h1w h2w h3w).mono ?_
  rintro e w1 ⟨A8, c8, rfl, hX7, hb7⟩
  with_reducible refine hK _ _ ?_
  clear hK K
  replace hz := hz.later hb7
  replace be := be.trans (hb7.mono be.size)
  generalize hWW : w1 = W6 at *
  clear hWW
  refine qw ?_
  refine wpList_stA (t := 83) 83 (.tmp 4) (.tmp 115) rfl rfl (rcC C A8 n c8) zl0 (hzl.trans (rcC_len C (by assumption) (by assumption) _ _ _).symm).symm (rcL_one _ _ _ _ _ _ _ _) rfl rfl hz (szRcS C (by assumption) (by assumption) _ _ _) ?_
  intro W9 h9 g9
  refine qw ?_
  replace be := below_grown be g9 (by omega)
  go_wp2
  refine bodyPost_agg2 Tryz.results91 rfl rfl h9.range vs1 vs2 (szRcS C (by assumption) (by assumption) _ _ _) rfl ?_
  have hX9 := (hX7.chg (Chg.one (D := fun b => b = w.heap.size + 1 + 1) g9 rfl) (fun b h => .inr h)).more (G' := G) (fun b h => .inl (.inl h))
  rw [HEV.out, HCV.out, HE0.out, HC0.out]
  exact ⟨{ C with vs := C.vs.set vi { uv with S := retS uv.S e } }, A8, n, c8, E.set vi (({ uv with S := retS uv.S e }, ⟨uA, un, uc, A7, n7, c7⟩) : Re), rfl, hX9, be, hk, hb, fun _ => rfl⟩
 have k4 : (k == 4) = false := by simpa using hk4
 by_cases hk5 : k = 5
 ·have k5 : (k == 5) = true := by simp [hk5]
  have HE0 := qy (show vipE C ⟨k, ((vi : Nat) : Int), b, e, six, ah, al, pt, pr, wy, ms⟩ uv = rlsE uv.S e by unfold vipE; simp only []; rw [if_neg hk3, if_neg hk4, if_pos hk5])
  have HC0 := qy (show vipV ⟨k, ((vi : Nat) : Int), b, e, six, ah, al, pt, pr, wy, ms⟩ uv = { uv with S := rlsS uv.S e } by unfold vipV; simp only []; rw [if_neg hk3, if_neg hk4])
  have hD7 : ∀ b, (fun b => G b ∨ (w.heap.size ≤ b ∧ b < gv + 1)) b → b < W7.heap.size := fun b hb => by
   rcases hb with hb | ⟨_, hb⟩
   ·have := hG b hb; have := be.size; omega
   ·omega
  have hst7 : RSt (fun b => G b ∨ (w.heap.size ≤ b ∧ b < gv + 1)) W7 uv.S.lv uB um ud := (HSSu.more (fun b hb => hb.elim .inl (fun h => .inr h.1))).later be
  clear hk3 hk4 hk5
  go_upto_region 25 with (fail)
  clear q0
  refine wp_region_lit ?_
  refine qw ?_
  refine wpList_ldA (t := 154) (cs := rvC ((uv, ⟨uA, un, uc, uB, um, ud⟩) : Re)) 152 (.tmp 103) rfl rfl (rstC uB um ud uv.S) rfl h7 (rvC_stk ((uv, ⟨uA, un, uc, uB, um, ud⟩) : Re)) vt1 vt2 (szRst _ _ _ _) ?_
  refine qw ?_
  refine qL 3 (.tmp 105) bo Tryz.underlying3 ?_
  refine wpq fun K hK => ?_
  go_simp
  refine (refRelease_any uv.S hok uB um ud e W7 hD7 hst7).mono ?_
  rintro ee w1 ⟨A7, n7, c7, bs7, d7, rfl, rfl, hst8⟩
  with_reducible refine hK _ _ ?_
  clear hK K
  have hb8 := below_plus W7 bs7 d7
  replace bs := bs.later hb8
  replace bo := bo.later hb8
  replace hz := hz.later hb8
  replace h7 := h7.later hb8
  replace be := be.trans (hb8.mono be.size)
  clear hb8
  generalize plus W7 bs7 d7 = W8 at *
  iterate 4 (refine qw ?_)
  refine wpList_stM (t := 154) (off := 7) 152 (.tmp 110) (.tmp 108) rfl rfl (rstC A7 n7 c7 (rlsS uv.S e)) (rvC ((uv, ⟨uA, un, uc, uB, um, ud⟩) : Re)) (by rw [rvC_len, rstC_len]; decide) (rstC_one _ _ _ _) rfl rfl h7 (szRst _ _ _ _) ?_
  intro W4 h4 g4
  refine qw ?_
  rw [rvC_setStk] at h4
  replace h4 : Bk W4 gv 154 (rvC (({ uv with S := rlsS uv.S e }, ⟨uA, un, uc, A7, n7, c7⟩) : Re)) := h4
  replace bs := bs.grown g4 (fun e => by injection e with e; omega)
  replace bo := bo.grown g4 (fun e => by injection e with e; omega)
  replace hz := hz.grown g4 (fun e => by injection e with e; omega)
  replace be := below_grown be g4 (by omega)
  have h3w : RSt (fun b => G b ∨ b = w.heap.size + 1 + 1) W4 (rlsS uv.S e).lv A7 n7 c7 := (hst8.chg (Chg.one g4 (Or.inr ⟨by omega, by omega⟩))).more (fun b hb => hb.elim (fun h => .inl (.inl h)) (fun h => .inl (.inr ⟨by omega, by omega⟩)))
  have h1w : Rs 2 W4 uA un uc (prs .i64 uv.ms) := HMMu.later be
  have h2w : Off (fun b => G b ∨ b = w.heap.size + 1 + 1) W4 uA := (HMOu.more (fun b hb => hb.elim .inl (fun h => .inr (by omega)))).size be.size
  clear g4 h7 hst7 hst8 hD7 HSSu HMMu HMOu
  go_upto_region 26 with (fail)
  refine wp_region_lit ?_
  refine qA 83 (.tmp 2) bs vs1 vs2 (szRcS C hk hb A n c) ?_
  refine qw ?_
  refine qL 3 (.tmp 112) bo Tryz.underlying3 ?_
  simp only [Act.put, qsT, qsZ, qsS]
  refine qA 154 (.tmp 6) h4 vr1 vr2 (szRv _) ?_
  refine wpq fun K hK => ?_
  go_simp
  refine (rcWith_any (G := (fun b => G b ∨ b = w.heap.size + 1 + 1)) C hk hb A n c E vi (({ uv with S := rlsS uv.S e }, ⟨uA, un, uc, A7, n7, c7⟩) : Re) W4 (fun b hb => hb.elim (fun h => by have := hG b h; have := be.size; omega) (fun h => by have := hz.lt; omega) : ∀ b, (fun b => G b ∨ b = w.heap.size + 1 + 1) b → b < W4.heap.size) ((HX0.out.more (G' := fun b => G b ∨ b = w.heap.size + 1 + 1) (fun b hb => hb.elim .inl (fun h => .inr (by omega)))).later be) hvn hn16 h1w h2w h3w).mono ?_
  rintro e w1 ⟨A8, c8, rfl, hX7, hb7⟩
  with_reducible refine hK _ _ ?_
  clear hK K
  replace hz := hz.later hb7
  replace be := be.trans (hb7.mono be.size)
  generalize hWW : w1 = W6 at *
  clear hWW
  refine qw ?_
  refine wpList_stA (t := 83) 83 (.tmp 4) (.tmp 115) rfl rfl (rcC C A8 n c8) zl0 (hzl.trans (rcC_len C (by assumption) (by assumption) _ _ _).symm).symm (rcL_one _ _ _ _ _ _ _ _) rfl rfl hz (szRcS C (by assumption) (by assumption) _ _ _) ?_
  intro W9 h9 g9
  refine qw ?_
  replace be := below_grown be g9 (by omega)
  go_wp2
  refine bodyPost_agg2 Tryz.results91 rfl rfl h9.range vs1 vs2 (szRcS C (by assumption) (by assumption) _ _ _) rfl ?_
  have hX9 := (hX7.chg (Chg.one (D := fun b => b = w.heap.size + 1 + 1) g9 rfl) (fun b h => .inr h)).more (G' := G) (fun b h => .inl (.inl h))
  rw [HEV.out, HCV.out, HE0.out, HC0.out]
  exact ⟨{ C with vs := C.vs.set vi { uv with S := rlsS uv.S e } }, A8, n, c8, E.set vi (({ uv with S := rlsS uv.S e }, ⟨uA, un, uc, A7, n7, c7⟩) : Re), rfl, hX9, be, hk, hb, fun _ => rfl⟩
 have k5 : (k == 5) = false := by simpa using hk5
 have HE0 := qy (show vipE C ⟨k, ((vi : Nat) : Int), b, e, six, ah, al, pt, pr, wy, ms⟩ uv = 1 by unfold vipE; simp only []; rw [if_neg hk3, if_neg hk4, if_neg hk5])
 clear hk3 hk4 hk5
 have h3w : RSt (fun b => G b ∨ b = w.heap.size + 1 + 1) W7 uv.S.lv uB um ud := (HSSu.more (fun b hb => hb.elim .inl (fun h => .inr (by omega)))).later be
 have h1w : Rs 2 W7 uA un uc (prs .i64 uv.ms) := HMMu.later be
 have h2w : Off (fun b => G b ∨ b = w.heap.size + 1 + 1) W7 uA := (HMOu.more (fun b hb => hb.elim .inl (fun h => .inr (by omega)))).size be.size
 clear HSSu HMMu HMOu
 go_upto_region 26 with (fail)
 clear q0
 refine wp_region_lit ?_
 refine qA 83 (.tmp 2) bs vs1 vs2 (szRcS C hk hb A n c) ?_
 refine qw ?_
 refine qL 3 (.tmp 112) bo Tryz.underlying3 ?_
 simp only [Act.put, qsT, qsZ, qsS]
 refine qA 154 (.tmp 6) h7 vr1 vr2 (szRv _) ?_
 refine wpq fun K hK => ?_
 go_simp
 refine (rcWith_any (G := (fun b => G b ∨ b = w.heap.size + 1 + 1)) C hk hb A n c E vi ((uv, ⟨uA, un, uc, uB, um, ud⟩) : Re) W7 (fun b hb => hb.elim (fun h => by have := hG b h; have := be.size; omega) (fun h => by have := hz.lt; omega) : ∀ b, (fun b => G b ∨ b = w.heap.size + 1 + 1) b → b < W7.heap.size) ((HX0.out.more (G' := fun b => G b ∨ b = w.heap.size + 1 + 1) (fun b hb => hb.elim .inl (fun h => .inr (by omega)))).later be) hvn hn16 h1w h2w h3w).mono ?_
 rintro e w1 ⟨A8, c8, rfl, hX7, hb7⟩
 with_reducible refine hK _ _ ?_
 clear hK K
 replace hz := hz.later hb7
 replace be := be.trans (hb7.mono be.size)
 generalize hWW : w1 = W6 at *
 clear hWW
 refine qw ?_
 refine wpList_stA (t := 83) 83 (.tmp 4) (.tmp 115) rfl rfl (rcC C A8 n c8) zl0 (hzl.trans (rcC_len C (by assumption) (by assumption) _ _ _).symm).symm (rcL_one _ _ _ _ _ _ _ _) rfl rfl hz (szRcS C (by assumption) (by assumption) _ _ _) ?_
 intro W9 h9 g9
 refine qw ?_
 replace be := below_grown be g9 (by omega)
 go_wp2
 refine bodyPost_agg2 Tryz.results91 rfl rfl h9.range vs1 vs2 (szRcS C (by assumption) (by assumption) _ _ _) rfl ?_
 have hX9 := (hX7.chg (Chg.one (D := fun b => b = w.heap.size + 1 + 1) g9 rfl) (fun b h => .inr h)).more (G' := G) (fun b h => .inl (.inl h))
 rw [HEV.out, HE0.out]
 exact ⟨{ C with vs := C.vs.set vi uv }, A8, n, c8, E.set vi ((uv, ⟨uA, un, uc, uB, um, ud⟩) : Re), rfl, hX9, be, hk, hb, fun h => absurd h (by decide)⟩
theorem rcDoesR {G : Nat → Prop} (k v b e : Int) (six : Bool) (ah al pt pr : Nat) (wy : Int) (ms : List (Int × Int)) (B : Option Addr) (m d : Nat) (C : Cf) (hC : CfR C) (A : Option Addr) (n c : Nat) (E : List Re) (w : World) (hG : ∀ b, G b → b < w.heap.size) (hX : RcX G w C A n c E) (hr : Rs 2 w B m d (prs .i64 ms)) (hm : m ≤ 1000000) (hal : al < 18446744073709551616) (hk1 : ¬ k = 1) (hk2 : ¬ k = 2) (hk67 : ¬ (k = 6 ∨ k = 7)) (hk8 : ¬ k = 8) (hv0 : 0 ≤ v) (hvn : v < (n : Int)) : Calls Tryz.prog 91 #[.agg (rcC C A n c).toArray, .agg (opC k v b e six ah al pt pr wy B m d).toArray] w (RetRx G w (chC C ⟨k, v, b, e, six, ah, al, pt, pr, wy, ms⟩) (chE C ⟨k, v, b, e, six, ah, al, pt, pr, wy, ms⟩)) := by
 obtain ⟨vi, rfl⟩ : ∃ vi : Nat, v = vi := ⟨v.toNat, by omega⟩
 have hvl : vi < C.vs.length := by have := hX.n_; omega
 have huv : C.vs[vi]? = some C.vs[vi] := List.getElem?_eq_getElem hvl
 generalize C.vs[vi] = uv at huv
 exact rcDoesV k b e vi six ah al pt pr wy ms B m d C hC A n c E w hG hX hr hm uv huv hk1 hk2 hk67 hk8
theorem rcDoes_any {G : Nat → Prop} (k v b e : Int) (six : Bool) (ah al pt pr : Nat) (wy : Int) (ms : List (Int × Int)) (B : Option Addr) (m d : Nat) (C : Cf) (hC : CfOk C) (A : Option Addr) (n c : Nat) (E : List Re) (w : World) (hG : ∀ b, G b → b < w.heap.size) (hX : RcX G w C A n c E) (hr : Rs 2 w B m d (prs .i64 ms)) (hm : m ≤ 1000000) (hal : al < 18446744073709551616) : Calls Tryz.prog 91 #[.agg (rcC C A n c).toArray, .agg (opC k v b e six ah al pt pr wy B m d).toArray] w (RetRx G w (chC C ⟨k, v, b, e, six, ah, al, pt, pr, wy, ms⟩) (chE C ⟨k, v, b, e, six, ah, al, pt, pr, wy, ms⟩)) := by
 by_cases hk1 : k = 1
 ·subst hk1; exact rcDoes1 v b e six ah al pt pr wy ms B m d C hC A n c E w hG hX hal
 by_cases hk2 : k = 2
 ·subst hk2; exact rcDoes2 v b e six ah al pt pr wy ms B m d C hC A n c E w hG hX hal
 by_cases hk6 : k = 6
 ·subst hk6; exact rcDoes6 v b e six ah al pt pr wy ms B m d C hC A n c E w hG hX
 by_cases hk7 : k = 7
 ·subst hk7; exact rcDoes7 v b e six ah al pt pr wy ms B m d C hC A n c E w hG hX
 by_cases hk8 : k = 8
 ·subst hk8; exact rcDoes8 v b e six ah al pt pr wy ms B m d C hC A n c E w hG hX
 by_cases hvv : v < 0 ∨ (n : Int) ≤ v
 ·exact rcDoesN k v b e six ah al pt pr wy ms B m d C hC A n c E w hG hX hk1 hk2 (by omega) hk8 hvv
 exact rcDoesR k v b e six ah al pt pr wy ms B m d C hC.r A n c E w hG hX hr hm hal hk1 hk2 (by omega) hk8 (by omega) (by omega)
theorem chC_num (C : Cf) (o : OpR) : (chC C o).num = C.num := by
 unfold chC
 repeat' split
 all_goals rfl
theorem refApply_of {G : Nat → Prop} (k v b e : Int) (six : Bool) (ah al pt pr : Nat) (wy : Int) (ms : List (Int × Int)) (B : Option Addr) (m d : Nat) (C : Cf) (hk : C.key.length = 16) (hb : C.bk.length = 65) (A : Option Addr) (n c : Nat) (E : List Re) (w : World) (hG : ∀ b, G b → b < w.heap.size) (hX : RcX G w C A n c E) (HDO0 : ∀ (W : World) (G' : Nat → Prop), (∀ b, G' b → b < W.heap.size) → RcX G' W C A n c E → Below w.heap.size w W → Calls Tryz.prog 91 #[.agg (rcC C A n c).toArray, .agg (opC k v b e six ah al pt pr wy B m d).toArray] W (RetRx G' W (chC C ⟨k, v, b, e, six, ah, al, pt, pr, wy, ms⟩) (chE C ⟨k, v, b, e, six, ah, al, pt, pr, wy, ms⟩))) : Calls Tryz.prog 45 #[.agg (rcC C A n c).toArray, .agg (opC k v b e six ah al pt pr wy B m d).toArray] w (RetRc G w (apC C ⟨k, v, b, e, six, ah, al, pt, pr, wy, ms⟩) (chE C ⟨k, v, b, e, six, ah, al, pt, pr, wy, ms⟩)) := by
 have HX0 := qy hX
 have HDO := qy HDO0
 clear HDO0
 have HAP := qy (show apC C ⟨k, v, b, e, six, ah, al, pt, pr, wy, ms⟩ = if chE C ⟨k, v, b, e, six, ah, al, pt, pr, wy, ms⟩ = 0 then upN (chC C ⟨k, v, b, e, six, ah, al, pt, pr, wy, ms⟩) else C from rfl)
 have HNU := qy (chC_num C ⟨k, v, b, e, six, ah, al, pt, pr, wy, ms⟩)
 generalize chE C ⟨k, v, b, e, six, ah, al, pt, pr, wy, ms⟩ = EE at *
 generalize chC C ⟨k, v, b, e, six, ah, al, pt, pr, wy, ms⟩ = CC at *
 generalize apC C ⟨k, v, b, e, six, ah, al, pt, pr, wy, ms⟩ = CA at *
 have hwn : IntKind.u64.wrap ((C.num : Int) + 1) = (((C.num + 1) % 18446744073709551616 : Nat) : Int) := by rw [IntKind.wrap_u64]; omega
 obtain ⟨dvs1, vs1, vs2⟩ := rowRcS
 obtain ⟨dvo1, vo1, vo2⟩ := rowRo
 obtain ⟨bs, bo, be, zV⟩ := box2 w 83 57 (rcC C A n c) (opC k v b e six ah al pt pr wy B m d)
 go_enter Tryz.func45, Tryz.ntmps45
 go_upto_region 1 with (fail)
 have HVe := qy (show ((w.alloc (.cells (rcC C A n c).toArray 83)).alloc (.cells (opC k v b e six ah al pt pr wy B m d).toArray 57)).heap.size = w.heap.size + 1 + 1 by simp)
 generalize (w.alloc (.cells (rcC C A n c).toArray 83)).alloc (.cells (opC k v b e six ah al pt pr wy B m d).toArray 57) = V at *
 have hz := Bk.newK 83 (Tryz.zeroCells83) _ HVe.out.symm rfl
 have hzl : (Tryz.zeroCells83).toList.length = 279 := by kernel_rfl
 have hbz : Below V.heap.size V (V.alloc (.cells (Tryz.zeroCells83) 83)) := Below.allocS (Below.refl _ _) _
 go_upto_region 1 with (fail)
 have hVs : w.heap.size + 2 ≤ V.heap.size := by have := bo.lt; omega
 generalize hV2 : V.alloc (.cells (Tryz.zeroCells83) 83) = V2 at *
 clear hV2
 generalize hzc : (Tryz.zeroCells83).toList = zl0 at *
 clear hzc
 replace bs := bs.later hbz
 replace bo := bo.later hbz
 replace be := be.trans (hbz.mono be.size)
 clear hbz
 have HZL := qy (show (Tryz.zeroCells83).toList.length = 279 by kernel_rfl)
 refine wp_region_lit ?_
 refine qA 83 (.tmp 2) bs vs1 vs2 (szRcS C hk hb A n c) ?_
 simp only [Act.put, qsT, qsZ, qsS]
 refine qA 57 (.tmp 3) bo vo1 vo2 (szRo _ _ _ _ _ _ _ _ _ _ _ _ _) ?_
 refine wpq fun K hK => ?_
 go_simp
 refine (HDO.out V2 (fun b => G b ∨ b = w.heap.size + 1 + 1) (fun b hb => hb.elim (fun h => by have := hG b h; have := be.size; omega) (fun h => by have := hz.lt; omega) : ∀ b, (fun b => G b ∨ b = w.heap.size + 1 + 1) b → b < V2.heap.size) ((HX0.out.more (G' := fun b => G b ∨ b = w.heap.size + 1 + 1) (fun b hb => hb.elim .inl (fun h => .inr (by omega)))).later be) be).mono ?_
 rintro e w1 ⟨C7, A7, n7, c7, E7, rfl, hX7, hb7, hk7, hbl7, h07⟩
 with_reducible refine hK _ _ ?_
 clear hK K
 replace bs := bs.later hb7
 replace hz := hz.later hb7
 replace be := be.trans (hb7.mono be.size)
 generalize hWW : w1 = W8 at *
 clear hWW
 iterate 4 (refine qw ?_)
 refine wpList_stA (t := 83) 83 (.tmp 6) (.tmp 12) rfl rfl (rcC C7 A7 n7 c7) (Tryz.zeroCells83).toList (HZL.out.trans (rcC_len C7 hk7 hbl7 _ _ _).symm).symm (rcL_one _ _ _ _ _ _ _ _) rfl rfl (Bk.new _ _ _) (szRcS C7 hk7 hbl7 _ _ _) ?_
 intro W7 h7 g7
 refine qw ?_
 have hgx : w.heap.size + 2 < W8.heap.size := hz.lt
 have hbW : Below W8.heap.size W8 W7 := below_grown (Below.allocS (Below.refl _ _) _) g7 (Nat.le_refl _)
 replace bs := bs.later hbW
 replace hz := hz.later hbW
 replace be := be.trans (hbW.mono be.size)
 clear g7 bo
 by_cases he : EE = 0
 ·have he0 : ((EE : Int) != 0) = false := by simp [he]
  have HCA := qy (show CA = upN C7 by rw [HAP.out, if_pos he, h07 he])
  have HN7 := qy (show C7.num = C.num by rw [h07 he]; exact HNU.out)
  have HE := qy he
  clear he h07
  go_upto_region 4 with (fail)
  refine wp_region_lit ?_
  refine qw ?_
  refine wpList_ld1 (t := 83) (cs := rcC C A n c) 23 (.tmp 18) rfl rfl rfl bs (show (rcC C A n c)[0]? = some (.int .u64 (C.num : Int)) from rfl) Tryz.underlying23 rfl ?_
  iterate 2 (refine qw ?_)
  refine wpList_st1 (v := .int .u64 (((C.num + 1) % 18446744073709551616 : Nat) : Int)) (t := 83) (cs := rcC C7 A7 n7 c7) (off := 0) 23 (.tmp 21) (.tmp 20) rfl rfl rfl rfl h7 (by rw [rcC_len C7 hk7 hbl7]; omega) rfl (by kernel_rfl) ?_
  intro W4 h4 g4
  simp only [Act.put, qsT, qsZ, qsS]
  replace h4 : Bk W4 W8.heap.size 83 (rcC { C7 with num := (C.num + 1) % 18446744073709551616 } A7 n7 c7) := h4
  have hbW4 : Below W8.heap.size W8 W4 := below_grown hbW g4 (Nat.le_refl _)
  have hz4 := hz.grown g4 (fun e => by injection e with e; omega)
  have be4 := below_grown be g4 (by omega)
  clear hbW hz be g4 h7 bs
  have hbW := hbW4
  have hz := hz4
  have be := be4
  clear hbW4 hz4 be4
  go_upto_region 5 with (fail)
  refine wp_region_lit ?_
  refine qA 83 (.tmp 6) h4 vs1 vs2 (szRcS { C7 with num := (C.num + 1) % 18446744073709551616 } hk7 hbl7 _ _ _) ?_
  simp only [Act.put, qsT, qsZ, qsS]
  refine wpList_stA (t := 83) 83 (.tmp 4) (.tmp 22) rfl rfl (rcC { C7 with num := (C.num + 1) % 18446744073709551616 } A7 n7 c7) zl0 (hzl.trans (rcC_len { C7 with num := (C.num + 1) % 18446744073709551616 } (by assumption) (by assumption) _ _ _).symm).symm (rcL_one _ _ _ _ _ _ _ _) rfl rfl hz (szRcS { C7 with num := (C.num + 1) % 18446744073709551616 } (by assumption) (by assumption) _ _ _) ?_
  intro W9 h9 g9
  refine qw ?_
  replace be := below_grown be g9 (by omega)
  go_wp2
  refine bodyPost_agg2 Tryz.results45 rfl rfl h9.range vs1 vs2 (szRcS { C7 with num := (C.num + 1) % 18446744073709551616 } (by assumption) (by assumption) _ _ _) rfl ?_
  have hX9 := ((hX7.later hbW).chg (Chg.one (D := fun b => b = w.heap.size + 1 + 1) g9 rfl) (fun b h => .inr h)).more (G' := G) (fun b h => .inl (.inl h))
  rw [HCA.out, HE.out]
  refine ⟨A7, n7, c7, E7, ?_, ⟨hX9.vs, hX9.row, hX9.off, hX9.mm, hX9.mo, hX9.ss⟩, be⟩
  rw [show upN C7 = { C7 with num := (C.num + 1) % 18446744073709551616 } by unfold upN; rw [HN7.out]]
  rfl
 ·have he0 : ((EE : Int) != 0) = true := by simp [he]
  have HCA := qy (show CA = C by rw [HAP.out, if_neg he])
  clear he h07
  go_upto_region 3 with (fail)
  refine wp_region_lit ?_
  refine qA 83 (.tmp 2) bs vs1 vs2 (szRcS C hk hb A n c) ?_
  refine qw ?_
  refine wpList_stA (t := 83) 83 (.tmp 4) (.tmp 16) rfl rfl (rcC C A n c) zl0 (hzl.trans (rcC_len C (by assumption) (by assumption) _ _ _).symm).symm (rcL_one _ _ _ _ _ _ _ _) rfl rfl hz (szRcS C (by assumption) (by assumption) _ _ _) ?_
  intro W9 h9 g9
  refine qw ?_
  replace be := below_grown be g9 (by omega)
  go_wp2
  refine bodyPost_agg2 Tryz.results45 rfl rfl h9.range vs1 vs2 (szRcS C (by assumption) (by assumption) _ _ _) rfl ?_
  rw [HCA.out]
  exact ⟨A, n, c, E, rfl, HX0.out.later be, be⟩
theorem refApply_any {G : Nat → Prop} (k v b e : Int) (six : Bool) (ah al pt pr : Nat) (wy : Int) (ms : List (Int × Int)) (B : Option Addr) (m d : Nat) (C : Cf) (hC : CfOk C) (A : Option Addr) (n c : Nat) (E : List Re) (w : World) (hG : ∀ b, G b → b < w.heap.size) (hX : RcX G w C A n c E) (hr : Rs 2 w B m d (prs .i64 ms)) (hm : m ≤ 1000000) (hal : al < 18446744073709551616) : Calls Tryz.prog 45 #[.agg (rcC C A n c).toArray, .agg (opC k v b e six ah al pt pr wy B m d).toArray] w (RetRc G w (apC C ⟨k, v, b, e, six, ah, al, pt, pr, wy, ms⟩) (chE C ⟨k, v, b, e, six, ah, al, pt, pr, wy, ms⟩)) := by
 exact refApply_of k v b e six ah al pt pr wy ms B m d C hC.key hC.bl A n c E w hG hX (fun W G' hG' h hb => rcDoes_any (G := G') k v b e six ah al pt pr wy ms B m d C hC A n c E W hG' h (hr.later hb) hm hal)
end

section
open Go.Lib
open Go.RowKit
def N64 (ds : List Value) : Prop := ∀ u ∈ ds, ∀ z : Int, u ≠ Value.int .i64 z
theorem Rs.no64 {s : Nat} {w w' : World} {A : Option Addr} {n c g : Nat} {cs ds : List Value} {t : TypeId} (h : Rs s w A n c cs) (hcs : cs ≠ [] → ∃ (j : Nat) (z : Int), cs[j]? = some (Value.int .i64 z)) (hb : Bk w g t ds) (hds : N64 ds) (hg : w.grownBy w' (some g)) : Rs s w' A n c cs := by
 refine ⟨h.1, h.2.1, ?_⟩
 by_cases h0 : cs = []
 ·exact .inl h0
 ·rcases h.2.2 with h' | ⟨b, off, hA, hbl, hc⟩
  ·exact .inl h'
  ·refine .inr ⟨b, off, hA, Nat.lt_of_lt_of_le hbl hg.size, fun i u hu => ?_⟩
   have hne : b ≠ g := by
    rintro rfl
    obtain ⟨j, z, hj⟩ := hcs h0
    have h1 := hc j _ hj
    rw [hb.cell] at h1
    exact hds _ (List.mem_of_getElem? h1) z rfl
   exact (World.cell?_of_block (hg.block b hbl (fun e => hne (by injection e)))).trans (hc i u hu)
theorem RSt.no64 {D : Nat → Prop} {w w' : World} {L : List (Nat × Tab)} {A : Option Addr} {n c g : Nat} {ds : List Value} {t : TypeId} (h : RSt D w L A n c) (hb : Bk w g t ds) (hds : N64 ds) (hg : w.grownBy w' (some g)) : RSt D w' L A n c := by
 obtain ⟨E, h1, h2, h3, h4⟩ := h
 refine ⟨E, ⟨h1.1, fun i a b => ⟨(h1.2 i a b).1, (h1.2 i a b).2.no64 (fun hne => ?_) hb hds hg⟩⟩, h2.no64 (fun hne => ?_) hb hds hg, h3.size hg.size, fun e he => (h4 e he).size hg.size⟩
 ·cases hL : refT L[i].2 with
  | nil => rw [hL] at hne; exact absurd rfl hne
  | cons x t => exact ⟨0, _, rfl⟩
 ·cases E with
  | nil => exact absurd rfl hne
  | cons e t => exact ⟨0, _, rfl⟩
theorem RcX.no64 {G : Nat → Prop} {w w' : World} {C : Cf} {A : Option Addr} {n c : Nat} {E : List Re} {g : Nat} {ds : List Value} {t : TypeId} (h : RcX G w C A n c E) (hb : Bk w g t ds) (hds : N64 ds) (hg : w.grownBy w' (some g)) : RcX G w' C A n c E := by
 refine ⟨h.vs, h.row.no64 (fun hne => ?_) hb hds hg, h.off.size hg.size, fun x hx => (h.mm x hx).no64 (fun hne => ?_) hb hds hg, fun x hx => (h.mo x hx).size hg.size, fun x hx => (h.ss x hx).no64 hb hds hg⟩
 ·cases E with
  | nil => exact absurd rfl hne
  | cons e t => exact ⟨5, _, rfl⟩
 ·cases hm : x.1.ms with
  | nil => rw [hm] at hne; exact absurd rfl hne
  | cons p t => exact ⟨0, _, rfl⟩
theorem bcs_no64 (l : List UInt8) : N64 (bcs l) := by
 intro u hu z e
 simp only [bcs, List.mem_map] at hu
 obtain ⟨x, _, rfl⟩ := hu
 cases e
theorem rcC_no64 (C : Cf) (A : Option Addr) (n c : Nat) : N64 (rcC C A n c) := by
 intro u hu z e
 subst e
 unfold rcC rcL ringC at hu
 simp only [List.mem_cons, List.mem_append, List.mem_flatMap, List.mem_map, adF, adC] at hu
 rcases hu with h | (h | h | h) | ⟨a, -, h⟩ | ⟨a, -, h⟩ | h | h
 ·cases h
 ·exact bcs_no64 _ _ h z rfl
 ·cases h
 ·cases h
 ·simp at h
 ·cases h
 ·cases h
 ·cases h
end

section
attribute [local go_sem ↓] sliced_cut
attribute [local go_sem] cutA_zero
open Go.Lib
open Go.RowKit
def OpX.o (x : OpX) : OpR := ⟨x.k, x.v, x.b, x.e, x.six, x.ah, x.al, x.pt, x.pr, x.wy, x.ms⟩
theorem OpX.ok_o {W : World} {x : OpX} (h : x.ok W) : OpOk x.o := by
 obtain ⟨⟨h1, h2, h3, h4, h5⟩, h6, h7, h8, h9, -, -, h10⟩ := h
 exact ⟨h1, h2, h3, h4, h6, h7, h8, h9, h5, fun p hp => ⟨by have := bounds_i64 (h10 p hp).1; omega, by have := bounds_i64 (h10 p hp).2; omega⟩⟩
theorem OpX.rs {W : World} {x : OpX} (h : x.ok W) : Rs 2 W x.A x.n x.c (prs .i64 x.ms) := h.2.2.2.2.2.1
theorem OpX.later {W W' : World} {x : OpX} (h : x.ok W) (hb : Below W.heap.size W W') : x.ok W' := by
 obtain ⟨h1, h2, h3, h4, h5, h6, h7⟩ := h
 exact ⟨h1, h2, h3, h4, h5, h6.later hb, h7⟩
def MP.rc (G : Nat → Prop) (C : Cf) (F : Value → Value) : MP := ⟨fun v w => ∃ A n c E, v = F (.agg (rcC C A n c).toArray) ∧ RcX G w C A n c E, fun _ _ _ ⟨A, n, c, E, h1, h2⟩ h => ⟨A, n, c, E, h1, h2.later h.below⟩⟩
theorem szK16 (key : List UInt8) (hk : key.length = 16) : (Tryz.prog.info? 27).map (·.size) = some (bcs key).length := by rw [bcs_length, hk]; kernel_rfl
theorem rowK16 : ∃ d, Tryz.prog.underlying 27 = some d ∧ d.isRow = true := ⟨_, Tryz.underlying27, rfl⟩
def k16o : List UInt8 := List.replicate 16 0
def n64B (l : List Value) : Bool := l.all fun u => match u with | .int .i64 _ => false | _ => true
theorem n64_of {l : List Value} (h : n64B l = true) : N64 l := fun u hu z e => by
 have := List.all_eq_true.1 h u hu
 rw [e] at this
 cases this
theorem n64_zero : N64 (Tryz.zeroCells83).toList := n64_of (by kernel_rfl)
theorem run_buildSt0 (w : World) : (Instr.build 83 #[]).run Tryz.prog w = .ok (.agg (rcC (cf0 k16o) none 0 0).toArray) w := by kernel_rfl
theorem rc_setKey (key : List UInt8) (hk : key.length = 16) : splice (rcC (cf0 k16o) none 0 0) 1 (bcs key) = rcC (cf0 key) none 0 0 := by
 have e1 : rcC (cf0 k16o) none 0 0 = .int .u64 0 :: (bcs k16o ++ (.int .u64 0 :: (((List.replicate 65 none).map adZ).flatMap adF ++ (((List.replicate 65 (none : Option Adr)).map Option.isSome).map Value.bool ++ [.slice none 0 0])))) := by
  unfold rcC rcL ringC cf0
  simp only [List.append_assoc, List.cons_append, List.nil_append]
  rfl
 have e2 : rcC (cf0 key) none 0 0 = .int .u64 0 :: (bcs key ++ (.int .u64 0 :: (((List.replicate 65 none).map adZ).flatMap adF ++ (((List.replicate 65 (none : Option Adr)).map Option.isSome).map Value.bool ++ [.slice none 0 0])))) := by
  unfold rcC rcL ringC cf0
  simp only [List.append_assoc, List.cons_append, List.nil_append]
  rfl
 rw [e1, e2]
 generalize (.int .u64 0 :: (((List.replicate 65 none).map adZ).flatMap adF ++ (((List.replicate 65 (none : Option Adr)).map Option.isSome).map Value.bool ++ [.slice none 0 0])) : List Value) = T
 have h1 : (bcs k16o).length = (bcs key).length := by simp [bcs_length, hk, k16o]
 unfold splice
 simp only [List.take_succ_cons, List.take_zero, List.cons_append, List.nil_append]
 rw [show 1 + (bcs key).length = (bcs k16o).length + 1 by omega, List.drop_succ_cons, List.drop_left]
theorem rc0_X {G : Nat → Prop} {w : World} (key : List UInt8) : RcX G w (cf0 key) none 0 0 [] := ⟨rfl, Rs.nil_, Off.none_, (fun x h => by cases h), (fun x h => by cases h), (fun x h => by cases h)⟩
def k27 : List UInt8 := [8, 0, 0, 0, 0, 0, 0, 0, 0, 0, 0, 0, 0, 0, 0, 0]
def rkC (As : Option Addr) (ns cs : Nat) (Al : Option Addr) (nl cl : Nat) (sy : Int) (Ao : Option Addr) (no co : Nat) (sf : Int) (Ak : Option Addr) (ca : Nat) (At : Option Addr) (ct : Nat) : List Value :=
 bcs k27 ++ [.slice As ns cs, .slice Al nl cl, .int .i64 100000, .int .i64 sy, .slice Ao no co, .int .i64 sf, .slice Ak 2 ca, .slice At 2 ct]
theorem szRk (As : Option Addr) (ns cs : Nat) (Al : Option Addr) (nl cl : Nat) (sy : Int) (Ao : Option Addr) (no co : Nat) (sf : Int) (Ak : Option Addr) (ca : Nat) (At : Option Addr) (ct : Nat) : (Tryz.prog.info? 33).map (·.size) = some (rkC As ns cs Al nl cl sy Ao no co sf Ak ca At ct).length := by kernel_rfl
theorem rowRk : ∃ d, Tryz.prog.underlying 33 = some d ∧ d.isRow = true := ⟨_, Tryz.underlying33, rfl⟩
theorem rkC_one (As : Option Addr) (ns cs : Nat) (Al : Option Addr) (nl cl : Nat) (sy : Int) (Ao : Option Addr) (no co : Nat) (sf : Int) (Ak : Option Addr) (ca : Nat) (At : Option Addr) (ct : Nat) : ∀ u ∈ rkC As ns cs Al nl cl sy Ao no co sf Ak ca At ct, u.oneCell' = true := by
 intro u hu
 unfold rkC at hu
 rcases List.mem_append.1 hu with hu | hu
 ·exact bcs_one k27 u hu
 ·simp at hu
  rcases hu with rfl | rfl | rfl | rfl | rfl | rfl | rfl | rfl <;> rfl
structure RkX (G : Nat → Prop) (w : World) (L : List OpX) (s : Nat) (As : Option Addr) (ns cs : Nat) (Al : Option Addr) (nl cl : Nat) (Ao : Option Addr) (co : Nat) (Ak : Option Addr) (ca : Nat) : Prop where
 ops : Rs 11 w Ao L.length co (L.flatMap OpX.cs)
 el : ∀ x ∈ L, x.ok w ∧ x.n ≤ 1000
 ok : CnOk k27 (L.map OpX.o)
 sl : s ≤ L.length
 ll : L.length ≤ 1000
 ds : ∃ l, Rb w As ns cs l
 dl : ∃ l, Rb w Al nl cl l
 dn : ns + nl = dlenL (L.map OpX.o)
 ak : Rs 1 w Ak 2 ca [.int .u64 0, .int .u64 0]
 oo : Off G w Ao
 os : Off G w As
 ol : Off G w Al
 oa : Off G w Ak
 oe : ∀ x ∈ L, x.ms ≠ [] → Off G w x.A
theorem Off.ob {G : Nat → Prop} {w : World} {base : Nat} {A : Option Addr} {n c : Nat} {l : List UInt8} (h : Ob w base A n c l) (hG : ∀ b, G b → b < base) : Off G w A := fun a ha => ⟨(h.blk a.block (by rw [ha]; rfl)).2, fun hg => by have := (h.blk a.block (by rw [ha]; rfl)).1; have := hG _ hg; omega⟩
theorem RkX.later {G : Nat → Prop} {w w' : World} {L : List OpX} {s : Nat} {As : Option Addr} {ns cs : Nat} {Al : Option Addr} {nl cl : Nat} {Ao : Option Addr} {co : Nat} {Ak : Option Addr} {ca : Nat} (h : RkX G w L s As ns cs Al nl cl Ao co Ak ca) (hb : Below w.heap.size w w') : RkX G w' L s As ns cs Al nl cl Ao co Ak ca :=
 ⟨h.ops.later hb, fun x hx => ⟨OpX.later (h.el x hx).1 hb, (h.el x hx).2⟩, h.ok, h.sl, h.ll, by obtain ⟨l, h1⟩ := h.ds; exact ⟨l, h1.later hb⟩, by obtain ⟨l, h1⟩ := h.dl; exact ⟨l, h1.later hb⟩, h.dn, h.ak.later hb, h.oo.size hb.size, h.os.size hb.size, h.ol.size hb.size, h.oa.size hb.size, fun x hx hm => (h.oe x hx hm).size hb.size⟩
def RetR26 (w : World) (C : Cf) (e : Ending) (w' : World) : Prop := ∃ A n c E, e = .returned (.tuple #[.agg (rcC C A n c).toArray, .bool true]) ∧ RcX (fun _ => False) w' C A n c E ∧ Below w.heap.size w w'
theorem refState26 {G : Nat → Prop} (L : List OpX) (s : Nat) (As : Option Addr) (ns cs : Nat) (Al : Option Addr) (nl cl : Nat) (sy : Int) (Ao : Option Addr) (co : Nat) (sf : Int) (Ak : Option Addr) (ca : Nat) (At : Option Addr) (ct : Nat) (m : Nat) (hm : m ≤ L.length) (w : World) (h : RkX G w L s As ns cs Al nl cl Ao co Ak ca) : Calls Tryz.prog 23 #[.agg (rkC As ns cs Al nl cl sy Ao L.length co sf Ak ca At ct).toArray, .int .i64 (m : Int)] w (RetR26 w (stL k27 ((L.map OpX.o).take m))) := by
 obtain ⟨dur, ur1, ur2⟩ : ∃ d, Tryz.prog.underlying 57 = some d ∧ d.isRow = true := ⟨_, Tryz.underlying57, rfl⟩
 obtain ⟨dvk, vk1, vk2⟩ := rowK16
 obtain ⟨dvs, vs1, vs2⟩ := rowRcS
 obtain ⟨dvr, vr1, vr2⟩ := rowRdk
 have HSZ := qy (fun x : OpX => show (Tryz.prog.info? 57).map (·.size) = some x.cs.length by rw [OpX.cs_len]; kernel_rfl)
 obtain ⟨no, hno⟩ : ∃ no, L.length = no := ⟨_, rfl⟩
 have HM := qy (show m ≤ no by omega)
 have hno1 : no ≤ 1000 := by rw [← hno]; exact h.ll
 have HOP := qy (show Rs 11 w Ao no co (L.flatMap OpX.cs) by rw [← hno]; exact h.ops)
 have HEL := qy h.el
 have HCN := qy h.ok
 have HNO := qy hno
 rw [hno]
 clear hno h hm
 obtain ⟨dvc1, vc1, vc2⟩ := rowRk
 obtain ⟨bc, be, zV⟩ := box1 w 33 (rkC As ns cs Al nl cl sy Ao no co sf Ak ca At ct)
 have hz := Bk.newK 83 (Tryz.zeroCells83) _ (show w.heap.size + 1 = (w.alloc (.cells (rkC As ns cs Al nl cl sy Ao no co sf Ak ca At ct).toArray 33)).heap.size by simp) rfl
 have hzl : (Tryz.zeroCells83).toList.length = 279 := by kernel_rfl
 have hbz : Below (w.alloc (.cells (rkC As ns cs Al nl cl sy Ao no co sf Ak ca At ct).toArray 33)).heap.size (w.alloc (.cells (rkC As ns cs Al nl cl sy Ao no co sf Ak ca At ct).toArray 33)) ((w.alloc (.cells (rkC As ns cs Al nl cl sy Ao no co sf Ak ca At ct).toArray 33)).alloc (.cells (Tryz.zeroCells83) 83)) := Below.allocS (Below.refl _ _) _
 go_enter Tryz.func23, Tryz.ntmps23
 go_upto_region 1 with (fail)
 generalize w.alloc (.cells (rkC As ns cs Al nl cl sy Ao no co sf Ak ca At ct).toArray 33) = V at *
 generalize hV2 : V.alloc (.cells (Tryz.zeroCells83) 83) = V2 at *
 clear hV2
 replace bc := bc.later hbz
 replace be := be.trans (hbz.mono be.size)
 have zV2 := hz.lt
 clear hbz zV
 generalize hzc : (Tryz.zeroCells83).toList = zl0 at *
 have HZ6 := qy (show N64 zl0 by rw [← hzc]; exact n64_zero)
 have HZE := qy (show (Tryz.zeroCells83) = zl0.toArray by rw [← hzc])
 have HZL := qy hzl
 clear hzc hzl
 have HZ2 := qy (show (Tryz.zeroCells83).toList.length = 279 by kernel_rfl)
 go_upto_region 1 with (fail)
 refine wp_region_lit ?_
 refine wpList_build 83 [] rfl rfl (.agg (rcC (cf0 k16o) none 0 0).toArray) (run_buildSt0 _) ?_
 refine qw ?_
 refine wpList_stA (t := 83) 83 (.tmp 6) (.tmp 10) rfl rfl (rcC (cf0 k16o) none 0 0) (Tryz.zeroCells83).toList (by rw [rcC_len _ rfl (by simp [cf0])]; exact HZ2.out.symm) (rcL_one _ _ _ _ _ _ _ _) rfl rfl (Bk.new _ _ _) (szRcS _ rfl (by simp [cf0]) _ _ _) ?_
 intro W3 h3 g3
 simp only [Act.put, qsT, qsZ, qsS]
 have bc3 := (bc.later (Below.allocS (Below.refl V2.heap.size V2) (.cells (Tryz.zeroCells83) 83))).grown g3 (fun e => by injection e with e; omega)
 have hz3 := (hz.later (Below.allocS (Below.refl V2.heap.size V2) (.cells (Tryz.zeroCells83) 83))).grown g3 (fun e => by injection e with e; omega)
 have be3 : Below w.heap.size w W3 := below_grown (Below.allocS be _) g3 (by have := be.size; omega)
 have hr0 : w.heap.size + 2 ≤ V2.heap.size := by omega
 clear bc hz be
 generalize V2.heap.size = r at *
 go_upto_region 2 with (fail)
 refine wp_region_lit ?_
 refine qw ?_
 refine wpList_ldA (t := 33) (cs := rkC As ns cs Al nl cl sy Ao no co sf Ak ca At ct) 27 (.tmp 11) rfl rfl (bcs k27) rfl (bc3) rfl vk1 vk2 (szK16 k27 rfl) ?_
 iterate 2 (refine qw ?_)
 refine wpList_stM (t := 83) (off := 1) 27 (.tmp 14) (.tmp 12) rfl rfl (bcs k27) (rcC (cf0 k16o) none 0 0) (by rw [rcC_len _ rfl (by simp [cf0]), bcs_length]; decide) (bcs_one k27) rfl rfl h3 (szK16 k27 rfl) ?_
 intro W4 h4 g4
 simp only [Act.put, qsT, qsZ, qsS]
 rw [rc_setKey k27 rfl] at h4
 have bc4 := bc3.grown g4 (fun e => by injection e with e; omega)
 have hz4 := hz3.grown g4 (fun e => by injection e with e; omega)
 have be4 : Below w.heap.size w W4 := below_grown be3 g4 (by omega)
 clear g3 g4 h3 bc3 hz3 be3 zV2
 go_upto_region 4 with (fail)
 go_loopw [7] (fun I wr => ∃ (i : Nat) (A : Option Addr) (n c : Nat) (E : List Re), I = .int .i64 (i : Int) ∧ i ≤ m ∧ RcX (fun _ => False) wr (stL k27 ((L.map OpX.o).take i)) A n c E ∧ Bk wr r 83 (rcC (stL k27 ((L.map OpX.o).take i)) A n c) ∧ Bk wr w.heap.size 33 (rkC As ns cs Al nl cl sy Ao no co sf Ak ca At ct) ∧ Bk wr (w.heap.size + 1) 83 zl0 ∧ Below w.heap.size w wr) (fun I _ => m - (intOf I).toNat)
 case atStart => exact ⟨0, none, 0, 0, [], rfl, Nat.zero_le _, rc0_X k27, h4, bc4, hz4, be4⟩
 case round =>
  clear h4 bc4 hz4 be4
  obtain ⟨i, A, n, c, E, rfl, hi, hX, hbk, bcr, hz, be⟩ := hrel
  have HC := qy (HCN.out.st (key := k27) rfl i)
  obtain ⟨C, hC⟩ : ∃ C, stL k27 ((L.map OpX.o).take i) = C := ⟨_, rfl⟩
  rw [hC] at hX hbk HC
  have hk := HC.out.key
  have hb := HC.out.bl
  by_cases him : i < m
  ·have i1 : (i : Int) < (m : Int) := by omega
   have i2 : (i : Int) < (no : Int) := by have := HM.out; omega
   have hiL : i < L.length := by have := HM.out; have := HNO.out; omega
   obtain ⟨bl, ol, rfl, hbl, -⟩ := HOP.out.at_ (by omega) (by decide)
   have hrgB := fun W (h : Below w.heap.size w W) => (HOP.out.later h).rangeE OpX.cs_len i hiL
   have hxm : L[i] ∈ L := List.getElem_mem _
   have HST := qy (show stL k27 ((L.map OpX.o).take (i + 1)) = apC C (L[i]).o by rw [stL_take i (by simpa using hiL), hC]; simp)
   have HCE := qy (show chE C (L[i]).o = 0 by have := HCN.out.ap i (by simpa using hiL); rw [hC] at this; simpa using this)
   generalize L[i] = y at *
   have hyo := HEL.out y hxm
   have hsz := HSZ.out y
   have hoo := OpX.ok_o hyo.1
   have HOK := qy (apC_ok HC.out hoo)
   have hk2 := HOK.out.key
   have hb2 := HOK.out.bl
   have HRA := qy (fun W (h : Below wr.heap.size wr W) => show Calls Tryz.prog 45 #[.agg (rcC C A n c).toArray, .agg y.cs.toArray] W (RetRc (fun _ => False) W (apC C y.o) (chE C y.o)) from refApply_any y.k y.v y.b y.e y.six y.ah y.al y.pt y.pr y.wy y.ms y.A y.n y.c C HC.out A n c E W (fun b hb3 => hb3.elim) (hX.later h) ((OpX.rs hyo.1).later (be.trans (h.mono be.size))) (by have := hyo.2; omega) hoo.al)
   have hzr := be.size
   clear hyo hoo hxm hC hX
   have q20 : wr.cell? ⟨w.heap.size, 20, none⟩ = some (.slice (some ⟨bl, ol, none⟩) no co) := bcr.cell 20
   go_upto_region 6 with (fail)
   clear q20
   refine wp_relES 11 42 [9] rfl (by kernel_rfl) (by kernel_rfl) ?_
   apply Steps.oneE (MP.eq _) 1 rfl (by decide)
   ·intro o ho FA x hO hD K hK
    obtain rfl := qoi ho
    have e6 := hO 6 (by kernel_rfl)
    simp only [eval_tmp, qgT, qgS, qgZ, qoS] at e6
    have ev6 := qy ((eval_tmp FA 6).trans e6)
    clear hO hD ho
    refine wanted_if rfl ?_
    refine wp_ldA 83 (.tmp 6) rfl (rcC C A n c) ev6.out (hbk.later bpl) (whole_ _) vs1 vs2 (szRcS C hk hb A n c) ?_
    exact qk hK rfl
   apply Steps.oneE (MP.eq _) 2 rfl (by decide)
   ·intro o ho FA x hO hD K hK
    obtain rfl := qoi ho
    have e2 := hO 2 (by kernel_rfl)
    simp only [eval_tmp, qgT, qgS, qgZ, qoS] at e2
    have ev2 := qy ((eval_tmp FA 2).trans e2)
    clear hO hD ho
    go_simp
    exact qk hK rfl
   apply Steps.oneE (MP.eq _) 3 rfl (by decide)
   ·intro o ho FA x hO hD K hK
    obtain rfl := qoi ho
    obtain ⟨e29, ev29⟩ := qE (hD 1 29 (by kernel_rfl))
    clear hO hD ho
    refine wanted_if rfl ?_
    refine wp_ld1 22 (.tmp 29) rfl ev29.out (bcr.later bpl) rfl Tryz.underlying22 rfl ?_
    exact qk hK rfl
   apply Steps.oneE (MP.eq _) 4 rfl (by decide)
   ·intro o ho FA x hO hD K hK
    obtain rfl := qoi ho
    have e7 := hO 7 (by kernel_rfl)
    simp only [eval_tmp, qgT, qgS, qgZ, qoS] at e7
    have ev7 := qy ((eval_tmp FA 7).trans e7)
    clear hO hD ho
    go_simp
    exact qk hK rfl
   apply Steps.oneE (MP.eq _) 5 rfl (by decide)
   ·intro o ho FA x hO hD K hK
    obtain rfl := qoi ho
    obtain ⟨e30, ev30⟩ := qE (hD 2 30 (by kernel_rfl))
    obtain ⟨e31, ev31⟩ := qE (hD 3 31 (by kernel_rfl))
    clear hO hD ho
    go_simp
    exact qk hK rfl
   apply Steps.oneE (MP.eq _) 6 rfl (by decide)
   ·intro o ho FA x hO hD K hK
    obtain rfl := qoi ho
    obtain ⟨e32, ev32⟩ := qE (hD 4 32 (by kernel_rfl))
    clear hO hD ho
    refine wanted_if rfl ?_
    refine wp_load_mid 57 (.tmp 32) rfl bl (ol + i * 11) ev32.out y.cs _ (hrgB _ (be.trans (bpl.mono be.size))) ur1 ur2 hsz ?_
    exact qk hK rfl
   apply Steps.oneE (MP.rc (fun _ => False) (apC C y.o) (fun v => .tuple #[v, .int .i64 0])) 7 rfl (by decide)
   ·intro o ho FA x hO hD K hK
    obtain rfl := qoi ho
    obtain ⟨e28, ev28⟩ := qE (hD 0 28 (by kernel_rfl))
    obtain ⟨e33, ev33⟩ := qE (hD 5 33 (by kernel_rfl))
    clear hO hD ho
    go_simp
    refine (HRA.out _ bpl).mono ?_
    rintro e w2 ⟨A7, n7, c7, E7, rfl, hX7, hb7⟩
    exact hK.out _ _ (Ex.of hb7) ⟨A7, n7, c7, E7, by rw [HCE.out]; rfl, hX7⟩
   apply Steps.oneE (MP.rc (fun _ => False) (apC C y.o) (fun v => .tuple #[v, .int .i64 0])) 8 rfl (by decide)
   ·intro o ho FA x hO hD K hK
    obtain rfl := qoi ho
    obtain ⟨u34, f34, e34, ev34⟩ := qG (hD 6 34 (by kernel_rfl))
    clear hO hD ho
    go_simp
    exact qk hK f34
   apply Steps.oneE (MP.rc (fun _ => False) (apC C y.o) (fun v => v)) 9 rfl (by decide)
   ·intro o ho FA x hO hD K hK
    obtain rfl := qoi ho
    obtain ⟨u27, f27, e27, ev27⟩ := qG (hD 7 27 (by kernel_rfl))
    clear hO hD ho
    obtain ⟨A7, n7, c7, E7, rfl, hX7⟩ := f27
    go_simp
    exact qk hK ⟨_, _, _, _, rfl, hX7⟩
   apply Steps.oneP (.int .i64 0) 10 rfl (by decide)
   ·intro o ho FA x hO hD
    obtain rfl := qoi ho
    obtain ⟨u27, f27, e27, ev27⟩ := qG (hD 7 27 (by kernel_rfl))
    clear hO hD ho
    obtain ⟨A7, n7, c7, E7, rfl, hX7⟩ := f27
    refine .inl ⟨by simp [Region.wanted], fun w => ?_⟩
    go_simp
   apply Steps.oneE (MP.blk wr.heap.size 83 zl0) 11 rfl (by decide)
   ·intro o ho FA x hO hD K hK
    obtain rfl := qoi ho
    clear hO hD ho
    go_simp
    rw [show (Tryz.zeroCells83) = zl0.toArray from HZE.out]
    exact hK.out _ _ (Ex.alloc _ _) ⟨_, rfl, Nat.le_add_right _ _, Bk.newK _ _ _ (by simp [size_plus]) (by simp)⟩
   refine Steps.fin_ (fun vs x hp => ?_)
   have p6 := hp 6 qd
   have p7 := hp 7 qd
   have p8 := hp 8 qd
   have p10 := hp 10 qd
   simp only [qta, qtb, qda, qdb, putAll, Nat.zero_add, Nat.reduceAdd, Act.put, qsT, qsZ, qsS, qi (hp 0 qd), qi (hp 1 qd), qi (hp 2 qd), qi (hp 3 qd), qi (hp 4 qd), qi (hp 5 qd), qi (hp 9 qd)]
   clear hp
   generalize vs 6 = y6 at *
   generalize vs 7 = y7 at *
   generalize vs 8 = y8 at *
   generalize vs 10 = y10 at *
   clear vs
   obtain ⟨A9, n9, c9, E9, rfl, hX9⟩ := p8
   obtain ⟨gx, rfl, hgx, hx⟩ := p10
   have b5 := below_plus wr x.bs x.d
   have hrl := hbk.lt
   have bcr5 := bcr.later b5
   have hz5 := hz.later b5
   have hbk5 := hbk.later b5
   have be5 := be.trans (b5.mono be.size)
   clear p6 p7 b5 hbk bcr hz be
   generalize plus wr x.bs x.d = W4 at *
   refine wpList_stA (t := 83) 83 (.tmp 8) (.tmp 35) rfl rfl (rcC (apC C y.o) A9 n9 c9) zl0 (by rw [rcC_len _ hk2 hb2, HZL.out]) (rcL_one _ _ _ _ _ _ _ _) rfl rfl hx (szRcS _ hk2 hb2 _ _ _) ?_
   intro W5 h5 g5
   refine qw ?_
   refine wpList_nil ?_
   refine NoPanic.normal ?_
   have hX5 := hX9.no64 hx HZ6.out g5
   replace bcr5 := bcr5.grown g5 (fun e => by injection e with e; omega)
   replace hz5 := hz5.grown g5 (fun e => by injection e with e; omega)
   replace hbk5 := hbk5.grown g5 (fun e => by injection e with e; omega)
   replace be5 := below_grown be5 g5 (by omega)
   clear g5 hx hX9
   go_upto_region 9 with (fail)
   refine wp_region_lit ?_
   refine qA 83 (.tmp 8) h5 vs1 vs2 (szRcS (apC C y.o) hk2 hb2 A9 n9 c9) ?_
   simp only [Act.put, qsT, qsZ, qsS]
   refine wpList_stA (t := 83) 83 (.tmp 6) (.tmp 40) rfl rfl (rcC (apC C y.o) A9 n9 c9) (rcC C A n c) (by rw [rcC_len _ hk2 hb2, rcC_len _ hk hb]) (rcL_one _ _ _ _ _ _ _ _) rfl rfl hbk5 (szRcS _ hk2 hb2 _ _ _) ?_
   intro W6 h6 g6
   simp only [Act.put, qsT, qsZ, qsS]
   have hX6 := hX5.no64 hbk5 (rcC_no64 _ _ _ _) g6
   have bcr6 := bcr5.grown g6 (fun e => by injection e with e; omega)
   have hz6 := hz5.grown g6 (fun e => by injection e with e; omega)
   have be6 := below_grown be5 g6 (by omega)
   have hu : IntKind.i64.wrap ((i : Int) + 1) = ((i + 1 : Nat) : Int) := by rw [IntWalk.i64_in _ (by omega)]; omega
   clear g6 hX5 bcr5 hz5 be5 hbk5 h5
   go_wp2
   exact ⟨⟨i + 1, A9, n9, c9, E9, by first | rfl | go_num, by omega, by rw [HST.out]; exact hX6, by rw [HST.out]; exact h6, bcr6, hz6, be6⟩, by simp [intOf]; omega⟩
  ·have i1 : ¬ (i : Int) < (m : Int) := by omega
   obtain rfl : i = m := by omega
   rw [hC]
   go_upto_region 10 with (fail)
   refine wp_region_lit ?_
   refine qA 83 (.tmp 6) hbk vs1 vs2 (szRcS C hk hb A n c) ?_
   simp only [Act.put, qsT, qsZ, qsS]
   refine wpList_stA (t := 83) 83 (.tmp 4) (.tmp 41) rfl rfl (rcC C A n c) zl0 (by rw [rcC_len _ hk hb, HZL.out]) (rcL_one _ _ _ _ _ _ _ _) rfl rfl hz (szRcS C hk hb _ _ _) ?_
   intro W9 h9 g9
   refine qw ?_
   go_wp2
   refine bodyPost_agg2 Tryz.results23 rfl rfl h9.range vs1 vs2 (szRcS _ hk hb _ _ _) rfl ?_
   exact ⟨A, n, c, E, rfl, hX.no64 hz HZ6.out g9, below_grown be g9 (by omega)⟩
theorem rkC_len (As : Option Addr) (ns cs : Nat) (Al : Option Addr) (nl cl : Nat) (sy : Int) (Ao : Option Addr) (no co : Nat) (sf : Int) (Ak : Option Addr) (ca : Nat) (At : Option Addr) (ct : Nat) : (rkC As ns cs Al nl cl sy Ao no co sf Ak ca At ct).length = 24 := rfl
def zk0 : List Value := [.int .u8 0, .int .u8 0, .int .u8 0, .int .u8 0, .int .u8 0, .int .u8 0, .int .u8 0, .int .u8 0, .int .u8 0, .int .u8 0, .int .u8 0, .int .u8 0, .int .u8 0, .int .u8 0, .int .u8 0, .int .u8 0, .slice none 0 0, .slice none 0 0, .int .i64 0, .int .i64 0, .slice none 0 0, .int .i64 0, .slice none 0 0, .slice none 0 0]
theorem refScan0 (A : Option Addr) (c : Nat) (w : World) : Calls Tryz.prog 36 #[.slice A 0 c] w (RetV w (.tuple #[.slice none 0 0, .int .i64 0])) := by
 go_enter Tryz.func36, Tryz.ntmps36
 go_upto_region 3 with (fail)
 go_loop [4, 5] (fun I J => I = .slice none 0 0 ∧ J = .int .i64 0) (fun _ _ => 0)
 case atStart => exact ⟨rfl, rfl⟩
 case round =>
  obtain ⟨rfl, rfl⟩ := hrel
  go_wp2
  go_ret2
  exact RetV.is_ rfl (Below.refl _ _)
def RetRm (G : Nat → Prop) (w : World) (L : List OpX) (sy : Int) (e : Ending) (w' : World) : Prop := ∃ As ns cs Al nl cl Ao co Ak ca At ct, e = .returned (.agg (rkC As ns cs Al nl cl (sy + 1) Ao L.length co (L.length : Int) Ak ca At ct).toArray) ∧ RkX G w' L L.length As ns cs Al nl cl Ao co Ak ca ∧ Below w.heap.size w w'
theorem refCommit26 {G : Nat → Prop} (L : List OpX) (s : Nat) (As : Option Addr) (ns cs : Nat) (Al : Option Addr) (nl cl : Nat) (sy : Int) (Ao : Option Addr) (co : Nat) (sf : Int) (Ak : Option Addr) (ca : Nat) (At : Option Addr) (ct : Nat) (w : World) (h : RkX G w L s As ns cs Al nl cl Ao co Ak ca) (hsy : 0 ≤ sy ∧ sy ≤ 1000000) (hG : ∀ b, G b → b < w.heap.size) : Calls Tryz.prog 18 #[.agg (rkC As ns cs Al nl cl sy Ao L.length co sf Ak ca At ct).toArray] w (RetRm G w L sy) := by
 obtain ⟨dvr, vr1, vr2⟩ := rowRdk
 obtain ⟨no, hno⟩ : ∃ no, L.length = no := ⟨_, rfl⟩
 have HX := qy h
 have HNO := qy hno
 obtain ⟨ls, hls⟩ := h.ds
 obtain ⟨ll, hll⟩ := h.dl
 have hdn := h.dn
 have hdl := h.ok.dl
 have h1 : ns ≤ 1000000 := by omega
 have h2 : nl ≤ 1000000 := by omega
 have HDN := qy hdn
 rw [hno]
 clear hno h hdn hdl
 obtain ⟨dvc1, vc1, vc2⟩ := rowRk
 obtain ⟨bc, bz, be, zV⟩ := box2 w 33 33 (rkC As ns cs Al nl cl sy Ao no co sf Ak ca At ct) ([.int .u8 0, .int .u8 0, .int .u8 0, .int .u8 0, .int .u8 0, .int .u8 0, .int .u8 0, .int .u8 0, .int .u8 0, .int .u8 0, .int .u8 0, .int .u8 0, .int .u8 0, .int .u8 0, .int .u8 0, .int .u8 0, .slice none 0 0, .slice none 0 0, .int .i64 0, .int .i64 0, .slice none 0 0, .int .i64 0, .slice none 0 0, .slice none 0 0])
 go_enter Tryz.func18, Tryz.ntmps18
 go_upto_region 1 with (fail)
 generalize (w.alloc (.cells (rkC As ns cs Al nl cl sy Ao no co sf Ak ca At ct).toArray 33)).alloc (.cells ([.int .u8 0, .int .u8 0, .int .u8 0, .int .u8 0, .int .u8 0, .int .u8 0, .int .u8 0, .int .u8 0, .int .u8 0, .int .u8 0, .int .u8 0, .int .u8 0, .int .u8 0, .int .u8 0, .int .u8 0, .int .u8 0, .slice none 0 0, .slice none 0 0, .int .i64 0, .int .i64 0, .slice none 0 0, .int .i64 0, .slice none 0 0, .slice none 0 0]).toArray 33) = V at *
 replace bz : Bk V (w.heap.size + 1) 33 zk0 := bz
 have HDS := qy (hls.later be)
 have HDL := qy (hll.later be)
 refine wp_region_lit ?_
 refine qw ?_
 refine wpList_ldA (t := 33) (cs := rkC As ns cs Al nl cl sy Ao no co sf Ak ca At ct) 30 (.tmp 3) rfl rfl (rdC As ns cs Al nl cl 100000 sy) rfl (bc) rfl vr1 vr2 (szRdk _ _ _ _ _ _ _ _) ?_
 refine wpq fun K hK => ?_
 go_simp
 refine (refDSync As ns cs Al nl cl 100000 sy ls ll _ HDS.out HDL.out h1 h2 hsy).mono ?_
 rintro e w1 ⟨A9, n9, c9, rfl, o9, hb9⟩
 with_reducible refine hK _ _ ?_
 clear hK K
 have bc9 := bc.later hb9
 have bz9 := bz.later hb9
 generalize hWW : w1 = W9 at *
 clear hWW
 refine qw ?_
 refine wpList_stM (t := 33) (off := 16) 30 (.tmp 6) (.tmp 5) rfl rfl (rdC A9 n9 c9 none 0 0 100000 (sy + 1)) (rkC As ns cs Al nl cl sy Ao no co sf Ak ca At ct) (Nat.le_of_ble_eq_true rfl) (rdC_one _ _ _ _ _ _ _ _) rfl rfl bc9 (szRdk _ _ _ _ _ _ _ _) ?_
 intro W3 h3 g3
 simp only [Act.put, qsT, qsZ, qsS]
 replace h3 : Bk W3 w.heap.size 33 (rkC A9 n9 c9 none 0 0 (sy + 1) Ao no co sf Ak ca At ct) := h3
 have bz9 := bz9.grown g3 (fun e => by injection e with e; omega)
 have o9 := o9.grown g3 (fun k hk e => by have := (o9.blk k hk).1; injection e with e; omega)
 have be9 := below_grown (be.trans (hb9.mono be.size)) g3 (Nat.le_refl _)
 go_upto_region 2 with (fail)
 refine wp_region_lit ?_
 refine qw ?_
 refine qL 22 (.tmp 7) h3 Tryz.underlying22 ?_
 iterate 2 (refine qw ?_)
 refine wpList_st1 (v := .int .i64 (no : Int)) (t := 33) (cs := rkC A9 n9 c9 none 0 0 (sy + 1) Ao no co sf Ak ca At ct) (off := 21) 3 (.tmp 10) (.tmp 9) rfl rfl rfl rfl h3 (by rw [rkC_len]; decide) rfl (by kernel_rfl) ?_
 intro W4 h4 g4
 simp only [Act.put, qsT, qsZ, qsS]
 replace h4 : Bk W4 w.heap.size 33 (rkC A9 n9 c9 none 0 0 (sy + 1) Ao no co (no : Int) Ak ca At ct) := h4
 have bz9 := bz9.grown g4 (fun e => by injection e with e; omega)
 have o9 := o9.grown g4 (fun k hk e => by have := (o9.blk k hk).1; injection e with e; omega)
 have be9 := below_grown be9 g4 (Nat.le_refl _)
 go_upto_region 3 with (fail)
 refine wp_region_lit ?_
 refine qA 33 (.tmp 1) h4 vc1 vc2 (szRk _ _ _ _ _ _ _ _ _ _ _ _ _ _ _) ?_
 simp only [Act.put, qsT, qsZ, qsS]
 refine wpList_stA (t := 33) 33 (.tmp 2) (.tmp 11) rfl rfl (rkC A9 n9 c9 none 0 0 (sy + 1) Ao no co (no : Int) Ak ca At ct) zk0 (by rw [rkC_len]; rfl) (rkC_one _ _ _ _ _ _ _ _ _ _ _ _ _ _ _) rfl rfl bz9 (szRk _ _ _ _ _ _ _ _ _ _ _ _ _ _ _) ?_
 intro W5 h5 g5
 simp only [Act.put, qsT, qsZ, qsS]
 have o9 := o9.grown g5 (fun k hk e => by have := (o9.blk k hk).1; injection e with e; omega)
 have be9 := below_grown be9 g5 (by omega)
 go_wp2
 refine bodyPost_agg Tryz.results18 rfl h5.range vc1 vc2 (szRk _ _ _ _ _ _ _ _ _ _ _ _ _ _ _) rfl ?_
 have hX := HX.out.later be9
 refine ⟨A9, n9, c9, none, 0, 0, Ao, co, Ak, ca, At, ct, by rw [HNO.out], ⟨hX.ops, hX.el, hX.ok, Nat.le_refl _, hX.ll, ⟨_, o9.rb⟩, ⟨[], ⟨rfl, Nat.le_refl _, .inl rfl⟩⟩, ?_, hX.ak, hX.oo, Off.ob o9 (fun b hb => by have := hG b hb; omega), Off.none_, hX.oa, hX.oe⟩, be9⟩
 have := o9.1
 have e1 := hls.1
 have e2 := hll.1
 have e3 := HDN.out
 rw [List.length_append] at this
 omega
def MP.u2 (B : Nat) : MP := ⟨fun v w => ∃ g, v = .slice (some ⟨g, 0, none⟩) 2 2 ∧ B ≤ g ∧ Bk w g 23 [.int .u64 0, .int .u64 0], fun _ _ _ ⟨g, h1, h2, h3⟩ h => ⟨g, h1, h2, h3.later h.below⟩⟩
def MP.rk0 (B : Nat) (A5 : Option Addr) (c5 : Nat) : MP := ⟨fun v w => ∃ g1 g2, v = .agg (rkC A5 0 c5 none 0 0 0 none 0 0 0 (some ⟨g1, 0, none⟩) 2 (some ⟨g2, 0, none⟩) 2).toArray ∧ B ≤ g1 ∧ Bk w g1 23 [.int .u64 0, .int .u64 0], fun _ _ _ ⟨g1, g2, h1, h2, h3⟩ h => ⟨g1, g2, h1, h2, h3.later h.below⟩⟩
theorem run_bRk0 (A : Option Addr) (c : Nat) (A1 A2 : Option Addr) (w : World) : (Instr.build 33 #[(0, .agg (bcs k27).toArray), (1, .agg (rdC A 0 c none 0 0 100000 0).toArray), (4, .slice A1 2 2), (5, .slice A2 2 2)]).run Tryz.prog w = .ok (.agg (rkC A 0 c none 0 0 0 none 0 0 0 A1 2 A2 2).toArray) w := by kernel_rfl
def RetR6 (G : Nat → Prop) (w : World) (e : Ending) (w' : World) : Prop := ∃ As ns cs Al nl cl Ao co Ak ca At ct, e = .returned (.tuple #[.agg (rkC As ns cs Al nl cl 0 Ao 0 co 0 Ak ca At ct).toArray, .int .i64 0]) ∧ RkX G w' [] 0 As ns cs Al nl cl Ao co Ak ca ∧ Below w.heap.size w w'
theorem refOpen26 {G : Nat → Prop} (w : World) (hG : ∀ b, G b → b < w.heap.size) : Calls Tryz.prog 13 #[.agg (rdC none 0 0 none 0 0 100000 0).toArray, .agg (bcs k27).toArray, .int .i64 2] w (RetR6 G w) := by
 obtain ⟨dvr, vr1, vr2⟩ := rowRdk
 obtain ⟨dvk, vk1, vk2⟩ := rowK16
 obtain ⟨dvc, vc1, vc2⟩ := rowRk
 have hms : ∀ w, (Instr.makeSlice 31 (.int .i64 2) (.int .i64 2)).run Tryz.prog w = .ok (.slice (some ⟨w.heap.size, 0, none⟩) 2 2) (w.alloc (.cells #[.int .u64 0, .int .u64 0] 23)) := fun w => by kernel_rfl
 obtain ⟨bd, bk, bz, be, zV⟩ := box3 w 30 27 33 (rdC none 0 0 none 0 0 100000 0) (bcs k27) ([.int .u8 0, .int .u8 0, .int .u8 0, .int .u8 0, .int .u8 0, .int .u8 0, .int .u8 0, .int .u8 0, .int .u8 0, .int .u8 0, .int .u8 0, .int .u8 0, .int .u8 0, .int .u8 0, .int .u8 0, .int .u8 0, .slice none 0 0, .slice none 0 0, .int .i64 0, .int .i64 0, .slice none 0 0, .int .i64 0, .slice none 0 0, .slice none 0 0])
 go_enter Tryz.func13, Tryz.ntmps13
 go_upto_region 1 with (fail)
 generalize ((w.alloc (.cells (rdC none 0 0 none 0 0 100000 0).toArray 30)).alloc (.cells (bcs k27).toArray 27)).alloc (.cells ([.int .u8 0, .int .u8 0, .int .u8 0, .int .u8 0, .int .u8 0, .int .u8 0, .int .u8 0, .int .u8 0, .int .u8 0, .int .u8 0, .int .u8 0, .int .u8 0, .int .u8 0, .int .u8 0, .int .u8 0, .int .u8 0, .slice none 0 0, .slice none 0 0, .int .i64 0, .int .i64 0, .slice none 0 0, .int .i64 0, .slice none 0 0, .slice none 0 0]).toArray 33) = V at *
 replace bz : Bk V (w.heap.size + 1 + 1) 33 zk0 := bz
 refine wp_region_lit ?_
 refine qA 30 (.tmp 3) bd vr1 vr2 (szRdk _ _ _ _ _ _ _ _) ?_
 refine wpq fun K hK => ?_
 go_simp
 refine (refAll none 0 0 none 0 0 100000 0 [] [] _ ⟨rfl, Nat.le_refl _, .inl rfl⟩ ⟨rfl, Nat.le_refl _, .inl rfl⟩ (by omega) (by omega)).mono ?_
 rintro e w1 ⟨A3, n3, c3, bs3, d3, rfl, rfl, o3⟩
 with_reducible refine hK _ _ ?_
 clear hK K
 obtain rfl : n3 = 0 := by rw [← o3.1]; rfl
 have hb3 := below_plus V bs3 d3
 have bd := bd.later hb3
 have bk := bk.later hb3
 have bz := bz.later hb3
 have be := be.trans (hb3.mono be.size)
 have zV := Nat.le_trans zV hb3.size
 generalize plus V bs3 d3 = W3 at *
 refine wpq fun K hK => ?_
 go_simp
 refine (refScan0 A3 c3 _).mono ?_
 rintro e w1 ⟨bs4, d4, rfl, rfl⟩
 with_reducible refine hK _ _ ?_
 clear hK K
 have hb4 := below_plus W3 bs4 d4
 have bd := bd.later hb4
 have bk := bk.later hb4
 have bz := bz.later hb4
 have be := be.trans (hb4.mono be.size)
 have zV := Nat.le_trans zV hb4.size
 generalize plus W3 bs4 d4 = W4 at *
 iterate 5 (refine qw ?_)
 go_upto_region 2 with (fail)
 refine wp_region_lit ?_
 refine qA 30 (.tmp 3) bd vr1 vr2 (szRdk _ _ _ _ _ _ _ _) ?_
 refine qw ?_
 refine wpq fun K hK => ?_
 go_simp
 refine (refDCut0 100000 0 _).mono ?_
 rintro e w1 ⟨A5, c5, rfl, o5, hb5⟩
 with_reducible refine hK _ _ ?_
 clear hK K
 have hOf5 := Off.ob o5 (fun b hb => by have := hG b hb; omega)
 have bd := bd.later hb5
 have bk := bk.later hb5
 have bz := bz.later hb5
 have be := be.trans (hb5.mono be.size)
 have zV := Nat.le_trans zV hb5.size
 generalize hWW : w1 = W5 at *
 clear hWW
 iterate 3 (refine qw ?_)
 refine wpList_stA (t := 30) 30 (.tmp 3) (.tmp 26) rfl rfl (rdC A5 0 c5 none 0 0 100000 0) (rdC none 0 0 none 0 0 100000 0) rfl (rdC_one _ _ _ _ _ _ _ _) rfl rfl bd (szRdk _ _ _ _ _ _ _ _) ?_
 intro W6 h6 g6
 simp only [Act.put, qsT, qsZ, qsS]
 have hOf5 := hOf5.size g6.size
 have bk := bk.grown g6 (fun e => by injection e with e; omega)
 have bz := bz.grown g6 (fun e => by injection e with e; omega)
 have be := below_grown be g6 (Nat.le_refl _)
 have zV := Nat.le_trans zV g6.size
 go_upto_region 3 with (fail)
 refine wp_relS 8 74 rfl (by kernel_rfl) (by kernel_rfl) ?_
 apply qm 1 rfl rfl
 ·intro FA x hO hD K hK
  have e4 := hO 4
  simp only [eval_tmp, qgT, qgS, qgZ, qoS] at e4
  have ev4 := qy ((eval_tmp FA 4).trans e4)
  clear hO hD
  refine wanted_if rfl ?_
  refine wp_ldA 27 (.tmp 4) rfl (bcs k27) ev4.out (bk.later bpl) (whole_ _) vk1 vk2 (szK16 k27 rfl) ?_
  exact qk hK rfl
 apply qm 2 rfl rfl
 ·intro FA x hO hD K hK
  have e3 := hO 3
  simp only [eval_tmp, qgT, qgS, qgZ, qoS] at e3
  have ev3 := qy ((eval_tmp FA 3).trans e3)
  clear hO hD
  refine wanted_if rfl ?_
  refine wp_ldA 30 (.tmp 3) rfl (rdC A5 0 c5 none 0 0 100000 0) ev3.out (h6.later bpl) (whole_ _) vr1 vr2 (szRdk _ _ _ _ _ _ _ _) ?_
  exact qk hK rfl
 refine qb 2 3 ?_
 apply qo (φ := (MP.u2 W6.heap.size)) 4 rfl rfl
 ·intro FA x hO hD K hK
  have e30 := qe (hD 2 30)
  clear hO hD
  have es := hms
  go_simp
  exact hK.out _ _ (Ex.alloc _ _) ⟨_, rfl, Nat.le_add_right _ _, Bk.newK _ _ _ (by simp [size_plus]) rfl⟩
 refine qb 2 5 ?_
 apply qo (φ := (MP.u2 W6.heap.size)) 6 rfl rfl
 ·intro FA x hO hD K hK
  have e32 := qe (hD 4 32)
  clear hO hD
  have es := hms
  go_simp
  exact hK.out _ _ (Ex.alloc _ _) ⟨_, rfl, Nat.le_add_right _ _, Bk.newK _ _ _ (by simp [size_plus]) rfl⟩
 apply qo (φ := (MP.rk0 W6.heap.size A5 c5)) 7 rfl rfl
 ·intro FA x hO hD K hK
  obtain ⟨e28, ev28⟩ := qE (hD 0 28)
  obtain ⟨e29, ev29⟩ := qE (hD 1 29)
  obtain ⟨u31, f31, e31, ev31⟩ := qG (hD 3 31)
  obtain ⟨u33, f33, e33, ev33⟩ := qG (hD 5 33)
  clear hO hD
  obtain ⟨g1, rfl, hg1, hb1⟩ := f31
  obtain ⟨g2, rfl, hg2, hb2⟩ := f33
  refine wanted_if rfl ?_
  refine wp_buildV 33 [(0, .tmp 28), (1, .tmp 29), (4, .tmp 31), (5, .tmp 33)] rfl (.agg (rkC A5 0 c5 none 0 0 0 none 0 0 0 (some ⟨g1, 0, none⟩) 2 (some ⟨g2, 0, none⟩) 2).toArray) (by simp only [List.map_cons, List.map_nil, ev28.out, ev29.out, ev31.out, ev33.out]; exact run_bRk0 _ _ _ _ _) ?_
  exact qk hK ⟨g1, g2, rfl, hg1, hb1⟩
 apply qo (φ := (MP.blk W6.heap.size 33 zk0)) 8 rfl rfl
 ·intro FA x hO hD K hK
  clear hO hD
  go_simp
  exact hK.out _ _ (Ex.alloc _ _) ⟨_, rfl, Nat.le_add_right _ _, Bk.newK _ _ _ (by simp [size_plus]) rfl⟩
 refine Steps.fin_ (fun vs x hp => ?_)
 have p3 := hp 3 qd
 have p5 := hp 5 qd
 have p6 := hp 6 qd
 have p7 := hp 7 qd
 simp only [qta, qtb, qda, qdb, putAll, Nat.zero_add, Nat.reduceAdd, Act.put, qsT, qsZ, qsS, qi (hp 0 qd), qi (hp 1 qd), qi (hp 2 qd), qi (hp 4 qd)]
 clear hp
 generalize vs 3 = y3 at *
 generalize vs 5 = y5 at *
 generalize vs 6 = y6 at *
 generalize vs 7 = y7 at *
 clear vs
 obtain ⟨g1, g2, rfl, hg1, hb1⟩ := p6
 obtain ⟨gk, rfl, hgk, hbk⟩ := p7
 have b7 := below_plus W6 x.bs x.d
 have bz7 := bz.later b7
 have be7 := be.trans (b7.mono be.size)
 have hOf5 := hOf5.size b7.size
 clear p3 p5 b7 bd bk bz be h6
 generalize plus W6 x.bs x.d = W7' at *
 refine wpList_stA (t := 33) 33 (.tmp 10) (.tmp 34) rfl rfl (rkC A5 0 c5 none 0 0 0 none 0 0 0 (some ⟨g1, 0, none⟩) 2 (some ⟨g2, 0, none⟩) 2) zk0 (by rfl) (rkC_one _ _ _ _ _ _ _ _ _ _ _ _ _ _ _) rfl rfl hbk (szRk _ _ _ _ _ _ _ _ _ _ _ _ _ _ _) ?_
 intro W7 h7 g7
 simp only [Act.put, qsT, qsZ, qsS]
 have hOf5 := hOf5.size g7.size
 have bz7 := bz7.grown g7 (fun e => by injection e with e; omega)
 have be7 := below_grown be7 g7 (by omega)
 have n1 : g1 ≠ gk := fun e => hb1.apart hbk (by decide) e
 have hb1 := hb1.grown g7 (fun e => by injection e with e; exact n1 e.symm)
 have HRX : RkX G W7 [] 0 A5 0 c5 none 0 0 none 0 (some ⟨g1, 0, none⟩) 2 := ⟨Rs.nil_, fun x hx => (by cases hx), CnOk.nil _, Nat.le_refl _, Nat.zero_le _, ⟨[], rfl, Nat.zero_le _, .inl rfl⟩, ⟨[], rfl, Nat.le_refl _, .inl rfl⟩, rfl, Rs.of_bk hb1 rfl (Nat.le_refl _), Off.none_, hOf5, Off.none_, fun a ha => by injection ha with ha; subst ha; exact ⟨hb1.lt, fun hg => by have h9 : g1 < w.heap.size := hG _ hg; omega⟩, fun x hx => (by cases hx)⟩
 have z67 := g7.size
 go_upto_region 5 with (fail)
 go_loopw [11] (fun I wr => I = .int .i64 0 ∧ wr = W7) (fun I _ => 0)
 case atStart => exact ⟨rfl, rfl⟩
 case round =>
  obtain ⟨rfl, hwr⟩ := hrel
  replace hwr := hwr.symm
  subst hwr
  go_upto_region 11 with (fail)
  refine wp_region_lit ?_
  refine qA 33 (.tmp 10) h7 vc1 vc2 (szRk _ _ _ _ _ _ _ _ _ _ _ _ _ _ _) ?_
  refine qw ?_
  refine qL 22 (.tmp 60) h7 Tryz.underlying22 ?_
  refine qw ?_
  refine wpq fun K hK => ?_
  go_simp
  refine (refState26 [] 0 A5 0 c5 none 0 0 0 none 0 0 (some ⟨g1, 0, none⟩) 2 (some ⟨g2, 0, none⟩) 2 0 (Nat.le_refl _) _ HRX).mono ?_
  rintro e w1 ⟨A8, n8, c8, E8, rfl, hX8, hb8⟩
  with_reducible refine hK _ _ ?_
  clear hK K
  have h8 := h7.later hb8
  have bz8 := bz7.later hb8
  have be8 := be7.trans (hb8.mono be7.size)
  have hb18 := hb1.later hb8
  have hOf8 := hOf5.size hb8.size
  generalize hWW : w1 = W8 at *
  clear hWW
  iterate 4 (refine qw ?_)
  have hs8 := Bk.newK 83 (Tryz.zeroCells83) _ (show W8.heap.size = W8.heap.size from rfl) rfl
  have hsl : (Tryz.zeroCells83).toList.length = 279 := by kernel_rfl
  have b9 := Below.allocS (Below.refl W8.heap.size W8) (.cells (Tryz.zeroCells83) 83)
  generalize W8.alloc (.cells (Tryz.zeroCells83) 83) = W9 at *
  generalize (Tryz.zeroCells83).toList = zs0 at *
  refine wpList_stA (t := 83) 83 (.tmp 14) (.tmp 64) rfl rfl (rcC (stL k27 []) A8 n8 c8) zs0 (by rw [rcC_len _ rfl (by simp [stL, cf0])]; exact hsl.symm) (rcL_one _ _ _ _ _ _ _ _) rfl rfl hs8 (szRcS _ rfl (by simp [stL, cf0]) _ _ _) ?_
  intro W10 h10 g10
  refine qw ?_
  have h8 := (h8.later b9).grown g10 (fun e => by injection e with e; have := h8.lt; omega)
  have bz8 := (bz8.later b9).grown g10 (fun e => by injection e with e; have := bz8.lt; omega)
  have hOf8 := (hOf8.size b9.size).size g10.size
  have hb18 := (hb18.later b9).grown g10 (fun e => by injection e with e; have := hb18.lt; omega)
  have be10 := below_grown (be8.trans (b9.mono be8.size)) g10 (by have := be8.size; omega)
  clear h10 hs8 hsl b9
  go_upto_region 14 with (fail)
  refine wp_region_lit ?_
  refine qw ?_
  refine qL 22 (.tmp 69) h8 Tryz.underlying22 ?_
  iterate 2 (refine qw ?_)
  refine wpList_st1 (v := .int .i64 0) (t := 33) (cs := rkC A5 0 c5 none 0 0 0 none 0 0 0 (some ⟨g1, 0, none⟩) 2 (some ⟨g2, 0, none⟩) 2) (off := 21) 3 (.tmp 72) (.tmp 71) rfl rfl rfl rfl h8 (by rw [rkC_len]; decide) rfl (by kernel_rfl) ?_
  intro W11 h11 g11
  simp only [Act.put, qsT, qsZ, qsS]
  replace h11 : Bk W11 gk 33 (rkC A5 0 c5 none 0 0 0 none 0 0 0 (some ⟨g1, 0, none⟩) 2 (some ⟨g2, 0, none⟩) 2) := h11
  have bz11 := bz8.grown g11 (fun e => by injection e with e; omega)
  have hb11 := hb18.grown g11 (fun e => by injection e with e; exact n1 e.symm)
  have be11 := below_grown be10 g11 (by omega)
  go_upto_region 15 with (fail)
  refine wp_region_lit ?_
  refine qA 33 (.tmp 10) h11 vc1 vc2 (szRk _ _ _ _ _ _ _ _ _ _ _ _ _ _ _) ?_
  simp only [Act.put, qsT, qsZ, qsS]
  refine wpList_stA (t := 33) 33 (.tmp 6) (.tmp 73) rfl rfl (rkC A5 0 c5 none 0 0 0 none 0 0 0 (some ⟨g1, 0, none⟩) 2 (some ⟨g2, 0, none⟩) 2) zk0 (by rfl) (rkC_one _ _ _ _ _ _ _ _ _ _ _ _ _ _ _) rfl rfl bz11 (szRk _ _ _ _ _ _ _ _ _ _ _ _ _ _ _) ?_
  intro W12 h12 g12
  refine qw ?_
  have hb12 := hb11.grown g12 (fun e => by injection e with e; omega)
  have be12 := below_grown be11 g12 (by omega)
  go_wp2
  refine bodyPost_agg2 Tryz.results13 rfl rfl h12.range vc1 vc2 (szRk _ _ _ _ _ _ _ _ _ _ _ _ _ _ _) rfl ?_
  exact ⟨A5, 0, c5, none, 0, 0, none, 0, some ⟨g1, 0, none⟩, 2, _, 2, rfl, ⟨Rs.nil_, fun x hx => (by cases hx), CnOk.nil _, Nat.le_refl _, Nat.zero_le _, ⟨[], rfl, Nat.zero_le _, .inl rfl⟩, ⟨[], rfl, Nat.le_refl _, .inl rfl⟩, rfl, Rs.of_bk hb12 rfl (Nat.le_refl _), Off.none_, (hOf8.size g11.size).size g12.size, Off.none_, fun a ha => by injection ha with ha; subst ha; exact ⟨hb12.lt, fun hg => by have h9 : g1 < w.heap.size := hG _ hg; omega⟩, fun x hx => (by cases hx)⟩, be12⟩
theorem busyL_take (L : List OpR) (p : Int × Int) (i : Nat) (h : i < L.length) : busyL (L.take (i + 1)) p = (busyL (L.take i) p || (decide ((L[i]).k = 4) && (decide ((L[i]).v = p.1) && decide ((L[i]).e = p.2)))) := by
 rw [List.take_succ_eq_append_getElem h, busyL_snoc]
theorem refBusy26 {G : Nat → Prop} (L : List OpX) (s : Nat) (As : Option Addr) (ns cs : Nat) (Al : Option Addr) (nl cl : Nat) (sy : Int) (Ao : Option Addr) (co : Nat) (sf : Int) (Ak : Option Addr) (ca : Nat) (At : Option Addr) (ct : Nat) (k v b e : Int) (six : Bool) (ah al pt pr : Nat) (wy : Int) (A : Option Addr) (m d : Nat) (w : World) (h : RkX G w L s As ns cs Al nl cl Ao co Ak ca) : Calls Tryz.prog 46 #[.agg (rkC As ns cs Al nl cl sy Ao L.length co sf Ak ca At ct).toArray, .agg (opC k v b e six ah al pt pr wy A m d).toArray] w (RetV w (.bool (busyL (L.map OpX.o) (v, e)))) := by
 obtain ⟨dvc, vc1, vc2⟩ := rowRk
 obtain ⟨dvo, vo1, vo2⟩ := rowRo
 obtain ⟨no, hno⟩ : ∃ no, L.length = no := ⟨_, rfl⟩
 have hno1 : no ≤ 1000 := by rw [← hno]; exact h.ll
 have HOP := qy (show Rs 11 w Ao no co (L.flatMap OpX.cs) by rw [← hno]; exact h.ops)
 have HAK := qy h.ak
 obtain ⟨ba, oa, hak, hba, hca⟩ := h.ak.at_ (by omega) (by omega)
 have HCA := qy hca
 have HA := qy hak
 have HNO := qy hno
 rw [hno]
 clear hno h hca hak
 obtain ⟨bc, bo, be, zV⟩ := box2 w 33 57 (rkC As ns cs Al nl cl sy Ao no co sf Ak ca At ct) (opC k v b e six ah al pt pr wy A m d)
 go_enter Tryz.func46, Tryz.ntmps46
 go_upto_region 1 with (fail)
 generalize (w.alloc (.cells (rkC As ns cs Al nl cl sy Ao no co sf Ak ca At ct).toArray 33)).alloc (.cells (opC k v b e six ah al pt pr wy A m d).toArray 57) = V at *
 have hV0 := Below.refl V.heap.size V
 have HBC := qy (fun W (h : Below V.heap.size V W) => bc.later h)
 have HBO := qy (fun W (h : Below V.heap.size V W) => bo.later h)
 go_upto_region 3 with (fail)
 go_loopw [5, 6] (fun La I wr => ∃ (la i : Nat), La = .int .i64 (la : Int) ∧ I = .int .i64 (i : Int) ∧ i ≤ no ∧ la ≤ i ∧ (busyL ((L.map OpX.o).take i) (v, e) = decide (0 < la)) ∧ Below V.heap.size V wr) (fun _ I _ => no - (intOf I).toNat)
 case atStart => exact ⟨0, 0, rfl, rfl, Nat.zero_le _, Nat.le_refl _, rfl, Below.refl _ _⟩
 case round =>
  obtain ⟨la, i, rfl, rfl, hi, hla, hbu, hbV⟩ := hrel
  have bcw := HBC.out _ hbV
  have bow := HBO.out _ hbV
  have HBU := qy hbu
  clear hbu bc bo
  by_cases hin : i < no
  ·have i2 : (i : Int) < (no : Int) := by omega
   have hiL : i < L.length := by have := HNO.out; omega
   obtain ⟨bl, ol, rfl, hbl, -⟩ := HOP.out.at_ (by omega) (by decide)
   have HQ0 := qy (fun W (h : Below wr.heap.size wr W) => (HOP.out.later (be.trans ((hbV.trans (h.mono hbV.size)).mono be.size))).rangeE OpX.cs_len i hiL)
   have hst := busyL_take (L.map OpX.o) (v, e) i (by simpa using hiL)
   rw [List.getElem_map] at hst
   generalize L[i] = y at *
   obtain ⟨k1, v1, b1, e1, six1, ah1, al1, pt1, pr1, wy1, ms1, A1, n1, c1⟩ := y
   have HQY := qy (fun W (h : Below wr.heap.size wr W) (j : Nat) (u : Value) (hu : (opC k1 v1 b1 e1 six1 ah1 al1 pt1 pr1 wy1 A1 n1 c1)[j]? = some u) => show W.cell? ⟨bl, ol + i * 11 + j, none⟩ = some u from HQ0.out W h j u hu)
   clear HQ0
   obtain ⟨bb, hbb⟩ : ∃ bb, bb = (decide (k1 = 4) && (decide (v1 = v) && decide (e1 = e))) := ⟨_, rfl⟩
   have HST := qy (show busyL ((L.map OpX.o).take (i + 1)) (v, e) = (busyL ((L.map OpX.o).take i) (v, e) || bb) by rw [hst, hbb]; rfl)
   clear hst
   have hcs : (¬ k1 = 4 ∧ bb = false) ∨ (k1 = 4 ∧ ¬ v1 = v ∧ bb = false) ∨ (k1 = 4 ∧ v = v1 ∧ ¬ e1 = e ∧ bb = false) ∨ (k1 = 4 ∧ v = v1 ∧ e = e1 ∧ bb = true) := by
    rw [hbb]
    by_cases g1 : k1 = 4
    ·by_cases g2 : v1 = v
     ·by_cases g3 : e1 = e
      ·exact .inr (.inr (.inr ⟨g1, g2.symm, g3.symm, by simp [g1, g2, g3]⟩))
      ·exact .inr (.inr (.inl ⟨g1, g2.symm, g3, by simp [g3]⟩))
     ·exact .inr (.inl ⟨g1, g2, by simp [g2]⟩)
    ·exact .inl ⟨g1, by simp [g1]⟩
   clear hbb
   have hu : IntKind.i64.wrap ((i : Int) + 1) = ((i + 1 : Nat) : Int) := by rw [IntWalk.i64_in _ (by omega)]; omega
   have q20 : wr.cell? ⟨w.heap.size, 20, none⟩ = some (.slice (some ⟨bl, ol, none⟩) no co) := bcw.cell 20
   rcases hcs with ⟨hk4, rfl⟩ | ⟨rfl, hv4, rfl⟩ | ⟨rfl, rfl, he4, rfl⟩ | ⟨rfl, rfl, rfl, rfl⟩
   iterate 4
    focus
     go_upto_region 5 with (fail)
     refine wp_relS 29 61 rfl (by kernel_rfl) (by kernel_rfl) ?_
     refine qb 2 1 ?_
     refine ql 0 15 2 22 bcw Tryz.underlying22 ?_
     refine qb 6 3 ?_
     refine qc 1 16 2 17 4 ?_
     refine qa 3 18 5 ?_
     apply qm 6 rfl rfl
     ·intro FA x hO hD K hK
      have e19 := qe (hD 4 19)
      clear hO hD
      have yk := HQY.out _ (below_plus wr x.bs x.d) 0 _ rfl
      (try simp only [Nat.add_zero] at yk)
      go_simp
      exact qk hK rfl
     refine qa 5 20 7 ?_
     refine qa 6 21 8 ?_
     refine qf 2 7 22 9 ?_
     apply qm 10 rfl rfl
     ·intro FA x hO hD K hK
      obtain ⟨e23, ev23⟩ := qE (hD 8 23)
      have e22 := qe (hD 7 22)
      first | have ge22 := slot_of e22 | have ge22 := slot_un e22
      clear hO hD
      first | (refine wanted_ifG ?_ ?_; (· go_simp); refine wp_ld1 22 (.tmp 23) rfl ev23.out (bcw.later bpl) rfl Tryz.underlying22 rfl ?_; exact qk hK rfl) | (go_simp; exact qk hK rfl) | (rcases ge22 with ge22 | ge22 <;> (go_simp; exact qk hK rfl))
     refine qf 6 7 22 11 ?_
     refine qh 9 24 10 25 7 22 12 ?_
     refine qg 11 26 7 22 13 ?_
     apply qm 14 rfl rfl
     ·intro FA x hO hD K hK
      have e27 := qe (hD 12 27)
      have e22 := qe (hD 7 22)
      first | have ge22 := slot_of e22 | have ge22 := slot_un e22
      clear hO hD
      first | (go_simp; exact qk hK rfl; done) | (have yv := HQY.out _ (below_plus wr x.bs x.d) 1 _ rfl; (try simp only [Nat.add_zero] at yv); go_simp; exact qk hK rfl)
     refine qf 3 7 22 15 ?_
     apply qm 16 rfl rfl
     ·intro FA x hO hD K hK
      obtain ⟨e29, ev29⟩ := qE (hD 14 29)
      have e22 := qe (hD 7 22)
      first | have ge22 := slot_of e22 | have ge22 := slot_un e22
      clear hO hD
      first | (refine wanted_ifG ?_ ?_; (· go_simp); refine wp_ld1 3 (.tmp 29) rfl ev29.out (bow.later bpl) rfl Tryz.underlying3 rfl ?_; exact qk hK rfl) | (go_simp; exact qk hK rfl) | (rcases ge22 with ge22 | ge22 <;> (go_simp; exact qk hK rfl))
     refine qh 13 28 15 30 7 22 17 ?_
     refine qc 7 22 16 31 18 ?_
     refine qa 17 32 19 ?_
     refine qf 2 18 33 20 ?_
     apply qm 21 rfl rfl
     ·intro FA x hO hD K hK
      obtain ⟨e34, ev34⟩ := qE (hD 19 34)
      have e33 := qe (hD 18 33)
      first | have ge33 := slot_of e33 | have ge33 := slot_un e33
      clear hO hD
      first | (refine wanted_ifG ?_ ?_; (· go_simp); refine wp_ld1 22 (.tmp 34) rfl ev34.out (bcw.later bpl) rfl Tryz.underlying22 rfl ?_; exact qk hK rfl) | (go_simp; exact qk hK rfl) | (rcases ge33 with ge33 | ge33 <;> (go_simp; exact qk hK rfl))
     refine qf 6 18 33 22 ?_
     refine qh 20 35 21 36 18 33 23 ?_
     refine qg 22 37 18 33 24 ?_
     apply qm 25 rfl rfl
     ·intro FA x hO hD K hK
      have e38 := qe (hD 23 38)
      have e33 := qe (hD 18 33)
      first | have ge33 := slot_of e33 | have ge33 := slot_un e33
      clear hO hD
      first | (go_simp; exact qk hK rfl; done) | (have ye := HQY.out _ (below_plus wr x.bs x.d) 3 _ rfl; (try simp only [Nat.add_zero] at ye); go_simp; exact qk hK rfl)
     refine qf 3 18 33 26 ?_
     apply qm 27 rfl rfl
     ·intro FA x hO hD K hK
      obtain ⟨e40, ev40⟩ := qE (hD 25 40)
      have e33 := qe (hD 18 33)
      first | have ge33 := slot_of e33 | have ge33 := slot_un e33
      clear hO hD
      first | (refine wanted_ifG ?_ ?_; (· go_simp); refine wp_ld1 3 (.tmp 40) rfl ev40.out (bow.later bpl) rfl Tryz.underlying3 rfl ?_; exact qk hK rfl) | (go_simp; exact qk hK rfl) | (rcases ge33 with ge33 | ge33 <;> (go_simp; exact qk hK rfl))
     refine qh 24 39 26 41 18 33 28 ?_
     refine qc 18 33 27 42 29 ?_
     refine Steps.fin_ (fun vs x hp => ?_)
     simp only [qta, qtb, qda, qdb, putAll, Nat.zero_add, Nat.reduceAdd, Act.put, qsT, qsZ, qsS, qi (hp 0 qd), qi (hp 1 qd), qi (hp 2 qd), qi (hp 3 qd), qi (hp 4 qd), qi (hp 5 qd), qi (hp 6 qd), qi (hp 7 qd), qi (hp 8 qd), qi (hp 9 qd), qi (hp 10 qd), qi (hp 11 qd), qi (hp 12 qd), qi (hp 13 qd), qi (hp 14 qd), qi (hp 15 qd), qi (hp 16 qd), qi (hp 17 qd), qi (hp 18 qd), qi (hp 19 qd), qi (hp 20 qd), qi (hp 21 qd), qi (hp 22 qd), qi (hp 23 qd), qi (hp 24 qd), qi (hp 25 qd), qi (hp 26 qd), qi (hp 27 qd), qi (hp 28 qd)]
     clear hp
     clear vs
     have hb6 := hbV.trans ((below_plus wr x.bs x.d).mono hbV.size)
     generalize plus wr x.bs x.d = W6 at *
     go_wp2
     first
      | exact ⟨⟨la, i + 1, rfl, by first | rfl | go_num, by omega, by omega, by rw [HST.out, HBU.out, Bool.or_false], hb6⟩, by simp [intOf]; omega⟩
      | exact ⟨⟨i + 1, i + 1, by first | rfl | go_num, by first | rfl | go_num, by omega, by omega, by rw [HST.out, Bool.or_true]; simp, hb6⟩, by simp [intOf]; omega⟩
  ·have i2 : ¬ (i : Int) < (no : Int) := by omega
   obtain rfl : i = no := by omega
   have hLt : (L.map OpX.o).take i = L.map OpX.o := List.take_of_length_le (by have := HNO.out; simp; omega)
   rw [hLt] at HBU
   have hwl : IntKind.u64.wrap (la : Int) = (la : Int) := IntWalk.u64_in _ (by omega)
   have HBE := qy (be.trans (hbV.mono be.size))
   have q20 : wr.cell? ⟨w.heap.size, 20, none⟩ = some (.slice Ao i co) := bcw.cell 20
   obtain rfl := HA.out
   have q22 : wr.cell? ⟨w.heap.size, 22, none⟩ = some (.slice (some ⟨ba, oa, none⟩) 2 ca) := bcw.cell 22
   have qa0 : wr.cell? ⟨ba, oa, none⟩ = some (.int .u64 0) := (World.cell?_of_block (HBE.out.block ba hba)).trans (HCA.out 0 _ rfl)
   have qa1 : wr.cell? ⟨ba, oa + 1, none⟩ = some (.int .u64 0) := (World.cell?_of_block (HBE.out.block ba hba)).trans (HCA.out 1 _ rfl)
   have HR := qy (show RetV w (.bool (busyL (L.map OpX.o) (v, e))) (.returned (.bool (decide (0 < la)))) wr by rw [HBU.out]; exact RetV.is_ rfl HBE.out)
   go_upto_region 8 with (fail)
   clear q20
   go_loop [7] (fun J => ∃ (j : Nat), J = .int .i64 (j : Int) ∧ j ≤ 2 ∧ (j = 0 ∨ la = 0)) (fun J => 2 - (intOf J).toNat)
   case atStart => exact ⟨0, rfl, by omega, .inl rfl⟩
   case round =>
    obtain ⟨j, rfl, hj, hjl⟩ := hrel
    by_cases hj2 : j < 2
    ·have j2 : (j : Int) < 2 := by omega
     by_cases hl0 : la = 0
     ·have l0 : ¬ (0 : Int) < (la : Int) := by omega
      rcases (by omega : j = 0 ∨ j = 1) with rfl | rfl
      ·go_wp2
       exact ⟨⟨1, rfl, by omega, .inr hl0⟩, by simp [intOf]⟩
      ·go_wp2
       exact ⟨⟨2, rfl, by omega, .inr hl0⟩, by simp [intOf]⟩
     ·obtain rfl : j = 0 := by omega
      have l0 : (0 : Int) < (la : Int) := by omega
      go_wp2
      go_ret
      have := HR.out
      rwa [show decide (0 < la) = true by simp; omega] at this
    ·have j2 : ¬ (j : Int) < 2 := by omega
     have hl0 : la = 0 := by omega
     go_wp2
     go_ret
     have := HR.out
     rwa [show decide (0 < la) = false by simp; omega] at this
def isX (L : List OpX) (x : OpX) : List OpX := if isE k27 (L.map OpX.o) x.o = 0 then L ++ [x] else L
def RetRi (G : Nat → Prop) (w : World) (L : List OpX) (s : Nat) (sy sf : Int) (x : OpX) (e : Ending) (w' : World) : Prop := ∃ As ns cs Al nl cl Ao co Ak ca At ct, e = .returned (.tuple #[.agg (rkC As ns cs Al nl cl sy Ao (isX L x).length co sf Ak ca At ct).toArray, .int .i64 ((isE k27 (L.map OpX.o) x.o : Nat) : Int)]) ∧ RkX G w' (isX L x) s As ns cs Al nl cl Ao co Ak ca ∧ Below w.heap.size w w'
theorem RetRi.no {G : Nat → Prop} {w w' : World} {L : List OpX} {s : Nat} {sy sf : Int} {x : OpX} {As : Option Addr} {ns cs : Nat} {Al : Option Addr} {nl cl : Nat} {Ao : Option Addr} {no co : Nat} {Ak : Option Addr} {ca : Nat} {At : Option Addr} {ct : Nat} {v : Nat} (hn : L.length = no) (h : RkX G w L s As ns cs Al nl cl Ao co Ak ca) (hE : isE k27 (L.map OpX.o) x.o = v ∧ v ≠ 0) (hb : Below w.heap.size w w') : RetRi G w L s sy sf x (.returned (.tuple #[.agg (rkC As ns cs Al nl cl sy Ao no co sf Ak ca At ct).toArray, .int .i64 (v : Int)])) w' := by
 have hX : isX L x = L := if_neg (by rw [hE.1]; exact hE.2)
 refine ⟨As, ns, cs, Al, nl, cl, Ao, co, Ak, ca, At, ct, ?_, ?_, hb⟩
 ·rw [hX, hE.1, hn]
 ·rw [hX]; exact h.later hb
theorem OpX.cs_one (x : OpX) : ∀ u ∈ x.cs, u.oneCell' = true := opC_one _ _ _ _ _ _ _ _ _ _ _ _ _
theorem etRo : ET Tryz.prog 22 57 (.agg (opC 0 0 0 0 false 0 0 0 0 0 none 0 0).toArray) 11 96 := ⟨Tryz.underlying22, by kernel_rfl, by kernel_rfl, by decide, by decide⟩
def MP.frm (n : Nat) : MP := ⟨fun v w => ∃ A c l, v = .slice A n c ∧ Rb w A n c l, fun _ _ _ ⟨A, c, l, h1, h2⟩ h => ⟨A, c, l, h1, h2.later h.below⟩⟩
def MP.dsk (B : Nat) (As : Option Addr) (ns cs n : Nat) (sy : Int) (G : Value → Value) : MP := ⟨fun v w => ∃ A c l, v = G (.agg (rdC As ns cs A n c 100000 sy).toArray) ∧ Ob w B A n c l, fun _ _ _ ⟨A, c, l, h1, h2⟩ h => ⟨A, c, l, h1, h2.later h.below⟩⟩
theorem ob_kept {F : Nat → Prop} {w w' : World} {base : Nat} {A : Option Addr} {n c : Nat} {l : List UInt8} (h2 : Ob w base A n c l) (hk : Kept F w w') (hf : ∀ k, (Value.slice A n c).ownBlock = some k → F k) : Ob w' base A n c l := by
 refine ⟨h2.1, h2.2.1, ?_⟩
 have hlt := h2.blk
 rcases h2.2.2 with h' | ⟨g, cap, cur, hv, hg, hh, hr⟩
 ·exact .inl h'
 ·have ho : (Value.slice A n c).ownBlock = some g := by rw [hv]; rfl
  refine .inr ⟨g, cap, cur, hv, hg, ?_, hr⟩
  rw [hk.block g (hlt g ho).2 (hf g ho)]
  exact hh
theorem refOp_own (k v b e : Nat) (six : Bool) (ah al pt pr wy : Nat) (ms : List (Int × Int)) (A : Option Addr) (n c : Nat) (w : World) (k1 : k < 256) (k2 : v < 256) (k3 : b < 256) (k4 : e < 256) (k5 : wy < 256) (h1 : ah < 18446744073709551616) (h2 : al < 18446744073709551616) (h3 : pt < 65536) (h4 : pr < 256) (hr : Rs 2 w A n c (prs .i64 ms)) (hn64 : n ≤ 64)
  (hms : ms.all (fun p => shB p.1 && shB p.2) = true) : Calls Tryz.prog 25 #[.agg (opC k v b e six ah al pt pr wy A n c).toArray] w (RetB w (opB k v b e six ah al pt pr wy ms)) := by
 obtain ⟨da, a1, a2⟩ : ∃ d, Tryz.prog.underlying 53 = some d ∧ d.isRow = true := ⟨_, Tryz.underlying53, rfl⟩
 have HPL := qy (fun w => place_rb six ah al w h1 h2)
 have HMB := qy (fun w (h : Rs 2 w A n c (prs .i64 ms)) => refMembers_any ms A n c w h hn64 hms)
 have hr0 := hr
 have hml : ms.length = n := by have := hr.1; rw [prs_length] at this; omega
 have HT : Hid (([[UInt8.ofNat (k), UInt8.ofNat (v), UInt8.ofNat (b), UInt8.ofNat (e)], (placeB six ah al), (dig (pt) 2), [UInt8.ofNat (pr), UInt8.ofNat (wy)], (membersB ms)]).flatten.length ≤ 549755813888) := qy (by
  have := adrB_length six ah al
  simp [dig_length, placeB_len, membersB, pairsB_len]
  omega)
 have HE : Hid (([[UInt8.ofNat (k), UInt8.ofNat (v), UInt8.ofNat (b), UInt8.ofNat (e)], (placeB six ah al), (dig (pt) 2), [UInt8.ofNat (pr), UInt8.ofNat (wy)], (membersB ms)]).flatten = opB k v b e six ah al pt pr wy ms) := qy (by
  have d1 : ∀ x : Nat, dig x 1 = [UInt8.ofNat x] := fun x => by
   simp [dig]
   try (apply ofNat_eq; omega)
  simp [opB, d1])
 clear hml
 have hw0 : IntKind.u8.wrap (k : Int) = (k : Int) := IntWalk.u8_in _ (by omega)
 have hw1 : IntKind.u8.wrap (v : Int) = (v : Int) := IntWalk.u8_in _ (by omega)
 have hw2 : IntKind.u8.wrap (b : Int) = (b : Int) := IntWalk.u8_in _ (by omega)
 have hw3 : IntKind.u8.wrap (e : Int) = (e : Int) := IntWalk.u8_in _ (by omega)
 have hw4 : IntKind.u64.wrap (pt : Int) = (pt : Int) := IntWalk.u64_in _ (by omega)
 have hw5 : IntKind.u8.wrap (wy : Int) = (wy : Int) := IntWalk.u8_in _ (by omega)
 obtain ⟨dv1, v1, v2⟩ := rowRo
 obtain ⟨b1, be, zV⟩ := box1 w 57 (opC k v b e six ah al pt pr wy A n c)
 go_enter Tryz.func25, Tryz.ntmps25
 go_upto_region 1 with (fail)
 generalize w.alloc (.cells (opC k v b e six ah al pt pr wy A n c).toArray 57) = V at *
 have HC : Hid (∀ W, Below V.heap.size V W → Rs 2 W A n c (prs .i64 ms)) := qy (fun W h => hr0.later (be.trans (h.mono (by omega))))
 go_wp2
 refine wp_relS 32 34 rfl (by kernel_rfl) (by kernel_rfl) ?_
 refine qb 1 1 ?_
 refine ql 0 3 2 3 b1 Tryz.underlying3 ?_
 refine qa 1 4 3 ?_
 refine qb 1 4 ?_
 refine ql 3 6 5 3 b1 Tryz.underlying3 ?_
 refine qa 4 7 6 ?_
 refine qb 1 7 ?_
 refine ql 6 9 8 3 b1 Tryz.underlying3 ?_
 refine qa 7 10 9 ?_
 refine qb 1 10 ?_
 refine ql 9 12 11 3 b1 Tryz.underlying3 ?_
 refine qa 10 13 12 ?_
 apply qo (φ := (MP.rb [UInt8.ofNat (k), UInt8.ofNat (v), UInt8.ofNat (b), UInt8.ofNat (e)])) 13 rfl rfl
 ·intro FA x hO hD K hK
  have e5 := qe (hD 2 5)
  have e8 := qe (hD 5 8)
  have e11 := qe (hD 8 11)
  have e14 := qe (hD 11 14)
  clear hO hD
  go_simp
  refine hK.out _ _ (Ex.alloc _ _) ⟨_, _, _, rfl, ?_⟩
  refine Rb.litW _ [UInt8.ofNat (k), UInt8.ofNat (v), UInt8.ofNat (b), UInt8.ofNat (e)] ?_ rfl (by decide) ?_
  ·simp [size_plus]
  ·simp [bcs]; try omega
 refine qb 1 14 ?_
 apply qo (φ := (MP.eq (.agg (adC six ah al).toArray))) 15 rfl rfl
 ·intro FA x hO hD K hK
  obtain ⟨e16, ev16⟩ := qE (hD 13 16)
  clear hO hD
  refine wanted_if rfl ?_
  refine wp_ldA 53 (.tmp 16) rfl (adC six ah al) ev16.out (b1.later bpl) rfl a1 a2 (szAd _ _ _) ?_
  exact qk hK rfl
 apply qo (φ := (MP.rb (placeB six ah al))) 16 rfl rfl
 ·intro FA x hO hD K hK
  have e17 := qe (hD 14 17)
  clear hO hD
  go_simp
  refine (HPL.out _).mono ?_
  rintro e w1 ⟨A2, n2, c2, bs2, d2, rfl, rfl, hx2⟩
  exact hK.out _ _ (Ex.plus_ _ _ _) ⟨_, _, _, rfl, hx2⟩
 refine qb 1 17 ?_
 refine ql 16 19 18 54 b1 Tryz.underlying54 ?_
 refine qa 17 20 19 ?_
 apply qo (φ := (MP.rb (dig (pt) 2))) 20 rfl rfl
 ·intro FA x hO hD K hK
  have e21 := qe (hD 18 21)
  clear hO hD
  go_simp
  refine (refBytes_any (pt) 2 _ (by omega) (by omega)).mono ?_
  rintro e w1 ⟨A2, n2, c2, bs2, d2, rfl, rfl, ho2⟩
  exact hK.out _ _ (Ex.plus_ _ _ _) ⟨_, _, _, rfl, ho2.rb⟩
 refine qb 1 21 ?_
 refine ql 20 23 22 5 b1 Tryz.underlying5 ?_
 refine qb 1 23 ?_
 refine ql 22 25 24 3 b1 Tryz.underlying3 ?_
 refine qa 23 26 25 ?_
 apply qo (φ := (MP.rb [UInt8.ofNat (pr), UInt8.ofNat (wy)])) 26 rfl rfl
 ·intro FA x hO hD K hK
  have e24 := qe (hD 21 24)
  have e27 := qe (hD 24 27)
  clear hO hD
  go_simp
  refine hK.out _ _ (Ex.alloc _ _) ⟨_, _, _, rfl, ?_⟩
  refine Rb.litW _ [UInt8.ofNat (pr), UInt8.ofNat (wy)] ?_ rfl (by decide) ?_
  ·simp [size_plus]
  ·simp [bcs]; try omega
 refine qb 1 27 ?_
 refine ql 26 29 28 55 b1 Tryz.underlying55 ?_
 apply qo (φ := (MP.rb (membersB ms))) 29 rfl rfl
 ·intro FA x hO hD K hK
  have e30 := qe (hD 27 30)
  clear hO hD
  go_simp
  refine (HMB.out _ (HC.out _ bpl)).mono ?_
  rintro e w1 ⟨A2, n2, c2, bs2, d2, rfl, rfl, hx2⟩
  exact hK.out _ _ (Ex.plus_ _ _ _) ⟨_, _, _, rfl, hx2⟩
 apply qo (φ := (MP.rdl [[UInt8.ofNat (k), UInt8.ofNat (v), UInt8.ofNat (b), UInt8.ofNat (e)], (placeB six ah al), (dig (pt) 2), [UInt8.ofNat (pr), UInt8.ofNat (wy)], (membersB ms)])) 30 rfl rfl
 ·intro FA x hO hD K hK
  obtain ⟨u15, f15, e15, ev15⟩ := qG (hD 12 15)
  obtain ⟨u18, f18, e18, ev18⟩ := qG (hD 15 18)
  obtain ⟨u22, f22, e22, ev22⟩ := qG (hD 19 22)
  obtain ⟨u28, f28, e28, ev28⟩ := qG (hD 25 28)
  obtain ⟨u31, f31, e31, ev31⟩ := qG (hD 28 31)
  clear hO hD
  obtain ⟨A15, n15, c15, rfl, h15⟩ := f15
  obtain ⟨A18, n18, c18, rfl, h18⟩ := f18
  obtain ⟨A22, n22, c22, rfl, h22⟩ := f22
  obtain ⟨A28, n28, c28, rfl, h28⟩ := f28
  obtain ⟨A31, n31, c31, rfl, h31⟩ := f31
  go_simp
  refine hK.out _ _ (Ex.alloc _ _) ⟨_, _, _, rfl, ?_⟩
  refine RdL.litW _ _ ?_ ?_
  ·simp [size_plus]
  ·exact .cons ⟨_, _, _, rfl, h15⟩ (.cons ⟨_, _, _, rfl, h18⟩ (.cons ⟨_, _, _, rfl, h22⟩ (.cons ⟨_, _, _, rfl, h28⟩ (.cons ⟨_, _, _, rfl, h31⟩ (.nil)))))
 apply qo (φ := (MP.ob w.heap.size ([[UInt8.ofNat (k), UInt8.ofNat (v), UInt8.ofNat (b), UInt8.ofNat (e)], (placeB six ah al), (dig (pt) 2), [UInt8.ofNat (pr), UInt8.ofNat (wy)], (membersB ms)]).flatten)) 31 rfl rfl
 ·intro FA x hO hD K hK
  obtain ⟨u32, f32, e32, ev32⟩ := qG (hD 29 32)
  clear hO hD
  obtain ⟨A1, m1, c1, rfl, hl1⟩ := f32
  have hm1 : m1 ≤ 100 := by obtain ⟨_, _, h2, _⟩ := hl1; simp only [List.length_cons, List.length_nil] at h2; omega
  go_simp
  refine (refJoin_any A1 m1 c1 _ _ hl1 (by omega) HT.out).mono ?_
  rintro e w1 ⟨A2, n2, c2, bs2, d2, rfl, rfl, ho2⟩
  exact hK.out _ _ (Ex.plus_ _ _ _) ⟨_, _, _, rfl, ho2.mono (by simp [size_plus]; omega)⟩
 apply qo (φ := (MP.ob w.heap.size ([[UInt8.ofNat (k), UInt8.ofNat (v), UInt8.ofNat (b), UInt8.ofNat (e)], (placeB six ah al), (dig (pt) 2), [UInt8.ofNat (pr), UInt8.ofNat (wy)], (membersB ms)]).flatten)) 32 rfl rfl
 ·intro FA x hO hD K hK
  obtain ⟨u33, f33, e33, ev33⟩ := qG (hD 30 33)
  clear hO hD
  go_simp
  exact qk hK f33
 refine Steps.fin_ (fun vs x hp => ?_)
 have p12 := hp 12 qd
 have p15 := hp 15 qd
 have p19 := hp 19 qd
 have p25 := hp 25 qd
 have p28 := hp 28 qd
 have p29 := hp 29 qd
 have p30 := hp 30 qd
 have p31 := hp 31 qd
 simp only [qta, qtb, qda, qdb, putAll, Nat.zero_add, Nat.reduceAdd, Act.put, qsT, qsZ, qsS, qi (hp 0 qd), qi (hp 1 qd), qi (hp 2 qd), qi (hp 3 qd), qi (hp 4 qd), qi (hp 5 qd), qi (hp 6 qd), qi (hp 7 qd), qi (hp 8 qd), qi (hp 9 qd), qi (hp 10 qd), qi (hp 11 qd), qi (hp 13 qd), qi (hp 14 qd), qi (hp 16 qd), qi (hp 17 qd), qi (hp 18 qd), qi (hp 20 qd), qi (hp 21 qd), qi (hp 22 qd), qi (hp 23 qd), qi (hp 24 qd), qi (hp 26 qd), qi (hp 27 qd)]
 clear hp
 generalize vs 12 = y12 at *
 generalize vs 15 = y15 at *
 generalize vs 19 = y19 at *
 generalize vs 25 = y25 at *
 generalize vs 28 = y28 at *
 generalize vs 29 = y29 at *
 generalize vs 30 = y30 at *
 generalize vs 31 = y31 at *
 clear vs
 obtain ⟨A9, n9, c9, rfl, h9⟩ := p31
 go_wp2
 go_ret
 rw [HE.out] at h9
 exact RetB.mk h9 (belowP be x.bs x.d)
theorem refOp_intO (q v b e : Int) (six : Bool) (ah al pt pr : Nat) (wy : Int) (ms : List (Int × Int)) (A : Option Addr) (m d : Nat) (w : World) (ho : OpOk (⟨q, v, b, e, six, ah, al, pt, pr, wy, ms⟩ : OpR)) (hR : rgO (⟨q, v, b, e, six, ah, al, pt, pr, wy, ms⟩ : OpR) = true) (hr : Rs 2 w A m d (prs .i64 ms)) : Calls Tryz.prog 25 #[.agg (opC q v b e six ah al pt pr wy A m d).toArray] w (RetB w (opBs (⟨q, v, b, e, six, ah, al, pt, pr, wy, ms⟩ : OpR))) := by
 have hl := rgO_len hR
 have hml : m = ms.length := by have := hr.1; rw [prs_length] at this; omega
 have h0 := hR
 simp only [rgO, rightB, Bool.and_eq_true] at h0
 obtain ⟨⟨⟨⟨⟨r1, r2⟩, r3⟩, r4⟩, r5⟩, r6, r7, r8⟩ := h0
 have r1 := shB_rg r1
 have r2 := shB_rg r2
 have r3 := shB_rg r3
 have r4 := shB_rg r4
 have r5 := shB_rg r5
 have hah := ho.ah
 have hal := ho.al
 have hpt := ho.pt
 have hpr := ho.pr
 simp only [] at hah hal hpt hpr hl
 obtain ⟨q', rfl⟩ := Int.eq_ofNat_of_zero_le r1.1
 obtain ⟨v', rfl⟩ := Int.eq_ofNat_of_zero_le r2.1
 obtain ⟨b', rfl⟩ := Int.eq_ofNat_of_zero_le r3.1
 obtain ⟨e', rfl⟩ := Int.eq_ofNat_of_zero_le r4.1
 obtain ⟨wy', rfl⟩ := Int.eq_ofNat_of_zero_le r5.1
 have h := refOp_own q' v' b' e' six ah al pt pr wy' ms A m d w (by omega) (by omega) (by omega) (by omega) (by omega) hah hal hpt hpr hr (by omega) r8
 simpa [opBs] using h
theorem refIssue26 {G : Nat → Prop} (L : List OpX) (s : Nat) (As : Option Addr) (ns cs : Nat) (Al : Option Addr) (nl cl : Nat) (sy : Int) (Ao : Option Addr) (co : Nat) (sf : Int) (Ak : Option Addr) (ca : Nat) (At : Option Addr) (ct : Nat) (q v b e : Int) (six : Bool) (ah al pt pr : Nat) (wy : Int) (ms : List (Int × Int)) (A : Option Addr) (m d : Nat) (w : World) (h : RkX G w L s As ns cs Al nl cl Ao co Ak ca) (hAo : ∀ a, Ao = some a → a.block < w.heap.size) (hx : OpX.ok w (⟨q, v, b, e, six, ah, al, pt, pr, wy, ms, A, m, d⟩ : OpX)) (hm : m ≤ 1000) (hL : L.length ≤ 60) (hG : ∀ b, G b → b < w.heap.size) (hxo : ms ≠ [] → Off G w A) : Calls Tryz.prog 16 #[.agg (rkC As ns cs Al nl cl sy Ao L.length co sf Ak ca At ct).toArray, .agg (opC q v b e six ah al pt pr wy A m d).toArray] w (RetRi G w L s sy sf (⟨q, v, b, e, six, ah, al, pt, pr, wy, ms, A, m, d⟩ : OpX)) := by
 obtain ⟨dvr, vr1, vr2⟩ := rowRdk
 obtain ⟨dvs, vs1, vs2⟩ := rowRcS
 obtain ⟨dvc, vc1, vc2⟩ := rowRk
 obtain ⟨dvo, vo1, vo2⟩ := rowRo
 obtain ⟨no, hno⟩ : ∃ no, L.length = no := ⟨_, rfl⟩
 have hno1 : no ≤ 60 := by rw [← hno]; exact hL
 have hoo : OpOk (⟨q, v, b, e, six, ah, al, pt, pr, wy, ms⟩ : OpR) := OpX.ok_o hx
 have HXO := qy hx
 have HXF := qy hxo
 have HAO := qy hAo
 have HX0 := qy h
 have HNO := qy hno
 have HOP := qy (fun W (hb : Below w.heap.size w W) => show Rs 11 W Ao no co (L.flatMap OpX.cs) by rw [← hno]; exact (h.ops).later hb)
 have HMR := qy (fun W (hb : Below w.heap.size w W) => (OpX.rs hx).later hb)
 have HRG := qy (fun W (hw : Rs 2 W A m d (prs .i64 ms)) => refRight_any q v b e six ah al pt pr wy ms A m d W hoo.al hw (by omega))
 obtain ⟨ls, hls⟩ := h.ds
 obtain ⟨ll, hll⟩ := h.dl
 have hdn := h.dn
 have hdl := h.ok.dl
 have h1m : ns ≤ 1000000 := by omega
 have h2m : nl ≤ 1000000 := by omega
 have HDL := qy (fun W (hb : Below w.heap.size w W) => hll.later hb)
 have HBU := qy (fun W (hb : Below w.heap.size w W) => refBusy26 L s As ns cs Al nl cl sy Ao co sf Ak ca At ct q v b e six ah al pt pr wy A m d W (h.later hb))
 have HST := qy (fun W (hb : Below w.heap.size w W) => refState26 L s As ns cs Al nl cl sy Ao co sf Ak ca At ct L.length (Nat.le_refl _) W (h.later hb))
 rw [show (L.map OpX.o).take L.length = L.map OpX.o from List.take_of_length_le (by simp), hno] at HST
 rw [hno] at HBU
 have HC := qy (stL_ok (key := k27) rfl (fun o ho => (h.ok.ok o ho).1))
 obtain ⟨C, hC⟩ : ∃ C, stL k27 (L.map OpX.o) = C := ⟨_, rfl⟩
 rw [hC] at HST HC
 have hk := HC.out.key
 have hb := HC.out.bl
 have HOK := qy (apC_ok HC.out hoo)
 have HAP := qy (fun W (hbW : Below w.heap.size w W) (A5 : Option Addr) (n5 c5 : Nat) (E5 : List Re) (hX5 : RcX (fun _ => False) W C A5 n5 c5 E5) => refApply_any q v b e six ah al pt pr wy ms A m d C HC.out A5 n5 c5 E5 W (fun b hb3 => hb3.elim) hX5 (HMR.out W hbW) (by omega) hoo.al)
 obtain ⟨C', hC'⟩ : ∃ C', apC C (⟨q, v, b, e, six, ah, al, pt, pr, wy, ms⟩ : OpR) = C' := ⟨_, rfl⟩
 rw [hC'] at HAP HOK
 have hk2 := HOK.out.key
 have hb2 := HOK.out.bl
 clear hC'
 have HCO := qy hC
 obtain ⟨ce, hce⟩ : ∃ ce, chE C (⟨q, v, b, e, six, ah, al, pt, pr, wy, ms⟩ : OpR) = ce := ⟨_, rfl⟩
 rw [hce] at HAP
 have HCE := qy hce
 obtain ⟨bb, hbb⟩ : ∃ bb, busyL (L.map OpX.o) (v, e) = bb := ⟨_, rfl⟩
 rw [hbb] at HBU
 have HBB := qy hbb
 obtain ⟨rr, hrr⟩ : ∃ rr, rightB q v b e six ah al wy ms = rr := ⟨_, rfl⟩
 rw [hrr] at HRG
 have HRR := qy (show rgO (⟨q, v, b, e, six, ah, al, pt, pr, wy, ms⟩ : OpR) = rr from hrr)
 have HDN := qy hdn
 rw [hno]
 clear hno h hx hxo hAo hC hce hbb hrr hdl hdn hL hls hll
 obtain ⟨bc, bo, bz, be, zV⟩ := box3 w 33 57 33 (rkC As ns cs Al nl cl sy Ao no co sf Ak ca At ct) (opC q v b e six ah al pt pr wy A m d) ([.int .u8 0, .int .u8 0, .int .u8 0, .int .u8 0, .int .u8 0, .int .u8 0, .int .u8 0, .int .u8 0, .int .u8 0, .int .u8 0, .int .u8 0, .int .u8 0, .int .u8 0, .int .u8 0, .int .u8 0, .int .u8 0, .slice none 0 0, .slice none 0 0, .int .i64 0, .int .i64 0, .slice none 0 0, .int .i64 0, .slice none 0 0, .slice none 0 0])
 go_enter Tryz.func16, Tryz.ntmps16
 go_upto_region 1 with (fail)
 generalize ((w.alloc (.cells (rkC As ns cs Al nl cl sy Ao no co sf Ak ca At ct).toArray 33)).alloc (.cells (opC q v b e six ah al pt pr wy A m d).toArray 57)).alloc (.cells ([.int .u8 0, .int .u8 0, .int .u8 0, .int .u8 0, .int .u8 0, .int .u8 0, .int .u8 0, .int .u8 0, .int .u8 0, .int .u8 0, .int .u8 0, .int .u8 0, .int .u8 0, .int .u8 0, .int .u8 0, .int .u8 0, .slice none 0 0, .slice none 0 0, .int .i64 0, .int .i64 0, .slice none 0 0, .int .i64 0, .slice none 0 0, .slice none 0 0]).toArray 33) = V at *
 replace bz : Bk V (w.heap.size + 1 + 1) 33 zk0 := bz
 refine wp_region_lit ?_
 refine qA 57 (.tmp 3) bo vo1 vo2 (szRo _ _ _ _ _ _ _ _ _ _ _ _ _) ?_
 refine wpq fun K hK => ?_
 go_simp
 refine (HRG.out _ (HMR.out _ be)).mono ?_
 rintro e w1 ⟨bs1, d1, rfl, rfl⟩
 with_reducible refine hK _ _ ?_
 clear hK K
 have hb1 := below_plus V bs1 d1
 replace bc := bc.later hb1
 replace bo := bo.later hb1
 replace bz := bz.later hb1
 replace be := be.trans (hb1.mono be.size)
 replace zV := Nat.le_trans zV hb1.size
 clear hb1
 generalize plus V bs1 d1 = W1 at *
 refine qw ?_
 cases rr with
 | false =>
  have hE : isE k27 (L.map OpX.o) (OpX.o (⟨q, v, b, e, six, ah, al, pt, pr, wy, ms, A, m, d⟩ : OpX)) = 1 ∧ 1 ≠ 0 := ⟨by show isE k27 (L.map OpX.o) (⟨q, v, b, e, six, ah, al, pt, pr, wy, ms⟩ : OpR) = 1; unfold isE; rw [if_pos HRR.out], by decide⟩
  go_upto_region 2 with (fail)
  refine wp_region_lit ?_
  refine qA 33 (.tmp 2) bc vc1 vc2 (szRk _ _ _ _ _ _ _ _ _ _ _ _ _ _ _) ?_
  simp only [Act.put, qsT, qsZ, qsS]
  refine wpList_stA (t := 33) 33 (.tmp 4) (.tmp 15) rfl rfl (rkC As ns cs Al nl cl sy Ao no co sf Ak ca At ct) zk0 (by rfl) (rkC_one _ _ _ _ _ _ _ _ _ _ _ _ _ _ _) rfl rfl bz (szRk _ _ _ _ _ _ _ _ _ _ _ _ _ _ _) ?_
  intro W9 h9 g9
  refine qw ?_
  replace be := below_grown be g9 (by omega)
  go_wp2
  refine bodyPost_agg2 Tryz.results16 rfl rfl h9.range vc1 vc2 (szRk _ _ _ _ _ _ _ _ _ _ _ _ _ _ _) rfl ?_
  exact RetRi.no HNO.out HX0.out (hE) be
 | true =>
  go_upto_region 3 with (fail)
  refine wp_region_lit ?_
  refine qA 33 (.tmp 2) bc vc1 vc2 (szRk _ _ _ _ _ _ _ _ _ _ _ _ _ _ _) ?_
  refine qw ?_
  refine qL 22 (.tmp 18) bc Tryz.underlying22 ?_
  refine qw ?_
  refine wpq fun K hK => ?_
  go_simp
  refine (HST.out _ be).mono ?_
  rintro e w1 ⟨A5, n5, c5, E5, rfl, hX5, hb2⟩
  with_reducible refine hK _ _ ?_
  clear hK K
  generalize hWW : w1 = W2 at *
  clear hWW
  replace bc := bc.later hb2
  replace bo := bo.later hb2
  replace bz := bz.later hb2
  replace be := be.trans (hb2.mono be.size)
  replace zV := Nat.le_trans zV hb2.size
  clear hb2
  iterate 4 (refine qw ?_)
  have hs9 := Bk.newK 83 (Tryz.zeroCells83) _ (show W2.heap.size = W2.heap.size from rfl) rfl
  have hsl : (Tryz.zeroCells83).toList.length = 279 := by kernel_rfl
  have hs64 : N64 (Tryz.zeroCells83).toList := n64_zero
  have b9 := Below.allocS (Below.refl W2.heap.size W2) (.cells (Tryz.zeroCells83) 83)
  generalize W2.alloc (.cells (Tryz.zeroCells83) 83) = W2b at *
  generalize (Tryz.zeroCells83).toList = zs0 at *
  replace hX5 := hX5.later b9
  have gsz := zV
  replace bc := bc.later b9
  replace bo := bo.later b9
  replace bz := bz.later b9
  replace be := be.trans (b9.mono be.size)
  replace zV := Nat.le_trans zV b9.size
  clear b9
  refine wpList_stA (t := 83) 83 (.tmp 6) (.tmp 22) rfl rfl (rcC C A5 n5 c5) zs0 (by rw [rcC_len _ hk hb]; exact hsl.symm) (rcL_one _ _ _ _ _ _ _ _) rfl rfl hs9 (szRcS _ hk hb _ _ _) ?_
  intro W3 h3 g3
  simp only [Act.put, qsT, qsZ, qsS]
  replace hX5 := hX5.no64 hs9 hs64 g3
  replace bc := bc.grown g3 (fun e => by injection e with e; omega)
  replace bo := bo.grown g3 (fun e => by injection e with e; omega)
  replace bz := bz.grown g3 (fun e => by injection e with e; omega)
  replace be := below_grown be g3 (by omega)
  replace zV := Nat.le_trans zV g3.size
  clear g3 hs9 hs64 hsl
  generalize hgs : W2.heap.size = gs at *
  clear hgs
  refine qw ?_
  go_upto_region 4 with (fail)
  refine wp_region_lit ?_
  refine qA 83 (.tmp 6) h3 vs1 vs2 (szRcS C hk hb A5 n5 c5) ?_
  simp only [Act.put, qsT, qsZ, qsS]
  refine qA 57 (.tmp 3) bo vo1 vo2 (szRo _ _ _ _ _ _ _ _ _ _ _ _ _) ?_
  refine wpq fun K hK => ?_
  go_simp
  refine (HAP.out _ be A5 n5 c5 E5 hX5).mono ?_
  rintro e w1 ⟨A7, n7, c7, E7, rfl, hX7, hb4⟩
  with_reducible refine hK _ _ ?_
  clear hK K
  generalize hWW : w1 = W4 at *
  clear hWW
  replace bc := bc.later hb4
  replace bo := bo.later hb4
  replace bz := bz.later hb4
  replace be := be.trans (hb4.mono be.size)
  replace zV := Nat.le_trans zV hb4.size
  clear hb4
  iterate 4 (refine qw ?_)
  have hs9 := Bk.newK 83 (Tryz.zeroCells83) _ (show W4.heap.size = W4.heap.size from rfl) rfl
  have hsl : (Tryz.zeroCells83).toList.length = 279 := by kernel_rfl
  have hs64 : N64 (Tryz.zeroCells83).toList := n64_zero
  have b9 := Below.allocS (Below.refl W4.heap.size W4) (.cells (Tryz.zeroCells83) 83)
  generalize W4.alloc (.cells (Tryz.zeroCells83) 83) = W4b at *
  generalize (Tryz.zeroCells83).toList = zs0 at *
  have gsz := zV
  replace bc := bc.later b9
  replace bo := bo.later b9
  replace bz := bz.later b9
  replace be := be.trans (b9.mono be.size)
  replace zV := Nat.le_trans zV b9.size
  clear b9
  refine wpList_stA (t := 83) 83 (.tmp 8) (.tmp 28) rfl rfl (rcC C' A7 n7 c7) zs0 (by rw [rcC_len _ hk2 hb2]; exact hsl.symm) (rcL_one _ _ _ _ _ _ _ _) rfl rfl hs9 (szRcS _ hk2 hb2 _ _ _) ?_
  intro W3 h3 g3
  simp only [Act.put, qsT, qsZ, qsS]
  replace bc := bc.grown g3 (fun e => by injection e with e; omega)
  replace bo := bo.grown g3 (fun e => by injection e with e; omega)
  replace bz := bz.grown g3 (fun e => by injection e with e; omega)
  replace be := below_grown be g3 (by omega)
  replace zV := Nat.le_trans zV g3.size
  clear g3 hs9 hs64 hsl h3 hX7
  refine qw ?_
  by_cases hc0 : ce = 0
  rotate_left
  ·have hE : isE k27 (L.map OpX.o) (OpX.o (⟨q, v, b, e, six, ah, al, pt, pr, wy, ms, A, m, d⟩ : OpX)) = ce ∧ ce ≠ 0 := ⟨by show isE k27 (L.map OpX.o) (⟨q, v, b, e, six, ah, al, pt, pr, wy, ms⟩ : OpR) = ce; unfold isE; rw [if_neg (by rw [HRR.out]; decide), HCO.out, HCE.out, if_pos hc0], hc0⟩
   have ce0 : ((ce : Int) == 0) = false := by simpa using hc0
   have ce1 : ¬ (ce : Int) = 0 := by simpa using hc0
   clear hc0
   go_upto_region 6 with (fail)
   refine wp_region_lit ?_
   refine qA 33 (.tmp 2) bc vc1 vc2 (szRk _ _ _ _ _ _ _ _ _ _ _ _ _ _ _) ?_
   refine qw ?_
   refine wpList_stA (t := 33) 33 (.tmp 4) (.tmp 32) rfl rfl (rkC As ns cs Al nl cl sy Ao no co sf Ak ca At ct) zk0 (by rfl) (rkC_one _ _ _ _ _ _ _ _ _ _ _ _ _ _ _) rfl rfl bz (szRk _ _ _ _ _ _ _ _ _ _ _ _ _ _ _) ?_
   intro W9 h9 g9
   refine qw ?_
   replace be := below_grown be g9 (by omega)
   go_wp2
   refine bodyPost_agg2 Tryz.results16 rfl rfl h9.range vc1 vc2 (szRk _ _ _ _ _ _ _ _ _ _ _ _ _ _ _) rfl ?_
   exact RetRi.no HNO.out HX0.out (hE) be
  subst hc0
  have HE1 := qy (show isE k27 (L.map OpX.o) (⟨q, v, b, e, six, ah, al, pt, pr, wy, ms⟩ : OpR) = (if (decide (q = 5) && bb) = true then 27 else if 100000 < dlenL (L.map OpX.o) + (14 + (opBs (⟨q, v, b, e, six, ah, al, pt, pr, wy, ms⟩ : OpR)).length) then 23 else 0) by
   unfold isE
   rw [if_neg (by rw [HRR.out]; decide), HCO.out, HCE.out, if_neg (by simp), HBB.out])
  obtain ⟨bl, hbl⟩ : ∃ bl, (opBs (⟨q, v, b, e, six, ah, al, pt, pr, wy, ms⟩ : OpR)).length = bl := ⟨_, rfl⟩
  rw [hbl] at HE1
  have hbl3 : bl ≤ 300 := by rw [← hbl]; exact opBs_le HRR.out
  have HBL := qy hbl
  have HOB := qy (fun W (hw : Rs 2 W A m d (prs .i64 ms)) => refOp_intO q v b e six ah al pt pr wy ms A m d W hoo HRR.out hw)
  clear hbl hoo h3
  generalize hW5 : W3 = W5 at *
  clear hW5
  have h3c : (q = 5 ∧ bb = true) ∨ ((q == 5) = false ∧ (decide (q = 5) && bb) = false) ∨ ((q == 5) = true ∧ bb = false ∧ (decide (q = 5) && bb) = false) := by
   by_cases q5 : q = 5
   ·cases bb with
    | true => exact .inl ⟨q5, rfl⟩
    | false => exact .inr (.inr ⟨by simp [q5], rfl, by simp⟩)
   ·exact .inr (.inl ⟨by simpa using q5, by simp [q5]⟩)
  rcases h3c with ⟨q5, rfl⟩ | ⟨q5b, HQB⟩ | ⟨q5b, rfl, HQB⟩
  ·have hE : isE k27 (L.map OpX.o) (OpX.o (⟨q, v, b, e, six, ah, al, pt, pr, wy, ms, A, m, d⟩ : OpX)) = 27 ∧ 27 ≠ 0 := ⟨by show isE k27 (L.map OpX.o) (⟨q, v, b, e, six, ah, al, pt, pr, wy, ms⟩ : OpR) = 27; rw [HE1.out, if_pos (by simp [q5])], by decide⟩
   have q5b : (q == 5) = true := by simp [q5]
   clear q5
   go_upto_region 7 with (fail)
   refine wp_region_lit ?_
   refine qw ?_
   refine qL 3 (.tmp 34) bo Tryz.underlying3 ?_
   iterate 2 (refine qw ?_)
   refine wpList_ldG (t := 33) 33 (.tmp 2) rfl (by go_simp) (rkC As ns cs Al nl cl sy Ao no co sf Ak ca At ct) rfl (bc) (whole_ _) vc1 vc2 (szRk _ _ _ _ _ _ _ _ _ _ _ _ _ _ _) ?_
   simp only [Act.put, qsT, qsZ, qsS]
   refine wpList_ldG (t := 57) 57 (.tmp 3) rfl (by go_simp) (opC q v b e six ah al pt pr wy A m d) rfl (bo) (whole_ _) vo1 vo2 (szRo _ _ _ _ _ _ _ _ _ _ _ _ _) ?_
   refine wpList_step (fun K hK => ?_)
   go_simp
   refine (HBU.out _ be).mono ?_
   rintro e w1 ⟨bs1, d1, rfl, rfl⟩
   with_reducible refine hK _ _ ?_
   clear hK K
   have hb1 := below_plus W5 bs1 d1
   replace bc := bc.later hb1
   replace bo := bo.later hb1
   replace bz := bz.later hb1
   replace be := be.trans (hb1.mono be.size)
   replace zV := Nat.le_trans zV hb1.size
   clear hb1
   generalize plus W5 bs1 d1 = W6 at *
   refine qw ?_
   go_upto_region 8 with (fail)
   refine wp_region_lit ?_
   refine qA 33 (.tmp 2) bc vc1 vc2 (szRk _ _ _ _ _ _ _ _ _ _ _ _ _ _ _) ?_
   simp only [Act.put, qsT, qsZ, qsS]
   refine wpList_stA (t := 33) 33 (.tmp 4) (.tmp 42) rfl rfl (rkC As ns cs Al nl cl sy Ao no co sf Ak ca At ct) zk0 (by rfl) (rkC_one _ _ _ _ _ _ _ _ _ _ _ _ _ _ _) rfl rfl bz (szRk _ _ _ _ _ _ _ _ _ _ _ _ _ _ _) ?_
   intro W9 h9 g9
   refine qw ?_
   replace be := below_grown be g9 (by omega)
   go_wp2
   refine bodyPost_agg2 Tryz.results16 rfl rfl h9.range vc1 vc2 (szRk _ _ _ _ _ _ _ _ _ _ _ _ _ _ _) rfl ?_
   exact RetRi.no HNO.out HX0.out (hE) be
  iterate 2
   focus
    replace HE1 := qy (HE1.out.trans (if_neg (by rw [HQB]; decide)))
    clear HQB
    go_upto_region 7 with (fail)
    refine wp_region_lit ?_
    refine qw ?_
    refine qL 3 (.tmp 34) bo Tryz.underlying3 ?_
    iterate 2 (refine qw ?_)
    first | ((with_reducible refine wpList_skip ?_ ?_); (· first | (go_simp; done) | (go_simp; intro h; cases h)); simp only [Act.put, qsT, qsZ, qsS]) | (refine wpList_ldG (t := 33) 33 (.tmp 2) rfl (by go_simp) (rkC As ns cs Al nl cl sy Ao no co sf Ak ca At ct) rfl (bc) (whole_ _) vc1 vc2 (szRk _ _ _ _ _ _ _ _ _ _ _ _ _ _ _) ?_; simp only [Act.put, qsT, qsZ, qsS])
    first | ((with_reducible refine wpList_skip ?_ ?_); (· first | (go_simp; done) | (go_simp; intro h; cases h)); simp only [Act.put, qsT, qsZ, qsS]) | (refine wpList_ldG (t := 57) 57 (.tmp 3) rfl (by go_simp) (opC q v b e six ah al pt pr wy A m d) rfl (bo) (whole_ _) vo1 vo2 (szRo _ _ _ _ _ _ _ _ _ _ _ _ _) ?_; simp only [Act.put, qsT, qsZ, qsS])
    first | ((with_reducible refine wpList_skip ?_ ?_); (· first | (go_simp; done) | (go_simp; intro h; cases h)); simp only [Act.put, qsT, qsZ, qsS]) | (refine wpList_step (fun K hK => ?_); go_simp; refine (HBU.out _ be).mono ?_; rintro e w1 ⟨bs1, d1, rfl, rfl⟩; (with_reducible refine hK _ _ ?_); clear hK K; have hb1 := below_plus W5 bs1 d1; replace bc := bc.later hb1; replace bo := bo.later hb1; replace bz := bz.later hb1; replace be := be.trans (hb1.mono be.size); replace zV := Nat.le_trans zV hb1.size; clear hb1; generalize plus W5 bs1 d1 = W6 at *)
    refine qw ?_
    first | (generalize hWz : W6 = Wz at *) | (generalize hWz : W5 = Wz at *)
    clear hWz
    generalize hWz : Wz = W6 at *
    clear hWz
    clear q5b
    obtain ⟨j1, hj1⟩ : ∃ j1, no + 1 = j1 := ⟨_, rfl⟩
    have hj2 : j1 ≤ 100 := by omega
    have hu1 : IntKind.i64.wrap ((no : Int) + 1) = (j1 : Int) := by rw [IntWalk.i64_in _ (by omega)]; omega
    have hu2 : IntKind.u64.wrap (j1 : Int) = (j1 : Int) := IntWalk.u64_in _ (by omega)
    clear hj1
    have q20 : W6.cell? ⟨w.heap.size, 20, none⟩ = some (.slice Ao no co) := bc.cell 20
    by_cases hf : 100000 < dlenL (L.map OpX.o) + (14 + bl)
    ·have HE0 := qy (show isE k27 (L.map OpX.o) (OpX.o (⟨q, v, b, e, six, ah, al, pt, pr, wy, ms, A, m, d⟩ : OpX)) = 23 ∧ 23 ≠ 0 from ⟨HE1.out.trans (if_pos hf), by decide⟩)
     have hfull : (100000 : Int) < (ns : Int) + (nl : Int) + ((14 + bl : Nat) : Int) := by have := HDN.out; omega
     clear hf
     go_upto_region 9 with (fail)
     clear q20
     refine wp_relES 15 72 [13] rfl (by kernel_rfl) (by kernel_rfl) ?_
     apply Steps.oneE (MP.eq _) 1 rfl (by decide)
     ·intro o ho FA x hO hD K hK
      obtain rfl := qoi ho
      have e2 := hO 2 (by kernel_rfl)
      simp only [eval_tmp, qgT, qgS, qgZ, qoS] at e2
      have ev2 := qy ((eval_tmp FA 2).trans e2)
      clear hO hD ho
      go_simp
      exact qk hK rfl
     apply Steps.oneE (MP.eq _) 2 rfl (by decide)
     ·intro o ho FA x hO hD K hK
      obtain rfl := qoi ho
      obtain ⟨e44, ev44⟩ := qE (hD 0 44 (by kernel_rfl))
      clear hO hD ho
      refine wanted_if rfl ?_
      refine wp_ldA 30 (.tmp 44) rfl (rdC As ns cs Al nl cl 100000 sy) ev44.out (bc.later bpl) rfl vr1 vr2 (szRdk _ _ _ _ _ _ _ _) ?_
      exact qk hK rfl
     apply Steps.oneE (MP.eq _) 3 rfl (by decide)
     ·intro o ho FA x hO hD K hK
      obtain rfl := qoi ho
      have e2 := hO 2 (by kernel_rfl)
      simp only [eval_tmp, qgT, qgS, qgZ, qoS] at e2
      have ev2 := qy ((eval_tmp FA 2).trans e2)
      clear hO hD ho
      go_simp
      exact qk hK rfl
     apply Steps.oneE (MP.eq _) 4 rfl (by decide)
     ·intro o ho FA x hO hD K hK
      obtain rfl := qoi ho
      obtain ⟨e46, ev46⟩ := qE (hD 2 46 (by kernel_rfl))
      clear hO hD ho
      refine wanted_if rfl ?_
      refine wp_ld1 22 (.tmp 46) rfl ev46.out (bc.later bpl) rfl Tryz.underlying22 rfl ?_
      exact qk hK rfl
     apply Steps.oneE (MP.eq _) 5 rfl (by decide)
     ·intro o ho FA x hO hD K hK
      obtain rfl := qoi ho
      obtain ⟨e47, ev47⟩ := qE (hD 3 47 (by kernel_rfl))
      clear hO hD ho
      go_simp
      exact qk hK rfl
     apply Steps.oneE (MP.eq _) 6 rfl (by decide)
     ·intro o ho FA x hO hD K hK
      obtain rfl := qoi ho
      obtain ⟨e48, ev48⟩ := qE (hD 4 48 (by kernel_rfl))
      clear hO hD ho
      go_simp
      exact qk hK rfl
     apply Steps.oneE (MP.eq _) 7 rfl (by decide)
     ·intro o ho FA x hO hD K hK
      obtain rfl := qoi ho
      obtain ⟨e49, ev49⟩ := qE (hD 5 49 (by kernel_rfl))
      clear hO hD ho
      go_simp
      exact qk hK rfl
     apply Steps.oneE (MP.eq _) 8 rfl (by decide)
     ·intro o ho FA x hO hD K hK
      obtain rfl := qoi ho
      have e3 := hO 3 (by kernel_rfl)
      simp only [eval_tmp, qgT, qgS, qgZ, qoS] at e3
      have ev3 := qy ((eval_tmp FA 3).trans e3)
      clear hO hD ho
      refine wanted_if rfl ?_
      refine wp_ldA 57 (.tmp 3) rfl (opC q v b e six ah al pt pr wy A m d) ev3.out (bo.later bpl) (whole_ _) vo1 vo2 (szRo _ _ _ _ _ _ _ _ _ _ _ _ _) ?_
      exact qk hK rfl
     apply Steps.oneE (MP.rb (opBs (⟨q, v, b, e, six, ah, al, pt, pr, wy, ms⟩ : OpR))) 9 rfl (by decide)
     ·intro o ho FA x hO hD K hK
      obtain rfl := qoi ho
      obtain ⟨e51, ev51⟩ := qE (hD 7 51 (by kernel_rfl))
      clear hO hD ho
      go_simp
      refine (HOB.out _ ((HMR.out _ be).later (below_plus W6 x.bs x.d))).mono ?_
      rintro e9 w9 ⟨A9, n9, c9, bs9, d9, rfl, rfl, o9⟩
      exact hK.out _ _ (Ex.plus_ _ _ _) ⟨_, _, _, rfl, o9.rb⟩
     apply Steps.oneE (MP.frm (14 + bl)) 10 rfl (by decide)
     ·intro o ho FA x hO hD K hK
      obtain rfl := qoi ho
      obtain ⟨e50, ev50⟩ := qE (hD 6 50 (by kernel_rfl))
      obtain ⟨u52, f52, e52, ev52⟩ := qG (hD 8 52 (by kernel_rfl))
      clear hO hD ho
      obtain ⟨A8, n8, c8, rfl, r8⟩ := f52
      obtain rfl : n8 = bl := by rw [← r8.1]; exact HBL.out
      go_simp
      refine (refFrame j1 (by omega) A8 n8 c8 _ _ r8 (by omega)).mono ?_
      rintro e9 w9 ⟨l9, hl9, A9, n9, c9, bs9, d9, rfl, rfl, o9⟩
      obtain rfl : n9 = 14 + n8 := by rw [← o9.1]; exact hl9
      exact hK.out _ _ (Ex.plus_ _ _ _) ⟨_, _, _, rfl, o9.rb⟩
     apply Steps.oneE (MP.eq _) 11 rfl (by decide)
     ·intro o ho FA x hO hD K hK
      obtain rfl := qoi ho
      obtain ⟨e45, ev45⟩ := qE (hD 1 45 (by kernel_rfl))
      obtain ⟨u53, f53, e53, ev53⟩ := qG (hD 9 53 (by kernel_rfl))
      clear hO hD ho
      obtain ⟨A8, c8, l8, rfl, r8⟩ := f53
      go_simp
      refine (refDApp_full As ns cs Al nl cl 100000 sy A8 (14 + bl) c8 _ h1m h2m (by omega) hfull).mono ?_
      rintro e9 w9 ⟨bs9, d9, rfl, rfl⟩
      exact hK.out _ _ (Ex.plus_ _ _ _) rfl
     apply Steps.oneE (MP.eq _) 12 rfl (by decide)
     ·intro o ho FA x hO hD K hK
      obtain rfl := qoi ho
      obtain ⟨e54, ev54⟩ := qE (hD 10 54 (by kernel_rfl))
      clear hO hD ho
      go_simp
      exact qk hK rfl
     apply Steps.oneE (MP.eq _) 13 rfl (by decide)
     ·intro o ho FA x hO hD K hK
      obtain rfl := qoi ho
      obtain ⟨e43, ev43⟩ := qE (hD 11 43 (by kernel_rfl))
      clear hO hD ho
      go_simp
      exact qk hK rfl
     apply Steps.oneP (.int .i64 23) 14 rfl (by decide)
     ·intro o ho FA x hO hD
      obtain rfl := qoi ho
      obtain ⟨e43, ev43⟩ := qE (hD 11 43 (by kernel_rfl))
      clear hO hD ho
      refine .inl ⟨by simp [Region.wanted], fun w => ?_⟩
      go_simp
     apply Steps.oneE (MP.blk W6.heap.size 30 [.slice none 0 0, .slice none 0 0, .int .i64 0, .int .i64 0]) 15 rfl (by decide)
     ·intro o ho FA x hO hD K hK
      obtain rfl := qoi ho
      clear hO hD ho
      go_simp
      exact hK.out _ _ (Ex.alloc _ _) ⟨_, rfl, Nat.le_add_right _ _, Bk.newK _ _ _ (by simp [size_plus]) rfl⟩
     refine Steps.fin_ (fun vs x hp => ?_)
     have p8 := hp 8 qd
     have p9 := hp 9 qd
     have p14 := hp 14 qd
     simp only [qta, qtb, qda, qdb, putAll, Nat.zero_add, Nat.reduceAdd, Act.put, qsT, qsZ, qsS, qi (hp 0 qd), qi (hp 1 qd), qi (hp 2 qd), qi (hp 3 qd), qi (hp 4 qd), qi (hp 5 qd), qi (hp 6 qd), qi (hp 7 qd), qi (hp 10 qd), qi (hp 11 qd), qi (hp 12 qd), qi (hp 13 qd)]
     clear hp
     generalize vs 8 = y8 at *
     generalize vs 9 = y9 at *
     generalize vs 14 = y14 at *
     clear vs
     obtain ⟨gd, rfl, hgd0, hgd⟩ := p14
     have b7 := below_plus W6 x.bs x.d
     have z6 := zV
     replace bc := bc.later b7
     replace bo := bo.later b7
     replace bz := bz.later b7
     replace be := be.trans (b7.mono be.size)
     replace zV := Nat.le_trans zV b7.size
     clear b7 p8 p9
     generalize plus W6 x.bs x.d = W6b at *
     refine wpList_stA (t := 30) 30 (.tmp 10) (.tmp 55) rfl rfl (rdC As ns cs Al nl cl 100000 sy) [.slice none 0 0, .slice none 0 0, .int .i64 0, .int .i64 0] rfl (rdC_one _ _ _ _ _ _ _ _) rfl rfl hgd (szRdk _ _ _ _ _ _ _ _) ?_
     intro W7 h7 g7
     refine qw ?_
     refine wpList_nil ?_
     refine NoPanic.normal ?_
     replace bc := bc.grown g7 (fun e => by injection e with e; omega)
     replace bo := bo.grown g7 (fun e => by injection e with e; omega)
     replace bz := bz.grown g7 (fun e => by injection e with e; omega)
     replace be := below_grown be g7 (by omega)
     replace zV := Nat.le_trans zV g7.size
     clear g7 hgd h7
     go_upto_region 11 with (fail)
     refine wp_region_lit ?_
     refine qA 33 (.tmp 2) bc vc1 vc2 (szRk _ _ _ _ _ _ _ _ _ _ _ _ _ _ _) ?_
     refine qw ?_
     refine wpList_stA (t := 33) 33 (.tmp 4) (.tmp 59) rfl rfl (rkC As ns cs Al nl cl sy Ao no co sf Ak ca At ct) zk0 (by rfl) (rkC_one _ _ _ _ _ _ _ _ _ _ _ _ _ _ _) rfl rfl bz (szRk _ _ _ _ _ _ _ _ _ _ _ _ _ _ _) ?_
     intro W9 h9 g9
     refine qw ?_
     replace be := below_grown be g9 (by omega)
     go_wp2
     refine bodyPost_agg2 Tryz.results16 rfl rfl h9.range vc1 vc2 (szRk _ _ _ _ _ _ _ _ _ _ _ _ _ _ _) rfl ?_
     exact RetRi.no HNO.out HX0.out (HE0.out) be
    ·have HE0 := qy (show isE k27 (L.map OpX.o) (⟨q, v, b, e, six, ah, al, pt, pr, wy, ms⟩ : OpR) = 0 from HE1.out.trans (if_neg hf))
     have hfull : ¬ (100000 : Int) < (ns : Int) + (nl : Int) + ((14 + bl : Nat) : Int) := by have := HDN.out; omega
     clear hf
     go_upto_region 9 with (fail)
     clear q20
     refine wp_relES 15 72 [13] rfl (by kernel_rfl) (by kernel_rfl) ?_
     apply Steps.oneE (MP.eq _) 1 rfl (by decide)
     ·intro o ho FA x hO hD K hK
      obtain rfl := qoi ho
      have e2 := hO 2 (by kernel_rfl)
      simp only [eval_tmp, qgT, qgS, qgZ, qoS] at e2
      have ev2 := qy ((eval_tmp FA 2).trans e2)
      clear hO hD ho
      go_simp
      exact qk hK rfl
     apply Steps.oneE (MP.eq _) 2 rfl (by decide)
     ·intro o ho FA x hO hD K hK
      obtain rfl := qoi ho
      obtain ⟨e44, ev44⟩ := qE (hD 0 44 (by kernel_rfl))
      clear hO hD ho
      refine wanted_if rfl ?_
      refine wp_ldA 30 (.tmp 44) rfl (rdC As ns cs Al nl cl 100000 sy) ev44.out (bc.later bpl) rfl vr1 vr2 (szRdk _ _ _ _ _ _ _ _) ?_
      exact qk hK rfl
     apply Steps.oneE (MP.eq _) 3 rfl (by decide)
     ·intro o ho FA x hO hD K hK
      obtain rfl := qoi ho
      have e2 := hO 2 (by kernel_rfl)
      simp only [eval_tmp, qgT, qgS, qgZ, qoS] at e2
      have ev2 := qy ((eval_tmp FA 2).trans e2)
      clear hO hD ho
      go_simp
      exact qk hK rfl
     apply Steps.oneE (MP.eq _) 4 rfl (by decide)
     ·intro o ho FA x hO hD K hK
      obtain rfl := qoi ho
      obtain ⟨e46, ev46⟩ := qE (hD 2 46 (by kernel_rfl))
      clear hO hD ho
      refine wanted_if rfl ?_
      refine wp_ld1 22 (.tmp 46) rfl ev46.out (bc.later bpl) rfl Tryz.underlying22 rfl ?_
      exact qk hK rfl
     apply Steps.oneE (MP.eq _) 5 rfl (by decide)
     ·intro o ho FA x hO hD K hK
      obtain rfl := qoi ho
      obtain ⟨e47, ev47⟩ := qE (hD 3 47 (by kernel_rfl))
      clear hO hD ho
      go_simp
      exact qk hK rfl
     apply Steps.oneE (MP.eq _) 6 rfl (by decide)
     ·intro o ho FA x hO hD K hK
      obtain rfl := qoi ho
      obtain ⟨e48, ev48⟩ := qE (hD 4 48 (by kernel_rfl))
      clear hO hD ho
      go_simp
      exact qk hK rfl
     apply Steps.oneE (MP.eq _) 7 rfl (by decide)
     ·intro o ho FA x hO hD K hK
      obtain rfl := qoi ho
      obtain ⟨e49, ev49⟩ := qE (hD 5 49 (by kernel_rfl))
      clear hO hD ho
      go_simp
      exact qk hK rfl
     apply Steps.oneE (MP.eq _) 8 rfl (by decide)
     ·intro o ho FA x hO hD K hK
      obtain rfl := qoi ho
      have e3 := hO 3 (by kernel_rfl)
      simp only [eval_tmp, qgT, qgS, qgZ, qoS] at e3
      have ev3 := qy ((eval_tmp FA 3).trans e3)
      clear hO hD ho
      refine wanted_if rfl ?_
      refine wp_ldA 57 (.tmp 3) rfl (opC q v b e six ah al pt pr wy A m d) ev3.out (bo.later bpl) (whole_ _) vo1 vo2 (szRo _ _ _ _ _ _ _ _ _ _ _ _ _) ?_
      exact qk hK rfl
     apply Steps.oneE (MP.rb (opBs (⟨q, v, b, e, six, ah, al, pt, pr, wy, ms⟩ : OpR))) 9 rfl (by decide)
     ·intro o ho FA x hO hD K hK
      obtain rfl := qoi ho
      obtain ⟨e51, ev51⟩ := qE (hD 7 51 (by kernel_rfl))
      clear hO hD ho
      go_simp
      refine (HOB.out _ ((HMR.out _ be).later (below_plus W6 x.bs x.d))).mono ?_
      rintro e9 w9 ⟨A9, n9, c9, bs9, d9, rfl, rfl, o9⟩
      exact hK.out _ _ (Ex.plus_ _ _ _) ⟨_, _, _, rfl, o9.rb⟩
     apply Steps.oneE (MP.frm (14 + bl)) 10 rfl (by decide)
     ·intro o ho FA x hO hD K hK
      obtain rfl := qoi ho
      obtain ⟨e50, ev50⟩ := qE (hD 6 50 (by kernel_rfl))
      obtain ⟨u52, f52, e52, ev52⟩ := qG (hD 8 52 (by kernel_rfl))
      clear hO hD ho
      obtain ⟨A8, n8, c8, rfl, r8⟩ := f52
      obtain rfl : n8 = bl := by rw [← r8.1]; exact HBL.out
      go_simp
      refine (refFrame j1 (by omega) A8 n8 c8 _ _ r8 (by omega)).mono ?_
      rintro e9 w9 ⟨l9, hl9, A9, n9, c9, bs9, d9, rfl, rfl, o9⟩
      obtain rfl : n9 = 14 + n8 := by rw [← o9.1]; exact hl9
      exact hK.out _ _ (Ex.plus_ _ _ _) ⟨_, _, _, rfl, o9.rb⟩
     apply Steps.oneE (MP.dsk W6.heap.size As ns cs (nl + (14 + bl)) sy (fun v => .tuple #[v, .int .i64 0])) 11 rfl (by decide)
     ·intro o ho FA x hO hD K hK
      obtain rfl := qoi ho
      obtain ⟨e45, ev45⟩ := qE (hD 1 45 (by kernel_rfl))
      obtain ⟨u53, f53, e53, ev53⟩ := qG (hD 9 53 (by kernel_rfl))
      clear hO hD ho
      obtain ⟨A8, c8, l8, rfl, r8⟩ := f53
      go_simp
      refine (refDApp_ok As ns cs Al nl cl 100000 sy A8 (14 + bl) c8 ll l8 _ (HDL.out _ (be.trans ((below_plus W6 x.bs x.d).mono be.size))) r8 h1m h2m (by omega) hfull).mono ?_
      rintro e9 w9 ⟨A9, c9, rfl, o9, hb9⟩
      exact hK.out _ _ (Ex.of hb9) ⟨_, _, _, rfl, o9.mono (below_plus W6 x.bs x.d).size⟩
     apply Steps.oneE (MP.dsk W6.heap.size As ns cs (nl + (14 + bl)) sy (fun v => .tuple #[v, .int .i64 0])) 12 rfl (by decide)
     ·intro o ho FA x hO hD K hK
      obtain rfl := qoi ho
      obtain ⟨u54, f54, e54, ev54⟩ := qG (hD 10 54 (by kernel_rfl))
      clear hO hD ho
      go_simp
      exact qk hK f54
     apply Steps.oneE (MP.dsk W6.heap.size As ns cs (nl + (14 + bl)) sy (fun v => v)) 13 rfl (by decide)
     ·intro o ho FA x hO hD K hK
      obtain rfl := qoi ho
      obtain ⟨u43, f43, e43, ev43⟩ := qG (hD 11 43 (by kernel_rfl))
      clear hO hD ho
      obtain ⟨A9, c9, l9, rfl, o9⟩ := f43
      go_simp
      exact qk hK ⟨_, _, _, rfl, o9⟩
     apply Steps.oneP (.int .i64 0) 14 rfl (by decide)
     ·intro o ho FA x hO hD
      obtain rfl := qoi ho
      obtain ⟨u43, f43, e43, ev43⟩ := qG (hD 11 43 (by kernel_rfl))
      clear hO hD ho
      obtain ⟨A9, c9, l9, rfl, o9⟩ := f43
      refine .inl ⟨by simp [Region.wanted], fun w => ?_⟩
      go_simp
     apply Steps.oneE (MP.blk W6.heap.size 30 [.slice none 0 0, .slice none 0 0, .int .i64 0, .int .i64 0]) 15 rfl (by decide)
     ·intro o ho FA x hO hD K hK
      obtain rfl := qoi ho
      clear hO hD ho
      go_simp
      exact hK.out _ _ (Ex.alloc _ _) ⟨_, rfl, Nat.le_add_right _ _, Bk.newK _ _ _ (by simp [size_plus]) rfl⟩
     refine Steps.fin_ (fun vs x hp => ?_)
     have p8 := hp 8 qd
     have p9 := hp 9 qd
     have p10 := hp 10 qd
     have p11 := hp 11 qd
     have p12 := hp 12 qd
     have p14 := hp 14 qd
     simp only [qta, qtb, qda, qdb, putAll, Nat.zero_add, Nat.reduceAdd, Act.put, qsT, qsZ, qsS, qi (hp 0 qd), qi (hp 1 qd), qi (hp 2 qd), qi (hp 3 qd), qi (hp 4 qd), qi (hp 5 qd), qi (hp 6 qd), qi (hp 7 qd), qi (hp 13 qd)]
     clear hp
     generalize vs 8 = y8 at *
     generalize vs 9 = y9 at *
     generalize vs 10 = y10 at *
     generalize vs 11 = y11 at *
     generalize vs 12 = y12 at *
     generalize vs 14 = y14 at *
     clear vs
     obtain ⟨A9, c9, l9, rfl, oD⟩ := p12
     obtain ⟨gd, rfl, hgd0, hgd⟩ := p14
     have b7 := below_plus W6 x.bs x.d
     have z6 := zV
     replace bc := bc.later b7
     replace bo := bo.later b7
     replace bz := bz.later b7
     replace be := be.trans (b7.mono be.size)
     replace zV := Nat.le_trans zV b7.size
     clear b7 p8 p9 p10 p11
     generalize plus W6 x.bs x.d = W6b at *
     refine wpList_stA (t := 30) 30 (.tmp 10) (.tmp 55) rfl rfl (rdC As ns cs A9 (nl + (14 + bl)) c9 100000 sy) [.slice none 0 0, .slice none 0 0, .int .i64 0, .int .i64 0] rfl (rdC_one _ _ _ _ _ _ _ _) rfl rfl hgd (szRdk _ _ _ _ _ _ _ _) ?_
     intro W7 h7 g7
     refine qw ?_
     refine wpList_nil ?_
     refine NoPanic.normal ?_
     replace oD := oD.grown g7 (fun k hk e => by injection e with e; exact Os.neB (show Os 5 1 W6b W6.heap.size A9 (nl + (14 + bl)) c9 (bcs l9) from oD.2) hgd (by decide) k hk e.symm)
     replace bc := bc.grown g7 (fun e => by injection e with e; omega)
     replace bo := bo.grown g7 (fun e => by injection e with e; omega)
     replace bz := bz.grown g7 (fun e => by injection e with e; omega)
     replace be := below_grown be g7 (by omega)
     replace zV := Nat.le_trans zV g7.size
     clear g7 hgd
     go_upto_region 12 with (fail)
     refine wp_region_lit ?_
     refine qA 30 (.tmp 10) h7 vr1 vr2 (szRdk _ _ _ _ _ _ _ _) ?_
     refine qw ?_
     refine wpList_stM (t := 33) (off := 16) 30 (.tmp 62) (.tmp 61) rfl rfl (rdC As ns cs A9 (nl + (14 + bl)) c9 100000 sy) (rkC As ns cs Al nl cl sy Ao no co sf Ak ca At ct) (Nat.le_of_ble_eq_true rfl) (rdC_one _ _ _ _ _ _ _ _) rfl rfl bc (szRdk _ _ _ _ _ _ _ _) ?_
     intro W8 h8 g8
     simp only [Act.put, qsT, qsZ, qsS]
     replace bc : Bk W8 w.heap.size 33 (rkC As ns cs A9 (nl + (14 + bl)) c9 sy Ao no co sf Ak ca At ct) := h8
     replace oD := oD.grown g8 (fun k hk e => by have := (oD.blk k hk).1; injection e with e; omega)
     replace bo := bo.grown g8 (fun e => by injection e with e; omega)
     replace bz := bz.grown g8 (fun e => by injection e with e; omega)
     replace be := below_grown be g8 (by omega)
     replace zV := Nat.le_trans zV g8.size
     clear g8 h7 h8
     generalize W8 = W at *
     have beW := be
     have hAo := HOP.out W beW
     have hrP : ∀ a, Ao = some a → a.block < W.heap.size → a.block ≠ w.heap.size ∧ a.block < W.heap.size := fun a ha h => ⟨by have := HAO.out a ha; omega, h⟩
     have hoP : w.heap.size + 1 ≠ w.heap.size ∧ w.heap.size + 1 < W.heap.size := ⟨by omega, by omega⟩
     have hLn : L.length ≤ 100 := by have := HNO.out; omega
     go_upto_region 13 with (fail)
     refine wp_own (fun b => b ≠ w.heap.size ∧ b < W.heap.size) 9 1 72 2 (fun i => match i with | 8 => 9 | i => i) (fun i => match i with | 3 => [0] | 6 => [3, 5] | 8 => [6, 9] | _ => []) (fun i => match i with | 9 => .pointer (some ⟨w.heap.size, 0, none⟩) | _ => undef) rfl (by kernel_rfl) (by kernel_rfl) (fun i => match i with | 0 => Own.osr 57 11 W.heap.size ([]) | 1 => Own.eq (.pointer (some ⟨w.heap.size, 20, none⟩)) | 2 => Own.eq (.slice Ao no co) | 3 => Own.osr 57 11 W.heap.size ([] ++ (L.flatMap OpX.cs)) | 4 => Own.eq (.agg (opC q v b e six ah al pt pr wy A m d).toArray) | 5 => Own.osr 57 11 W.heap.size (opC q v b e six ah al pt pr wy A m d) | 6 => Own.osr 57 11 W.heap.size (([] ++ (L.flatMap OpX.cs)) ++ opC q v b e six ah al pt pr wy A m d) | 7 => Own.eq (.pointer (some ⟨w.heap.size, 20, none⟩)) | 8 => Own.holdR W.heap.size 33 57 11 (fun v => match v with | .slice A n c => rkC As ns cs A9 (nl + (14 + bl)) c9 sy A n c sf Ak ca At ct | _ => []) (([] ++ (L.flatMap OpX.cs)) ++ opC q v b e six ah al pt pr wy A m d) | 9 => Own.blk 33 (rkC As ns cs A9 (nl + (14 + bl)) c9 sy Ao no co sf Ak ca At ct) | _ => Own.any) (fun b h => h.2) ?_ ?_ ?_ ?_ ?_
     ·exact fun t ht => by obtain rfl : t = 0 := (by omega); exact ⟨_, rfl, bc⟩
     ·exact fun t t' h1 h2 hne => absurd (show t = t' by omega) hne
     ·exact fun t ht b hb hp => by obtain rfl : t = 0 := (by omega); exact hp.1 (own_ptr hb).symm
     ·intro i hi o ho FA w' vs H K hK
      match i, hi, ho, H, hK with
      | 0, _, ho, H, hK => 
       obtain rfl := qoi ho
       go_simp
       have ho1 := Os.lit (s := 11) (e := 57) w' (Nat.le_refl _) #[] 0 rfl (by decide)
       exact hK.out _ _ (chgX (Ex.alloc _ _)) ⟨_, _, _, rfl, ho1.mono H.kept.size⟩ (fun b hb => .inr (ho1.blk b hb).1)
      | 1, _, ho, H, hK => 
       obtain rfl := qoi ho
       have ev2 : FA.eval (.tmp 2) = .pointer (some ⟨w.heap.size, 0, none⟩) := H.out 2 (by kernel_rfl)
       have e2 : FA.tmps[2]?.getD undef = .pointer (some ⟨w.heap.size, 0, none⟩) := by simpa [Act.eval] using ev2
       replace ev2 := qy ev2
       go_simp
       exact hK.out _ _ (chgX (Ex.refl _)) rfl (fun _ h => h.elim)
      | 2, _, ho, H, hK => 
       obtain rfl := qoi ho
       have ev64 : FA.eval (.tmp 64) = .pointer (some ⟨w.heap.size, 20, none⟩) := (H.dep 1 64 (by kernel_rfl)).trans (H.word 1 (by omega) (by kernel_rfl))
       have e64 : FA.tmps[64]?.getD undef = .pointer (some ⟨w.heap.size, 20, none⟩) := by simpa [Act.eval] using ev64
       replace ev64 := qy ev64
       obtain ⟨g0, hg0, hb0⟩ := H.word 9 (by omega) (by kernel_rfl)
       have hv0 : vs 9 = .pointer (some ⟨w.heap.size, 0, none⟩) := H.virt 9 (by omega)
       obtain rfl := own_ptr (hv0.symm.trans hg0)
       refine wanted_if rfl ?_
       refine wp_ld1 22 (.tmp 64) rfl ev64.out hb0 rfl Tryz.underlying22 rfl ?_
       exact hK.out _ _ (chgX (Ex.refl _)) rfl (fun _ h => h.elim)
      | 3, _, ho, H, hK => 
       obtain rfl := qoi ho
       clear ho
       have ev63 := H.dep 0 63 (by kernel_rfl)
       have e63 : FA.tmps[63]?.getD undef = vs 0 := by simpa [Act.eval] using ev63
       replace ev63 := qy ev63
       have ev65 : FA.eval (.tmp 65) = .slice Ao no co := (H.dep 2 65 (by kernel_rfl)).trans (H.word 2 (by omega) (by kernel_rfl))
       have e65 : FA.tmps[65]?.getD undef = .slice Ao no co := by simpa [Act.eval] using ev65
       replace ev65 := qy ev65
       obtain ⟨A1, n1, c1, hv1, h1⟩ := H.word 0 (by omega) (by kernel_rfl)
       have hn1 : n1 = 0 := by have := h1.rs.1; simp at this; omega
       subst hn1
       refine wanted_if rfl ?_
       refine own_appS etRo (.tmp 63) (.tmp 65) rfl (ev63.out.trans hv1) h1 ev65.out ((HOP.out W beW).kept H.kept hrP) (flat_one OpX.cs OpX.cs_one _) (by omega) H.kept.size ?_
       intro A3 n3 c3 w3 hn3 ho3 hg3 hf3
       refine hK.out _ _ (Chg.grown hg3 (fun k hk => ⟨0, rfl, by show (vs 0).ownBlock = some k; rw [hv1]; exact hk⟩)) ⟨_, _, _, rfl, ho3⟩ (fun b hb => ?_)
       rcases hf3 b hb with h | h
       ·exact .inl ⟨0, rfl, by show (vs 0).ownBlock = some b; rw [hv1]; exact h⟩
       ·exact .inr h
      | 4, _, ho, H, hK => 
       obtain rfl := qoi ho
       have ev3 : FA.eval (.tmp 3) = .pointer (some ⟨w.heap.size + 1, 0, none⟩) := H.out 3 (by kernel_rfl)
       have e3 : FA.tmps[3]?.getD undef = .pointer (some ⟨w.heap.size + 1, 0, none⟩) := by simpa [Act.eval] using ev3
       replace ev3 := qy ev3
       refine wanted_if rfl ?_
       refine wp_ldA 57 (.tmp 3) rfl (opC q v b e six ah al pt pr wy A m d) ev3.out (bo.kept H.kept hoP) (whole_ _) vo1 vo2 (szRo _ _ _ _ _ _ _ _ _ _ _ _ _) ?_
       exact hK.out _ _ (chgX (Ex.refl _)) rfl (fun _ h => h.elim)
      | 5, _, ho, H, hK => 
       obtain rfl := qoi ho
       have ev67 : FA.eval (.tmp 67) = .agg (opC q v b e six ah al pt pr wy A m d).toArray := (H.dep 4 67 (by kernel_rfl)).trans (H.word 4 (by omega) (by kernel_rfl))
       have e67 : FA.tmps[67]?.getD undef = .agg (opC q v b e six ah al pt pr wy A m d).toArray := by simpa [Act.eval] using ev67
       replace ev67 := qy ev67
       refine wanted_if rfl ?_
       refine wp_bs1 etRo (.tmp 67) rfl (opC q v b e six ah al pt pr wy A m d) rfl (by decide) ev67.out ?_
       have ho1 := Os.lit (s := 11) (e := 57) w' (Nat.le_refl _) (opC q v b e six ah al pt pr wy A m d).toArray 1 rfl (by decide)
       exact hK.out _ _ (chgX (Ex.alloc _ _)) ⟨_, _, _, rfl, ho1.mono H.kept.size⟩ (fun b hb => .inr (ho1.blk b hb).1)
      | 6, _, ho, H, hK => 
       obtain rfl := qoi ho
       clear ho
       have ev66 := H.dep 3 66 (by kernel_rfl)
       have e66 : FA.tmps[66]?.getD undef = vs 3 := by simpa [Act.eval] using ev66
       replace ev66 := qy ev66
       have ev68 := H.dep 5 68 (by kernel_rfl)
       have e68 : FA.tmps[68]?.getD undef = vs 5 := by simpa [Act.eval] using ev68
       replace ev68 := qy ev68
       obtain ⟨A1, n1, c1, hv1, h1⟩ := H.word 3 (by omega) (by kernel_rfl)
       obtain ⟨A2, n2, c2, hv2, h2⟩ := H.word 5 (by omega) (by kernel_rfl)
       have hn1 : n1 ≤ 2000 := by have := h1.rs.1; rw [List.nil_append, flat_len OpX.cs 11 OpX.cs_len] at this; omega
       have hn2 : n2 ≤ 2000 := by have := h2.rs.1; rw [show (opC q v b e six ah al pt pr wy A m d).length = 11 from rfl] at this; omega
       refine wanted_if rfl ?_
       refine own_appS etRo (.tmp 66) (.tmp 68) rfl (ev66.out.trans hv1) h1 (ev68.out.trans hv2) h2.rs (opC_one _ _ _ _ _ _ _ _ _ _ _ _ _) (by omega) H.kept.size ?_
       intro A3 n3 c3 w3 hn3 ho3 hg3 hf3
       refine hK.out _ _ (Chg.grown hg3 (fun k hk => ⟨3, rfl, by show (vs 3).ownBlock = some k; rw [hv1]; exact hk⟩)) ⟨_, _, _, rfl, ho3⟩ (fun b hb => ?_)
       rcases hf3 b hb with h | h
       ·exact .inl ⟨3, rfl, by show (vs 3).ownBlock = some b; rw [hv1]; exact h⟩
       ·exact .inr h
      | 7, _, ho, H, hK => 
       obtain rfl := qoi ho
       have ev2 : FA.eval (.tmp 2) = .pointer (some ⟨w.heap.size, 0, none⟩) := H.out 2 (by kernel_rfl)
       have e2 : FA.tmps[2]?.getD undef = .pointer (some ⟨w.heap.size, 0, none⟩) := by simpa [Act.eval] using ev2
       replace ev2 := qy ev2
       go_simp
       exact hK.out _ _ (chgX (Ex.refl _)) rfl (fun _ h => h.elim)
      | 8, _, ho, H, hK => 
       obtain rfl := qoi ho
       clear ho
       have ev70 : FA.eval (.tmp 70) = .pointer (some ⟨w.heap.size, 20, none⟩) := (H.dep 7 70 (by kernel_rfl)).trans (H.word 7 (by omega) (by kernel_rfl))
       have e70 : FA.tmps[70]?.getD undef = .pointer (some ⟨w.heap.size, 20, none⟩) := by simpa [Act.eval] using ev70
       replace ev70 := qy ev70
       have ev69 := H.dep 6 69 (by kernel_rfl)
       have e69 : FA.tmps[69]?.getD undef = vs 6 := by simpa [Act.eval] using ev69
       replace ev69 := qy ev69
       obtain ⟨g0, hg0, hb0⟩ := H.word 9 (by omega) (by kernel_rfl)
       have hv0 : vs 9 = .pointer (some ⟨w.heap.size, 0, none⟩) := H.virt 9 (by omega)
       obtain rfl := own_ptr (hv0.symm.trans hg0)
       obtain ⟨A6, n6, c6, hv6, h6⟩ := H.word 6 (by omega) (by kernel_rfl)
       have hdd := H.dis 6 9 (by omega) (by omega) (by omega) (by kernel_rfl) (by kernel_rfl)
       refine wanted_if rfl ?_
       refine wp_st1 (v := .slice A6 n6 c6) 22 (.tmp 70) (.tmp 69) rfl ev70.out (ev69.out.trans hv6) hb0 (Nat.le_of_ble_eq_true rfl) rfl (by kernel_rfl) ?_
       intro w'' hn hgr
       have hne : ∀ k, (Value.slice A6 n6 c6).ownBlock = some k → some w.heap.size ≠ some k := fun k hk2 e2 => hdd k (by show (vs 6).ownBlock = some k; rw [hv6]; exact hk2) (by show vs 9 = _; rw [hv0]; injection e2 with e2; rw [e2])
       refine hK.out (.slice A6 n6 c6) _ (Chg.one hgr ⟨9, rfl, hv0⟩) ⟨_, _, _, _, hv0, rfl, ?_, h6.grown hgr hne⟩ (fun b hb => .inl ?_)
       ·show Bk w'' w.heap.size _ ((fun (v : Value) => match v with | .slice A n c => rkC As ns cs A9 (nl + (14 + bl)) c9 sy A n c sf Ak ca At ct | _ => []) (.slice A6 n6 c6))
        exact hn
       ·rcases hb with hb | hb
        ·exact ⟨9, rfl, hb⟩
        ·exact ⟨6, rfl, by show (vs 6).ownBlock = some b; rw [hv6]; exact hb⟩
      | (k + 9), hi, _, _, _ => exact absurd hi (by omega)
     intro vs w' hC hV hW hDis hFr
     have p1 : vs 1 = .pointer (some ⟨w.heap.size, 20, none⟩) := hW 1 (by omega) (by kernel_rfl)
     have p2 : vs 2 = .slice Ao no co := hW 2 (by omega) (by kernel_rfl)
     have p4 : vs 4 = .agg (opC q v b e six ah al pt pr wy A m d).toArray := hW 4 (by omega) (by kernel_rfl)
     have p7 : vs 7 = .pointer (some ⟨w.heap.size, 20, none⟩) := hW 7 (by omega) (by kernel_rfl)
     have p8 := hW 8 (by omega) (by kernel_rfl)
     clear hW
     simp only [qta, qtb, qda, qdb, putAll, Nat.zero_add, Nat.reduceAdd, Act.put, qsT, qsZ, qsS, p1, p2, p4, p7]
     obtain ⟨g0, A10, n10, c10, hg0, hv9, hbS, ho9⟩ := p8
     replace hg0 : vs 9 = .pointer (some ⟨g0, 0, none⟩) := hg0
     have hv0 : vs 9 = .pointer (some ⟨w.heap.size, 0, none⟩) := hV 9 (by omega)
     obtain rfl := own_ptr (hv0.symm.trans hg0)
     replace hbS : Bk w' w.heap.size 33 (rkC As ns cs A9 (nl + (14 + bl)) c9 sy A10 n10 c10 sf Ak ca At ct) := by rw [hv9] at hbS; exact hbS
     clear hDis hFr hV hv9 hg0 hv0
     have hzz := bz.kept hC (by refine ⟨?_, bz.lt⟩; omega)
     have oD := ob_kept oD hC (fun k hk2 => ⟨by have := (oD.blk k hk2).1; omega, (oD.blk k hk2).2⟩)
     replace bz := hzz
     have hWs := be.size
     replace be := be.trans (hC.below (B := w.heap.size) be.size (fun b hb => ⟨by omega, by omega⟩))
     simp only [List.nil_append] at ho9
     have hn10 : n10 = no + 1 := by have h := ho9.rs.1; rw [List.length_append, flat_len OpX.cs 11 OpX.cs_len, HNO.out] at h; have : (opC q v b e six ah al pt pr wy A m d).length = 11 := rfl; omega
     have hne9 : ∀ k, (Value.slice A10 n10 c10).ownBlock = some k → some (w.heap.size + 1 + 1) ≠ some k := fun k hk2 e2 => by have h1 := (ho9.blk k hk2).1; injection e2 with e2; omega
     have hneD : ∀ k, (Value.slice A9 (nl + (14 + bl)) c9).ownBlock = some k → some (w.heap.size + 1 + 1) ≠ some k := fun k hk2 e2 => by have h1 := (oD.blk k hk2).1; injection e2 with e2; omega
     clear hzz hC
     go_upto_region 14 with (fail)
     refine wp_region_lit ?_
     refine qA 33 (.tmp 2) hbS vc1 vc2 (szRk _ _ _ _ _ _ _ _ _ _ _ _ _ _ _) ?_
     simp only [Act.put, qsT, qsZ, qsS]
     refine wpList_stA (t := 33) 33 (.tmp 4) (.tmp 71) rfl rfl (rkC As ns cs A9 (nl + (14 + bl)) c9 sy A10 n10 c10 sf Ak ca At ct) zk0 (by rfl) (rkC_one _ _ _ _ _ _ _ _ _ _ _ _ _ _ _) rfl rfl bz (szRk _ _ _ _ _ _ _ _ _ _ _ _ _ _ _) ?_
     intro W9 h9 g9
     refine qw ?_
     replace be := below_grown be g9 (by omega)
     have hX9 := HX0.out.later be
     have hof9 : Off G W9 A10 := Off.own (ho9.grown g9 hne9) (fun b hb => by have := hG b hb; omega)
     have hofD : Off G W9 A9 := Off.ob (oD.grown g9 hneD) (fun b hb => by have := hG b hb; omega)
     have ho9 := (ho9.grown g9 hne9).rs
     have oD := (oD.grown g9 hneD).rb
     go_wp2
     refine bodyPost_agg2 Tryz.results16 rfl rfl h9.range vc1 vc2 (szRk _ _ _ _ _ _ _ _ _ _ _ _ _ _ _) rfl ?_
     have hE0 : isE k27 (L.map OpX.o) (⟨q, v, b, e, six, ah, al, pt, pr, wy, ms⟩ : OpR) = 0 := HE0.out
     have hIX : isX L (⟨q, v, b, e, six, ah, al, pt, pr, wy, ms, A, m, d⟩ : OpX) = L ++ [(⟨q, v, b, e, six, ah, al, pt, pr, wy, ms, A, m, d⟩ : OpX)] := if_pos hE0
     subst hn10
     refine ⟨As, ns, cs, A9, nl + (14 + bl), c9, A10, c10, Ak, ca, At, ct, ?_, ?_, be⟩
     ·rw [hIX, List.length_append, HNO.out]
      show _ = Ending.returned (.tuple #[_, .int .i64 ((isE k27 (L.map OpX.o) (⟨q, v, b, e, six, ah, al, pt, pr, wy, ms⟩ : OpR) : Nat) : Int)])
      rw [hE0]
      rfl
     ·rw [hIX]
      refine ⟨?_, ?_, ?_, ?_, ?_, hX9.ds, ⟨_, oD⟩, ?_, hX9.ak, hof9, hX9.os, hofD, hX9.oa, ?_⟩
      ·rw [List.length_append, HNO.out, List.flatMap_append, show [(⟨q, v, b, e, six, ah, al, pt, pr, wy, ms, A, m, d⟩ : OpX)].flatMap OpX.cs = opC q v b e six ah al pt pr wy A m d from List.append_nil _]
       exact ho9
      ·intro y hy
       rcases List.mem_append.1 hy with hy | hy
       ·exact hX9.el y hy
       ·obtain rfl := List.mem_singleton.1 hy
        exact ⟨OpX.later HXO.out be, hm⟩
      ·rw [List.map_append]
       exact hX9.ok.step (OpX.ok_o HXO.out) hE0
      ·have := hX9.sl
       simp
       omega
      ·have := HNO.out
       simp
       omega
      ·rw [List.map_append]
       show _ = dlenL (_ ++ [(⟨q, v, b, e, six, ah, al, pt, pr, wy, ms⟩ : OpR)])
       rw [dlenL_snoc, HBL.out]
       have := hX9.dn
       omega
      ·intro y hy
       rcases List.mem_append.1 hy with hy | hy
       ·exact hX9.oe y hy
       ·obtain rfl := List.mem_singleton.1 hy
        exact fun hm => (HXF.out hm).size be.size
theorem run_bMr (k : Int) (nu : Nat) (A : Option Addr) (n c : Nat) (w : World) : (Instr.build 41 #[(0, .int .i64 k), (1, .int .u64 (nu : Int)), (2, .slice A n c)]).run Tryz.prog w = .ok (.agg (msC k nu A n c).toArray) w := by kernel_rfl
theorem run_bMr2 (k : Int) (nu : Nat) (w : World) : (Instr.build 41 #[(0, .int .i64 k), (1, .int .u64 (nu : Int))]).run Tryz.prog w = .ok (.agg (msC k nu none 0 0).toArray) w := by kernel_rfl
theorem eval_const (a : Act) (v : Value) : a.eval (.const v) = v := rfl
def MP.obs (B : Nat) (l : List UInt8) : MP := ⟨fun v w => ∃ s : Sl, v = .slice s.1 s.2.1 s.2.2 ∧ Ob w B s.1 s.2.1 s.2.2 l, fun _ _ _ ⟨s, h1, h2⟩ h => ⟨s, h1, h2.later h.below⟩⟩
def MP.ol1 (B : Nat) (l : List UInt8) : MP := ⟨fun v w => ∃ A, ∃ s : Sl, v = .slice A 1 1 ∧ Os 28 1 w B A 1 1 (slV s) ∧ Ob w B s.1 s.2.1 s.2.2 l, fun _ _ _ ⟨A, s, h1, h2, h3⟩ h => ⟨A, s, h1, h2.later h.below, h3.later h.below⟩⟩
def MP.om1 (B : Nat) (k : Int) (nu : Nat) (l : List UInt8) : MP := ⟨fun v w => ∃ A, ∃ s : Sl, v = .agg (msC k nu A 1 1).toArray ∧ Os 28 1 w B A 1 1 (slV s) ∧ Ob w B s.1 s.2.1 s.2.2 l, fun _ _ _ ⟨A, s, h1, h2, h3⟩ h => ⟨A, s, h1, h2.later h.below, h3.later h.below⟩⟩
theorem refOffer27 {G : Nat → Prop} (L : List OpX) (s : Nat) (As : Option Addr) (ns cs : Nat) (Al : Option Addr) (nl cl : Nat) (sy : Int) (Ao : Option Addr) (co : Nat) (Ak : Option Addr) (ca : Nat) (At : Option Addr) (ct : Nat) (n : Nat) (w : World) (h : RkX G w L s As ns cs Al nl cl Ao co Ak ca) (hn : n < 18446744073709551616) : Calls Tryz.prog 8 #[.agg (rkC As ns cs Al nl cl sy Ao L.length co (s : Int) Ak ca At ct).toArray, .int .u64 (n : Int)] w (RetOf w (offM k27 (L.map OpX.o) s n)) := by
 obtain ⟨dvs, vs1, vs2⟩ := rowRcS
 obtain ⟨dvc, vc1, vc2⟩ := rowRk
 obtain ⟨dvo, vo1, vo2⟩ := rowRo
 obtain ⟨dvm, vm1, vm2⟩ := rowRm27
 obtain ⟨no, hno⟩ : ∃ no, L.length = no := ⟨_, rfl⟩
 have hsl : s ≤ no := by rw [← hno]; exact h.sl
 have hno1 : no ≤ 1000 := by rw [← hno]; exact h.ll
 have hws : IntKind.u64.wrap (s : Int) = (s : Int) := IntWalk.u64_in _ (by omega)
 have HOP := qy (fun W (hb : Below w.heap.size w W) => show Rs 11 W Ao no co (L.flatMap OpX.cs) by rw [← hno]; exact (h.ops).later hb)
 have HEL := qy h.el
 have HOKs := qy h.ok
 have HST := qy (fun W (hb : Below w.heap.size w W) => refState26 L s As ns cs Al nl cl sy Ao co (s : Int) Ak ca At ct s h.sl W (h.later hb))
 rw [hno] at HST
 have HC := qy (h.ok.st (key := k27) rfl s)
 obtain ⟨C, hC⟩ : ∃ C, stL k27 ((L.map OpX.o).take s) = C := ⟨_, rfl⟩
 rw [hC] at HST HC
 have HCO := qy hC
 have hk := HC.out.key
 have hb := HC.out.bl
 obtain ⟨q, hq⟩ : ∃ q, offM k27 (L.map OpX.o) s n = q := ⟨_, rfl⟩
 have HQ0 := qy hq
 have HNO := qy hno
 rw [hno, hq]
 clear hno h hC hq
 obtain ⟨bc, bz, be, zV⟩ := box2 w 33 41 (rkC As ns cs Al nl cl sy Ao no co (s : Int) Ak ca At ct) ([.int .i64 0, .int .u64 0, .slice none 0 0])
 go_enter Tryz.func8, Tryz.ntmps8
 go_upto_region 1 with (fail)
 generalize (w.alloc (.cells (rkC As ns cs Al nl cl sy Ao no co (s : Int) Ak ca At ct).toArray 33)).alloc (.cells ([.int .i64 0, .int .u64 0, .slice none 0 0]).toArray 41) = V at *
 replace bz : Bk V (w.heap.size + 1) 41 (msC 0 0 none 0 0) := bz
 have q21 : V.cell? ⟨w.heap.size, 21, none⟩ = some (.int .i64 (s : Int)) := bc.cell 21
 by_cases hns : s ≤ n
 ·have n1 : (s : Int) ≤ (n : Int) := by omega
  have HQ := qy (show q = (0, 0, [], false) by rw [← HQ0.out]; unfold offM; rw [if_pos hns])
  clear hns
  go_upto_region 2 with (fail)
  clear q21
  refine wp_region_lit ?_
  refine wpList_build 41 [] rfl rfl (.agg (msC 0 0 none 0 0).toArray) (by kernel_rfl) ?_
  simp only [Act.put, qsT, qsZ, qsS]
  refine wpList_stA (t := 41) 41 (.tmp 4) (.tmp 15) rfl rfl (msC 0 0 none 0 0) (msC 0 0 none 0 0) rfl (msC_one _ _ _ _ _) rfl rfl bz (szRm27 _ _ _ _ _) ?_
  intro W9 h9 g9
  refine qw ?_
  have be9 := below_grown be g9 (by omega)
  go_wp2
  refine bodyPost_agg2 Tryz.results8 rfl rfl h9.range vm1 vm2 (szRm27 _ _ _ _ _) rfl ?_
  rw [HQ.out]
  exact ⟨none, 0, 0, rfl, RL.nil_, be9⟩
 ·have n1 : ¬ (s : Int) ≤ (n : Int) := by omega
  by_cases hn0 : n = 0
  ·subst hn0
   have HQ := qy (show q = (2, s, [sttB C], true) by rw [← HQ0.out, ← HCO.out]; unfold offM; rw [if_neg hns, if_pos rfl])
   clear hns
   go_upto_region 4 with (fail)
   clear q21
   refine wp_region_lit ?_
   refine qA 33 (.tmp 2) bc vc1 vc2 (szRk _ _ _ _ _ _ _ _ _ _ _ _ _ _ _) ?_
   refine qw ?_
   refine qL 3 (.tmp 20) bc Tryz.underlying3 ?_
   refine wpq fun K hK => ?_
   go_simp
   refine (HST.out _ be).mono ?_
   rintro e w1 ⟨A5, n5, c5, E5, rfl, hX5, hb2⟩
   with_reducible refine hK _ _ ?_
   clear hK K
   generalize hWW : w1 = W2 at *
   clear hWW
   replace bc := bc.later hb2
   replace bz := bz.later hb2
   replace be := be.trans (hb2.mono be.size)
   replace zV := Nat.le_trans zV hb2.size
   clear hb2
   iterate 4 (refine qw ?_)
   have hs9 := Bk.newK 83 (Tryz.zeroCells83) _ (show W2.heap.size = W2.heap.size from rfl) rfl
   have hsl : (Tryz.zeroCells83).toList.length = 279 := by kernel_rfl
   have hs64 : N64 (Tryz.zeroCells83).toList := n64_zero
   have b9 := Below.allocS (Below.refl W2.heap.size W2) (.cells (Tryz.zeroCells83) 83)
   generalize W2.alloc (.cells (Tryz.zeroCells83) 83) = W2b at *
   generalize (Tryz.zeroCells83).toList = zs0 at *
   replace hX5 := hX5.later b9
   have gsz := zV
   replace bc := bc.later b9
   replace bz := bz.later b9
   replace be := be.trans (b9.mono be.size)
   replace zV := Nat.le_trans zV b9.size
   clear b9
   refine wpList_stA (t := 83) 83 (.tmp 6) (.tmp 23) rfl rfl (rcC C A5 n5 c5) zs0 (by rw [rcC_len _ hk hb]; exact hsl.symm) (rcL_one _ _ _ _ _ _ _ _) rfl rfl hs9 (szRcS _ hk hb _ _ _) ?_
   intro W3 h3 g3
   simp only [Act.put, qsT, qsZ, qsS]
   replace hX5 := hX5.no64 hs9 hs64 g3
   replace bc := bc.grown g3 (fun e => by injection e with e; omega)
   replace bz := bz.grown g3 (fun e => by injection e with e; omega)
   replace be := below_grown be g3 (by omega)
   replace zV := Nat.le_trans zV g3.size
   clear g3 hs9 hs64 hsl
   generalize hgs : W2.heap.size = gs at *
   clear hgs
   refine qw ?_
   go_upto_region 5 with (fail)
   refine wp_relS 7 60 rfl (by kernel_rfl) (by kernel_rfl) ?_
   refine qb 2 1 ?_
   refine ql 0 25 2 3 bc Tryz.underlying3 ?_
   refine qa 1 26 3 ?_
   apply qm 4 rfl rfl
   ·intro FA x hO hD K hK
    have e6 := hO 6
    simp only [eval_tmp, qgT, qgS, qgZ, qoS] at e6
    have ev6 := qy ((eval_tmp FA 6).trans e6)
    clear hO hD
    refine wanted_if rfl ?_
    refine wp_ldA 83 (.tmp 6) rfl (rcC C A5 n5 c5) ev6.out (h3.later bpl) (whole_ _) vs1 vs2 (szRcS C hk hb A5 n5 c5) ?_
    exact qk hK rfl
   apply qo (φ := (MP.obs W3.heap.size (sttB C))) 5 rfl rfl
   ·intro FA x hO hD K hK
    have e28 := qe (hD 3 28)
    clear hO hD
    go_simp
    refine (refState_any C HC.out A5 n5 c5 E5 _ (hX5.later bpl)).mono ?_
    rintro e9 w9 ⟨A9, n9, c9, bs9, d9, rfl, rfl, o9⟩
    exact hK.out _ _ (Ex.plus_ _ _ _) ⟨(A9, n9, c9), rfl, o9.mono (below_plus W3 x.bs x.d).size⟩
   apply qo (φ := (MP.ol1 W3.heap.size (sttB C))) 6 rfl rfl
   ·intro FA x hO hD K hK
    obtain ⟨u29, f29, e29, ev29⟩ := qG (hD 4 29)
    clear hO hD
    obtain ⟨s9, rfl, hs9⟩ := f29
    go_simp
    refine hK.out _ _ (Ex.alloc _ _) ⟨_, s9, rfl, ?_, hs9.alloc _⟩
    have h5 := (Os.lit (s := 1) (e := 28) (plus W3 x.bs x.d) (Nat.le_refl _) (slV s9).toArray 1 rfl (by decide)).mono (below_plus W3 x.bs x.d).size
    rw [size_plus] at h5
    exact h5
   apply qo (φ := (MP.om1 W3.heap.size 2 s (sttB C))) 7 rfl rfl
   ·intro FA x hO hD K hK
    obtain ⟨e27, ev27⟩ := qE (hD 2 27)
    obtain ⟨u30, f30, e30, ev30⟩ := qG (hD 5 30)
    clear hO hD
    obtain ⟨A9, s9, rfl, ho9, hs9⟩ := f30
    refine wanted_if rfl ?_
    refine wp_buildV 41 [(0, .const (.int .i64 2)), (1, .tmp 27), (2, .tmp 30)] rfl (.agg (msC 2 s A9 1 1).toArray) (by simp only [List.map_cons, List.map_nil, ev27.out, ev30.out, eval_const]; exact run_bMr _ _ _ _ _ _) ?_
    exact qk hK ⟨A9, s9, rfl, ho9, hs9⟩
   refine Steps.fin_ (fun vs x hp => ?_)
   have p4 := hp 4 qd
   have p5 := hp 5 qd
   have p6 := hp 6 qd
   simp only [qta, qtb, qda, qdb, putAll, Nat.zero_add, Nat.reduceAdd, Act.put, qsT, qsZ, qsS, qi (hp 0 qd), qi (hp 1 qd), qi (hp 2 qd), qi (hp 3 qd)]
   clear hp
   generalize vs 4 = y4 at *
   generalize vs 5 = y5 at *
   generalize vs 6 = y6 at *
   clear vs
   obtain ⟨A9, s9, rfl, ho9, hs9⟩ := p6
   have b7 := below_plus W3 x.bs x.d
   have z3 := zV
   replace bc := bc.later b7
   replace bz := bz.later b7
   replace be := be.trans (b7.mono be.size)
   replace zV := Nat.le_trans zV b7.size
   clear b7 p4 p5
   generalize plus W3 x.bs x.d = W7 at *
   refine wpList_stA (t := 41) 41 (.tmp 4) (.tmp 31) rfl rfl (msC 2 s A9 1 1) (msC 0 0 none 0 0) rfl (msC_one _ _ _ _ _) rfl rfl bz (szRm27 _ _ _ _ _) ?_
   intro W9 h9 g9
   refine qw ?_
   have be9 := below_grown be g9 (by omega)
   have ho9 := ho9.grown g9 (fun k hk e => by have := (ho9.blk k hk).1; injection e with e; omega)
   have hs9 := hs9.grown g9 (fun k hk e => by have := (hs9.blk k hk).1; injection e with e; omega)
   go_wp2
   refine bodyPost_agg2 Tryz.results8 rfl rfl h9.range vm1 vm2 (szRm27 _ _ _ _ _) rfl ?_
   rw [HQ.out]
   exact ⟨A9, 1, 1, rfl, ⟨[s9], ⟨rfl, fun i h1 h2 => by
    match i, h1, h2 with
    | 0, _, _ => exact hs9.rb⟩, ho9.rs⟩, be9⟩
  ·have nz : ((n : Int) == 0) = false := by simpa using hn0
   have nz2 : ¬ (n : Int) = 0 := by omega
   obtain ⟨T, hT⟩ : ∃ T, (((L.map OpX.o).take s).drop n).map opBs = T := ⟨_, rfl⟩
   have HQ := qy (show q = (1, n, T.take 16, true) by rw [← HQ0.out, ← hT]; unfold offM; rw [if_neg hns, if_neg hn0])
   have hTl : T.length = s - n := by rw [← hT]; have := HNO.out; simp; omega
   have hTi : ∀ j (hj : j < T.length) (hj2 : n + j < L.length), opBs (L[n + j]).o = T[j] := fun j hj hj2 => by subst hT; simp
   have HTI := qy hTi
   have HTL := qy hTl
   have hwn : IntKind.i64.wrap (n : Int) = (n : Int) := IntWalk.i64_in _ (by omega)
   clear hT hTi hTl
   go_upto_region 6 with (fail)
   clear q21
   refine wp_region_lit ?_
   refine qw ?_
   refine wpList_build 41 [(0, .const (.int .i64 1)), (1, .tmp 32)] rfl rfl (.agg (msC 1 n none 0 0).toArray) (run_bMr2 _ _ _) ?_
   refine qw ?_
   have hm0 : Bk (V.alloc (.cells #[.int .i64 0, .int .u64 0, .slice none 0 0] 41)) V.heap.size 41 (msC 0 0 none 0 0) := Bk.new _ _ _
   have b9 := Below.allocS (Below.refl V.heap.size V) (.cells #[.int .i64 0, .int .u64 0, .slice none 0 0] 41)
   have gsz := zV
   replace bc := bc.later b9
   replace bz := bz.later b9
   replace be := be.trans (b9.mono be.size)
   replace zV := Nat.le_trans zV b9.size
   have hgm : V.heap.size < (V.alloc (.cells #[.int .i64 0, .int .u64 0, .slice none 0 0] 41)).heap.size := by simp
   generalize V.alloc (.cells #[.int .i64 0, .int .u64 0, .slice none 0 0] 41) = W2 at *
   clear b9
   refine wpList_stA (t := 41) 41 (.tmp 8) (.tmp 33) rfl rfl (msC 1 n none 0 0) (msC 0 0 none 0 0) rfl (msC_one _ _ _ _ _) rfl rfl hm0 (szRm27 _ _ _ _ _) ?_
   intro W3 h9 g9
   simp only [Act.put, qsT, qsZ, qsS]
   replace bc := bc.grown g9 (fun e => by injection e with e; omega)
   replace bz := bz.grown g9 (fun e => by injection e with e; omega)
   replace be := below_grown be g9 (by omega)
   have hW3 : V.heap.size < W3.heap.size := Nat.lt_of_lt_of_le hgm g9.size
   clear g9 hgm hm0
   generalize hgmm : V.heap.size = gm at *
   clear hgmm
   go_upto_region 8 with (fail)
   go_loopw [9] (fun I wr => ∃ (i j : Nat) (A : Option Addr) (c : Nat) (S : List Sl), I = .int .i64 (i : Int) ∧ n + j = i ∧ j ≤ s - n ∧ j ≤ 16 ∧ Bk wr gm 41 (msC 1 n A j c) ∧ Os 28 1 wr (gm + 1) A j c (S.flatMap slV) ∧ PtOb (gm + 1) wr (T.take j) S ∧ Bk wr w.heap.size 33 (rkC As ns cs Al nl cl sy Ao no co (s : Int) Ak ca At ct) ∧ Bk wr (w.heap.size + 1) 41 (msC 0 0 none 0 0) ∧ gm < wr.heap.size ∧ Below w.heap.size w wr) (fun I _ => s - (intOf I).toNat)
   case atStart => exact ⟨n, 0, none, 0, [], rfl, rfl, Nat.zero_le _, Nat.zero_le _, h9, Os.nil_, ⟨rfl, fun i hi => absurd hi (Nat.not_lt_zero i)⟩, bc, bz, hW3, be⟩
   case round =>
    clear h9 bc bz be hW3
    obtain ⟨i, j, A, c, S, rfl, hij, hj, hj16, hm, hO, hP, bcr, bz, hgw, be⟩ := hrel
    have q21 : wr.cell? ⟨w.heap.size, 21, none⟩ = some (.int .i64 (s : Int)) := bcr.cell 21
    have qm2 : wr.cell? ⟨gm, 2, none⟩ = some (.slice A j c) := hm.cell 2
    by_cases hlt : j < s - n
    ·have ij : (i : Int) < (s : Int) := by omega
     have inn : (i : Int) < (no : Int) := by omega
     by_cases h16 : j < 16
     ·have j16 : (j : Int) < 16 := by omega
      have hjT : j < T.length := by have := HTL.out; omega
      have hjL : i < L.length := by have := HNO.out; omega
      obtain ⟨bl, ol, rfl, hbl, -⟩ := (HOP.out w (Below.refl _ _)).at_ (by omega) (by decide)
      have HRG0 := qy (fun W (hb : Below w.heap.size w W) => (HOP.out W hb).rangeE OpX.cs_len i hjL)
      have hti : opBs (L[i]).o = T[j] := by subst hij; exact HTI.out j hjT hjL
      have HIJ := qy hij
      have hy := HEL.out (L[i]) (List.getElem_mem _)
      have hyr : rgO (L[i]).o = true := (HOKs.out.ok _ (List.mem_map.2 ⟨_, List.getElem_mem _, rfl⟩)).2
      generalize L[i] = y at *
      have HRGB := HRG0
      have hsz : (Tryz.prog.info? 57).map (·.size) = some y.cs.length := by rw [OpX.cs_len]; kernel_rfl
      have htk : T.take (j + 1) = T.take j ++ [T[j]] := List.take_succ_eq_append_getElem hjT
      rw [← hti] at htk
      obtain ⟨l1, hl1⟩ : ∃ l1, opBs y.o = l1 := ⟨_, rfl⟩
      have HOB := qy (fun W (hb : Below w.heap.size w W) => show Calls Tryz.prog 25 #[.agg y.cs.toArray] W (RetB W l1) by
       rw [← hl1]
       exact refOp_intO y.k y.v y.b y.e y.six y.ah y.al y.pt y.pr y.wy y.ms y.A y.n y.c W (OpX.ok_o hy.1) hyr ((OpX.rs hy.1).later hb))
      rw [hl1] at htk
      have HTK := qy htk
      clear htk hti hl1 hyr hy hjL HRG0
      have hwi : IntKind.i64.wrap ((i : Int) + 1) = ((i + 1 : Nat) : Int) := by rw [IntWalk.i64_in _ (by omega)]; omega
      clear hij
      have q20 : wr.cell? ⟨w.heap.size, 20, none⟩ = some (.slice (some ⟨bl, ol, none⟩) no co) := bcr.cell 20
      go_upto_region 10 with (fail)
      clear q21 qm2 q20
      refine wp_relS 9 60 rfl (by kernel_rfl) (by kernel_rfl) ?_
      refine qb 8 1 ?_
      refine ql 0 48 2 36 hm Tryz.underlying36 ?_
      refine qb 2 3 ?_
      refine ql 2 50 4 22 bcr Tryz.underlying22 ?_
      refine qb 9 5 ?_
      refine qc 3 51 4 52 6 ?_
      apply qm 7 rfl rfl
      ·intro FA x hO hD K hK
       obtain ⟨e53, ev53⟩ := qE (hD 5 53)
       clear hO hD
       refine wanted_if rfl ?_
       refine wp_load_mid 57 (.tmp 53) rfl bl (ol + i * 11) ev53.out y.cs _ (HRGB.out _ (be.trans ((below_plus wr x.bs x.d).mono be.size))) vo1 vo2 hsz ?_
       exact qk hK rfl
      apply qo (φ := (MP.obs wr.heap.size l1)) 8 rfl rfl
      ·intro FA x hO hD K hK
       have e54 := qe (hD 6 54)
       clear hO hD
       go_simp
       refine (HOB.out _ (be.trans ((below_plus wr x.bs x.d).mono be.size))).mono ?_
       rintro e9 w9 ⟨A9, n9, c9, bs9, d9, rfl, rfl, o9⟩
       exact hK.out _ _ (Ex.plus_ _ _ _) ⟨(A9, n9, c9), rfl, o9.mono (below_plus wr x.bs x.d).size⟩
      apply qo (φ := (MP.ol1 wr.heap.size l1)) 9 rfl rfl
      ·intro FA x hO hD K hK
       obtain ⟨u55, f55, e55, ev55⟩ := qG (hD 7 55)
       clear hO hD
       obtain ⟨s9, rfl, hs9⟩ := f55
       go_simp
       refine hK.out _ _ (Ex.alloc _ _) ⟨_, s9, rfl, ?_, hs9.alloc _⟩
       have h5 := (Os.lit (s := 1) (e := 28) (plus wr x.bs x.d) (Nat.le_refl _) (slV s9).toArray 1 rfl (by decide)).mono (below_plus wr x.bs x.d).size
       rw [size_plus] at h5
       exact h5
      refine Steps.fin_ (fun vs x hp => ?_)
      have p7 := hp 7 qd
      have p8 := hp 8 qd
      simp only [qta, qtb, qda, qdb, putAll, Nat.zero_add, Nat.reduceAdd, Act.put, qsT, qsZ, qsS, qi (hp 0 qd), qi (hp 1 qd), qi (hp 2 qd), qi (hp 3 qd), qi (hp 4 qd), qi (hp 5 qd), qi (hp 6 qd)]
      clear hp
      generalize vs 7 = y7 at *
      generalize vs 8 = y8 at *
      clear vs
      obtain ⟨Ax, s9, rfl, ho1, hs1⟩ := p8
      have b5 := below_plus wr x.bs x.d
      have hm5 := hm.later b5
      have hO5 := hO.later b5
      have hP5 := hP.later b5
      have bc5 := bcr.later b5
      have bz5 := bz.later b5
      have be5 := be.trans (b5.mono be.size)
      have hB5 : gm + 1 ≤ (plus wr x.bs x.d).heap.size := Nat.le_trans hgw b5.size
      have hwz := be.size
      clear p7 hm hO hP bcr bz be b5
      generalize plus wr x.bs x.d = W5 at *
      refine wpList_appS2 etSl rfl (.tmp 49) (.tmp 56) rfl rfl hO5 rfl ho1.rs (slV_one _) (by omega) hB5 ?_
      intro A7 n7 c7 w7 hn7 hO7 hb7 hg7 hk7
      subst hn7
      simp only [Act.put, qsT, qsZ, qsS]
      have hm7 := hm5.grown hg7 (fun e => hO5.neB hm5 (by decide) _ e rfl)
      refine qw ?_
      refine wpList_st1 (v := .slice A7 (j + 1) c7) (t := 41) (cs := msC 1 n A j c) (off := 2) 36 (.tmp 58) (.tmp 57) rfl rfl rfl rfl hm7 (Nat.le_of_ble_eq_true rfl) rfl (by kernel_rfl) ?_
      intro W8 h8 g8
      simp only [Act.put, qsT, qsZ, qsS]
      have hP8 := ((hP5.snoc (hs1.mono hgw)).grown hg7 (fun A n c l ho k hk e => Ob.apart ho hO5 (by decide) k hk e)).grown g8 (fun A n c l ho k hk e => by have := (ho.blk k hk).1; injection e with e; omega)
      have hO8 := hO7.grown g8 (fun k hk e => by have := (hO7.blk k hk).1; injection e with e; omega)
      have bc8 := (bc5.grown hg7 (fun e => by have := (hO5.blk _ e).1; omega)).grown g8 (fun e => by injection e with e; omega)
      have bz8 := (bz5.grown hg7 (fun e => by have := (hO5.blk _ e).1; omega)).grown g8 (fun e => by injection e with e; omega)
      have be8 := below_grown (be5.trans (hb7.mono (by omega))) g8 (by omega)
      have hgw8 : gm < W8.heap.size := by have := hg7.size; have := g8.size; omega
      have hij := HIJ.out
      clear hg7 g8 hO7 hm7 hm5 hO5 hP5 bc5 bz5 be5 hB5
      go_wp2
      exact ⟨⟨i + 1, j + 1, A7, c7, S ++ [s9], by first | rfl | go_num, by omega, by omega, by omega, h8, by rw [show (S ++ [s9]).flatMap slV = S.flatMap slV ++ slV s9 from by simp [slV]]; exact hO8, by rw [HTK.out]; exact hP8, bc8, bz8, hgw8, be8⟩, by simp [intOf]; omega⟩
     ·have j16 : ¬ (j : Int) < 16 := by omega
      obtain rfl : j = 16 := by omega
      go_upto_region 11 with (fail)
      refine wp_region_lit ?_
      refine qA 41 (.tmp 8) hm vm1 vm2 (szRm27 _ _ _ _ _) ?_
      simp only [Act.put, qsT, qsZ, qsS]
      refine wpList_stA (t := 41) 41 (.tmp 4) (.tmp 59) rfl rfl (msC 1 n A 16 c) (msC 0 0 none 0 0) rfl (msC_one _ _ _ _ _) rfl rfl bz (szRm27 _ _ _ _ _) ?_
      intro W9 h9 g9
      refine qw ?_
      have hO9 := hO.grown g9 (fun k hk e => by have := (hO.blk k hk).1; injection e with e; omega)
      have hP9 := hP.grown g9 (fun A n c l ho k hk e => by have := (ho.blk k hk).1; injection e with e; omega)
      have be9 := below_grown be g9 (by omega)
      go_wp2
      refine bodyPost_agg2 Tryz.results8 rfl rfl h9.range vm1 vm2 (szRm27 _ _ _ _ _) rfl ?_
      rw [HQ.out]
      exact ⟨A, _, c, rfl, ⟨S, hP9.ok, hO9.rs⟩, be9⟩
    ·have ij : ¬ (i : Int) < (s : Int) := by omega
     have hTk : T.take j = T.take 16 := by have := HTL.out; rw [List.take_of_length_le (by omega), List.take_of_length_le (by omega)]
     go_upto_region 11 with (fail)
     refine wp_region_lit ?_
     refine qA 41 (.tmp 8) hm vm1 vm2 (szRm27 _ _ _ _ _) ?_
     simp only [Act.put, qsT, qsZ, qsS]
     refine wpList_stA (t := 41) 41 (.tmp 4) (.tmp 59) rfl rfl (msC 1 n A j c) (msC 0 0 none 0 0) rfl (msC_one _ _ _ _ _) rfl rfl bz (szRm27 _ _ _ _ _) ?_
     intro W9 h9 g9
     refine qw ?_
     have hO9 := hO.grown g9 (fun k hk e => by have := (hO.blk k hk).1; injection e with e; omega)
     have hP9 := hP.grown g9 (fun A n c l ho k hk e => by have := (ho.blk k hk).1; injection e with e; omega)
     have be9 := below_grown be g9 (by omega)
     go_wp2
     refine bodyPost_agg2 Tryz.results8 rfl rfl h9.range vm1 vm2 (szRm27 _ _ _ _ _) rfl ?_
     rw [HQ.out]
     exact ⟨A, _, c, rfl, ⟨S, by rw [← hTk]; exact hP9.ok, hO9.rs⟩, be9⟩
end

end Go.Proofs.YtjiiloffgipfhaaGreatDoor
