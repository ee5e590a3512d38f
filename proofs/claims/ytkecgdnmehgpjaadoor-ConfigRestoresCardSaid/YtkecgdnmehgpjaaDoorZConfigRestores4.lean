/- Texts of the law ConfigRestores, part 4. -/
import Derived.Test.YtkecgdnmehgpjaaDoorZConfigRestores3
set_option linter.unusedVariables false
set_option linter.unusedSimpArgs false
namespace Go.Proofs.YtkecgdnmehgpjaaDoor
section
open Go.Lib
open Go.RowKit
attribute [local go_sem ↓] sliced_cut
attribute [local go_sem] cutA_zero
theorem etRm : ET Tryd.prog 23 86 (.agg #[.int .i64 0, .int .i64 0]) 2 16 := ⟨Tryd.underlying23, by kernel_rfl, rfl, by decide, by decide⟩
structure CfR (C : Cf) : Prop where
 key : C.key.length = 16
 bl : C.bk.length = 65
 vl : C.vs.length ≤ 16
 vs : ∀ v ∈ C.vs, StkOk v.S
theorem CfOk.r {C : Cf} (h : CfOk C) : CfR C := ⟨h.key, h.bl, h.vl, fun v hv => (h.vs v hv).st⟩
def RetRo (G : Nat → Prop) (w : World) (C' : Cf) (v : Nat) (e : Ending) (w' : World) : Prop := ∃ C'' A n c E, e = .returned (.tuple #[.agg (rcC C'' A n c).toArray, .int .i64 (v : Nat)]) ∧ RcX G w' C'' A n c E ∧ Below w.heap.size w w' ∧ C''.key.length = 16 ∧ C''.bk.length = 65 ∧ (v = 0 → C'' = C') ∧ (v = 0 → RcO G w.heap.size w' C'' A n c E)
theorem RetRo.no {G : Nat → Prop} {w w' : World} {C C' : Cf} {A : Option Addr} {n c : Nat} {E : List Re} {v v' : Nat} (h : RcX G w C A n c E) (hv : v' = v) (hk : C.key.length = 16) (hb : C.bk.length = 65) (h0 : v ≠ 0) (hbw : Below w.heap.size w w') : RetRo G w C' v' (.returned (.tuple #[.agg (rcC C A n c).toArray, .int .i64 (v : Nat)])) w' := by
 subst hv
 exact ⟨C, A, n, c, E, rfl, h.later hbw, hbw, hk, hb, (fun h => absurd h h0), fun h => absurd h h0⟩
theorem RetRo.rx {G : Nat → Prop} {w w' : World} {C' : Cf} {v : Nat} {e : Ending} (h : RetRo G w C' v e w') : RetRx G w C' v e w' := by
 obtain ⟨C2, A, n, c, E, h1, h2, h3, h4, h5, h6, -⟩ := h
 exact ⟨C2, A, n, c, E, h1, h2, h3, h4, h5, h6⟩
set_option maxHeartbeats 4000000
set_option maxRecDepth 100000
theorem rcMembers_own {G : Nat → Prop} (k b e : Int) (vi : Nat) (six : Bool) (ah al pt pr : Nat) (wy : Int) (ms : List (Int × Int)) (B : Option Addr) (m d : Nat) (C : Cf) (hC : CfR C) (A : Option Addr) (n c : Nat) (E : List Re) (w : World) (hG : ∀ b, G b → b < w.heap.size) (hX : RcX G w C A n c E) (hr : Rs 2 w B m d (prs .i64 ms)) (hm : m ≤ 1000000) (uv : Vp) (huv : C.vs[vi]? = some uv) : Calls Tryd.prog 40 #[.agg (rcC C A n c).toArray, .agg (opC k (vi : Nat) b e six ah al pt pr wy B m d).toArray] w (RetRo G w { C with vs := C.vs.set vi (setV uv ms) } (setE C uv ms)) := by
 obtain ⟨dvr1, vr1, vr2⟩ := rowRv
 obtain ⟨dvt1, vt1, vt2⟩ := rowRst
 have hk := hC.key
 have hb := hC.bl
 have HX0 := Lib.hid hX
 have HN := Lib.hid hX.n_
 have hml : ms.length = m := by have := hr.1; rw [prs_length] at this; omega
 have HMR := Lib.hid (fun W (h : Below w.heap.size w W) => hr.later h)
 have HMR0 := Lib.hid hr
 have HRI := Lib.hid (fun W (h : Rs 2 W B m d (prs .i64 ms)) => rcRight_any C hk hb A n c ms B m d W h hm)
 have hvn : vi < n := by have := (List.getElem?_eq_some_iff.1 huv).1; have := HN.out; omega
 have hn16 : n ≤ 16 := by have := hC.vl; have := HN.out; omega
 have hok : StkOk uv.S := hC.vs uv (List.mem_of_getElem? huv)
 cases hokm : okM C ms with
 | false =>
  have HE0 := Lib.hid (show setE C uv ms = 1 by unfold setE; rw [if_pos hokm])
  rw [hokm] at HRI
  clear hokm hr
  obtain ⟨dvs1, vs1, vs2⟩ := rowRcS
  obtain ⟨dvo1, vo1, vo2⟩ := rowRo
  obtain ⟨bs, bo, be, zV⟩ := box2 w 37 48 (rcC C A n c) (opC k (vi : Nat) b e six ah al pt pr wy B m d)
  go_enter Tryd.func40, Tryd.ntmps40
  go_upto_region 1 with (fail)
  have HVe := Lib.hid (show ((w.alloc (.cells (rcC C A n c).toArray 37)).alloc (.cells (opC k (vi : Nat) b e six ah al pt pr wy B m d).toArray 48)).heap.size = w.heap.size + 1 + 1 by simp)
  generalize (w.alloc (.cells (rcC C A n c).toArray 37)).alloc (.cells (opC k (vi : Nat) b e six ah al pt pr wy B m d).toArray 48) = V at *
  have hz := Bk.newK 37 (Tryd.zeroCells37) _ HVe.out.symm rfl
  have hzl : (Tryd.zeroCells37).toList.length = 279 := by kernel_rfl
  have hv81 : (Tryd.zeroCells62).toList.length = 81 := by kernel_rfl
  have hbz : Below V.heap.size V (V.alloc (.cells (Tryd.zeroCells37) 37)) := Below.allocS (Below.refl _ _) _
  go_upto_region 1 with (fail)
  have hVs : w.heap.size + 2 ≤ V.heap.size := by have := bo.lt; omega
  generalize hV2 : V.alloc (.cells (Tryd.zeroCells37) 37) = V2 at *
  clear hV2
  generalize (Tryd.zeroCells37).toList = zl0 at *
  replace bs := bs.later hbz
  replace bo := bo.later hbz
  replace be := be.trans (hbz.mono be.size)
  clear hbz
  refine wp_region_lit ?_
  refine wpList_ldA (t := 37) 37 (.tmp 2) rfl rfl (rcC C A n c) rfl (bs) (whole_ _) vs1 vs2 (szRcS C hk hb A n c) ?_
  refine wpList_plain rfl (fun K hK => ?_); go_simp; with_reducible refine hK _ _ ?_; clear hK K
  refine wpList_ld1 (t := 48) (cs := opC k (vi : Nat) b e six ah al pt pr wy B m d) 23 (.tmp 14) rfl (by rfl) rfl (bo) rfl Tryd.underlying23 rfl ?_
  refine wpList_plain rfl (fun K hK => ?_)
  go_simp
  refine (HRI.out _ (HMR.out _ be)).mono ?_
  rintro e w1 ⟨bs1, d1, rfl, rfl⟩
  with_reducible refine hK _ _ ?_
  clear hK K
  have hb1 := below_plus V2 bs1 d1
  replace bs := bs.later hb1
  replace bo := bo.later hb1
  replace hz := hz.later hb1
  replace be := be.trans (hb1.mono be.size)
  clear hb1
  generalize plus V2 bs1 d1 = V3 at *
  refine wpList_plain rfl (fun K hK => ?_); go_simp; with_reducible refine hK _ _ ?_; clear hK K
  go_upto_region 2 with (fail)
  refine wp_region_lit ?_
  refine wpList_ldA (t := 37) 37 (.tmp 2) rfl rfl (rcC C A n c) rfl (bs) (whole_ _) vs1 vs2 (szRcS C hk hb A n c) ?_
  simp only [Act.put, qsT, qsZ, qsS]
  refine wpList_stA (t := 37) 37 (.tmp 4) (.tmp 18) rfl rfl (rcC C A n c) zl0 (hzl.trans (rcC_len C hk hb _ _ _).symm).symm (rcL_one _ _ _ _ _ _ _ _) rfl rfl hz (szRcS C hk hb _ _ _) ?_
  intro W9 h9 g9
  refine wpList_plain rfl (fun K hK => ?_); go_simp; with_reducible refine hK _ _ ?_; clear hK K
  replace be := below_grown be g9 (by omega)
  go_wp2
  refine bodyPost_agg2 Tryd.results40 rfl rfl h9.range vs1 vs2 (szRcS C hk hb _ _ _) rfl ?_
  exact RetRo.no HX0.out HE0.out hk hb (by decide) be
 | true =>
  have HOKM := Lib.hid hokm
  rw [hokm] at HRI
  clear hokm
  have htk := newT_ok hok
  have hnr := next_ref (newT uv.S) htk (ms.map (·.1))
  have htl := htk.len
  have hrgT : ∀ x ∈ refT (newT uv.S), -1000 ≤ x ∧ x ≤ 1000 := fun x hx => by
   obtain ⟨s, hs, rfl⟩ := List.mem_map.1 hx
   have := htk.rg s hs
   unfold sgT
   split <;> omega
  have hlast : 0 < uv.S.lv.length → newT uv.S = (uv.S.lv[uv.S.lv.length - 1]?.map (·.2)).getD [] := fun h => by unfold newT; rw [List.getLast?_eq_getElem?]
  have hlast0 : uv.S.lv.length = 0 → newT uv.S = [] := fun h => by unfold newT; rw [List.getLast?_eq_getElem?, List.getElem?_eq_none (by omega)]; rfl
  have HTS := Lib.hid (show tabS uv.S ms = tNext (newT uv.S) (ms.map (·.1)) from rfl)
  obtain ⟨T, hT⟩ : ∃ T, T = newT uv.S := ⟨_, rfl⟩
  rw [← hT] at hnr htl hrgT hlast hlast0 HTS
  have HRN := Lib.hid (fun w' {A1 n1 c1} (h1 : Rs 1 w' A1 n1 c1 (itK (refT T))) A2 n2 c2 (h2 : Rs 1 w' A2 n2 c2 (itK (ms.map (·.1)))) => refNext_any (refT T) (ms.map (·.1)) A1 n1 c1 A2 n2 c2 w' h1 h2 (by have := h1.1; rw [itK_len] at this; simp [refT] at this; omega) (by have := h2.1; rw [itK_len] at this; simp at this; omega) hrgT)
  rw [← hnr] at HRN
  clear hT htk hnr
  generalize tNext T (ms.map (·.1)) = TT at *
  have HRP := Lib.hid (fun (D : Nat → Prop) A1 n1 c1 w' hD {A0 n0 c0} (h : RSt D w' uv.S.lv A0 n0 c0) (h2 : Rs 1 w' A1 n1 c1 (itK (refT TT))) (h3 : Off D w' A1) => refPush_any uv.S hok A0 n0 c0 TT A1 n1 c1 w' (D := D) hD h h2 h3)
  obtain ⟨ES, hES⟩ : ∃ ES, pushS uv.S TT = ES := ⟨_, rfl⟩
  rw [hES] at HRP
  have HSV := Lib.hid (show setV uv ms = { uv with S := ES, ms := ms } by unfold setV; rw [HTS.out, hES])
  rw [HSV.out]
  clear hES HTS
  generalize hPV : ((pushV uv.S : Nat) : Int) = PV at HRP
  generalize hPE : ((pushE uv.S : Nat) : Int) = PE at HRP
  have HPE := Lib.hid hPE
  clear hPV hPE
  obtain ⟨dvs1, vs1, vs2⟩ := rowRcS
  obtain ⟨dvo1, vo1, vo2⟩ := rowRo
  obtain ⟨bs, bo, be, zV⟩ := box2 w 37 48 (rcC C A n c) (opC k (vi : Nat) b e six ah al pt pr wy B m d)
  go_enter Tryd.func40, Tryd.ntmps40
  go_upto_region 1 with (fail)
  have HVe := Lib.hid (show ((w.alloc (.cells (rcC C A n c).toArray 37)).alloc (.cells (opC k (vi : Nat) b e six ah al pt pr wy B m d).toArray 48)).heap.size = w.heap.size + 1 + 1 by simp)
  generalize (w.alloc (.cells (rcC C A n c).toArray 37)).alloc (.cells (opC k (vi : Nat) b e six ah al pt pr wy B m d).toArray 48) = V at *
  have hz := Bk.newK 37 (Tryd.zeroCells37) _ HVe.out.symm rfl
  have hzl : (Tryd.zeroCells37).toList.length = 279 := by kernel_rfl
  have hv81 : (Tryd.zeroCells62).toList.length = 81 := by kernel_rfl
  have hbz : Below V.heap.size V (V.alloc (.cells (Tryd.zeroCells37) 37)) := Below.allocS (Below.refl _ _) _
  go_upto_region 1 with (fail)
  have hVs : w.heap.size + 2 ≤ V.heap.size := by have := bo.lt; omega
  generalize hV2 : V.alloc (.cells (Tryd.zeroCells37) 37) = V2 at *
  clear hV2
  generalize (Tryd.zeroCells37).toList = zl0 at *
  replace bs := bs.later hbz
  replace bo := bo.later hbz
  replace be := be.trans (hbz.mono be.size)
  clear hbz
  refine wp_region_lit ?_
  refine wpList_ldA (t := 37) 37 (.tmp 2) rfl rfl (rcC C A n c) rfl (bs) (whole_ _) vs1 vs2 (szRcS C hk hb A n c) ?_
  refine wpList_plain rfl (fun K hK => ?_); go_simp; with_reducible refine hK _ _ ?_; clear hK K
  refine wpList_ld1 (t := 48) (cs := opC k (vi : Nat) b e six ah al pt pr wy B m d) 23 (.tmp 14) rfl (by rfl) rfl (bo) rfl Tryd.underlying23 rfl ?_
  refine wpList_plain rfl (fun K hK => ?_)
  go_simp
  refine (HRI.out _ (HMR.out _ be)).mono ?_
  rintro e w1 ⟨bs1, d1, rfl, rfl⟩
  with_reducible refine hK _ _ ?_
  clear hK K
  have hb1 := below_plus V2 bs1 d1
  replace bs := bs.later hb1
  replace bo := bo.later hb1
  replace hz := hz.later hb1
  replace be := be.trans (hb1.mono be.size)
  clear hb1
  generalize plus V2 bs1 d1 = V3 at *
  refine wpList_plain rfl (fun K hK => ?_); go_simp; with_reducible refine hK _ _ ?_; clear hK K
  have hlE := HX0.out.len
  obtain ⟨bl, ol, hAe, hbl, -⟩ := HX0.out.row.at_ (by omega) (by decide)
  have hrow := HX0.out.row.later be
  have q278 : V3.cell? ⟨w.heap.size, 278, none⟩ = some (.slice A n c) := (bs.cell _).trans (rcC_vips C hk hb A n c)
  rw [hAe] at hrow q278
  have hNn := HN.out
  have hrg := hrow.rangeE rvC_len vi (by omega)
  have hum : E[vi]'(by omega) ∈ E := List.getElem_mem _
  have hui : (E[vi]'(by omega)).1 = uv := by
   have h1 : (E.map (·.1))[vi]? = some (E[vi]'(by omega)).1 := by rw [List.getElem?_map, List.getElem?_eq_getElem (by omega)]; rfl
   rw [HX0.out.vs, huv] at h1
   exact (Option.some.inj h1).symm
  obtain ⟨u, hu⟩ : ∃ u, u = E[vi]'(by omega) := ⟨_, rfl⟩
  rw [← hu] at hrg hum hui
  have HSSu := HX0.out.ss u hum
  obtain ⟨uv', uA, un, uc, uB, um, ud⟩ := u
  have hui2 : uv = uv' := hui.symm
  clear hui
  subst hui2
  replace HSSu : RSt G w uv.S.lv uB um ud := HSSu
  clear hlE hAe hrow hNn hu hum
  have hvi1 : (vi : Int) < (n : Int) := by omega
  go_upto_region 3 with (fail)
  refine wp_region_lit ?_
  iterate 3 (refine wpList_plain rfl (fun K hK => ?_); go_simp; with_reducible refine hK _ _ ?_; clear hK K)
  refine wpList_ld1 (t := 48) (cs := opC k (vi : Nat) b e six ah al pt pr wy B m d) 3 (.tmp 21) rfl (by rfl) rfl (bo) rfl Tryd.underlying3 rfl ?_
  refine wpList_plain rfl (fun K hK => ?_); go_simp; with_reducible refine hK _ _ ?_; clear hK K
  refine wpList_load_mid rfl 62 (.tmp 23) rfl bl (ol + vi * 81) rfl (rvC ((uv, ⟨uA, un, uc, uB, um, ud⟩) : Re)) _ hrg vr1 vr2 (szRv _) ?_
  refine wpList_plain rfl (fun K hK => ?_); go_simp; with_reducible refine hK _ _ ?_; clear hK K
  refine wpList_stA (t := 62) 62 (.tmp 6) (.tmp 24) rfl rfl (rvC ((uv, ⟨uA, un, uc, uB, um, ud⟩) : Re)) (Tryd.zeroCells62).toList (by rw [rvC_len]; exact hv81.symm) (rvC_one _) rfl rfl (Bk.new _ _ _) (szRv _) ?_
  intro W7 h7 g7
  simp only [Act.put, qsT, qsZ, qsS]
  have hbz7 := hz.lt
  replace bs := (bs.alloc (.cells (Tryd.zeroCells62) 62)).grown g7 (fun e => by injection e with e; have := bs.lt; omega)
  replace bo := (bo.alloc (.cells (Tryd.zeroCells62) 62)).grown g7 (fun e => by injection e with e; have := bo.lt; omega)
  replace hz := (hz.alloc (.cells (Tryd.zeroCells62) 62)).grown g7 (fun e => by injection e with e; have := hz.lt; omega)
  have be7 : Below w.heap.size w W7 := below_grown (Below.allocS be _) g7 (by have := be.size; omega)
  clear be g7 hrg q278
  have be := be7
  clear be7
  generalize V3.heap.size = gv at *
  have HSS := Lib.hid (fun W' (h : Below w.heap.size w W') => (HSSu.more (D' := (fun b => G b ∨ (w.heap.size ≤ b ∧ b < gv + 1))) (fun b hb => hb.elim .inl (fun h => .inr h.1))).later h)
  have hDs : ∀ W : World, gv + 1 ≤ W.heap.size → ∀ b, (fun b => G b ∨ (w.heap.size ≤ b ∧ b < gv + 1)) b → b < W.heap.size := fun W hW b hb => by
   rcases hb with hb | ⟨_, hb⟩
   ·have := hG b hb; omega
   ·omega
  have hgvs : w.heap.size + 2 < gv := by omega
  have HMW := Lib.hid (fun W' (h : Below W7.heap.size W7 W') => (hr.later be).later h)
  have hul := HSSu.len
  clear hr
  have q7 : W7.cell? ⟨gv, 7, none⟩ = some (.slice uB um ud) := h7.cell _
  by_cases h0 : 0 < um
  rotate_left
  focus
   have h00 : uv.S.lv.length = 0 := by omega
   have hTT := hlast0 h00
   have h0i : ¬ (0 : Int) < (um : Int) := by omega
   have HRW := Lib.hid (fun W' (h : Below W7.heap.size W7 W') => show Rs 1 W' none 0 0 (itK (refT T)) by rw [hTT]; exact Rs.nil_)
   clear hul hlast hlast0 h00 hTT h0
   go_upto_region 7 with (fail)
   clear q7
  rotate_left
  focus
   have hlst := hlast (by omega)
   obtain ⟨bk, ok, Aw, nw, cw, hA, -, hcw, hrw, hoff⟩ := (HSS.out W7 be).at_ (uv.S.lv.length - 1) (by omega)
   rw [List.getElem?_eq_getElem (by omega)] at hlst
   have hTT : T = (uv.S.lv[uv.S.lv.length - 1]'(by omega)).2 := hlst
   rw [← hTT] at hrw
   rw [← hul] at hcw
   rw [hA] at q7
   obtain ⟨n1, hn1⟩ : ∃ n1, um = n1 + 1 := ⟨um - 1, by omega⟩
   rw [hn1, Nat.add_sub_cancel] at hcw
   rw [hn1] at q7
   have HRW := Lib.hid (fun W' (h : Below W7.heap.size W7 W') => hrw.later h)
   have n8 : n1 + 1 ≤ 8 := by have := hok.len; omega
   have l1 : IntKind.i64.wrap (((n1 + 1 : Nat) : Int) - 1) = (n1 : Int) := by rw [IntWalk.i64_in _ (by omega)]; omega
   have l2 : IntKind.i64.wrap ((n1 : Int) + 1 - 1) = (n1 : Int) := by rw [IntWalk.i64_in _ (by omega)]; omega
   have l3 : IntKind.i64.wrap (n1 : Int) = (n1 : Int) := IntWalk.i64_in _ (by omega)
   have l4 : (n1 : Int) < ((n1 + 1 : Nat) : Int) := by omega
   have l5 : (n1 : Int) < (n1 : Int) + 1 := by omega
   have l6 : (0 : Int) < ((n1 + 1 : Nat) : Int) := by omega
   have l7 : (0 : Int) < (n1 : Int) + 1 := by omega
   clear hlst hTT hlast hlast0 hA hul hn1 h0 hrw hoff
   go_upto_region 6 with (fail)
   refine wp_region_lit ?_
   iterate 12 (refine wpList_plain rfl (fun K hK => ?_); go_simp; with_reducible refine hK _ _ ?_; clear hK K)
   clear q7 hcw
  iterate 2
   focus
    have qm : W7.cell? ⟨w.heap.size + 1, 10, none⟩ = some (.slice B m d) := bo.cell _
    have hO0 : Os 3 1 W7 W7.heap.size none 0 0 (itK ((ms.take 0).map (·.1))) := Os.nil_
    have HST := Lib.hid hO0
    have HQM := Lib.hid (fun W' (h : Below W7.heap.size W7 W') => show W'.cell? ⟨w.heap.size + 1, 10, none⟩ = some (.slice B m d) from (bo.later h).cell _)
    have hbeS := be.size
    have HF7 := Lib.hid (And.intro bs (And.intro bo (And.intro hz (And.intro h7 be))))
    clear hO0 bs bo hz h7 be
    go_upto_region 8 with (fail)
    clear qm
    go_loopw [8, 9] (fun L I wr => ∃ (i : Nat) (Bl : Option Addr) (kl dl : Nat), L = .slice Bl kl dl ∧ I = .int .i64 (i : Int) ∧ i ≤ m ∧ Os 3 1 wr W7.heap.size Bl kl dl (itK ((ms.take i).map (·.1))) ∧ Below W7.heap.size W7 wr) (fun _ I _ => m - (intOf I).toNat)
    case atStart => exact ⟨0, none, 0, 0, rfl, rfl, Nat.zero_le _, HST.out, Below.refl _ _⟩
    case round =>
     clear HST
     obtain ⟨i, Bl, kl, dl, rfl, rfl, hi, hO, hbl7⟩ := hrel
     have qm := HQM.out wr hbl7
     have hkl := hO.1
     rw [itK_len] at hkl
     have hkl2 : ((ms.take i).map (·.1)).length ≤ i := by simp; omega
     have hkl1 : kl ≤ 1000000 := by omega
     by_cases hil : i < m
     ·have hi1 : (i : Int) < (m : Int) := by omega
      obtain ⟨bm, om, hBe, hbm, -⟩ := HMR0.out.at_ (by omega) (by decide)
      rw [hBe] at qm
      have hmr := HMW.out wr hbl7
      rw [hBe] at hmr
      have qe : wr.cell? ⟨bm, om + i * 2, none⟩ = some (.int .i64 (ms[i]'(by omega)).1) := (hmr.range2 i (by omega)).1
      have hs := Lib.hid (show (ms.take (i + 1)).map (·.1) = (ms.take i).map (·.1) ++ [(ms[i]'(by omega)).1] by rw [List.take_succ_eq_append_getElem (by omega), List.map_append]; rfl)
      generalize (ms[i]'(by omega)).1 = xm at *
      clear hBe hmr
      have hsz7 := hbl7.size
      go_wp2_with (at_builtin; refine wpList_appS etI rfl (.tmp 48) (.tmp 55) rfl rfl (hO.later (Below.allocS (Below.refl _ _) _)) rfl (Rs.of_bk (n := 1) (c := 1) (Bk.new wr _ _) rfl (Nat.le_refl _)) (by simp [Value.oneCell']) (by omega) (by simp; omega) ?_; intro A2 n2 c2 w4 hn2 hO4 hb4 hg4; subst hn2)
      have he2 : Os 3 1 w4 W7.heap.size A2 (kl + 1) c2 (itK ((ms.take (i + 1)).map (·.1))) := by rw [hs.out, itK_append]; exact hO4
      exact ⟨⟨i + 1, A2, _, c2, rfl, by go_num, by omega, he2, (Below.allocS hbl7 _).trans hb4⟩, by simp [intOf]; omega⟩
     ·have hi1 : ¬ (i : Int) < (m : Int) := by omega
      rw [List.take_of_length_le (by omega)] at hO
      clear hi hil hkl2
      obtain ⟨bs, bo, hz, h7, be⟩ := HF7.out
      replace bs := bs.later hbl7
      replace bo := bo.later hbl7
      replace hz := hz.later hbl7
      replace h7 := h7.later hbl7
      replace be := be.trans (hbl7.mono hbeS)
      have hgv7 := h7.lt
      have HWx := Lib.hid (fun W' (h : Below wr.heap.size wr W') => show RSt (fun b => G b ∨ (w.heap.size ≤ b ∧ b < gv + 1)) W' uv.S.lv uB um ud ∧ Rs 1 W' _ _ _ (itK (refT T)) ∧ Rs 1 W' Bl kl dl (itK (ms.map (·.1))) from ⟨HSS.out W' (be.trans (h.mono be.size)), HRW.out W' (hbl7.trans (h.mono hbl7.size)), hO.rs.later h⟩)
      go_upto_region 11 with (fail)
      generalize wr = W at *
      have HW := HWx
      refine wp_relES 11 83 [8, 9] rfl (by kernel_rfl) (by kernel_rfl) ?_
      apply Steps.oneE (MP.eq _) 1 rfl (by decide)
      ·intro o ho FA x hO hD K hK
       obtain rfl := qoi ho
       have e6 := hO 6 (by kernel_rfl)
       simp only [eval_tmp, qgT, qgS, qgZ, qoS] at e6
       have ev6 := Lib.hid ((eval_tmp FA 6).trans e6)
       clear hO hD ho
       go_simp
       exact hK.out _ _ (Ex.refl _) rfl
      apply Steps.oneE (MP.eq (.agg (rstC uB um ud uv.S).toArray)) 2 rfl (by decide)
      ·intro o ho FA x hO hD K hK
       obtain rfl := qoi ho
       obtain ⟨e58, ev58⟩ := qE (hD 0 58 (by kernel_rfl))
       clear hO hD ho
       refine wanted_if rfl ?_
       refine wp_ldA (cs := rvC ((uv, ⟨uA, un, uc, uB, um, ud⟩) : Re)) 60 (.tmp 58) rfl (rstC uB um ud uv.S) ev58.out (h7.later (below_plus _ _ _)) (rvC_stk ((uv, ⟨uA, un, uc, uB, um, ud⟩) : Re)) vt1 vt2 (szRst _ _ _ _) ?_
       exact hK.out _ _ (Ex.refl _) rfl
      apply Steps.oneE (MP.eq _) 3 rfl (by decide)
      ·intro o ho FA x hO hD K hK
       obtain rfl := qoi ho
       have e7 := hO 7 (by kernel_rfl)
       simp only [eval_tmp, qgT, qgS, qgZ, qoS] at e7
       have ev7 := Lib.hid ((eval_tmp FA 7).trans e7)
       clear hO hD ho
       go_simp
       exact hK.out _ _ (Ex.refl _) rfl
      apply Steps.oneE (MP.eq _) 4 rfl (by decide)
      ·intro o ho FA x hO hD K hK
       obtain rfl := qoi ho
       have e8 := hO 8 (by kernel_rfl)
       simp only [eval_tmp, qgT, qgS, qgZ, qoS] at e8
       have ev8 := Lib.hid ((eval_tmp FA 8).trans e8)
       clear hO hD ho
       go_simp
       exact hK.out _ _ (Ex.refl _) rfl
      apply Steps.oneE (MP.osw 3 1 W.heap.size (itK (refT TT))) 5 rfl (by decide)
      ·intro o ho FA x hO hD K hK
       obtain rfl := qoi ho
       obtain ⟨e60, ev60⟩ := qE (hD 2 60 (by kernel_rfl))
       obtain ⟨e61, ev61⟩ := qE (hD 3 61 (by kernel_rfl))
       clear hO hD ho
       go_simp
       refine (HRN.out _ (HW.out _ (below_plus _ _ _)).2.1 _ _ _ (HW.out _ (below_plus _ _ _)).2.2).mono ?_
       rintro e w2 ⟨A7, n7, c7, bs7, d7, rfl, rfl, h7x⟩
       exact hK.out _ _ (Ex.plus_ _ _ _) ⟨_, _, _, rfl, h7x.mono (by simp [size_plus])⟩
      apply Steps.oneE (MP.rst (fun b => G b ∨ (w.heap.size ≤ b ∧ b < gv + 1)) ES (fun x => .tuple #[x, .int .i64 PV, .int .i64 PE])) 6 rfl (by decide)
      ·intro o ho FA x hO hD K hK
       obtain rfl := qoi ho
       obtain ⟨e59, ev59⟩ := qE (hD 1 59 (by kernel_rfl))
       obtain ⟨u62, f62, e62, ev62⟩ := qG (hD 4 62 (by kernel_rfl))
       clear hO hD ho
       obtain ⟨A7, n7, c7, rfl, h7x⟩ := f62
       go_simp
       refine (HRP.out _ _ _ _ _ (hDs _ (by simp [size_plus]; omega)) (HW.out _ (below_plus _ _ _)).1 h7x.rs (Off.own h7x (fun b hb => hDs _ (by omega) b hb))).mono ?_
       rintro e w2 ⟨A8, n8, c8, bs8, d8, rfl, rfl, h8⟩
       exact hK.out _ _ (Ex.plus_ _ _ _) ⟨_, _, _, rfl, h8⟩
      apply Steps.oneE (MP.rst (fun b => G b ∨ (w.heap.size ≤ b ∧ b < gv + 1)) ES (fun x => .tuple #[x, .int .i64 PV, .int .i64 PE])) 7 rfl (by decide)
      ·intro o ho FA x hO hD K hK
       obtain rfl := qoi ho
       obtain ⟨u63, f63, e63, ev63⟩ := qG (hD 5 63 (by kernel_rfl))
       clear hO hD ho
       go_simp
       exact hK.out _ _ (Ex.refl _) f63
      apply Steps.oneE (MP.rst (fun b => G b ∨ (w.heap.size ≤ b ∧ b < gv + 1)) ES (fun x => x)) 8 rfl (by decide)
      ·intro o ho FA x hO hD K hK
       obtain rfl := qoi ho
       obtain ⟨u57, f57, e57, ev57⟩ := qG (hD 6 57 (by kernel_rfl))
       clear hO hD ho
       obtain ⟨A7, n7, c7, rfl, h7x⟩ := f57
       go_simp
       exact hK.out _ _ (Ex.refl _) ⟨_, _, _, rfl, h7x⟩
      apply Steps.oneP (.int .i64 PV) 9 rfl (by decide)
      ·intro o ho FA x hO hD
       obtain rfl := qoi ho
       obtain ⟨u57, f57, e57, ev57⟩ := qG (hD 6 57 (by kernel_rfl))
       clear hO hD ho
       obtain ⟨A7, n7, c7, rfl, h7x⟩ := f57
       refine .inl ⟨by simp [Region.wanted], fun w => ?_⟩
       go_simp
      apply Steps.oneP (.int .i64 PE) 10 rfl (by decide)
      ·intro o ho FA x hO hD
       obtain rfl := qoi ho
       obtain ⟨u57, f57, e57, ev57⟩ := qG (hD 6 57 (by kernel_rfl))
       clear hO hD ho
       obtain ⟨A7, n7, c7, rfl, h7x⟩ := f57
       refine .inl ⟨by simp [Region.wanted], fun w => ?_⟩
       go_simp
      apply Steps.oneE (MP.blk W.heap.size 60 (rstC none 0 0 stk0)) 11 rfl (by decide)
      ·intro o ho FA x hO hD K hK
       obtain rfl := qoi ho
       clear hO hD ho
       go_simp
       refine hK.out _ _ (Ex.alloc _ _) ⟨_, rfl, ?_, ?_⟩
       ·simp [size_plus]
       ·refine Bk.newK _ _ _ ?_ rfl
        simp [size_plus]
      refine Steps.fin_ (fun vs x hp => ?_)
      have p0 : vs 0 = _ := hp 0 (by omega)
      have p1 : vs 1 = _ := hp 1 (by omega)
      have p2 : vs 2 = _ := hp 2 (by omega)
      have p3 : vs 3 = _ := hp 3 (by omega)
      have p4 := hp 4 (by omega)
      have p5 := hp 5 (by omega)
      have p6 := hp 6 (by omega)
      have p7 := hp 7 (by omega)
      have p8 : vs 8 = _ := hp 8 (by omega)
      have p9 : vs 9 = _ := hp 9 (by omega)
      have p10 := hp 10 (by omega)
      clear hp
      simp only [List.take_succ_cons, List.take_zero, List.drop_succ_cons, List.drop_zero, putAll, Nat.zero_add, Nat.reduceAdd, Act.put, qsT, qsZ, qsS, p0, p1, p2, p3, p8, p9]
      clear p0 p1 p2 p3 p8 p9
      generalize vs 4 = y4 at *
      generalize vs 5 = y5 at *
      generalize vs 6 = y6 at *
      generalize vs 7 = y7 at *
      generalize vs 10 = y10 at *
      clear vs
      obtain ⟨A9, n9, c9, rfl, hR9⟩ := p7
      obtain ⟨g16, rfl, zg16, b16⟩ := p10
      have hb8 := below_plus W x.bs x.d
      replace bs := bs.later hb8
      replace bo := bo.later hb8
      replace hz := hz.later hb8
      replace h7 := h7.later hb8
      replace be := be.trans (hb8.mono be.size)
      clear hb8 p5 p6 HW HWx HF7 hbl7 hO qm p4
      generalize plus W x.bs x.d = Z at *
      have b16z := b16
      have hgvZ := h7.lt
      refine wpList_stA (t := 60) 60 (.tmp 10) (.tmp 64) rfl rfl (rstC A9 n9 c9 ES) (rstC none 0 0 stk0) (by rw [rstC_len, rstC_len]) (rstC_one _ _ _ _) rfl rfl b16 (szRst _ _ _ _) ?_
      intro W6 h6 g6
      iterate 2 (refine wpList_plain rfl (fun K hK => ?_); go_simp; with_reducible refine hK _ _ ?_; clear hK K)
      replace bs := bs.grown g6 (fun e => by injection e with e; omega)
      replace bo := bo.grown g6 (fun e => by injection e with e; omega)
      replace hz := hz.grown g6 (fun e => by injection e with e; omega)
      replace h7 := h7.grown g6 (fun e => by injection e with e; omega)
      replace hR9 := hR9.noInt b16z (by
       intro u hu k z e
       subst e
       rcases List.mem_cons.1 hu with hu | hu
       ·cases hu
       ·rcases List.mem_append.1 hu with hu | hu <;> (obtain ⟨x, _, hx⟩ := List.mem_map.1 hu; cases hx)) g6
      replace be := below_grown be g6 (by omega)
      have b16 := h6
      clear g6 h6 b16z
      have hg16 := b16.lt
      go_wp2
      go_wp2
      apply_assumption
      by_cases hpe : pushE uv.S = 0
      ·have hpi : (PE != 0) = false := by rw [← HPE.out, hpe]; rfl
       have HE0 := Lib.hid (show setE C uv ms = 0 by unfold setE; rw [if_neg (by rw [HOKM.out]; decide)]; exact hpe)
       clear hpe
       go_upto_region 14 with (fail)
       refine wp_region_lit ?_
       refine wpList_ldA (t := 60) 60 (.tmp 10) rfl rfl (rstC A9 n9 c9 ES) rfl (b16) (whole_ _) vt1 vt2 (szRst _ _ _ _) ?_
       refine wpList_plain rfl (fun K hK => ?_); go_simp; with_reducible refine hK _ _ ?_; clear hK K
       refine wpList_stM (t := 62) (off := 7) 60 (.tmp 72) (.tmp 71) rfl rfl (rstC A9 n9 c9 ES) (rvC ((uv, ⟨uA, un, uc, uB, um, ud⟩) : Re)) (by rw [rvC_len, rstC_len]; decide) (rstC_one _ _ _ _) rfl rfl h7 (szRst _ _ _ _) ?_
       intro W4 h4 g4
       simp only [Act.put, qsT, qsZ, qsS]
       rw [rvC_setStk] at h4
       replace h4 : Bk W4 gv 62 (rvC (({ uv with S := ES }, ⟨uA, un, uc, A9, n9, c9⟩) : Re)) := h4
       replace bs := bs.grown g4 (fun e => by injection e with e; omega)
       replace bo := bo.grown g4 (fun e => by injection e with e; omega)
       replace hz := hz.grown g4 (fun e => by injection e with e; omega)
       replace be := below_grown be g4 (by omega)
       have hR4 := hR9.chg (Chg.one g4 (Or.inr ⟨by omega, by omega⟩))
       have hmr4 := HMR.out _ be
       have hgv4 := h4.lt
       have hws4 := be.size
       clear g4 h7 hR9
       go_upto_region 15 with (fail)
       refine wp_region_lit ?_
       iterate 2 (refine wpList_plain rfl (fun K hK => ?_); go_simp; with_reducible refine hK _ _ ?_; clear hK K)
       refine wpList_ld1 (t := 48) (cs := opC k (vi : Nat) b e six ah al pt pr wy B m d) 23 (.tmp 74) rfl (by rfl) rfl ((bo.alloc _)) rfl Tryd.underlying23 rfl ?_
       simp only [Act.put, qsT, qsZ, qsS]
       refine wpList_appS etRm rfl (.tmp 73) (.tmp 75) rfl rfl (Os.lit W4 (Nat.le_refl _) #[] 0 rfl (Nat.zero_le _)) rfl (hmr4.alloc _) (prs_one _ _) (by omega) (by simp) ?_
       intro A3 n3 c3 w5 hn3 hO5 hb5 hg5
       obtain rfl : m = n3 := by omega
       clear hn3
       simp only [Act.put, qsT, qsZ, qsS]
       have hb5W : Below W4.heap.size W4 w5 := (Below.allocS (Below.refl _ _) _).trans hb5
       simp only [List.nil_append, Nat.zero_add] at hO5
       replace h4 := h4.later hb5W
       refine wpList_plain rfl (fun K hK => ?_); go_simp; with_reducible refine hK _ _ ?_; clear hK K
       refine wpList_st1 (v := .slice A3 m c3) (t := 62) (cs := rvC (({ uv with S := ES }, ⟨uA, un, uc, A9, n9, c9⟩) : Re)) (off := 6) 23 (.tmp 77) (.tmp 76) rfl rfl rfl rfl h4 (by rw [rvC_len]; decide) rfl (by kernel_rfl) ?_
       intro W5 h5 g5
       simp only [Act.put, qsT, qsZ, qsS]
       replace h5 : Bk W5 gv 62 (rvC (({ uv with S := ES, ms := ms }, ⟨A3, m, c3, A9, n9, c9⟩) : Re)) := h5
       have hbe5 := be
       replace bs := (bs.later hb5W).grown g5 (fun e => by injection e with e; omega)
       replace bo := (bo.later hb5W).grown g5 (fun e => by injection e with e; omega)
       replace hz := (hz.later hb5W).grown g5 (fun e => by injection e with e; omega)
       replace be := below_grown (be.trans (hb5W.mono be.size)) g5 (by omega)
       have hws5 := be.size
       have hgv5 := h5.lt
       have hblk := hO5.blk
       have hO6 := hO5.grown g5 (fun k hk e => by have := (hblk k hk).1; injection e with e; omega)
       have h1w : Rs 2 W5 A3 m c3 (prs .i64 ms) := hO6.rs
       have h2w : Off (fun b => G b ∨ b = w.heap.size + 1 + 1) W5 A3 := Off.own hO6 (fun b hb => hb.elim (fun h => by have := hG b h; omega) (fun h => by omega))
       have h3w : RSt (fun b => G b ∨ b = w.heap.size + 1 + 1) W5 ES.lv A9 n9 c9 := ((hR4.later hb5W).chg (Chg.one g5 (Or.inr ⟨by omega, by omega⟩))).more (fun b hb => hb.elim (fun h => .inl (.inl h)) (fun h => .inl (.inr ⟨by omega, by omega⟩)))
       have hbe5 := Lib.hid be.size
       clear hb5 hg5 g5 hR4 hmr4 hO5 hblk h4 hO6 hb5W
       go_upto_region 16 with (fail)
       refine wp_region_lit ?_
       refine wpList_ldA (t := 37) 37 (.tmp 2) rfl rfl (rcC C A n c) rfl (bs) (whole_ _) vs1 vs2 (szRcS C hk hb A n c) ?_
       refine wpList_plain rfl (fun K hK => ?_); go_simp; with_reducible refine hK _ _ ?_; clear hK K
       refine wpList_ld1 (t := 48) (cs := opC k (vi : Nat) b e six ah al pt pr wy B m d) 3 (.tmp 79) rfl (by rfl) rfl (bo) rfl Tryd.underlying3 rfl ?_
       simp only [Act.put, qsT, qsZ, qsS]
       refine wpList_ldA (t := 62) 62 (.tmp 6) rfl rfl (rvC (({ uv with S := ES, ms := ms }, ⟨A3, m, c3, A9, n9, c9⟩) : Re)) rfl (h5) (whole_ _) vr1 vr2 (szRv _) ?_
       refine wpList_plain rfl (fun K hK => ?_)
       go_simp
       refine (rcWith_own (G := fun b => G b ∨ b = w.heap.size + 1 + 1) C hk hb A n c E vi (({ uv with S := ES, ms := ms }, ⟨A3, m, c3, A9, n9, c9⟩) : Re) W5 (fun b hb => hb.elim (fun h => by have := hG b h; omega) (fun h => by omega)) ((HX0.out.more (fun b hb => hb.elim .inl (fun h => .inr (by omega)))).later be) hvn hn16 h1w h2w h3w).mono ?_
       rintro e w1 ⟨A8, c8, rfl, hX8, hb9⟩
       with_reducible refine hK _ _ ?_
       clear hK K
       replace hz := hz.later hb9
       replace be := be.trans (hb9.mono be.size)
       generalize hWW : w1 = W8 at *
       clear hWW
       refine wpList_stA (t := 37) 37 (.tmp 4) (.tmp 82) rfl rfl (rcC C A8 n c8) zl0 (hzl.trans (rcC_len C hk hb _ _ _).symm).symm (rcL_one _ _ _ _ _ _ _ _) rfl rfl hz (szRcS C hk hb _ _ _) ?_
       intro W9 h9 g9
       refine wpList_plain rfl (fun K hK => ?_); go_simp; with_reducible refine hK _ _ ?_; clear hK K
       replace be := below_grown be g9 (by omega)
       go_wp2
       refine bodyPost_agg2 Tryd.results40 rfl rfl h9.range vs1 vs2 (szRcS C hk hb _ _ _) rfl ?_
       rw [HE0.out]
       refine ⟨{ C with vs := C.vs.set vi (setV uv ms) }, A8, n, c8, E.set vi (({ uv with S := ES, ms := ms }, ⟨A3, m, c3, A9, n9, c9⟩) : Re), rfl, ?_, be, hk, hb, (fun _ => by rw [HSV.out]), fun _ => ?_⟩
       all_goals rw [HSV.out]
       ·exact ((hX8.chg (Chg.one (D := fun b => b = w.heap.size + 1 + 1) g9 rfl) (fun b h => .inr h)).more (G' := G) (fun b h => .inl (.inl h))).x
       ·exact ((hX8.chg (Chg.one (D := fun b => b = w.heap.size + 1 + 1) g9 rfl) (fun b h => .inr h)).more (G' := G) (fun b h => .inl (.inl h))).base_ hbe5.out
      ·have hpi : (PE != 0) = true := by rw [← HPE.out]; unfold pushE at hpe ⊢; split at hpe <;> simp_all
       have HE0 := Lib.hid (show ((setE C uv ms : Nat) : Int) = PE by unfold setE; rw [if_neg (by rw [HOKM.out]; decide)]; exact HPE.out)
       have hpe2 := Lib.hid (show setE C uv ms ≠ 0 by unfold setE; rw [if_neg (by rw [HOKM.out]; decide)]; exact hpe)
       clear hpe
       go_upto_region 13 with (fail)
       refine wp_region_lit ?_
       refine wpList_ldA (t := 37) 37 (.tmp 2) rfl rfl (rcC C A n c) rfl (bs) (whole_ _) vs1 vs2 (szRcS C hk hb A n c) ?_
       refine wpList_plain rfl (fun K hK => ?_); go_simp; with_reducible refine hK _ _ ?_; clear hK K
       refine wpList_stA (t := 37) 37 (.tmp 4) (.tmp 69) rfl rfl (rcC C A n c) zl0 (hzl.trans (rcC_len C hk hb _ _ _).symm).symm (rcL_one _ _ _ _ _ _ _ _) rfl rfl hz (szRcS C hk hb _ _ _) ?_
       intro W9 h9 g9
       refine wpList_plain rfl (fun K hK => ?_); go_simp; with_reducible refine hK _ _ ?_; clear hK K
       replace be := below_grown be g9 (by omega)
       go_wp2
       refine bodyPost_agg2 Tryd.results40 rfl rfl h9.range vs1 vs2 (szRcS C hk hb _ _ _) rfl ?_
       rw [← HE0.out]
       exact RetRo.no HX0.out rfl hk hb hpe2.out be
theorem rcMembers_any {G : Nat → Prop} (k b e : Int) (vi : Nat) (six : Bool) (ah al pt pr : Nat) (wy : Int) (ms : List (Int × Int)) (B : Option Addr) (m d : Nat) (C : Cf) (hC : CfR C) (A : Option Addr) (n c : Nat) (E : List Re) (w : World) (hG : ∀ b, G b → b < w.heap.size) (hX : RcX G w C A n c E) (hr : Rs 2 w B m d (prs .i64 ms)) (hm : m ≤ 1000000) (uv : Vp) (huv : C.vs[vi]? = some uv) : Calls Tryd.prog 40 #[.agg (rcC C A n c).toArray, .agg (opC k (vi : Nat) b e six ah al pt pr wy B m d).toArray] w (RetRx G w { C with vs := C.vs.set vi (setV uv ms) } (setE C uv ms)) :=
 (rcMembers_own k b e vi six ah al pt pr wy ms B m d C hC A n c E w hG hX hr hm uv huv).mono (fun _ _ h => h.rx)
end

section
open Go.RowKit
theorem wp_stM {P : Program} {w : World} {o : Oper} {a : Act} {K : Act → World → Prop} {Q : Exit → Act → World → Prop} (ty : TypeId) (x y : Operand) (ho : o.op = .store ty x y)
  {g off : Nat} {t : TypeId} (new old : List Value) (hl : off + new.length ≤ old.length) (h1 : ∀ u ∈ new, u.oneCell' = true) (hx : a.eval x = .pointer (some ⟨g, off, none⟩)) (hy : a.eval y = .agg new.toArray) (hb : Bk w g t old)
  (hi : (P.info? ty).map (·.size) = some new.length) (h : ∀ w', Bk w' g t (splice old off new) → w.grownBy w' (some g) → K (a.put o.dst undef) w') : o.wp P a w K Q := by
 refine wp_store_mid ty x y ho g off new.toArray hx hy (fun j hj => ?_) (by simpa using hi) (all_oneCell_toArray h1) (h _ (Bk.setMid new old off hb hl) ?_)
 ·have hj' : off + j < old.length := by simp at hj; omega
  exact ⟨by rw [hb.cell, List.getElem?_eq_getElem hj']; rfl, hb.frozen _⟩
 ·generalize off = k
  clear hi h hb hy hl hx
  induction new generalizing w k with
  | nil => exact World.grownBy.refl _ _
  | cons v r ih => exact (grownBy_setCell _ _ _ _).trans (ih (fun u hu => h1 u (List.mem_cons_of_mem _ hu)) _)
end

section
open Go.Lib
open Go.RowKit
attribute [local go_sem ↓] sliced_cut
attribute [local go_sem] cutA_zero
set_option maxHeartbeats 4000000 in
set_option maxRecDepth 100000 in
theorem rcDoes1 {G : Nat → Prop} (v b e : Int) (six : Bool) (ah al pt pr : Nat) (wy : Int) (ms : List (Int × Int)) (B : Option Addr) (m d : Nat) (C : Cf) (hC : CfOk C) (A : Option Addr) (n c : Nat) (E : List Re) (w : World) (hG : ∀ b, G b → b < w.heap.size) (hX : RcX G w C A n c E) (hal : al < 18446744073709551616) : Calls Tryd.prog 18 #[.agg (rcC C A n c).toArray, .agg (opC 1 v b e six ah al pt pr wy B m d).toArray] w (RetRx G w (chC C ⟨1, v, b, e, six, ah, al, pt, pr, wy, ms⟩) (chE C ⟨1, v, b, e, six, ah, al, pt, pr, wy, ms⟩)) := by
 obtain ⟨dva1, va1, va2⟩ := rowAdC
 have hk := hC.key
 have hb := hC.bl
 have HX0 := Lib.hid hX
 have HRR := Lib.hid (fun W => refAdrRightC six ah al W hal)
 have hcase : (b < 1 ∧ Hid (chE C ⟨1, v, b, e, six, ah, al, pt, pr, wy, ms⟩ = 1)) ∨ (64 < b ∧ 1 ≤ b ∧ Hid (chE C ⟨1, v, b, e, six, ah, al, pt, pr, wy, ms⟩ = 1)) ∨ (1 ≤ b ∧ b ≤ 64) := by
  rcases (by omega : b < 1 ∨ (64 < b ∧ 1 ≤ b) ∨ (1 ≤ b ∧ b ≤ 64)) with h | ⟨h, h'⟩ | h
  ·exact .inl ⟨h, Lib.hid (by unfold chE numB; simp only []; rw [decide_eq_false (show ¬ 1 ≤ b by omega)]; simp)⟩
  ·exact .inr (.inl ⟨h, h', Lib.hid (by unfold chE numB; simp only []; rw [decide_eq_false (show ¬ b ≤ 64 by omega)]; simp)⟩)
  ·exact .inr (.inr h)
 rcases hcase with ⟨h1, HE0⟩ | ⟨h1, h2, HE0⟩ | ⟨h1, h2⟩
 iterate 2
  focus
   obtain ⟨dvs1, vs1, vs2⟩ := rowRcS
   obtain ⟨dvo1, vo1, vo2⟩ := rowRo
   obtain ⟨bs, bo, be, zV⟩ := box2 w 37 48 (rcC C A n c) (opC 1 v b e six ah al pt pr wy B m d)
   go_enter Tryd.func18, Tryd.ntmps18
   go_upto_region 1 with (fail)
   have HVe := Lib.hid (show ((w.alloc (.cells (rcC C A n c).toArray 37)).alloc (.cells (opC 1 v b e six ah al pt pr wy B m d).toArray 48)).heap.size = w.heap.size + 1 + 1 by simp)
   generalize (w.alloc (.cells (rcC C A n c).toArray 37)).alloc (.cells (opC 1 v b e six ah al pt pr wy B m d).toArray 48) = V at *
   have hz := Bk.newK 37 (Tryd.zeroCells37) _ HVe.out.symm rfl
   have hzl : (Tryd.zeroCells37).toList.length = 279 := by kernel_rfl
   have hbz : Below V.heap.size V (V.alloc (.cells (Tryd.zeroCells37) 37)) := Below.allocS (Below.refl _ _) _
   go_upto_region 1 with (fail)
   have hVs : w.heap.size + 2 ≤ V.heap.size := by have := bo.lt; omega
   generalize hV2 : V.alloc (.cells (Tryd.zeroCells37) 37) = V2 at *
   clear hV2
   generalize hzc : (Tryd.zeroCells37).toList = zl0 at *
   clear hzc
   replace bs := bs.later hbz
   replace bo := bo.later hbz
   replace be := be.trans (hbz.mono be.size)
   clear hbz
   have q0 : V2.cell? ⟨w.heap.size + 1, 0, none⟩ = some (.int .i64 1) := bo.cell 0
   go_upto_region 3 with (fail)
   refine wp_region_lit ?_
   refine wpList_plain rfl (fun K hK => ?_); go_simp; with_reducible refine hK _ _ ?_; clear hK K
   refine wpList_ld1 (t := 48) (cs := opC 1 v b e six ah al pt pr wy B m d) 3 (.tmp 12) rfl (by rfl) rfl (bo) rfl Tryd.underlying3 rfl ?_
   iterate 2 (refine wpList_plain rfl (fun K hK => ?_); go_simp; with_reducible refine hK _ _ ?_; clear hK K)
   first | ((with_reducible refine wpList_skip ?_ ?_); (· first | (go_simp; done) | (go_simp; intro h; cases h)); simp only [Act.put, qsT, qsZ, qsS]) | (refine wpList_step (fun K hK => ?_); go_simp; (with_reducible refine hK _ _ ?_); clear hK K)
   first | ((with_reducible refine wpList_skip ?_ ?_); (· first | (go_simp; done) | (go_simp; intro h; cases h)); simp only [Act.put, qsT, qsZ, qsS]) | (refine wpList_ld1 (t := 48) (cs := opC 1 v b e six ah al pt pr wy B m d) 3 (.tmp 16) rfl (by go_simp) rfl (bo) rfl Tryd.underlying3 rfl ?_; simp only [Act.put, qsT, qsZ, qsS])
   first | ((with_reducible refine wpList_skip ?_ ?_); (· first | (go_simp; done) | (go_simp; intro h; cases h)); simp only [Act.put, qsT, qsZ, qsS]) | (refine wpList_step (fun K hK => ?_); go_simp; (with_reducible refine hK _ _ ?_); clear hK K)
   iterate 2 (refine wpList_plain rfl (fun K hK => ?_); go_simp; with_reducible refine hK _ _ ?_; clear hK K)
   iterate 4 ((with_reducible refine wpList_skip ?_ ?_); (· first | (go_simp; done) | (go_simp; intro h; cases h)); simp only [Act.put, qsT, qsZ, qsS])
   refine wpList_plain rfl (fun K hK => ?_); go_simp; with_reducible refine hK _ _ ?_; clear hK K
   go_upto_region 4 with (fail)
   refine wp_region_lit ?_
   refine wpList_ldA (t := 37) 37 (.tmp 2) rfl rfl (rcC C A n c) rfl (bs) (whole_ _) vs1 vs2 (szRcS C hk hb A n c) ?_
   simp only [Act.put, qsT, qsZ, qsS]
   refine wpList_stA (t := 37) 37 (.tmp 4) (.tmp 26) rfl rfl (rcC C A n c) zl0 (hzl.trans (rcC_len C (by assumption) (by assumption) _ _ _).symm).symm (rcL_one _ _ _ _ _ _ _ _) rfl rfl hz (szRcS C (by assumption) (by assumption) _ _ _) ?_
   intro W9 h9 g9
   refine wpList_plain rfl (fun K hK => ?_); go_simp; with_reducible refine hK _ _ ?_; clear hK K
   replace be := below_grown be g9 (by omega)
   go_wp2
   refine bodyPost_agg2 Tryd.results18 rfl rfl h9.range vs1 vs2 (szRcS C (by assumption) (by assumption) _ _ _) rfl ?_
   exact RetRx.no HX0.out HE0.out hk hb (by decide) be
 focus
  ·obtain ⟨i, rfl⟩ : ∃ i : Nat, b = i := ⟨b.toNat, by omega⟩
   cases hag : adG six ah al with
   | false =>
    have HE0 := Lib.hid (show chE C ⟨1, v, i, e, six, ah, al, pt, pr, wy, ms⟩ = 1 by unfold chE; simp only []; rw [hag]; simp)
    rw [hag] at HRR
    clear hag
    obtain ⟨dvs1, vs1, vs2⟩ := rowRcS
    obtain ⟨dvo1, vo1, vo2⟩ := rowRo
    obtain ⟨bs, bo, be, zV⟩ := box2 w 37 48 (rcC C A n c) (opC 1 v (i : Int) e six ah al pt pr wy B m d)
    go_enter Tryd.func18, Tryd.ntmps18
    go_upto_region 1 with (fail)
    have HVe := Lib.hid (show ((w.alloc (.cells (rcC C A n c).toArray 37)).alloc (.cells (opC 1 v (i : Int) e six ah al pt pr wy B m d).toArray 48)).heap.size = w.heap.size + 1 + 1 by simp)
    generalize (w.alloc (.cells (rcC C A n c).toArray 37)).alloc (.cells (opC 1 v (i : Int) e six ah al pt pr wy B m d).toArray 48) = V at *
    have hz := Bk.newK 37 (Tryd.zeroCells37) _ HVe.out.symm rfl
    have hzl : (Tryd.zeroCells37).toList.length = 279 := by kernel_rfl
    have hbz : Below V.heap.size V (V.alloc (.cells (Tryd.zeroCells37) 37)) := Below.allocS (Below.refl _ _) _
    go_upto_region 1 with (fail)
    have hVs : w.heap.size + 2 ≤ V.heap.size := by have := bo.lt; omega
    generalize hV2 : V.alloc (.cells (Tryd.zeroCells37) 37) = V2 at *
    clear hV2
    generalize hzc : (Tryd.zeroCells37).toList = zl0 at *
    clear hzc
    replace bs := bs.later hbz
    replace bo := bo.later hbz
    replace be := be.trans (hbz.mono be.size)
    clear hbz
    have q0 : V2.cell? ⟨w.heap.size + 1, 0, none⟩ = some (.int .i64 1) := bo.cell 0
    go_upto_region 3 with (fail)
    refine wp_region_lit ?_
    refine wpList_plain rfl (fun K hK => ?_); go_simp; with_reducible refine hK _ _ ?_; clear hK K
    refine wpList_ld1 (t := 48) (cs := opC 1 v (i : Int) e six ah al pt pr wy B m d) 3 (.tmp 12) rfl (by rfl) rfl (bo) rfl Tryd.underlying3 rfl ?_
    iterate 2 (refine wpList_plain rfl (fun K hK => ?_); go_simp; with_reducible refine hK _ _ ?_; clear hK K)
    refine wpList_step (fun K hK => ?_); go_simp; with_reducible refine hK _ _ ?_; clear hK K
    refine wpList_ld1 (t := 48) (cs := opC 1 v (i : Int) e six ah al pt pr wy B m d) 3 (.tmp 16) rfl (by go_simp) rfl (bo) rfl Tryd.underlying3 rfl ?_
    refine wpList_step (fun K hK => ?_); go_simp; with_reducible refine hK _ _ ?_; clear hK K
    iterate 2 (refine wpList_plain rfl (fun K hK => ?_); go_simp; with_reducible refine hK _ _ ?_; clear hK K)
    refine wpList_step (fun K hK => ?_); go_simp; with_reducible refine hK _ _ ?_; clear hK K
    refine wpList_ldG (t := 48) (cs := opC 1 v (i : Int) e six ah al pt pr wy B m d) 32 (.tmp 21) rfl (by go_simp) (adC six ah al) rfl (bo) rfl va1 va2 (szAd _ _ _) ?_
    refine wpList_step (fun K hK => ?_)
    go_simp
    refine (HRR.out _).mono ?_
    rintro e w1 ⟨bs1, d1, rfl, rfl⟩
    with_reducible refine hK _ _ ?_
    clear hK K
    have hb1 := below_plus V2 bs1 d1
    replace bs := bs.later hb1
    replace bo := bo.later hb1
    replace hz := hz.later hb1
    replace be := be.trans (hb1.mono be.size)
    clear hb1
    generalize plus V2 bs1 d1 = V3 at *
    refine wpList_step (fun K hK => ?_); go_simp; with_reducible refine hK _ _ ?_; clear hK K
    refine wpList_plain rfl (fun K hK => ?_); go_simp; with_reducible refine hK _ _ ?_; clear hK K
    go_upto_region 4 with (fail)
    refine wp_region_lit ?_
    refine wpList_ldA (t := 37) 37 (.tmp 2) rfl rfl (rcC C A n c) rfl (bs) (whole_ _) vs1 vs2 (szRcS C hk hb A n c) ?_
    simp only [Act.put, qsT, qsZ, qsS]
    refine wpList_stA (t := 37) 37 (.tmp 4) (.tmp 26) rfl rfl (rcC C A n c) zl0 (hzl.trans (rcC_len C (by assumption) (by assumption) _ _ _).symm).symm (rcL_one _ _ _ _ _ _ _ _) rfl rfl hz (szRcS C (by assumption) (by assumption) _ _ _) ?_
    intro W9 h9 g9
    refine wpList_plain rfl (fun K hK => ?_); go_simp; with_reducible refine hK _ _ ?_; clear hK K
    replace be := below_grown be g9 (by omega)
    go_wp2
    refine bodyPost_agg2 Tryd.results18 rfl rfl h9.range vs1 vs2 (szRcS C (by assumption) (by assumption) _ _ _) rfl ?_
    exact RetRx.no HX0.out HE0.out hk hb (by decide) be
   | true =>
    have HE0 := Lib.hid (show chE C ⟨1, v, i, e, six, ah, al, pt, pr, wy, ms⟩ = 0 by unfold chE numB; simp only []; rw [hag, decide_eq_true (show (1 : Int) ≤ i by omega), decide_eq_true (show (i : Int) ≤ 64 by omega)]; rfl)
    have HC0 := Lib.hid (show chC C ⟨1, v, i, e, six, ah, al, pt, pr, wy, ms⟩ = { C with bk := C.bk.set i (some (six, ah, al)) } from rfl)
    rw [hag] at HRR
    clear hag
    have hb2 : ({ C with bk := C.bk.set i (some (six, ah, al)) } : Cf).bk.length = 65 := by simp [hb]
    have hi1 : 1 ≤ i := by omega
    have hi64 : i ≤ 64 := by omega
    have hi65 : (i : Int) < 65 := by omega
    have hi65n : i < 65 := by omega
    have HSA := Lib.hid (show splice (rcC C A n c) (18 + i * 3) (adC six ah al) = rcL C.num C.key C.now ((C.bk.map adZ).set i (six, ah, al)) (C.bk.map Option.isSome) A n c from rcL_setAd C.num C.key C.now (C.bk.map adZ) (C.bk.map Option.isSome) A n c hk (by simp [hb]) i (by omega) (six, ah, al))
    have HSL := Lib.hid (show (rcL C.num C.key C.now ((C.bk.map adZ).set i (six, ah, al)) (C.bk.map Option.isSome) A n c).length = 279 from rcL_len _ _ _ _ _ _ _ _ hk (by simp [hb]) (by simp [hb]))
    have HSB := Lib.hid (show (rcL C.num C.key C.now ((C.bk.map adZ).set i (six, ah, al)) (C.bk.map Option.isSome) A n c).set (213 + i) (.bool true) = rcC { C with bk := C.bk.set i (some (six, ah, al)) } A n c by
     rw [rcL_setBool C.num C.key C.now _ (C.bk.map Option.isSome) A n c hk (by simp [hb]) (by simp [hb]) i (by omega) true]
     unfold rcC
     simp only [List.map_set]
     rfl)
    obtain ⟨dvs1, vs1, vs2⟩ := rowRcS
    obtain ⟨dvo1, vo1, vo2⟩ := rowRo
    obtain ⟨bs, bo, be, zV⟩ := box2 w 37 48 (rcC C A n c) (opC 1 v (i : Int) e six ah al pt pr wy B m d)
    go_enter Tryd.func18, Tryd.ntmps18
    go_upto_region 1 with (fail)
    have HVe := Lib.hid (show ((w.alloc (.cells (rcC C A n c).toArray 37)).alloc (.cells (opC 1 v (i : Int) e six ah al pt pr wy B m d).toArray 48)).heap.size = w.heap.size + 1 + 1 by simp)
    generalize (w.alloc (.cells (rcC C A n c).toArray 37)).alloc (.cells (opC 1 v (i : Int) e six ah al pt pr wy B m d).toArray 48) = V at *
    have hz := Bk.newK 37 (Tryd.zeroCells37) _ HVe.out.symm rfl
    have hzl : (Tryd.zeroCells37).toList.length = 279 := by kernel_rfl
    have hbz : Below V.heap.size V (V.alloc (.cells (Tryd.zeroCells37) 37)) := Below.allocS (Below.refl _ _) _
    go_upto_region 1 with (fail)
    have hVs : w.heap.size + 2 ≤ V.heap.size := by have := bo.lt; omega
    generalize hV2 : V.alloc (.cells (Tryd.zeroCells37) 37) = V2 at *
    clear hV2
    generalize hzc : (Tryd.zeroCells37).toList = zl0 at *
    clear hzc
    replace bs := bs.later hbz
    replace bo := bo.later hbz
    replace be := be.trans (hbz.mono be.size)
    clear hbz
    have q0 : V2.cell? ⟨w.heap.size + 1, 0, none⟩ = some (.int .i64 1) := bo.cell 0
    go_upto_region 3 with (fail)
    refine wp_region_lit ?_
    refine wpList_plain rfl (fun K hK => ?_); go_simp; with_reducible refine hK _ _ ?_; clear hK K
    refine wpList_ld1 (t := 48) (cs := opC 1 v (i : Int) e six ah al pt pr wy B m d) 3 (.tmp 12) rfl (by rfl) rfl (bo) rfl Tryd.underlying3 rfl ?_
    iterate 2 (refine wpList_plain rfl (fun K hK => ?_); go_simp; with_reducible refine hK _ _ ?_; clear hK K)
    refine wpList_step (fun K hK => ?_); go_simp; with_reducible refine hK _ _ ?_; clear hK K
    refine wpList_ld1 (t := 48) (cs := opC 1 v (i : Int) e six ah al pt pr wy B m d) 3 (.tmp 16) rfl (by go_simp) rfl (bo) rfl Tryd.underlying3 rfl ?_
    refine wpList_step (fun K hK => ?_); go_simp; with_reducible refine hK _ _ ?_; clear hK K
    iterate 2 (refine wpList_plain rfl (fun K hK => ?_); go_simp; with_reducible refine hK _ _ ?_; clear hK K)
    refine wpList_step (fun K hK => ?_); go_simp; with_reducible refine hK _ _ ?_; clear hK K
    refine wpList_ldG (t := 48) (cs := opC 1 v (i : Int) e six ah al pt pr wy B m d) 32 (.tmp 21) rfl (by go_simp) (adC six ah al) rfl (bo) rfl va1 va2 (szAd _ _ _) ?_
    refine wpList_step (fun K hK => ?_)
    go_simp
    refine (HRR.out _).mono ?_
    rintro e w1 ⟨bs1, d1, rfl, rfl⟩
    with_reducible refine hK _ _ ?_
    clear hK K
    have hb1 := below_plus V2 bs1 d1
    replace bs := bs.later hb1
    replace bo := bo.later hb1
    replace hz := hz.later hb1
    replace be := be.trans (hb1.mono be.size)
    clear hb1
    generalize plus V2 bs1 d1 = V3 at *
    refine wpList_step (fun K hK => ?_); go_simp; with_reducible refine hK _ _ ?_; clear hK K
    refine wpList_plain rfl (fun K hK => ?_); go_simp; with_reducible refine hK _ _ ?_; clear hK K
    go_upto_region 5 with (fail)
    refine wp_suS (fun b => b = w.heap.size) 12 117 2 [8, 11] rfl (by kernel_rfl) (by kernel_rfl) (fun k w' => Bk w' w.heap.size 37 (match k with | 0 => rcC C A n c | 1 => rcL C.num C.key C.now ((C.bk.map adZ).set i (six, ah, al)) (C.bk.map Option.isSome) A n c | _ => rcC { C with bk := C.bk.set i (some (six, ah, al)) } A n c)) (fun k _ _ h hx => h.later hx.below) (bs) ?_
    apply StepsC.one (MC.eq _) 1 rfl (by decide)
    ·intro o ho FA w' hC hO hD K hK
     obtain rfl := qoi ho
     have e3 := hO 3 (by kernel_rfl)
     simp only [eval_tmp, qgT, qgS, qgZ, qoS] at e3
     have ev3 := Lib.hid ((eval_tmp FA 3).trans e3)
     clear hO hD ho
     go_simp
     exact hK.out _ _ (Ex.refl _) rfl
    apply StepsC.one (MC.eq _) 2 rfl (by decide)
    ·intro o ho FA w' hC hO hD K hK
     obtain rfl := qoi ho
     obtain ⟨e27, ev27⟩ := qE (hD 0 27 (by kernel_rfl))
     clear hO hD ho
     refine wanted_if rfl ?_
     refine wp_ld1 3 (.tmp 27) rfl ev27.out (bo.chg hC (by omega)) rfl Tryd.underlying3 rfl ?_
     exact hK.out _ _ (Ex.refl _) rfl
    apply StepsC.one (MC.eq _) 3 rfl (by decide)
    ·intro o ho FA w' hC hO hD K hK
     obtain rfl := qoi ho
     have e3 := hO 3 (by kernel_rfl)
     simp only [eval_tmp, qgT, qgS, qgZ, qoS] at e3
     have ev3 := Lib.hid ((eval_tmp FA 3).trans e3)
     clear hO hD ho
     go_simp
     exact hK.out _ _ (Ex.refl _) rfl
    apply StepsC.one (MC.eq _) 4 rfl (by decide)
    ·intro o ho FA w' hC hO hD K hK
     obtain rfl := qoi ho
     obtain ⟨e29, ev29⟩ := qE (hD 2 29 (by kernel_rfl))
     clear hO hD ho
     refine wanted_if rfl ?_
     refine wp_ld1 3 (.tmp 29) rfl ev29.out (bo.chg hC (by omega)) rfl Tryd.underlying3 rfl ?_
     exact hK.out _ _ (Ex.refl _) rfl
    apply StepsC.one (MC.eq _) 5 rfl (by decide)
    ·intro o ho FA w' hC hO hD K hK
     obtain rfl := qoi ho
     have e3 := hO 3 (by kernel_rfl)
     simp only [eval_tmp, qgT, qgS, qgZ, qoS] at e3
     have ev3 := Lib.hid ((eval_tmp FA 3).trans e3)
     clear hO hD ho
     go_simp
     exact hK.out _ _ (Ex.refl _) rfl
    apply StepsC.one (MC.eq _) 6 rfl (by decide)
    ·intro o ho FA w' hC hO hD K hK
     obtain rfl := qoi ho
     obtain ⟨e31, ev31⟩ := qE (hD 4 31 (by kernel_rfl))
     clear hO hD ho
     refine wanted_if rfl ?_
     refine wp_ldA 32 (.tmp 31) rfl (adC six ah al) ev31.out (bo.chg hC (by omega)) rfl va1 va2 (szAd _ _ _) ?_
     exact hK.out _ _ (Ex.refl _) rfl
    apply StepsC.one (MC.eq _) 7 rfl (by decide)
    ·intro o ho FA w' hC hO hD K hK
     obtain rfl := qoi ho
     have e2 := hO 2 (by kernel_rfl)
     simp only [eval_tmp, qgT, qgS, qgZ, qoS] at e2
     have ev2 := Lib.hid ((eval_tmp FA 2).trans e2)
     clear hO hD ho
     go_simp
     exact hK.out _ _ (Ex.refl _) rfl
    apply StepsC.one (MC.eq _) 8 rfl (by decide)
    ·intro o ho FA w' hC hO hD K hK
     obtain rfl := qoi ho
     obtain ⟨e33, ev33⟩ := qE (hD 6 33 (by kernel_rfl))
     obtain ⟨e28, ev28⟩ := qE (hD 1 28 (by kernel_rfl))
     clear hO hD ho
     go_simp
     exact hK.out _ _ (Ex.refl _) rfl
    apply StepsC.mov (MC.any) 9 0 rfl rfl rfl
    ·intro o ho FA w' hC hO hD hS K hK
     obtain rfl := qoi ho
     obtain ⟨e34, ev34⟩ := qE (hD 7 34 (by kernel_rfl))
     obtain ⟨e32, ev32⟩ := qE (hD 5 32 (by kernel_rfl))
     clear hO hD ho
     refine wanted_if rfl ?_
     refine wp_stM (off := 18 + i * 3) 32 (.tmp 34) (.tmp 32) rfl (adC six ah al) (rcC C A n c) (by rw [rcC_len C hk hb]; simp [adC]; omega) (by simp [adC, Value.oneCell']) ev34.out ev32.out hS (szAd _ _ _) ?_
     intro w'' hn hgr
     rw [HSA.out] at hn
     exact hK.out undef _ (Chg.one hgr rfl) hn trivial
    apply StepsC.one (MC.eq _) 10 rfl (by decide)
    ·intro o ho FA w' hC hO hD K hK
     obtain rfl := qoi ho
     have e2 := hO 2 (by kernel_rfl)
     simp only [eval_tmp, qgT, qgS, qgZ, qoS] at e2
     have ev2 := Lib.hid ((eval_tmp FA 2).trans e2)
     clear hO hD ho
     go_simp
     exact hK.out _ _ (Ex.refl _) rfl
    apply StepsC.one (MC.eq _) 11 rfl (by decide)
    ·intro o ho FA w' hC hO hD K hK
     obtain rfl := qoi ho
     obtain ⟨e35, ev35⟩ := qE (hD 9 35 (by kernel_rfl))
     obtain ⟨e30, ev30⟩ := qE (hD 3 30 (by kernel_rfl))
     clear hO hD ho
     go_simp
     exact hK.out _ _ (Ex.refl _) rfl
    apply StepsC.mov (MC.any) 12 1 rfl rfl rfl
    ·intro o ho FA w' hC hO hD hS K hK
     obtain rfl := qoi ho
     obtain ⟨e36, ev36⟩ := qE (hD 10 36 (by kernel_rfl))
     clear hO hD ho
     refine wanted_if rfl ?_
     refine wp_st1 (v := .bool true) (off := 213 + i) (cs := rcL C.num C.key C.now ((C.bk.map adZ).set i (six, ah, al)) (C.bk.map Option.isSome) A n c) 4 (.tmp 36) (.const (.bool true)) rfl ev36.out rfl hS (by rw [HSL.out]; omega) rfl (by kernel_rfl) ?_
     intro w'' hn hgr
     rw [HSB.out] at hn
     exact hK.out undef _ (Chg.one hgr rfl) hn trivial
    refine StepsC.fin_ (fun vs w' hC hS hp => ?_)
    have p0 : vs 0 = _ := hp 0 (by omega) rfl
    have p1 : vs 1 = _ := hp 1 (by omega) rfl
    have p2 : vs 2 = _ := hp 2 (by omega) rfl
    have p3 : vs 3 = _ := hp 3 (by omega) rfl
    have p4 : vs 4 = _ := hp 4 (by omega) rfl
    have p5 : vs 5 = _ := hp 5 (by omega) rfl
    have p6 : vs 6 = _ := hp 6 (by omega) rfl
    have p7 : vs 7 = _ := hp 7 (by omega) rfl
    have p9 : vs 9 = _ := hp 9 (by omega) rfl
    have p10 : vs 10 = _ := hp 10 (by omega) rfl
    clear hp
    simp only [List.take_succ_cons, List.take_zero, List.drop_succ_cons, List.drop_zero, putAll, Nat.zero_add, Nat.reduceAdd, Act.put, qsT, qsZ, qsS, p0, p1, p2, p3, p4, p5, p6, p7, p9, p10]
    clear p0 p1 p2 p3 p4 p5 p6 p7 p9 p10
    clear vs
    have bsN := hS
    have hzN := hz.chg hC (by omega)
    replace be := be.trans (hC.below (B := w.heap.size) (fun b hb => by omega) be.size)
    clear hC hS hz bs bo
    have hz := hzN
    go_upto_region 6 with (fail)
    refine wp_region_lit ?_
    refine wpList_ldA (t := 37) 37 (.tmp 2) rfl rfl (rcC { C with bk := C.bk.set i (some (six, ah, al)) } A n c) rfl (bsN) (whole_ _) vs1 vs2 (szRcS { C with bk := C.bk.set i (some (six, ah, al)) } hk hb2 A n c) ?_
    simp only [Act.put, qsT, qsZ, qsS]
    refine wpList_stA (t := 37) 37 (.tmp 4) (.tmp 37) rfl rfl (rcC { C with bk := C.bk.set i (some (six, ah, al)) } A n c) zl0 (hzl.trans (rcC_len { C with bk := C.bk.set i (some (six, ah, al)) } (by assumption) (by assumption) _ _ _).symm).symm (rcL_one _ _ _ _ _ _ _ _) rfl rfl hz (szRcS { C with bk := C.bk.set i (some (six, ah, al)) } (by assumption) (by assumption) _ _ _) ?_
    intro W9 h9 g9
    refine wpList_plain rfl (fun K hK => ?_); go_simp; with_reducible refine hK _ _ ?_; clear hK K
    replace be := below_grown be g9 (by omega)
    go_wp2
    refine bodyPost_agg2 Tryd.results18 rfl rfl h9.range vs1 vs2 (szRcS { C with bk := C.bk.set i (some (six, ah, al)) } (by assumption) (by assumption) _ _ _) rfl ?_
    rw [HE0.out, HC0.out]
    exact ⟨{ C with bk := C.bk.set i (some (six, ah, al)) }, A, n, c, E, rfl, ⟨HX0.out.vs, (HX0.out.later be).row, (HX0.out.later be).off, (HX0.out.later be).mm, (HX0.out.later be).mo, (HX0.out.later be).ss⟩, be, hk, hb2, fun _ => rfl⟩
end

section
open Go.Lib
open Go.RowKit
attribute [local go_sem ↓] sliced_cut
attribute [local go_sem] cutA_zero
theorem RetRc.rx {G : Nat → Prop} {w : World} {v : Nat} {f : Nat} {args : Array Value} (C C7 : Cf) (h : Calls Tryd.prog f args w (RetRc G w C7 v)) (hk : C7.key.length = 16) (hb : C7.bk.length = 65) : Calls Tryd.prog f args w (RetRx G w C7 v) :=
 h.mono (fun _ _ ⟨A, n, c, E, h1, h2, h3⟩ => ⟨C7, A, n, c, E, h1, h2, h3, hk, hb, fun _ => rfl⟩)
set_option maxHeartbeats 4000000
set_option maxRecDepth 100000
theorem rcDoes2 {G : Nat → Prop} (v b e : Int) (six : Bool) (ah al pt pr : Nat) (wy : Int) (ms : List (Int × Int)) (B : Option Addr) (m d : Nat) (C : Cf) (hC : CfOk C) (A : Option Addr) (n c : Nat) (E : List Re) (w : World) (hG : ∀ b, G b → b < w.heap.size) (hX : RcX G w C A n c E) (hal : al < 18446744073709551616) : Calls Tryd.prog 18 #[.agg (rcC C A n c).toArray, .agg (opC 2 v b e six ah al pt pr wy B m d).toArray] w (RetRx G w (chC C ⟨2, v, b, e, six, ah, al, pt, pr, wy, ms⟩) (chE C ⟨2, v, b, e, six, ah, al, pt, pr, wy, ms⟩)) := by
 obtain ⟨dva1, va1, va2⟩ := rowAdC
 obtain ⟨dvr1, vr1, vr2⟩ := rowRv
 obtain ⟨dvt1, vt1, vt2⟩ := rowRst
 have hk := hC.key
 have hb := hC.bl
 have HX0 := Lib.hid hX
 have HE0 := Lib.hid (show chE C ⟨2, v, b, e, six, ah, al, pt, pr, wy, ms⟩ = addE C ⟨2, v, b, e, six, ah, al, pt, pr, wy, ms⟩ from rfl)
 have HCA := Lib.hid (fun W G' hG' h => RetRc.rx C _ (rcAdded_any (G := G') 2 v b e six ah al pt pr wy ms B m d C hC A n c E W hG' h hal) (by unfold addR; split <;> exact hk) (by unfold addR; split <;> exact hb))
 obtain ⟨dvs1, vs1, vs2⟩ := rowRcS
 obtain ⟨dvo1, vo1, vo2⟩ := rowRo
 obtain ⟨bs, bo, be, zV⟩ := box2 w 37 48 (rcC C A n c) (opC 2 v b e six ah al pt pr wy B m d)
 go_enter Tryd.func18, Tryd.ntmps18
 go_upto_region 1 with (fail)
 have HVe := Lib.hid (show ((w.alloc (.cells (rcC C A n c).toArray 37)).alloc (.cells (opC 2 v b e six ah al pt pr wy B m d).toArray 48)).heap.size = w.heap.size + 1 + 1 by simp)
 generalize (w.alloc (.cells (rcC C A n c).toArray 37)).alloc (.cells (opC 2 v b e six ah al pt pr wy B m d).toArray 48) = V at *
 have hz := Bk.newK 37 (Tryd.zeroCells37) _ HVe.out.symm rfl
 have hzl : (Tryd.zeroCells37).toList.length = 279 := by kernel_rfl
 have hbz : Below V.heap.size V (V.alloc (.cells (Tryd.zeroCells37) 37)) := Below.allocS (Below.refl _ _) _
 go_upto_region 1 with (fail)
 have hVs : w.heap.size + 2 ≤ V.heap.size := by have := bo.lt; omega
 generalize hV2 : V.alloc (.cells (Tryd.zeroCells37) 37) = V2 at *
 clear hV2
 generalize hzc : (Tryd.zeroCells37).toList = zl0 at *
 clear hzc
 replace bs := bs.later hbz
 replace bo := bo.later hbz
 replace be := be.trans (hbz.mono be.size)
 clear hbz
 have q0 : V2.cell? ⟨w.heap.size + 1, 0, none⟩ = some (.int .i64 2) := bo.cell 0
 go_upto_region 8 with (fail)
 refine wp_region_lit ?_
 refine wpList_ldA (t := 37) 37 (.tmp 2) rfl rfl (rcC C A n c) rfl (bs) (whole_ _) vs1 vs2 (szRcS C hk hb A n c) ?_
 simp only [Act.put, qsT, qsZ, qsS]
 refine wpList_ldA (t := 48) 48 (.tmp 3) rfl rfl (opC 2 v b e six ah al pt pr wy B m d) rfl (bo) (whole_ _) vo1 vo2 (szRo _ _ _ _ _ _ _ _ _ _ _ _ _) ?_
 refine wpList_plain rfl (fun K hK => ?_)
 go_simp
 refine (HCA.out V2 (fun b => G b ∨ b = w.heap.size + 1 + 1) (fun b hb => hb.elim (fun h => by have := hG b h; have := be.size; omega) (fun h => by have := hz.lt; omega) : ∀ b, (fun b => G b ∨ b = w.heap.size + 1 + 1) b → b < V2.heap.size) ((HX0.out.more (G' := fun b => G b ∨ b = w.heap.size + 1 + 1) (fun b hb => hb.elim .inl (fun h => .inr (by omega)))).later be)).mono ?_
 rintro e w1 ⟨C7, A7, n7, c7, E7, rfl, hX7, hb7, hk7, hbl7, h07⟩
 with_reducible refine hK _ _ ?_
 clear hK K
 replace hz := hz.later hb7
 replace be := be.trans (hb7.mono be.size)
 generalize hWW : w1 = W8 at *
 clear hWW
 iterate 2 (refine wpList_plain rfl (fun K hK => ?_); go_simp; with_reducible refine hK _ _ ?_; clear hK K)
 refine wpList_stA (t := 37) 37 (.tmp 4) (.tmp 43) rfl rfl (rcC C7 A7 n7 c7) zl0 (hzl.trans (rcC_len C7 (by assumption) (by assumption) _ _ _).symm).symm (rcL_one _ _ _ _ _ _ _ _) rfl rfl hz (szRcS C7 (by assumption) (by assumption) _ _ _) ?_
 intro W9 h9 g9
 refine wpList_plain rfl (fun K hK => ?_); go_simp; with_reducible refine hK _ _ ?_; clear hK K
 replace be := below_grown be g9 (by omega)
 go_wp2
 refine bodyPost_agg2 Tryd.results18 rfl rfl h9.range vs1 vs2 (szRcS C7 (by assumption) (by assumption) _ _ _) rfl ?_
 have hX9 := (hX7.chg (Chg.one (D := fun b => b = w.heap.size + 1 + 1) g9 rfl) (fun b h => .inr h)).more (G' := G) (fun b h => .inl (.inl h))
 rw [HE0.out]
 refine ⟨C7, A7, n7, c7, E7, rfl, hX9, be, hk7, hbl7, fun h => (h07 h).trans ?_⟩
 unfold addR
 rw [if_pos h]
 rfl
theorem rcDoes6 {G : Nat → Prop} (v b e : Int) (six : Bool) (ah al pt pr : Nat) (wy : Int) (ms : List (Int × Int)) (B : Option Addr) (m d : Nat) (C : Cf) (hC : CfOk C) (A : Option Addr) (n c : Nat) (E : List Re) (w : World) (hG : ∀ b, G b → b < w.heap.size) (hX : RcX G w C A n c E)  : Calls Tryd.prog 18 #[.agg (rcC C A n c).toArray, .agg (opC 6 v b e six ah al pt pr wy B m d).toArray] w (RetRx G w (chC C ⟨6, v, b, e, six, ah, al, pt, pr, wy, ms⟩) (chE C ⟨6, v, b, e, six, ah, al, pt, pr, wy, ms⟩)) := by
 obtain ⟨dva1, va1, va2⟩ := rowAdC
 obtain ⟨dvr1, vr1, vr2⟩ := rowRv
 obtain ⟨dvt1, vt1, vt2⟩ := rowRst
 have hk := hC.key
 have hb := hC.bl
 have HX0 := Lib.hid hX
 have HE0 := Lib.hid (show chE C ⟨6, v, b, e, six, ah, al, pt, pr, wy, ms⟩ = markE C 6 b from rfl)
 obtain ⟨dvs1, vs1, vs2⟩ := rowRcS
 obtain ⟨dvo1, vo1, vo2⟩ := rowRo
 obtain ⟨bs, bo, be, zV⟩ := box2 w 37 48 (rcC C A n c) (opC 6 v b e six ah al pt pr wy B m d)
 go_enter Tryd.func18, Tryd.ntmps18
 go_upto_region 1 with (fail)
 have HVe := Lib.hid (show ((w.alloc (.cells (rcC C A n c).toArray 37)).alloc (.cells (opC 6 v b e six ah al pt pr wy B m d).toArray 48)).heap.size = w.heap.size + 1 + 1 by simp)
 generalize (w.alloc (.cells (rcC C A n c).toArray 37)).alloc (.cells (opC 6 v b e six ah al pt pr wy B m d).toArray 48) = V at *
 have hz := Bk.newK 37 (Tryd.zeroCells37) _ HVe.out.symm rfl
 have hzl : (Tryd.zeroCells37).toList.length = 279 := by kernel_rfl
 have hbz : Below V.heap.size V (V.alloc (.cells (Tryd.zeroCells37) 37)) := Below.allocS (Below.refl _ _) _
 go_upto_region 1 with (fail)
 have hVs : w.heap.size + 2 ≤ V.heap.size := by have := bo.lt; omega
 generalize hV2 : V.alloc (.cells (Tryd.zeroCells37) 37) = V2 at *
 clear hV2
 generalize hzc : (Tryd.zeroCells37).toList = zl0 at *
 clear hzc
 replace bs := bs.later hbz
 replace bo := bo.later hbz
 replace be := be.trans (hbz.mono be.size)
 clear hbz
 have q0 : V2.cell? ⟨w.heap.size + 1, 0, none⟩ = some (.int .i64 6) := bo.cell 0
 go_upto_region 11 with (fail)
 refine wp_region_lit ?_
 refine wpList_ldA (t := 37) 37 (.tmp 2) rfl rfl (rcC C A n c) rfl (bs) (whole_ _) vs1 vs2 (szRcS C hk hb A n c) ?_
 simp only [Act.put, qsT, qsZ, qsS]
 refine wpList_ldA (t := 48) 48 (.tmp 3) rfl rfl (opC 6 v b e six ah al pt pr wy B m d) rfl (bo) (whole_ _) vo1 vo2 (szRo _ _ _ _ _ _ _ _ _ _ _ _ _) ?_
 refine wpList_plain rfl (fun K hK => ?_)
 go_simp
 refine (rcEvicted_any (G := (fun b => G b ∨ b = w.heap.size + 1 + 1)) 6 v b e six ah al pt pr wy B m d C hC A n c E V2 (fun b hb => hb.elim (fun h => by have := hG b h; have := be.size; omega) (fun h => by have := hz.lt; omega) : ∀ b, (fun b => G b ∨ b = w.heap.size + 1 + 1) b → b < V2.heap.size) ((HX0.out.more (G' := fun b => G b ∨ b = w.heap.size + 1 + 1) (fun b hb => hb.elim .inl (fun h => .inr (by omega)))).later be) (.inl rfl)).mono ?_
 rintro e w1 ⟨C7, A7, n7, c7, E7, rfl, hX7, hb7, hk7, hbl7, h07⟩
 with_reducible refine hK _ _ ?_
 clear hK K
 replace hz := hz.later hb7
 replace be := be.trans (hb7.mono be.size)
 generalize hWW : w1 = W8 at *
 clear hWW
 iterate 2 (refine wpList_plain rfl (fun K hK => ?_); go_simp; with_reducible refine hK _ _ ?_; clear hK K)
 refine wpList_stA (t := 37) 37 (.tmp 4) (.tmp 51) rfl rfl (rcC C7 A7 n7 c7) zl0 (hzl.trans (rcC_len C7 (by assumption) (by assumption) _ _ _).symm).symm (rcL_one _ _ _ _ _ _ _ _) rfl rfl hz (szRcS C7 (by assumption) (by assumption) _ _ _) ?_
 intro W9 h9 g9
 refine wpList_plain rfl (fun K hK => ?_); go_simp; with_reducible refine hK _ _ ?_; clear hK K
 replace be := below_grown be g9 (by omega)
 go_wp2
 refine bodyPost_agg2 Tryd.results18 rfl rfl h9.range vs1 vs2 (szRcS C7 (by assumption) (by assumption) _ _ _) rfl ?_
 have hX9 := (hX7.chg (Chg.one (D := fun b => b = w.heap.size + 1 + 1) g9 rfl) (fun b h => .inr h)).more (G' := G) (fun b h => .inl (.inl h))
 rw [HE0.out]
 exact ⟨C7, A7, n7, c7, E7, rfl, hX9, be, hk7, hbl7, fun h => (h07 h).trans rfl⟩
theorem rcDoes7 {G : Nat → Prop} (v b e : Int) (six : Bool) (ah al pt pr : Nat) (wy : Int) (ms : List (Int × Int)) (B : Option Addr) (m d : Nat) (C : Cf) (hC : CfOk C) (A : Option Addr) (n c : Nat) (E : List Re) (w : World) (hG : ∀ b, G b → b < w.heap.size) (hX : RcX G w C A n c E)  : Calls Tryd.prog 18 #[.agg (rcC C A n c).toArray, .agg (opC 7 v b e six ah al pt pr wy B m d).toArray] w (RetRx G w (chC C ⟨7, v, b, e, six, ah, al, pt, pr, wy, ms⟩) (chE C ⟨7, v, b, e, six, ah, al, pt, pr, wy, ms⟩)) := by
 obtain ⟨dva1, va1, va2⟩ := rowAdC
 obtain ⟨dvr1, vr1, vr2⟩ := rowRv
 obtain ⟨dvt1, vt1, vt2⟩ := rowRst
 have hk := hC.key
 have hb := hC.bl
 have HX0 := Lib.hid hX
 have HE0 := Lib.hid (show chE C ⟨7, v, b, e, six, ah, al, pt, pr, wy, ms⟩ = markE C 7 b from rfl)
 obtain ⟨dvs1, vs1, vs2⟩ := rowRcS
 obtain ⟨dvo1, vo1, vo2⟩ := rowRo
 obtain ⟨bs, bo, be, zV⟩ := box2 w 37 48 (rcC C A n c) (opC 7 v b e six ah al pt pr wy B m d)
 go_enter Tryd.func18, Tryd.ntmps18
 go_upto_region 1 with (fail)
 have HVe := Lib.hid (show ((w.alloc (.cells (rcC C A n c).toArray 37)).alloc (.cells (opC 7 v b e six ah al pt pr wy B m d).toArray 48)).heap.size = w.heap.size + 1 + 1 by simp)
 generalize (w.alloc (.cells (rcC C A n c).toArray 37)).alloc (.cells (opC 7 v b e six ah al pt pr wy B m d).toArray 48) = V at *
 have hz := Bk.newK 37 (Tryd.zeroCells37) _ HVe.out.symm rfl
 have hzl : (Tryd.zeroCells37).toList.length = 279 := by kernel_rfl
 have hbz : Below V.heap.size V (V.alloc (.cells (Tryd.zeroCells37) 37)) := Below.allocS (Below.refl _ _) _
 go_upto_region 1 with (fail)
 have hVs : w.heap.size + 2 ≤ V.heap.size := by have := bo.lt; omega
 generalize hV2 : V.alloc (.cells (Tryd.zeroCells37) 37) = V2 at *
 clear hV2
 generalize hzc : (Tryd.zeroCells37).toList = zl0 at *
 clear hzc
 replace bs := bs.later hbz
 replace bo := bo.later hbz
 replace be := be.trans (hbz.mono be.size)
 clear hbz
 have q0 : V2.cell? ⟨w.heap.size + 1, 0, none⟩ = some (.int .i64 7) := bo.cell 0
 go_upto_region 11 with (fail)
 refine wp_region_lit ?_
 refine wpList_ldA (t := 37) 37 (.tmp 2) rfl rfl (rcC C A n c) rfl (bs) (whole_ _) vs1 vs2 (szRcS C hk hb A n c) ?_
 simp only [Act.put, qsT, qsZ, qsS]
 refine wpList_ldA (t := 48) 48 (.tmp 3) rfl rfl (opC 7 v b e six ah al pt pr wy B m d) rfl (bo) (whole_ _) vo1 vo2 (szRo _ _ _ _ _ _ _ _ _ _ _ _ _) ?_
 refine wpList_plain rfl (fun K hK => ?_)
 go_simp
 refine (rcEvicted_any (G := (fun b => G b ∨ b = w.heap.size + 1 + 1)) 7 v b e six ah al pt pr wy B m d C hC A n c E V2 (fun b hb => hb.elim (fun h => by have := hG b h; have := be.size; omega) (fun h => by have := hz.lt; omega) : ∀ b, (fun b => G b ∨ b = w.heap.size + 1 + 1) b → b < V2.heap.size) ((HX0.out.more (G' := fun b => G b ∨ b = w.heap.size + 1 + 1) (fun b hb => hb.elim .inl (fun h => .inr (by omega)))).later be) (.inr rfl)).mono ?_
 rintro e w1 ⟨C7, A7, n7, c7, E7, rfl, hX7, hb7, hk7, hbl7, h07⟩
 with_reducible refine hK _ _ ?_
 clear hK K
 replace hz := hz.later hb7
 replace be := be.trans (hb7.mono be.size)
 generalize hWW : w1 = W8 at *
 clear hWW
 iterate 2 (refine wpList_plain rfl (fun K hK => ?_); go_simp; with_reducible refine hK _ _ ?_; clear hK K)
 refine wpList_stA (t := 37) 37 (.tmp 4) (.tmp 51) rfl rfl (rcC C7 A7 n7 c7) zl0 (hzl.trans (rcC_len C7 (by assumption) (by assumption) _ _ _).symm).symm (rcL_one _ _ _ _ _ _ _ _) rfl rfl hz (szRcS C7 (by assumption) (by assumption) _ _ _) ?_
 intro W9 h9 g9
 refine wpList_plain rfl (fun K hK => ?_); go_simp; with_reducible refine hK _ _ ?_; clear hK K
 replace be := below_grown be g9 (by omega)
 go_wp2
 refine bodyPost_agg2 Tryd.results18 rfl rfl h9.range vs1 vs2 (szRcS C7 (by assumption) (by assumption) _ _ _) rfl ?_
 have hX9 := (hX7.chg (Chg.one (D := fun b => b = w.heap.size + 1 + 1) g9 rfl) (fun b h => .inr h)).more (G' := G) (fun b h => .inl (.inl h))
 rw [HE0.out]
 exact ⟨C7, A7, n7, c7, E7, rfl, hX9, be, hk7, hbl7, fun h => (h07 h).trans rfl⟩
theorem rcDoes8 {G : Nat → Prop} (v b e : Int) (six : Bool) (ah al pt pr : Nat) (wy : Int) (ms : List (Int × Int)) (B : Option Addr) (m d : Nat) (C : Cf) (hC : CfOk C) (A : Option Addr) (n c : Nat) (E : List Re) (w : World) (hG : ∀ b, G b → b < w.heap.size) (hX : RcX G w C A n c E)  : Calls Tryd.prog 18 #[.agg (rcC C A n c).toArray, .agg (opC 8 v b e six ah al pt pr wy B m d).toArray] w (RetRx G w (chC C ⟨8, v, b, e, six, ah, al, pt, pr, wy, ms⟩) (chE C ⟨8, v, b, e, six, ah, al, pt, pr, wy, ms⟩)) := by
 obtain ⟨dva1, va1, va2⟩ := rowAdC
 obtain ⟨dvr1, vr1, vr2⟩ := rowRv
 obtain ⟨dvt1, vt1, vt2⟩ := rowRst
 have hk := hC.key
 have hb := hC.bl
 have HX0 := Lib.hid hX
 have HE0 := Lib.hid (show chE C ⟨8, v, b, e, six, ah, al, pt, pr, wy, ms⟩ = 0 from rfl)
 have hw8 : IntKind.u64.wrap ((C.now : Int) + 1) = (((C.now + 1) % 18446744073709551616 : Nat) : Int) := by rw [IntKind.wrap_u64]; omega
 have HS8 := Lib.hid (show (rcC C A n c).set 17 (.int .u64 (((C.now + 1) % 18446744073709551616 : Nat) : Int)) = rcC { C with now := (C.now + 1) % 18446744073709551616 } A n c from rcL_setNow _ _ _ _ _ _ _ _ hk _)
 obtain ⟨dvs1, vs1, vs2⟩ := rowRcS
 obtain ⟨dvo1, vo1, vo2⟩ := rowRo
 obtain ⟨bs, bo, be, zV⟩ := box2 w 37 48 (rcC C A n c) (opC 8 v b e six ah al pt pr wy B m d)
 go_enter Tryd.func18, Tryd.ntmps18
 go_upto_region 1 with (fail)
 have HVe := Lib.hid (show ((w.alloc (.cells (rcC C A n c).toArray 37)).alloc (.cells (opC 8 v b e six ah al pt pr wy B m d).toArray 48)).heap.size = w.heap.size + 1 + 1 by simp)
 generalize (w.alloc (.cells (rcC C A n c).toArray 37)).alloc (.cells (opC 8 v b e six ah al pt pr wy B m d).toArray 48) = V at *
 have hz := Bk.newK 37 (Tryd.zeroCells37) _ HVe.out.symm rfl
 have hzl : (Tryd.zeroCells37).toList.length = 279 := by kernel_rfl
 have hbz : Below V.heap.size V (V.alloc (.cells (Tryd.zeroCells37) 37)) := Below.allocS (Below.refl _ _) _
 go_upto_region 1 with (fail)
 have hVs : w.heap.size + 2 ≤ V.heap.size := by have := bo.lt; omega
 generalize hV2 : V.alloc (.cells (Tryd.zeroCells37) 37) = V2 at *
 clear hV2
 generalize hzc : (Tryd.zeroCells37).toList = zl0 at *
 clear hzc
 replace bs := bs.later hbz
 replace bo := bo.later hbz
 replace be := be.trans (hbz.mono be.size)
 clear hbz
 have q0 : V2.cell? ⟨w.heap.size + 1, 0, none⟩ = some (.int .i64 8) := bo.cell 0
 go_upto_region 13 with (fail)
 refine wp_region_lit ?_
 iterate 2 (refine wpList_plain rfl (fun K hK => ?_); go_simp; with_reducible refine hK _ _ ?_; clear hK K)
 refine wpList_ld1 (t := 37) (cs := rcC C A n c) 27 (.tmp 56) rfl rfl rfl bs (rcL_now _ _ _ _ _ _ _ _ hk) Tryd.underlying27 rfl ?_
 iterate 3 (refine wpList_plain rfl (fun K hK => ?_); go_simp; with_reducible refine hK _ _ ?_; clear hK K)
 refine wpList_st1 (v := .int .u64 (((C.now + 1) % 18446744073709551616 : Nat) : Int)) (t := 37) (cs := rcC C A n c) (off := 17) 27 (.tmp 60) (.tmp 58) rfl rfl rfl rfl bs (by rw [rcC_len C hk hb]; omega) rfl (by kernel_rfl) ?_
 intro W8 h8 g8
 simp only [Act.put, qsT, qsZ, qsS]
 rw [HS8.out] at h8
 have hz8 := hz.grown g8 (fun e => by injection e with e; have := hz.lt; omega)
 have be8 := below_grown be g8 (Nat.le_refl _)
 clear hz be g8 bs bo q0
 have hz := hz8
 have be := be8
 go_upto_region 14 with (fail)
 refine wp_region_lit ?_
 refine wpList_ldA (t := 37) 37 (.tmp 2) rfl rfl (rcC { C with now := (C.now + 1) % 18446744073709551616 } A n c) rfl (h8) (whole_ _) vs1 vs2 (szRcS { C with now := (C.now + 1) % 18446744073709551616 } hk hb A n c) ?_
 simp only [Act.put, qsT, qsZ, qsS]
 refine wpList_stA (t := 37) 37 (.tmp 4) (.tmp 61) rfl rfl (rcC { C with now := (C.now + 1) % 18446744073709551616 } A n c) zl0 (hzl.trans (rcC_len { C with now := (C.now + 1) % 18446744073709551616 } (by assumption) (by assumption) _ _ _).symm).symm (rcL_one _ _ _ _ _ _ _ _) rfl rfl hz (szRcS { C with now := (C.now + 1) % 18446744073709551616 } (by assumption) (by assumption) _ _ _) ?_
 intro W9 h9 g9
 refine wpList_plain rfl (fun K hK => ?_); go_simp; with_reducible refine hK _ _ ?_; clear hK K
 replace be := below_grown be g9 (by omega)
 go_wp2
 refine bodyPost_agg2 Tryd.results18 rfl rfl h9.range vs1 vs2 (szRcS { C with now := (C.now + 1) % 18446744073709551616 } (by assumption) (by assumption) _ _ _) rfl ?_
 rw [HE0.out]
 exact ⟨{ C with now := (C.now + 1) % 18446744073709551616 }, A, n, c, E, rfl, ⟨HX0.out.vs, (HX0.out.later be).row, (HX0.out.later be).off, (HX0.out.later be).mm, (HX0.out.later be).mo, (HX0.out.later be).ss⟩, be, hk, hb, fun _ => rfl⟩
theorem rcDoesN {G : Nat → Prop} (k v b e : Int) (six : Bool) (ah al pt pr : Nat) (wy : Int) (ms : List (Int × Int)) (B : Option Addr) (m d : Nat) (C : Cf) (hC : CfOk C) (A : Option Addr) (n c : Nat) (E : List Re) (w : World) (hG : ∀ b, G b → b < w.heap.size) (hX : RcX G w C A n c E) (hk1 : ¬ k = 1) (hk2 : ¬ k = 2) (hk67 : ¬ (k = 6 ∨ k = 7)) (hk8 : ¬ k = 8) (hvv : v < 0 ∨ (n : Int) ≤ v) : Calls Tryd.prog 18 #[.agg (rcC C A n c).toArray, .agg (opC k v b e six ah al pt pr wy B m d).toArray] w (RetRx G w (chC C ⟨k, v, b, e, six, ah, al, pt, pr, wy, ms⟩) (chE C ⟨k, v, b, e, six, ah, al, pt, pr, wy, ms⟩)) := by
 obtain ⟨dva1, va1, va2⟩ := rowAdC
 obtain ⟨dvr1, vr1, vr2⟩ := rowRv
 obtain ⟨dvt1, vt1, vt2⟩ := rowRst
 have hk := hC.key
 have hb := hC.bl
 have HX0 := Lib.hid hX
 have hv : vAt C v = none := by
  unfold vAt
  split
  ·rw [List.getElem?_eq_none_iff]
   have := hX.n_
   omega
  ·rfl
 have HE0 := Lib.hid (show chE C ⟨k, v, b, e, six, ah, al, pt, pr, wy, ms⟩ = 6 by unfold chE; simp only []; rw [if_neg hk1, if_neg hk2, if_neg hk67, if_neg hk8, hv])
 clear hv
 have k1 : (k == 1) = false := by simpa using hk1
 have k2 : (k == 2) = false := by simpa using hk2
 have k6 : (k == 6) = false := by simp; omega
 have k7 : (k == 7) = false := by simp; omega
 have k8 : (k == 8) = false := by simpa using hk8
 clear hk1 hk2 hk67 hk8
 by_cases hv0 : v < 0
 ·clear hvv
  obtain ⟨dvs1, vs1, vs2⟩ := rowRcS
  obtain ⟨dvo1, vo1, vo2⟩ := rowRo
  obtain ⟨bs, bo, be, zV⟩ := box2 w 37 48 (rcC C A n c) (opC k v b e six ah al pt pr wy B m d)
  go_enter Tryd.func18, Tryd.ntmps18
  go_upto_region 1 with (fail)
  have HVe := Lib.hid (show ((w.alloc (.cells (rcC C A n c).toArray 37)).alloc (.cells (opC k v b e six ah al pt pr wy B m d).toArray 48)).heap.size = w.heap.size + 1 + 1 by simp)
  generalize (w.alloc (.cells (rcC C A n c).toArray 37)).alloc (.cells (opC k v b e six ah al pt pr wy B m d).toArray 48) = V at *
  have hz := Bk.newK 37 (Tryd.zeroCells37) _ HVe.out.symm rfl
  have hzl : (Tryd.zeroCells37).toList.length = 279 := by kernel_rfl
  have hbz : Below V.heap.size V (V.alloc (.cells (Tryd.zeroCells37) 37)) := Below.allocS (Below.refl _ _) _
  go_upto_region 1 with (fail)
  have hVs : w.heap.size + 2 ≤ V.heap.size := by have := bo.lt; omega
  generalize hV2 : V.alloc (.cells (Tryd.zeroCells37) 37) = V2 at *
  clear hV2
  generalize hzc : (Tryd.zeroCells37).toList = zl0 at *
  clear hzc
  replace bs := bs.later hbz
  replace bo := bo.later hbz
  replace be := be.trans (hbz.mono be.size)
  clear hbz
  have q0 : V2.cell? ⟨w.heap.size + 1, 0, none⟩ = some (.int .i64 k) := bo.cell 0
  go_upto_region 15 with (fail)
  refine wp_region_lit ?_
  refine wpList_plain rfl (fun K hK => ?_); go_simp; with_reducible refine hK _ _ ?_; clear hK K
  refine wpList_ld1 (t := 48) (cs := opC k v b e six ah al pt pr wy B m d) 3 (.tmp 62) rfl (by rfl) rfl (bo) rfl Tryd.underlying3 rfl ?_
  iterate 2 (refine wpList_plain rfl (fun K hK => ?_); go_simp; with_reducible refine hK _ _ ?_; clear hK K)
  iterate 6 ((with_reducible refine wpList_skip ?_ ?_); (· first | (go_simp; done) | (go_simp; intro h; cases h)); simp only [Act.put, qsT, qsZ, qsS])
  refine wpList_plain rfl (fun K hK => ?_); go_simp; with_reducible refine hK _ _ ?_; clear hK K
  go_upto_region 16 with (fail)
  refine wp_region_lit ?_
  refine wpList_ldA (t := 37) 37 (.tmp 2) rfl rfl (rcC C A n c) rfl (bs) (whole_ _) vs1 vs2 (szRcS C hk hb A n c) ?_
  simp only [Act.put, qsT, qsZ, qsS]
  refine wpList_stA (t := 37) 37 (.tmp 4) (.tmp 73) rfl rfl (rcC C A n c) zl0 (hzl.trans (rcC_len C (by assumption) (by assumption) _ _ _).symm).symm (rcL_one _ _ _ _ _ _ _ _) rfl rfl hz (szRcS C (by assumption) (by assumption) _ _ _) ?_
  intro W9 h9 g9
  refine wpList_plain rfl (fun K hK => ?_); go_simp; with_reducible refine hK _ _ ?_; clear hK K
  replace be := below_grown be g9 (by omega)
  go_wp2
  refine bodyPost_agg2 Tryd.results18 rfl rfl h9.range vs1 vs2 (szRcS C (by assumption) (by assumption) _ _ _) rfl ?_
  exact RetRx.no HX0.out HE0.out hk hb (by decide) be
 ·have hvn : (n : Int) ≤ v := by omega
  clear hvv
  obtain ⟨dvs1, vs1, vs2⟩ := rowRcS
  obtain ⟨dvo1, vo1, vo2⟩ := rowRo
  obtain ⟨bs, bo, be, zV⟩ := box2 w 37 48 (rcC C A n c) (opC k v b e six ah al pt pr wy B m d)
  go_enter Tryd.func18, Tryd.ntmps18
  go_upto_region 1 with (fail)
  have HVe := Lib.hid (show ((w.alloc (.cells (rcC C A n c).toArray 37)).alloc (.cells (opC k v b e six ah al pt pr wy B m d).toArray 48)).heap.size = w.heap.size + 1 + 1 by simp)
  generalize (w.alloc (.cells (rcC C A n c).toArray 37)).alloc (.cells (opC k v b e six ah al pt pr wy B m d).toArray 48) = V at *
  have hz := Bk.newK 37 (Tryd.zeroCells37) _ HVe.out.symm rfl
  have hzl : (Tryd.zeroCells37).toList.length = 279 := by kernel_rfl
  have hbz : Below V.heap.size V (V.alloc (.cells (Tryd.zeroCells37) 37)) := Below.allocS (Below.refl _ _) _
  go_upto_region 1 with (fail)
  have hVs : w.heap.size + 2 ≤ V.heap.size := by have := bo.lt; omega
  generalize hV2 : V.alloc (.cells (Tryd.zeroCells37) 37) = V2 at *
  clear hV2
  generalize hzc : (Tryd.zeroCells37).toList = zl0 at *
  clear hzc
  replace bs := bs.later hbz
  replace bo := bo.later hbz
  replace be := be.trans (hbz.mono be.size)
  clear hbz
  have q0 : V2.cell? ⟨w.heap.size + 1, 0, none⟩ = some (.int .i64 k) := bo.cell 0
  go_upto_region 15 with (fail)
  refine wp_region_lit ?_
  refine wpList_plain rfl (fun K hK => ?_); go_simp; with_reducible refine hK _ _ ?_; clear hK K
  refine wpList_ld1 (t := 48) (cs := opC k v b e six ah al pt pr wy B m d) 3 (.tmp 62) rfl (by rfl) rfl (bo) rfl Tryd.underlying3 rfl ?_
  iterate 2 (refine wpList_plain rfl (fun K hK => ?_); go_simp; with_reducible refine hK _ _ ?_; clear hK K)
  refine wpList_step (fun K hK => ?_); go_simp; with_reducible refine hK _ _ ?_; clear hK K
  refine wpList_ld1 (t := 48) (cs := opC k v b e six ah al pt pr wy B m d) 3 (.tmp 66) rfl (by go_simp) rfl (bo) rfl Tryd.underlying3 rfl ?_
  refine wpList_step (fun K hK => ?_); go_simp; with_reducible refine hK _ _ ?_; clear hK K
  refine wpList_ld1 (t := 37) (cs := rcC C A n c) 35 (.tmp 68) rfl (by go_simp) rfl bs (rcC_vips C hk hb A n c) Tryd.underlying35 rfl ?_
  iterate 2 (refine wpList_step (fun K hK => ?_); go_simp; with_reducible refine hK _ _ ?_; clear hK K)
  refine wpList_plain rfl (fun K hK => ?_); go_simp; with_reducible refine hK _ _ ?_; clear hK K
  go_upto_region 16 with (fail)
  refine wp_region_lit ?_
  refine wpList_ldA (t := 37) 37 (.tmp 2) rfl rfl (rcC C A n c) rfl (bs) (whole_ _) vs1 vs2 (szRcS C hk hb A n c) ?_
  simp only [Act.put, qsT, qsZ, qsS]
  refine wpList_stA (t := 37) 37 (.tmp 4) (.tmp 73) rfl rfl (rcC C A n c) zl0 (hzl.trans (rcC_len C (by assumption) (by assumption) _ _ _).symm).symm (rcL_one _ _ _ _ _ _ _ _) rfl rfl hz (szRcS C (by assumption) (by assumption) _ _ _) ?_
  intro W9 h9 g9
  refine wpList_plain rfl (fun K hK => ?_); go_simp; with_reducible refine hK _ _ ?_; clear hK K
  replace be := below_grown be g9 (by omega)
  go_wp2
  refine bodyPost_agg2 Tryd.results18 rfl rfl h9.range vs1 vs2 (szRcS C (by assumption) (by assumption) _ _ _) rfl ?_
  exact RetRx.no HX0.out HE0.out hk hb (by decide) be
theorem rcDoesV {G : Nat → Prop} (k b e : Int) (vi : Nat) (six : Bool) (ah al pt pr : Nat) (wy : Int) (ms : List (Int × Int)) (B : Option Addr) (m d : Nat) (C : Cf) (hC : CfR C) (A : Option Addr) (n c : Nat) (E : List Re) (w : World) (hG : ∀ b, G b → b < w.heap.size) (hX : RcX G w C A n c E) (hr : Rs 2 w B m d (prs .i64 ms)) (hm : m ≤ 1000000) (uv : Vp) (huv : C.vs[vi]? = some uv) (hk1 : ¬ k = 1) (hk2 : ¬ k = 2) (hk67 : ¬ (k = 6 ∨ k = 7)) (hk8 : ¬ k = 8) : Calls Tryd.prog 18 #[.agg (rcC C A n c).toArray, .agg (opC k (vi : Nat) b e six ah al pt pr wy B m d).toArray] w (RetRx G w (chC C ⟨k, ((vi : Nat) : Int), b, e, six, ah, al, pt, pr, wy, ms⟩) (chE C ⟨k, ((vi : Nat) : Int), b, e, six, ah, al, pt, pr, wy, ms⟩)) := by
 obtain ⟨dva1, va1, va2⟩ := rowAdC
 obtain ⟨dvr1, vr1, vr2⟩ := rowRv
 obtain ⟨dvt1, vt1, vt2⟩ := rowRst
 have hk := hC.key
 have hb := hC.bl
 have HX0 := Lib.hid hX
 have hvn : vi < n := by have := (List.getElem?_eq_some_iff.1 huv).1; have := hX.n_; omega
 have hn16 : n ≤ 16 := by have := hC.vl; have := hX.n_; omega
 have hvi1 : (vi : Int) < (n : Int) := by omega
 have hvi2 : ¬ (n : Int) ≤ (vi : Int) := by omega
 have hok : StkOk uv.S := hC.vs uv (List.mem_of_getElem? huv)
 have HMR := Lib.hid hr
 clear hr
 have HEV := Lib.hid (show chE C ⟨k, ((vi : Nat) : Int), b, e, six, ah, al, pt, pr, wy, ms⟩ = vipE C ⟨k, ((vi : Nat) : Int), b, e, six, ah, al, pt, pr, wy, ms⟩ uv by unfold chE vAt; simp only []; rw [if_neg hk1, if_neg hk2, if_neg hk67, if_neg hk8, if_pos (by omega), Int.toNat_natCast, huv])
 have HCV := Lib.hid (show chC C ⟨k, ((vi : Nat) : Int), b, e, six, ah, al, pt, pr, wy, ms⟩ = { C with vs := C.vs.set vi (vipV ⟨k, ((vi : Nat) : Int), b, e, six, ah, al, pt, pr, wy, ms⟩ uv) } by unfold chC vAt; simp only []; rw [if_neg hk1, if_neg hk2, if_neg hk67, if_neg hk8, if_pos (by omega), Int.toNat_natCast, huv])
 have k1 : (k == 1) = false := by simpa using hk1
 have k2 : (k == 2) = false := by simpa using hk2
 have k6 : (k == 6) = false := by simp; omega
 have k7 : (k == 7) = false := by simp; omega
 have k8 : (k == 8) = false := by simpa using hk8
 clear hk1 hk2 hk67 hk8
 obtain ⟨dvs1, vs1, vs2⟩ := rowRcS
 obtain ⟨dvo1, vo1, vo2⟩ := rowRo
 obtain ⟨bs, bo, be, zV⟩ := box2 w 37 48 (rcC C A n c) (opC k (vi : Nat) b e six ah al pt pr wy B m d)
 go_enter Tryd.func18, Tryd.ntmps18
 go_upto_region 1 with (fail)
 have HVe := Lib.hid (show ((w.alloc (.cells (rcC C A n c).toArray 37)).alloc (.cells (opC k (vi : Nat) b e six ah al pt pr wy B m d).toArray 48)).heap.size = w.heap.size + 1 + 1 by simp)
 generalize (w.alloc (.cells (rcC C A n c).toArray 37)).alloc (.cells (opC k (vi : Nat) b e six ah al pt pr wy B m d).toArray 48) = V at *
 have hz := Bk.newK 37 (Tryd.zeroCells37) _ HVe.out.symm rfl
 have hzl : (Tryd.zeroCells37).toList.length = 279 := by kernel_rfl
 have hbz : Below V.heap.size V (V.alloc (.cells (Tryd.zeroCells37) 37)) := Below.allocS (Below.refl _ _) _
 go_upto_region 1 with (fail)
 have hVs : w.heap.size + 2 ≤ V.heap.size := by have := bo.lt; omega
 generalize hV2 : V.alloc (.cells (Tryd.zeroCells37) 37) = V2 at *
 clear hV2
 generalize hzc : (Tryd.zeroCells37).toList = zl0 at *
 clear hzc
 replace bs := bs.later hbz
 replace bo := bo.later hbz
 replace be := be.trans (hbz.mono be.size)
 clear hbz
 have q0 : V2.cell? ⟨w.heap.size + 1, 0, none⟩ = some (.int .i64 k) := bo.cell 0
 have hv81 : (Tryd.zeroCells62).toList.length = 81 := by kernel_rfl
 go_upto_region 15 with (fail)
 refine wp_region_lit ?_
 refine wpList_plain rfl (fun K hK => ?_); go_simp; with_reducible refine hK _ _ ?_; clear hK K
 refine wpList_ld1 (t := 48) (cs := opC k (vi : Nat) b e six ah al pt pr wy B m d) 3 (.tmp 62) rfl (by rfl) rfl (bo) rfl Tryd.underlying3 rfl ?_
 iterate 2 (refine wpList_plain rfl (fun K hK => ?_); go_simp; with_reducible refine hK _ _ ?_; clear hK K)
 refine wpList_step (fun K hK => ?_); go_simp; with_reducible refine hK _ _ ?_; clear hK K
 refine wpList_ld1 (t := 48) (cs := opC k (vi : Nat) b e six ah al pt pr wy B m d) 3 (.tmp 66) rfl (by go_simp) rfl (bo) rfl Tryd.underlying3 rfl ?_
 refine wpList_step (fun K hK => ?_); go_simp; with_reducible refine hK _ _ ?_; clear hK K
 refine wpList_ld1 (t := 37) (cs := rcC C A n c) 35 (.tmp 68) rfl (by go_simp) rfl bs (rcC_vips C hk hb A n c) Tryd.underlying35 rfl ?_
 iterate 2 (refine wpList_step (fun K hK => ?_); go_simp; with_reducible refine hK _ _ ?_; clear hK K)
 refine wpList_plain rfl (fun K hK => ?_); go_simp; with_reducible refine hK _ _ ?_; clear hK K
 have hlE := HX0.out.len
 have hNn := HX0.out.n_
 obtain ⟨bl, ol, hAe, hbl, -⟩ := HX0.out.row.at_ (by omega) (by decide)
 have hrow := HX0.out.row.later be
 rw [hAe] at hrow
 have hvip : (rcC C A n c)[278]? = some (.slice (some ⟨bl, ol, none⟩) n c) := by rw [← hAe]; exact rcC_vips C hk hb A n c
 have hrg := hrow.rangeE rvC_len vi (by omega)
 have hum : E[vi]'(by omega) ∈ E := List.getElem_mem _
 have hui : (E[vi]'(by omega)).1 = uv := by
  have h1 : (E.map (·.1))[vi]? = some (E[vi]'(by omega)).1 := by rw [List.getElem?_map, List.getElem?_eq_getElem (by omega)]; rfl
  rw [HX0.out.vs, huv] at h1
  exact (Option.some.inj h1).symm
 obtain ⟨u, hu⟩ : ∃ u, u = E[vi]'(by omega) := ⟨_, rfl⟩
 rw [← hu] at hrg hum hui
 have HSSu := HX0.out.ss u hum
 have HMMu := HX0.out.mm u hum
 have HMOu := HX0.out.mo u hum
 obtain ⟨uv', uA, un, uc, uB, um, ud⟩ := u
 have hui2 : uv = uv' := hui.symm
 clear hui
 subst hui2
 replace HSSu : RSt G w uv.S.lv uB um ud := HSSu
 replace HMMu : Rs 2 w uA un uc (prs .i64 uv.ms) := HMMu
 replace HMOu : Off G w uA := HMOu
 clear hlE hAe hrow hNn hu hum
 go_upto_region 17 with (fail)
 refine wp_region_lit ?_
 refine wpList_plain rfl (fun K hK => ?_); go_simp; with_reducible refine hK _ _ ?_; clear hK K
 refine wpList_ld1 (t := 37) (cs := rcC C A n c) 35 (.tmp 74) rfl rfl rfl bs hvip Tryd.underlying35 rfl ?_
 refine wpList_plain rfl (fun K hK => ?_); go_simp; with_reducible refine hK _ _ ?_; clear hK K
 refine wpList_ld1 (t := 48) (cs := opC k (vi : Nat) b e six ah al pt pr wy B m d) 3 (.tmp 76) rfl (by rfl) rfl (bo) rfl Tryd.underlying3 rfl ?_
 refine wpList_plain rfl (fun K hK => ?_); go_simp; with_reducible refine hK _ _ ?_; clear hK K
 refine wpList_load_mid rfl 62 (.tmp 78) rfl bl (ol + vi * 81) rfl (rvC ((uv, ⟨uA, un, uc, uB, um, ud⟩) : Re)) _ hrg vr1 vr2 (szRv _) ?_
 refine wpList_plain rfl (fun K hK => ?_); go_simp; with_reducible refine hK _ _ ?_; clear hK K
 refine wpList_stA (t := 62) 62 (.tmp 6) (.tmp 79) rfl rfl (rvC ((uv, ⟨uA, un, uc, uB, um, ud⟩) : Re)) (Tryd.zeroCells62).toList (by rw [rvC_len]; exact hv81.symm) (rvC_one _) rfl rfl (Bk.new _ _ _) (szRv _) ?_
 intro W7 h7 g7
 simp only [Act.put, qsT, qsZ, qsS]
 have hbz7 := hz.lt
 replace bs := (bs.alloc (.cells (Tryd.zeroCells62) 62)).grown g7 (fun e => by injection e with e; have := bs.lt; omega)
 replace bo := (bo.alloc (.cells (Tryd.zeroCells62) 62)).grown g7 (fun e => by injection e with e; have := bo.lt; omega)
 replace hz := (hz.alloc (.cells (Tryd.zeroCells62) 62)).grown g7 (fun e => by injection e with e; have := hz.lt; omega)
 have be7 : Below w.heap.size w W7 := below_grown (Below.allocS be _) g7 (by have := be.size; omega)
 clear be g7 hrg hvip
 have be := be7
 clear be7
 generalize V2.heap.size = gv at *
 have q0 : W7.cell? ⟨w.heap.size + 1, 0, none⟩ = some (.int .i64 k) := bo.cell 0
 have hgv7 := h7.lt
 by_cases hk3 : k = 3
 ·have k3 : (k == 3) = true := by simp [hk3]
  have HE0 := Lib.hid (show vipE C ⟨k, ((vi : Nat) : Int), b, e, six, ah, al, pt, pr, wy, ms⟩ uv = setE C uv ms by unfold vipE; simp only []; rw [if_pos hk3])
  have HC0 := Lib.hid (show vipV ⟨k, ((vi : Nat) : Int), b, e, six, ah, al, pt, pr, wy, ms⟩ uv = setV uv ms by unfold vipV; simp only []; rw [if_pos hk3])
  clear hk3
  go_upto_region 21 with (fail)
  clear q0
  refine wp_region_lit ?_
  refine wpList_ldA (t := 37) 37 (.tmp 2) rfl rfl (rcC C A n c) rfl (bs) (whole_ _) vs1 vs2 (szRcS C hk hb A n c) ?_
  simp only [Act.put, qsT, qsZ, qsS]
  refine wpList_ldA (t := 48) 48 (.tmp 3) rfl rfl (opC k (vi : Nat) b e six ah al pt pr wy B m d) rfl (bo) (whole_ _) vo1 vo2 (szRo _ _ _ _ _ _ _ _ _ _ _ _ _) ?_
  refine wpList_plain rfl (fun K hK => ?_)
  go_simp
  refine (rcMembers_any (G := (fun b => G b ∨ b = w.heap.size + 1 + 1)) k b e vi six ah al pt pr wy ms B m d C hC A n c E W7 (fun b hb => hb.elim (fun h => by have := hG b h; have := be.size; omega) (fun h => by have := hz.lt; omega) : ∀ b, (fun b => G b ∨ b = w.heap.size + 1 + 1) b → b < W7.heap.size) ((HX0.out.more (G' := fun b => G b ∨ b = w.heap.size + 1 + 1) (fun b hb => hb.elim .inl (fun h => .inr (by omega)))).later be) (HMR.out.later be) hm uv huv).mono ?_
  rintro e w1 ⟨C7, A7, n7, c7, E7, rfl, hX7, hb7, hk7, hbl7, h07⟩
  with_reducible refine hK _ _ ?_
  clear hK K
  replace hz := hz.later hb7
  replace be := be.trans (hb7.mono be.size)
  generalize hWW : w1 = W8 at *
  clear hWW
  iterate 2 (refine wpList_plain rfl (fun K hK => ?_); go_simp; with_reducible refine hK _ _ ?_; clear hK K)
  refine wpList_stA (t := 37) 37 (.tmp 4) (.tmp 87) rfl rfl (rcC C7 A7 n7 c7) zl0 (hzl.trans (rcC_len C7 (by assumption) (by assumption) _ _ _).symm).symm (rcL_one _ _ _ _ _ _ _ _) rfl rfl hz (szRcS C7 (by assumption) (by assumption) _ _ _) ?_
  intro W9 h9 g9
  refine wpList_plain rfl (fun K hK => ?_); go_simp; with_reducible refine hK _ _ ?_; clear hK K
  replace be := below_grown be g9 (by omega)
  go_wp2
  refine bodyPost_agg2 Tryd.results18 rfl rfl h9.range vs1 vs2 (szRcS C7 (by assumption) (by assumption) _ _ _) rfl ?_
  have hX9 := (hX7.chg (Chg.one (D := fun b => b = w.heap.size + 1 + 1) g9 rfl) (fun b h => .inr h)).more (G' := G) (fun b h => .inl (.inl h))
  rw [HEV.out, HCV.out, HE0.out, HC0.out]
  exact ⟨C7, A7, n7, c7, E7, rfl, hX9, be, hk7, hbl7, h07⟩
 have k3 : (k == 3) = false := by simpa using hk3
 by_cases hk4 : k = 4
 ·have k4 : (k == 4) = true := by simp [hk4]
  have HE0 := Lib.hid (show vipE C ⟨k, ((vi : Nat) : Int), b, e, six, ah, al, pt, pr, wy, ms⟩ uv = retE uv.S e by unfold vipE; simp only []; rw [if_neg hk3, if_pos hk4])
  have HC0 := Lib.hid (show vipV ⟨k, ((vi : Nat) : Int), b, e, six, ah, al, pt, pr, wy, ms⟩ uv = { uv with S := retS uv.S e } by unfold vipV; simp only []; rw [if_neg hk3, if_pos hk4])
  have hD7 : ∀ b, (fun b => G b ∨ (w.heap.size ≤ b ∧ b < gv + 1)) b → b < W7.heap.size := fun b hb => by
   rcases hb with hb | ⟨_, hb⟩
   ·have := hG b hb; have := be.size; omega
   ·omega
  have hst7 : RSt (fun b => G b ∨ (w.heap.size ≤ b ∧ b < gv + 1)) W7 uv.S.lv uB um ud := (HSSu.more (fun b hb => hb.elim .inl (fun h => .inr h.1))).later be
  clear hk3 hk4
  go_upto_region 23 with (fail)
  clear q0
  refine wp_region_lit ?_
  refine wpList_plain rfl (fun K hK => ?_); go_simp; with_reducible refine hK _ _ ?_; clear hK K
  refine wpList_ldA (t := 62) (cs := rvC ((uv, ⟨uA, un, uc, uB, um, ud⟩) : Re)) 60 (.tmp 92) rfl rfl (rstC uB um ud uv.S) rfl h7 (rvC_stk ((uv, ⟨uA, un, uc, uB, um, ud⟩) : Re)) vt1 vt2 (szRst _ _ _ _) ?_
  refine wpList_plain rfl (fun K hK => ?_); go_simp; with_reducible refine hK _ _ ?_; clear hK K
  refine wpList_ld1 (t := 48) (cs := opC k (vi : Nat) b e six ah al pt pr wy B m d) 3 (.tmp 94) rfl (by rfl) rfl (bo) rfl Tryd.underlying3 rfl ?_
  refine wpList_plain rfl (fun K hK => ?_)
  go_simp
  refine (refRetire_any uv.S hok uB um ud e W7 hD7 hst7).mono ?_
  rintro ee w1 ⟨A7, n7, c7, bs7, d7, rfl, rfl, hst8⟩
  with_reducible refine hK _ _ ?_
  clear hK K
  have hb8 := below_plus W7 bs7 d7
  replace bs := bs.later hb8
  replace bo := bo.later hb8
  replace hz := hz.later hb8
  replace h7 := h7.later hb8
  replace be := be.trans (hb8.mono be.size)
  clear hb8
  generalize plus W7 bs7 d7 = W8 at *
  iterate 4 (refine wpList_plain rfl (fun K hK => ?_); go_simp; with_reducible refine hK _ _ ?_; clear hK K)
  refine wpList_stM (t := 62) (off := 7) 60 (.tmp 99) (.tmp 97) rfl rfl (rstC A7 n7 c7 (retS uv.S e)) (rvC ((uv, ⟨uA, un, uc, uB, um, ud⟩) : Re)) (by rw [rvC_len, rstC_len]; decide) (rstC_one _ _ _ _) rfl rfl h7 (szRst _ _ _ _) ?_
  intro W4 h4 g4
  refine wpList_plain rfl (fun K hK => ?_); go_simp; with_reducible refine hK _ _ ?_; clear hK K
  rw [rvC_setStk] at h4
  replace h4 : Bk W4 gv 62 (rvC (({ uv with S := retS uv.S e }, ⟨uA, un, uc, A7, n7, c7⟩) : Re)) := h4
  replace bs := bs.grown g4 (fun e => by injection e with e; omega)
  replace bo := bo.grown g4 (fun e => by injection e with e; omega)
  replace hz := hz.grown g4 (fun e => by injection e with e; omega)
  replace be := below_grown be g4 (by omega)
  have h3w : RSt (fun b => G b ∨ b = w.heap.size + 1 + 1) W4 (retS uv.S e).lv A7 n7 c7 := (hst8.chg (Chg.one g4 (Or.inr ⟨by omega, by omega⟩))).more (fun b hb => hb.elim (fun h => .inl (.inl h)) (fun h => .inl (.inr ⟨by omega, by omega⟩)))
  have h1w : Rs 2 W4 uA un uc (prs .i64 uv.ms) := HMMu.later be
  have h2w : Off (fun b => G b ∨ b = w.heap.size + 1 + 1) W4 uA := (HMOu.more (fun b hb => hb.elim .inl (fun h => .inr (by omega)))).size be.size
  clear g4 h7 hst7 hst8 hD7 HSSu HMMu HMOu
  go_upto_region 26 with (fail)
  refine wp_region_lit ?_
  refine wpList_ldA (t := 37) 37 (.tmp 2) rfl rfl (rcC C A n c) rfl (bs) (whole_ _) vs1 vs2 (szRcS C hk hb A n c) ?_
  refine wpList_plain rfl (fun K hK => ?_); go_simp; with_reducible refine hK _ _ ?_; clear hK K
  refine wpList_ld1 (t := 48) (cs := opC k (vi : Nat) b e six ah al pt pr wy B m d) 3 (.tmp 112) rfl (by rfl) rfl (bo) rfl Tryd.underlying3 rfl ?_
  simp only [Act.put, qsT, qsZ, qsS]
  refine wpList_ldA (t := 62) 62 (.tmp 6) rfl rfl (rvC (({ uv with S := retS uv.S e }, ⟨uA, un, uc, A7, n7, c7⟩) : Re)) rfl (h4) (whole_ _) vr1 vr2 (szRv _) ?_
  refine wpList_plain rfl (fun K hK => ?_)
  go_simp
  refine (rcWith_any (G := (fun b => G b ∨ b = w.heap.size + 1 + 1)) C hk hb A n c E vi (({ uv with S := retS uv.S e }, ⟨uA, un, uc, A7, n7, c7⟩) : Re) W4 (fun b hb => hb.elim (fun h => by have := hG b h; have := be.size; omega) (fun h => by have := hz.lt; omega) : ∀ b, (fun b => G b ∨ b = w.heap.size + 1 + 1) b → b < W4.heap.size) ((HX0.out.more (G' := fun b => G b ∨ b = w.heap.size + 1 + 1) (fun b hb => hb.elim .inl (fun h => .inr (by omega)))).later be) hvn hn16 h1w h2w h3w).mono ?_
  rintro e w1 ⟨A8, c8, rfl, hX7, hb7⟩
  with_reducible refine hK _ _ ?_
  clear hK K
  replace hz := hz.later hb7
  replace be := be.trans (hb7.mono be.size)
  generalize hWW : w1 = W6 at *
  clear hWW
  refine wpList_plain rfl (fun K hK => ?_); go_simp; with_reducible refine hK _ _ ?_; clear hK K
  refine wpList_stA (t := 37) 37 (.tmp 4) (.tmp 115) rfl rfl (rcC C A8 n c8) zl0 (hzl.trans (rcC_len C (by assumption) (by assumption) _ _ _).symm).symm (rcL_one _ _ _ _ _ _ _ _) rfl rfl hz (szRcS C (by assumption) (by assumption) _ _ _) ?_
  intro W9 h9 g9
  refine wpList_plain rfl (fun K hK => ?_); go_simp; with_reducible refine hK _ _ ?_; clear hK K
  replace be := below_grown be g9 (by omega)
  go_wp2
  refine bodyPost_agg2 Tryd.results18 rfl rfl h9.range vs1 vs2 (szRcS C (by assumption) (by assumption) _ _ _) rfl ?_
  have hX9 := (hX7.chg (Chg.one (D := fun b => b = w.heap.size + 1 + 1) g9 rfl) (fun b h => .inr h)).more (G' := G) (fun b h => .inl (.inl h))
  rw [HEV.out, HCV.out, HE0.out, HC0.out]
  exact ⟨{ C with vs := C.vs.set vi { uv with S := retS uv.S e } }, A8, n, c8, E.set vi (({ uv with S := retS uv.S e }, ⟨uA, un, uc, A7, n7, c7⟩) : Re), rfl, hX9, be, hk, hb, fun _ => rfl⟩
 have k4 : (k == 4) = false := by simpa using hk4
 by_cases hk5 : k = 5
 ·have k5 : (k == 5) = true := by simp [hk5]
  have HE0 := Lib.hid (show vipE C ⟨k, ((vi : Nat) : Int), b, e, six, ah, al, pt, pr, wy, ms⟩ uv = rlsE uv.S e by unfold vipE; simp only []; rw [if_neg hk3, if_neg hk4, if_pos hk5])
  have HC0 := Lib.hid (show vipV ⟨k, ((vi : Nat) : Int), b, e, six, ah, al, pt, pr, wy, ms⟩ uv = { uv with S := rlsS uv.S e } by unfold vipV; simp only []; rw [if_neg hk3, if_neg hk4])
  have hD7 : ∀ b, (fun b => G b ∨ (w.heap.size ≤ b ∧ b < gv + 1)) b → b < W7.heap.size := fun b hb => by
   rcases hb with hb | ⟨_, hb⟩
   ·have := hG b hb; have := be.size; omega
   ·omega
  have hst7 : RSt (fun b => G b ∨ (w.heap.size ≤ b ∧ b < gv + 1)) W7 uv.S.lv uB um ud := (HSSu.more (fun b hb => hb.elim .inl (fun h => .inr h.1))).later be
  clear hk3 hk4 hk5
  go_upto_region 25 with (fail)
  clear q0
  refine wp_region_lit ?_
  refine wpList_plain rfl (fun K hK => ?_); go_simp; with_reducible refine hK _ _ ?_; clear hK K
  refine wpList_ldA (t := 62) (cs := rvC ((uv, ⟨uA, un, uc, uB, um, ud⟩) : Re)) 60 (.tmp 103) rfl rfl (rstC uB um ud uv.S) rfl h7 (rvC_stk ((uv, ⟨uA, un, uc, uB, um, ud⟩) : Re)) vt1 vt2 (szRst _ _ _ _) ?_
  refine wpList_plain rfl (fun K hK => ?_); go_simp; with_reducible refine hK _ _ ?_; clear hK K
  refine wpList_ld1 (t := 48) (cs := opC k (vi : Nat) b e six ah al pt pr wy B m d) 3 (.tmp 105) rfl (by rfl) rfl (bo) rfl Tryd.underlying3 rfl ?_
  refine wpList_plain rfl (fun K hK => ?_)
  go_simp
  refine (refRelease_any uv.S hok uB um ud e W7 hD7 hst7).mono ?_
  rintro ee w1 ⟨A7, n7, c7, bs7, d7, rfl, rfl, hst8⟩
  with_reducible refine hK _ _ ?_
  clear hK K
  have hb8 := below_plus W7 bs7 d7
  replace bs := bs.later hb8
  replace bo := bo.later hb8
  replace hz := hz.later hb8
  replace h7 := h7.later hb8
  replace be := be.trans (hb8.mono be.size)
  clear hb8
  generalize plus W7 bs7 d7 = W8 at *
  iterate 4 (refine wpList_plain rfl (fun K hK => ?_); go_simp; with_reducible refine hK _ _ ?_; clear hK K)
  refine wpList_stM (t := 62) (off := 7) 60 (.tmp 110) (.tmp 108) rfl rfl (rstC A7 n7 c7 (rlsS uv.S e)) (rvC ((uv, ⟨uA, un, uc, uB, um, ud⟩) : Re)) (by rw [rvC_len, rstC_len]; decide) (rstC_one _ _ _ _) rfl rfl h7 (szRst _ _ _ _) ?_
  intro W4 h4 g4
  refine wpList_plain rfl (fun K hK => ?_); go_simp; with_reducible refine hK _ _ ?_; clear hK K
  rw [rvC_setStk] at h4
  replace h4 : Bk W4 gv 62 (rvC (({ uv with S := rlsS uv.S e }, ⟨uA, un, uc, A7, n7, c7⟩) : Re)) := h4
  replace bs := bs.grown g4 (fun e => by injection e with e; omega)
  replace bo := bo.grown g4 (fun e => by injection e with e; omega)
  replace hz := hz.grown g4 (fun e => by injection e with e; omega)
  replace be := below_grown be g4 (by omega)
  have h3w : RSt (fun b => G b ∨ b = w.heap.size + 1 + 1) W4 (rlsS uv.S e).lv A7 n7 c7 := (hst8.chg (Chg.one g4 (Or.inr ⟨by omega, by omega⟩))).more (fun b hb => hb.elim (fun h => .inl (.inl h)) (fun h => .inl (.inr ⟨by omega, by omega⟩)))
  have h1w : Rs 2 W4 uA un uc (prs .i64 uv.ms) := HMMu.later be
  have h2w : Off (fun b => G b ∨ b = w.heap.size + 1 + 1) W4 uA := (HMOu.more (fun b hb => hb.elim .inl (fun h => .inr (by omega)))).size be.size
  clear g4 h7 hst7 hst8 hD7 HSSu HMMu HMOu
  go_upto_region 26 with (fail)
  refine wp_region_lit ?_
  refine wpList_ldA (t := 37) 37 (.tmp 2) rfl rfl (rcC C A n c) rfl (bs) (whole_ _) vs1 vs2 (szRcS C hk hb A n c) ?_
  refine wpList_plain rfl (fun K hK => ?_); go_simp; with_reducible refine hK _ _ ?_; clear hK K
  refine wpList_ld1 (t := 48) (cs := opC k (vi : Nat) b e six ah al pt pr wy B m d) 3 (.tmp 112) rfl (by rfl) rfl (bo) rfl Tryd.underlying3 rfl ?_
  simp only [Act.put, qsT, qsZ, qsS]
  refine wpList_ldA (t := 62) 62 (.tmp 6) rfl rfl (rvC (({ uv with S := rlsS uv.S e }, ⟨uA, un, uc, A7, n7, c7⟩) : Re)) rfl (h4) (whole_ _) vr1 vr2 (szRv _) ?_
  refine wpList_plain rfl (fun K hK => ?_)
  go_simp
  refine (rcWith_any (G := (fun b => G b ∨ b = w.heap.size + 1 + 1)) C hk hb A n c E vi (({ uv with S := rlsS uv.S e }, ⟨uA, un, uc, A7, n7, c7⟩) : Re) W4 (fun b hb => hb.elim (fun h => by have := hG b h; have := be.size; omega) (fun h => by have := hz.lt; omega) : ∀ b, (fun b => G b ∨ b = w.heap.size + 1 + 1) b → b < W4.heap.size) ((HX0.out.more (G' := fun b => G b ∨ b = w.heap.size + 1 + 1) (fun b hb => hb.elim .inl (fun h => .inr (by omega)))).later be) hvn hn16 h1w h2w h3w).mono ?_
  rintro e w1 ⟨A8, c8, rfl, hX7, hb7⟩
  with_reducible refine hK _ _ ?_
  clear hK K
  replace hz := hz.later hb7
  replace be := be.trans (hb7.mono be.size)
  generalize hWW : w1 = W6 at *
  clear hWW
  refine wpList_plain rfl (fun K hK => ?_); go_simp; with_reducible refine hK _ _ ?_; clear hK K
  refine wpList_stA (t := 37) 37 (.tmp 4) (.tmp 115) rfl rfl (rcC C A8 n c8) zl0 (hzl.trans (rcC_len C (by assumption) (by assumption) _ _ _).symm).symm (rcL_one _ _ _ _ _ _ _ _) rfl rfl hz (szRcS C (by assumption) (by assumption) _ _ _) ?_
  intro W9 h9 g9
  refine wpList_plain rfl (fun K hK => ?_); go_simp; with_reducible refine hK _ _ ?_; clear hK K
  replace be := below_grown be g9 (by omega)
  go_wp2
  refine bodyPost_agg2 Tryd.results18 rfl rfl h9.range vs1 vs2 (szRcS C (by assumption) (by assumption) _ _ _) rfl ?_
  have hX9 := (hX7.chg (Chg.one (D := fun b => b = w.heap.size + 1 + 1) g9 rfl) (fun b h => .inr h)).more (G' := G) (fun b h => .inl (.inl h))
  rw [HEV.out, HCV.out, HE0.out, HC0.out]
  exact ⟨{ C with vs := C.vs.set vi { uv with S := rlsS uv.S e } }, A8, n, c8, E.set vi (({ uv with S := rlsS uv.S e }, ⟨uA, un, uc, A7, n7, c7⟩) : Re), rfl, hX9, be, hk, hb, fun _ => rfl⟩
 have k5 : (k == 5) = false := by simpa using hk5
 have HE0 := Lib.hid (show vipE C ⟨k, ((vi : Nat) : Int), b, e, six, ah, al, pt, pr, wy, ms⟩ uv = 1 by unfold vipE; simp only []; rw [if_neg hk3, if_neg hk4, if_neg hk5])
 clear hk3 hk4 hk5
 have h3w : RSt (fun b => G b ∨ b = w.heap.size + 1 + 1) W7 uv.S.lv uB um ud := (HSSu.more (fun b hb => hb.elim .inl (fun h => .inr (by omega)))).later be
 have h1w : Rs 2 W7 uA un uc (prs .i64 uv.ms) := HMMu.later be
 have h2w : Off (fun b => G b ∨ b = w.heap.size + 1 + 1) W7 uA := (HMOu.more (fun b hb => hb.elim .inl (fun h => .inr (by omega)))).size be.size
 clear HSSu HMMu HMOu
 go_upto_region 26 with (fail)
 clear q0
 refine wp_region_lit ?_
 refine wpList_ldA (t := 37) 37 (.tmp 2) rfl rfl (rcC C A n c) rfl (bs) (whole_ _) vs1 vs2 (szRcS C hk hb A n c) ?_
 refine wpList_plain rfl (fun K hK => ?_); go_simp; with_reducible refine hK _ _ ?_; clear hK K
 refine wpList_ld1 (t := 48) (cs := opC k (vi : Nat) b e six ah al pt pr wy B m d) 3 (.tmp 112) rfl (by rfl) rfl (bo) rfl Tryd.underlying3 rfl ?_
 simp only [Act.put, qsT, qsZ, qsS]
 refine wpList_ldA (t := 62) 62 (.tmp 6) rfl rfl (rvC ((uv, ⟨uA, un, uc, uB, um, ud⟩) : Re)) rfl (h7) (whole_ _) vr1 vr2 (szRv _) ?_
 refine wpList_plain rfl (fun K hK => ?_)
 go_simp
 refine (rcWith_any (G := (fun b => G b ∨ b = w.heap.size + 1 + 1)) C hk hb A n c E vi ((uv, ⟨uA, un, uc, uB, um, ud⟩) : Re) W7 (fun b hb => hb.elim (fun h => by have := hG b h; have := be.size; omega) (fun h => by have := hz.lt; omega) : ∀ b, (fun b => G b ∨ b = w.heap.size + 1 + 1) b → b < W7.heap.size) ((HX0.out.more (G' := fun b => G b ∨ b = w.heap.size + 1 + 1) (fun b hb => hb.elim .inl (fun h => .inr (by omega)))).later be) hvn hn16 h1w h2w h3w).mono ?_
 rintro e w1 ⟨A8, c8, rfl, hX7, hb7⟩
 with_reducible refine hK _ _ ?_
 clear hK K
 replace hz := hz.later hb7
 replace be := be.trans (hb7.mono be.size)
 generalize hWW : w1 = W6 at *
 clear hWW
 refine wpList_plain rfl (fun K hK => ?_); go_simp; with_reducible refine hK _ _ ?_; clear hK K
 refine wpList_stA (t := 37) 37 (.tmp 4) (.tmp 115) rfl rfl (rcC C A8 n c8) zl0 (hzl.trans (rcC_len C (by assumption) (by assumption) _ _ _).symm).symm (rcL_one _ _ _ _ _ _ _ _) rfl rfl hz (szRcS C (by assumption) (by assumption) _ _ _) ?_
 intro W9 h9 g9
 refine wpList_plain rfl (fun K hK => ?_); go_simp; with_reducible refine hK _ _ ?_; clear hK K
 replace be := below_grown be g9 (by omega)
 go_wp2
 refine bodyPost_agg2 Tryd.results18 rfl rfl h9.range vs1 vs2 (szRcS C (by assumption) (by assumption) _ _ _) rfl ?_
 have hX9 := (hX7.chg (Chg.one (D := fun b => b = w.heap.size + 1 + 1) g9 rfl) (fun b h => .inr h)).more (G' := G) (fun b h => .inl (.inl h))
 rw [HEV.out, HE0.out]
 exact ⟨{ C with vs := C.vs.set vi uv }, A8, n, c8, E.set vi ((uv, ⟨uA, un, uc, uB, um, ud⟩) : Re), rfl, hX9, be, hk, hb, fun h => absurd h (by decide)⟩
end

section
open Go.Lib
open Go.RowKit
attribute [local go_sem ↓] sliced_cut
attribute [local go_sem] cutA_zero
theorem rcDoesR {G : Nat → Prop} (k v b e : Int) (six : Bool) (ah al pt pr : Nat) (wy : Int) (ms : List (Int × Int)) (B : Option Addr) (m d : Nat) (C : Cf) (hC : CfR C) (A : Option Addr) (n c : Nat) (E : List Re) (w : World) (hG : ∀ b, G b → b < w.heap.size) (hX : RcX G w C A n c E) (hr : Rs 2 w B m d (prs .i64 ms)) (hm : m ≤ 1000000) (hal : al < 18446744073709551616) (hk1 : ¬ k = 1) (hk2 : ¬ k = 2) (hk67 : ¬ (k = 6 ∨ k = 7)) (hk8 : ¬ k = 8) (hv0 : 0 ≤ v) (hvn : v < (n : Int)) : Calls Tryd.prog 18 #[.agg (rcC C A n c).toArray, .agg (opC k v b e six ah al pt pr wy B m d).toArray] w (RetRx G w (chC C ⟨k, v, b, e, six, ah, al, pt, pr, wy, ms⟩) (chE C ⟨k, v, b, e, six, ah, al, pt, pr, wy, ms⟩)) := by
 obtain ⟨vi, rfl⟩ : ∃ vi : Nat, v = vi := ⟨v.toNat, by omega⟩
 have hvl : vi < C.vs.length := by have := hX.n_; omega
 have huv : C.vs[vi]? = some C.vs[vi] := List.getElem?_eq_getElem hvl
 generalize C.vs[vi] = uv at huv
 exact rcDoesV k b e vi six ah al pt pr wy ms B m d C hC A n c E w hG hX hr hm uv huv hk1 hk2 hk67 hk8
theorem rcDoes_any {G : Nat → Prop} (k v b e : Int) (six : Bool) (ah al pt pr : Nat) (wy : Int) (ms : List (Int × Int)) (B : Option Addr) (m d : Nat) (C : Cf) (hC : CfOk C) (A : Option Addr) (n c : Nat) (E : List Re) (w : World) (hG : ∀ b, G b → b < w.heap.size) (hX : RcX G w C A n c E) (hr : Rs 2 w B m d (prs .i64 ms)) (hm : m ≤ 1000000) (hal : al < 18446744073709551616) : Calls Tryd.prog 18 #[.agg (rcC C A n c).toArray, .agg (opC k v b e six ah al pt pr wy B m d).toArray] w (RetRx G w (chC C ⟨k, v, b, e, six, ah, al, pt, pr, wy, ms⟩) (chE C ⟨k, v, b, e, six, ah, al, pt, pr, wy, ms⟩)) := by
 by_cases hk1 : k = 1
 ·subst hk1; exact rcDoes1 v b e six ah al pt pr wy ms B m d C hC A n c E w hG hX hal
 by_cases hk2 : k = 2
 ·subst hk2; exact rcDoes2 v b e six ah al pt pr wy ms B m d C hC A n c E w hG hX hal
 by_cases hk6 : k = 6
 ·subst hk6; exact rcDoes6 v b e six ah al pt pr wy ms B m d C hC A n c E w hG hX
 by_cases hk7 : k = 7
 ·subst hk7; exact rcDoes7 v b e six ah al pt pr wy ms B m d C hC A n c E w hG hX
 by_cases hk8 : k = 8
 ·subst hk8; exact rcDoes8 v b e six ah al pt pr wy ms B m d C hC A n c E w hG hX
 by_cases hvv : v < 0 ∨ (n : Int) ≤ v
 ·exact rcDoesN k v b e six ah al pt pr wy ms B m d C hC A n c E w hG hX hk1 hk2 (by omega) hk8 hvv
 exact rcDoesR k v b e six ah al pt pr wy ms B m d C hC.r A n c E w hG hX hr hm hal hk1 hk2 (by omega) hk8 (by omega) (by omega)
theorem chC_num (C : Cf) (o : OpR) : (chC C o).num = C.num := by
 unfold chC
 repeat' split
 all_goals rfl
set_option maxHeartbeats 4000000 in
set_option maxRecDepth 100000 in
theorem refApply_of {G : Nat → Prop} (k v b e : Int) (six : Bool) (ah al pt pr : Nat) (wy : Int) (ms : List (Int × Int)) (B : Option Addr) (m d : Nat) (C : Cf) (hk : C.key.length = 16) (hb : C.bk.length = 65) (A : Option Addr) (n c : Nat) (E : List Re) (w : World) (hG : ∀ b, G b → b < w.heap.size) (hX : RcX G w C A n c E) (HDO0 : ∀ (W : World) (G' : Nat → Prop), (∀ b, G' b → b < W.heap.size) → RcX G' W C A n c E → Below w.heap.size w W → Calls Tryd.prog 18 #[.agg (rcC C A n c).toArray, .agg (opC k v b e six ah al pt pr wy B m d).toArray] W (RetRx G' W (chC C ⟨k, v, b, e, six, ah, al, pt, pr, wy, ms⟩) (chE C ⟨k, v, b, e, six, ah, al, pt, pr, wy, ms⟩))) : Calls Tryd.prog 9 #[.agg (rcC C A n c).toArray, .agg (opC k v b e six ah al pt pr wy B m d).toArray] w (RetRc G w (apC C ⟨k, v, b, e, six, ah, al, pt, pr, wy, ms⟩) (chE C ⟨k, v, b, e, six, ah, al, pt, pr, wy, ms⟩)) := by
 have HX0 := Lib.hid hX
 have HDO := Lib.hid HDO0
 clear HDO0
 have HAP := Lib.hid (show apC C ⟨k, v, b, e, six, ah, al, pt, pr, wy, ms⟩ = if chE C ⟨k, v, b, e, six, ah, al, pt, pr, wy, ms⟩ = 0 then upN (chC C ⟨k, v, b, e, six, ah, al, pt, pr, wy, ms⟩) else C from rfl)
 have HNU := Lib.hid (chC_num C ⟨k, v, b, e, six, ah, al, pt, pr, wy, ms⟩)
 generalize chE C ⟨k, v, b, e, six, ah, al, pt, pr, wy, ms⟩ = EE at *
 generalize chC C ⟨k, v, b, e, six, ah, al, pt, pr, wy, ms⟩ = CC at *
 generalize apC C ⟨k, v, b, e, six, ah, al, pt, pr, wy, ms⟩ = CA at *
 have hwn : IntKind.u64.wrap ((C.num : Int) + 1) = (((C.num + 1) % 18446744073709551616 : Nat) : Int) := by rw [IntKind.wrap_u64]; omega
 obtain ⟨dvs1, vs1, vs2⟩ := rowRcS
 obtain ⟨dvo1, vo1, vo2⟩ := rowRo
 obtain ⟨bs, bo, be, zV⟩ := box2 w 37 48 (rcC C A n c) (opC k v b e six ah al pt pr wy B m d)
 go_enter Tryd.func9, Tryd.ntmps9
 go_upto_region 1 with (fail)
 have HVe := Lib.hid (show ((w.alloc (.cells (rcC C A n c).toArray 37)).alloc (.cells (opC k v b e six ah al pt pr wy B m d).toArray 48)).heap.size = w.heap.size + 1 + 1 by simp)
 generalize (w.alloc (.cells (rcC C A n c).toArray 37)).alloc (.cells (opC k v b e six ah al pt pr wy B m d).toArray 48) = V at *
 have hz := Bk.newK 37 (Tryd.zeroCells37) _ HVe.out.symm rfl
 have hzl : (Tryd.zeroCells37).toList.length = 279 := by kernel_rfl
 have hbz : Below V.heap.size V (V.alloc (.cells (Tryd.zeroCells37) 37)) := Below.allocS (Below.refl _ _) _
 go_upto_region 1 with (fail)
 have hVs : w.heap.size + 2 ≤ V.heap.size := by have := bo.lt; omega
 generalize hV2 : V.alloc (.cells (Tryd.zeroCells37) 37) = V2 at *
 clear hV2
 generalize hzc : (Tryd.zeroCells37).toList = zl0 at *
 clear hzc
 replace bs := bs.later hbz
 replace bo := bo.later hbz
 replace be := be.trans (hbz.mono be.size)
 clear hbz
 have HZL := Lib.hid (show (Tryd.zeroCells37).toList.length = 279 by kernel_rfl)
 refine wp_region_lit ?_
 refine wpList_ldA (t := 37) 37 (.tmp 2) rfl rfl (rcC C A n c) rfl (bs) (whole_ _) vs1 vs2 (szRcS C hk hb A n c) ?_
 simp only [Act.put, qsT, qsZ, qsS]
 refine wpList_ldA (t := 48) 48 (.tmp 3) rfl rfl (opC k v b e six ah al pt pr wy B m d) rfl (bo) (whole_ _) vo1 vo2 (szRo _ _ _ _ _ _ _ _ _ _ _ _ _) ?_
 refine wpList_plain rfl (fun K hK => ?_)
 go_simp
 refine (HDO.out V2 (fun b => G b ∨ b = w.heap.size + 1 + 1) (fun b hb => hb.elim (fun h => by have := hG b h; have := be.size; omega) (fun h => by have := hz.lt; omega) : ∀ b, (fun b => G b ∨ b = w.heap.size + 1 + 1) b → b < V2.heap.size) ((HX0.out.more (G' := fun b => G b ∨ b = w.heap.size + 1 + 1) (fun b hb => hb.elim .inl (fun h => .inr (by omega)))).later be) be).mono ?_
 rintro e w1 ⟨C7, A7, n7, c7, E7, rfl, hX7, hb7, hk7, hbl7, h07⟩
 with_reducible refine hK _ _ ?_
 clear hK K
 replace bs := bs.later hb7
 replace hz := hz.later hb7
 replace be := be.trans (hb7.mono be.size)
 generalize hWW : w1 = W8 at *
 clear hWW
 iterate 4 (refine wpList_plain rfl (fun K hK => ?_); go_simp; with_reducible refine hK _ _ ?_; clear hK K)
 refine wpList_stA (t := 37) 37 (.tmp 6) (.tmp 12) rfl rfl (rcC C7 A7 n7 c7) (Tryd.zeroCells37).toList (HZL.out.trans (rcC_len C7 hk7 hbl7 _ _ _).symm).symm (rcL_one _ _ _ _ _ _ _ _) rfl rfl (Bk.new _ _ _) (szRcS C7 hk7 hbl7 _ _ _) ?_
 intro W7 h7 g7
 refine wpList_plain rfl (fun K hK => ?_); go_simp; with_reducible refine hK _ _ ?_; clear hK K
 have hgx : w.heap.size + 2 < W8.heap.size := hz.lt
 have hbW : Below W8.heap.size W8 W7 := below_grown (Below.allocS (Below.refl _ _) _) g7 (Nat.le_refl _)
 replace bs := bs.later hbW
 replace hz := hz.later hbW
 replace be := be.trans (hbW.mono be.size)
 clear g7 bo
 by_cases he : EE = 0
 ·have he0 : ((EE : Int) != 0) = false := by simp [he]
  have HCA := Lib.hid (show CA = upN C7 by rw [HAP.out, if_pos he, h07 he])
  have HN7 := Lib.hid (show C7.num = C.num by rw [h07 he]; exact HNU.out)
  have HE := Lib.hid he
  clear he h07
  go_upto_region 4 with (fail)
  refine wp_region_lit ?_
  refine wpList_plain rfl (fun K hK => ?_); go_simp; with_reducible refine hK _ _ ?_; clear hK K
  refine wpList_ld1 (t := 37) (cs := rcC C A n c) 27 (.tmp 18) rfl rfl rfl bs (show (rcC C A n c)[0]? = some (.int .u64 (C.num : Int)) from rfl) Tryd.underlying27 rfl ?_
  iterate 2 (refine wpList_plain rfl (fun K hK => ?_); go_simp; with_reducible refine hK _ _ ?_; clear hK K)
  refine wpList_st1 (v := .int .u64 (((C.num + 1) % 18446744073709551616 : Nat) : Int)) (t := 37) (cs := rcC C7 A7 n7 c7) (off := 0) 27 (.tmp 21) (.tmp 20) rfl rfl rfl rfl h7 (by rw [rcC_len C7 hk7 hbl7]; omega) rfl (by kernel_rfl) ?_
  intro W4 h4 g4
  simp only [Act.put, qsT, qsZ, qsS]
  replace h4 : Bk W4 W8.heap.size 37 (rcC { C7 with num := (C.num + 1) % 18446744073709551616 } A7 n7 c7) := h4
  have hbW4 : Below W8.heap.size W8 W4 := below_grown hbW g4 (Nat.le_refl _)
  have hz4 := hz.grown g4 (fun e => by injection e with e; omega)
  have be4 := below_grown be g4 (by omega)
  clear hbW hz be g4 h7 bs
  have hbW := hbW4
  have hz := hz4
  have be := be4
  clear hbW4 hz4 be4
  go_upto_region 5 with (fail)
  refine wp_region_lit ?_
  refine wpList_ldA (t := 37) 37 (.tmp 6) rfl rfl (rcC { C7 with num := (C.num + 1) % 18446744073709551616 } A7 n7 c7) rfl (h4) (whole_ _) vs1 vs2 (szRcS { C7 with num := (C.num + 1) % 18446744073709551616 } hk7 hbl7 _ _ _) ?_
  simp only [Act.put, qsT, qsZ, qsS]
  refine wpList_stA (t := 37) 37 (.tmp 4) (.tmp 22) rfl rfl (rcC { C7 with num := (C.num + 1) % 18446744073709551616 } A7 n7 c7) zl0 (hzl.trans (rcC_len { C7 with num := (C.num + 1) % 18446744073709551616 } (by assumption) (by assumption) _ _ _).symm).symm (rcL_one _ _ _ _ _ _ _ _) rfl rfl hz (szRcS { C7 with num := (C.num + 1) % 18446744073709551616 } (by assumption) (by assumption) _ _ _) ?_
  intro W9 h9 g9
  refine wpList_plain rfl (fun K hK => ?_); go_simp; with_reducible refine hK _ _ ?_; clear hK K
  replace be := below_grown be g9 (by omega)
  go_wp2
  refine bodyPost_agg2 Tryd.results9 rfl rfl h9.range vs1 vs2 (szRcS { C7 with num := (C.num + 1) % 18446744073709551616 } (by assumption) (by assumption) _ _ _) rfl ?_
  have hX9 := ((hX7.later hbW).chg (Chg.one (D := fun b => b = w.heap.size + 1 + 1) g9 rfl) (fun b h => .inr h)).more (G' := G) (fun b h => .inl (.inl h))
  rw [HCA.out, HE.out]
  refine ⟨A7, n7, c7, E7, ?_, ⟨hX9.vs, hX9.row, hX9.off, hX9.mm, hX9.mo, hX9.ss⟩, be⟩
  rw [show upN C7 = { C7 with num := (C.num + 1) % 18446744073709551616 } by unfold upN; rw [HN7.out]]
  rfl
 ·have he0 : ((EE : Int) != 0) = true := by simp [he]
  have HCA := Lib.hid (show CA = C by rw [HAP.out, if_neg he])
  clear he h07
  go_upto_region 3 with (fail)
  refine wp_region_lit ?_
  refine wpList_ldA (t := 37) 37 (.tmp 2) rfl rfl (rcC C A n c) rfl (bs) (whole_ _) vs1 vs2 (szRcS C hk hb A n c) ?_
  refine wpList_plain rfl (fun K hK => ?_); go_simp; with_reducible refine hK _ _ ?_; clear hK K
  refine wpList_stA (t := 37) 37 (.tmp 4) (.tmp 16) rfl rfl (rcC C A n c) zl0 (hzl.trans (rcC_len C (by assumption) (by assumption) _ _ _).symm).symm (rcL_one _ _ _ _ _ _ _ _) rfl rfl hz (szRcS C (by assumption) (by assumption) _ _ _) ?_
  intro W9 h9 g9
  refine wpList_plain rfl (fun K hK => ?_); go_simp; with_reducible refine hK _ _ ?_; clear hK K
  replace be := below_grown be g9 (by omega)
  go_wp2
  refine bodyPost_agg2 Tryd.results9 rfl rfl h9.range vs1 vs2 (szRcS C (by assumption) (by assumption) _ _ _) rfl ?_
  rw [HCA.out]
  exact ⟨A, n, c, E, rfl, HX0.out.later be, be⟩
theorem refApply_any {G : Nat → Prop} (k v b e : Int) (six : Bool) (ah al pt pr : Nat) (wy : Int) (ms : List (Int × Int)) (B : Option Addr) (m d : Nat) (C : Cf) (hC : CfOk C) (A : Option Addr) (n c : Nat) (E : List Re) (w : World) (hG : ∀ b, G b → b < w.heap.size) (hX : RcX G w C A n c E) (hr : Rs 2 w B m d (prs .i64 ms)) (hm : m ≤ 1000000) (hal : al < 18446744073709551616) : Calls Tryd.prog 9 #[.agg (rcC C A n c).toArray, .agg (opC k v b e six ah al pt pr wy B m d).toArray] w (RetRc G w (apC C ⟨k, v, b, e, six, ah, al, pt, pr, wy, ms⟩) (chE C ⟨k, v, b, e, six, ah, al, pt, pr, wy, ms⟩)) := by
 exact refApply_of k v b e six ah al pt pr wy ms B m d C hC.key hC.bl A n c E w hG hX (fun W G' hG' h hb => rcDoes_any (G := G') k v b e six ah al pt pr wy ms B m d C hC A n c E W hG' h (hr.later hb) hm hal)
end

section
open Go.RowKit
theorem mod_bit (x k : Nat) : x % 2 ^ (k + 1) = if x.testBit k then x % 2 ^ k ||| 2 ^ k else x % 2 ^ k := by
 apply Nat.eq_of_testBit_eq
 intro i
 rw [Nat.testBit_mod_two_pow]
 by_cases h : x.testBit k = true
 ·rw [if_pos h, Nat.testBit_or, Nat.testBit_mod_two_pow, Nat.testBit_two_pow]
  by_cases hi : i = k
  ·subst hi; simp [h]
  ·have h2 : decide (k = i) = false := decide_eq_false (fun e => hi e.symm)
   rw [h2, Bool.or_false]
   by_cases hl : i < k
   ·rw [decide_eq_true hl, decide_eq_true (by omega)]
   ·rw [decide_eq_false hl, decide_eq_false (by omega)]
 ·rw [if_neg h, Nat.testBit_mod_two_pow]
  by_cases hi : i = k
  ·subst hi
   simp only [Bool.not_eq_true] at h
   simp [h]
  ·by_cases hl : i < k
   ·rw [decide_eq_true hl, decide_eq_true (by omega)]
   ·rw [decide_eq_false hl, decide_eq_false (by omega)]
def stE (ev k : Nat) : Stk := ⟨[], ev % 2 ^ k, 0⟩
theorem stE_0 (ev : Nat) : stE ev 0 = stk0 := by simp [stE, stk0, Nat.mod_one]
theorem stE_64 (ev : Nat) (h : ev < 18446744073709551616) : stE ev 64 = ⟨[], ev, 0⟩ := by
 unfold stE
 rw [Nat.mod_eq_of_lt (by simpa using h)]
theorem stE_ok (ev k : Nat) (hk : k ≤ 64) : StkOk (stE ev k) := by
 refine ⟨by simp [stE], by simp [stE], ?_, by simp [stE], by simp [stE]⟩
 show ev % 2 ^ k < 18446744073709551616
 have h1 := Nat.mod_lt ev (Nat.two_pow_pos k)
 have h2 : 2 ^ k ≤ 2 ^ 64 := Nat.pow_le_pow_right (by decide) hk
 have : (2 : Nat) ^ 64 = 18446744073709551616 := by decide
 omega
theorem hasB_bit (ev k : Nat) (hk : k < 64) : hasB ev ((k + 1 : Nat) : Int) 1 64 = ev.testBit k := by
 unfold hasB
 rw [decide_eq_true (by omega), decide_eq_true (by omega), show (((k + 1 : Nat) : Int) - ((1 : Nat) : Int)).toNat = k by omega]
 rfl
theorem stE_yes (ev k : Nat) (hk : k < 64) (h : hasB ev ((k + 1 : Nat) : Int) 1 64 = true) : eviS (stE ev k) ((k + 1 : Nat) : Int) = stE ev (k + 1) := by
 rw [hasB_bit ev k hk] at h
 have hd : deadS (stE ev k) ((k + 1 : Nat) : Int) = false := by
  show hasB (ev % 2 ^ k) _ 1 64 = false
  rw [hasB_bit _ k hk, Nat.testBit_mod_two_pow]
  simp
 have hn : numB ((k + 1 : Nat) : Int) = true := by unfold numB; rw [decide_eq_true (by omega), decide_eq_true (by omega)]; rfl
 unfold eviS
 rw [hd, hn, if_pos (by rfl)]
 unfold stE
 rw [mod_bit ev k, if_pos h]
 rfl
theorem stE_no (ev k : Nat) (hk : k < 64) (h : hasB ev ((k + 1 : Nat) : Int) 1 64 = false) : stE ev k = stE ev (k + 1) := by
 rw [hasB_bit ev k hk] at h
 unfold stE
 rw [mod_bit ev k, h]
 rfl
theorem stE_yes' (ev m : Nat) (h1 : 1 ≤ m) (h2 : m ≤ 64) (h : hasB ev (m : Int) 1 64 = true) : eviS (stE ev (m - 1)) (m : Int) = stE ev m := by
 obtain ⟨k, rfl⟩ : ∃ k, m = k + 1 := ⟨m - 1, by omega⟩
 exact stE_yes ev k (by omega) h
theorem stE_no' (ev m : Nat) (h1 : 1 ≤ m) (h2 : m ≤ 64) (h : hasB ev (m : Int) 1 64 = false) : stE ev (m - 1) = stE ev m := by
 obtain ⟨k, rfl⟩ : ∃ k, m = k + 1 := ⟨m - 1, by omega⟩
 exact stE_no ev k (by omega) h
theorem CfX.add {G D : Nat → Prop} {w : World} {g : Nat} {C : Cf} {A : Option Addr} {n c : Nat} {E : List Ve} (h : CfX G D w g C A n c E) {T : Nat} {S0 : Stk}
  (hT : Bk w T 102 (stkC S0)) (hTG : G T) (hTD : ¬ D T) {w5 : World} {A' : Option Addr} {n' c' : Nat} {v0 : Vp} (hS0 : v0.S = S0) (hms : v0.ms = [])
  (hO : Os 53 8 w5 0 A' n' c' (E.flatMap veC ++ veC (v0, ⟨none, 0, 0, T⟩))) (hg5 : w.grownBy w5 (Value.slice A n c).ownBlock) (hob : ∀ b, (Value.slice A' n' c').ownBlock = some b → (Value.slice A n c).ownBlock = some b ∨ w.heap.size ≤ b)
  {w6 : World} {C' : Cf} (hst : Bk w6 g 85 (stC C' A' n' c')) (hg6 : w5.grownBy w6 (some g)) (hC' : C'.vs = C.vs ++ [v0]) :
  CfX (fun b => G b ∨ (Value.slice A' n' c').ownBlock = some b) (fun b => D b ∨ b = T ∨ (Value.slice A' n' c').ownBlock = some b) w6 g C' A' n' c' (E ++ [(v0, ⟨none, 0, 0, T⟩)]) := by
 have hn' : 0 < n' := by
  have := hO.1
  rw [List.length_append] at this
  simp [veC] at this
  omega
 have hgr : (Value.slice A n c).ownBlock ≠ some g := fun e => by
  have hgD := h.dr g e
  rcases Nat.eq_zero_or_pos n with h0 | h0
  ·rcases h.row.2 with ⟨hv, _⟩ | ⟨b, cap, cur, hv, _, hr, _⟩
   ·injection hv with h1 _ _; subst h1; cases e
   ·injection hv with h1 _ _
    subst h1
    injection e with e
    subst e
    have := h.st
    unfold Bk at this
    rw [hr] at this
    injection this with this
    injection this with _ this _
    revert this
    decide
  ·obtain ⟨b, cur, _, hb', hB, _⟩ := h.row.bk h0
   rw [hb'] at e
   injection e with e
   subst e
   exact hB.apart h.st (by decide) rfl
 have hst5 : Bk w5 g 85 (stC C A n c) := h.st.grown hg5 hgr
 have hrow_g : ∀ k, (Value.slice A' n' c').ownBlock = some k → some g ≠ some k := fun k hk e => by
  injection e with e
  subst e
  obtain ⟨b, cur, _, hb', hB, _⟩ := hO.bk hn'
  rw [hb'] at hk
  injection hk with hk
  subst hk
  exact hB.apart hst5 (by decide) rfl
 have hTr : (Value.slice A n c).ownBlock ≠ some T := fun e => hTD (h.dr T e)
 have hTg : T ≠ g := fun e => hTD (e ▸ h.dg)
 have mem : ∀ y ∈ E ++ [(v0, (⟨none, 0, 0, T⟩ : VE))], y ∈ E ∨ y = (v0, ⟨none, 0, 0, T⟩) := fun y hy => by simpa using hy
 have sz : w.heap.size ≤ w6.heap.size := Nat.le_trans hg5.size hg6.size
 refine ⟨by rw [List.map_append, h.vs, hC']; rfl, hst, ?_, fun k hk => .inr (.inr hk), .inl h.dg, ?_, ?_, ?_, ?_, ?_, ?_, ?_⟩
 ·rw [List.flatMap_append]
  have : List.flatMap veC [(v0, (⟨none, 0, 0, T⟩ : VE))] = veC (v0, ⟨none, 0, 0, T⟩) := by simp
  rw [this]
  exact hO.grown hg6 hrow_g
 ·intro y hy
  rcases mem y hy with hy | rfl
  ·exact ((h.tb y hy).grown hg5 (fun e => h.ne_row hy _ e rfl)).grown hg6 (fun e => h.ne_st hy (by injection e with e; exact e.symm))
  ·show Bk w6 T _ (stkC v0.S)
   rw [hS0]
   exact (hT.grown hg5 hTr).grown hg6 (fun e => hTg (by injection e with e; exact e.symm))
 ·intro y hy
  rcases mem y hy with hy | rfl
  ·exact .inl (h.dt y hy)
  ·exact .inr (.inl rfl)
 ·intro y hy
  rcases mem y hy with hy | rfl
  ·refine ((h.mm y hy).grown hg5 (fun a ha e => ?_)).grown hg6 (fun a ha e => (h.mo y hy a ha).2 ?_)
   ·exact (h.mo y hy a ha).2 (h.sub _ (h.dr _ e.symm))
   ·injection e with e; rw [e]; exact h.sub _ h.dg
  ·show Rs 2 w6 none 0 0 (prs .i64 v0.ms)
   rw [hms]
   exact Rs.nil_
 ·intro y hy
  rcases mem y hy with hy | rfl
  ·intro a ha
   refine ⟨Nat.lt_of_lt_of_le (h.mo y hy a ha).1 sz, ?_⟩
   have h1 := (h.mo y hy a ha).1
   rintro (k | k)
   ·exact (h.mo y hy a ha).2 k
   ·rcases hob _ k with k | k
    ·exact (h.mo y hy a ha).2 (h.sub _ (h.dr _ k))
    ·omega
  ·exact Off.none_
 ·rw [List.map_append, List.nodup_append]
  refine ⟨h.nd, by simp, fun a ha b hb e => ?_⟩
  simp at hb
  subst hb e
  obtain ⟨y, hy, e⟩ := List.mem_map.1 ha
  exact hTD (e ▸ h.dt y hy)
 ·rintro b (k | k | k)
  ·exact .inl (h.sub b k)
  ·subst k; exact .inl hTG
  ·exact .inr k
 ·rintro b (k | k)
  ·exact Nat.lt_of_lt_of_le (h.lt b k) sz
  ·exact Nat.lt_of_lt_of_le (hO.blk b k).2 hg6.size
end

section
open Go.RowKit
attribute [local go_sem ↓] sliced_cut
attribute [local go_sem] cutA_zero
theorem CfX.own_ne_g {G D : Nat → Prop} {w : World} {g : Nat} {C : Cf} {A : Option Addr} {n c : Nat} {E : List Ve} (h : CfX G D w g C A n c E) : (Value.slice A n c).ownBlock ≠ some g := fun e => by
 rcases h.row.2 with ⟨hv, _⟩ | ⟨b, cap, cur, hv, _, hr, _⟩
 ·injection hv with h1 _ _; subst h1; cases e
 ·injection hv with h1 _ _
  subst h1
  injection e with e
  subst e
  have := h.st
  unfold Bk at this
  rw [hr] at this
  injection this with this
  injection this with _ this _
  revert this
  decide
def addS (C : Cf) (o : OpR) : Cf := if addE C o = 0 then { C with vs := C.vs ++ [newV C o] } else C
set_option maxHeartbeats 4000000
set_option maxRecDepth 100000
theorem run_buildVe (six : Bool) (ah al pt pr : Nat) (wy : Int) (T : Nat) (v0 : Vp) (h1 : v0.ad = (six, ah, al)) (h2 : v0.pt = pt) (h3 : v0.pr = pr) (h4 : v0.wy = wy) (w : World) : (Instr.build 53 #[(0, .agg (adC six ah al).toArray), (1, .int .u16 (pt : Int)), (2, .int .u8 (pr : Int)), (3, .int .i64 wy), (5, .pointer (some ⟨T, 0, none⟩))]).run Tryd.prog w = .ok (.agg (veC (v0, ⟨none, 0, 0, T⟩)).toArray) w := by
 obtain ⟨ad, p1, p2, w1, ms, S⟩ := v0
 subst h1 h2 h3 h4
 kernel_rfl
theorem foldVe (x : Ve) : List.foldl (fun (cs : Array Value) (x : Value × Nat) => cs.setIfInBounds x.snd x.fst) #[.bool false, .int .u64 0, .int .u64 0, .int .u16 0, .int .u8 0, .int .i64 0, .slice none 0 0, .pointer none] (veC x).zipIdx = (veC x).toArray := by simp [veC, List.zipIdx]
attribute [local go_sem] foldVe
theorem addVip_any {G D : Nat → Prop} (k v b e : Int) (six : Bool) (ah al pt pr : Nat) (wy : Int) (ms : List (Int × Int)) (B : Option Addr) (mm d : Nat) (C : Cf) (hC : CfOk C) (g : Nat) (A : Option Addr) (n c : Nat) (E : List Ve) (w : World) (hX : CfX G D w g C A n c E) (hal : al < 18446744073709551616) (hpr : pr < 256) : Calls Tryd.prog 31 #[.pointer (some ⟨g, 0, none⟩), .agg (opC k v b e six ah al pt pr wy B mm d).toArray] w (RetCf G D w g (addS C (⟨k, v, b, e, six, ah, al, pt, pr, wy, ms⟩ : OpR)) (.int .i64 (addE C (⟨k, v, b, e, six, ah, al, pt, pr, wy, ms⟩ : OpR) : Nat))) := by
 have hX0 := Lib.hid hX
 obtain ⟨da, va1, va2⟩ := rowAdC
 obtain ⟨do1, vo1, vo2⟩ := rowOpC
 have hk := hC.key
 have hb := hC.bl
 have HA := Lib.hid (fun w => adrRightC six ah al w hal)
 have HW := Lib.hid (fun w => polRight_any wy w)
 have hn16 : n ≤ 16 := by have := hX.n_; have := hC.vl; omega
 have hn1000 : n ≤ 1000 := by omega
 have HNV := Lib.hid hX.n_
 have hev64 : ev0 C < 18446744073709551616 := by
  unfold ev0
  cases hc : C.vs with
  | nil => simp
  | cons a t => exact (hC.vs a (by simp [hc])).st.ev
 have hcases : (adG six ah al = false ∧ Hid (addE C (⟨k, v, b, e, six, ah, al, pt, pr, wy, ms⟩ : OpR) = 1)) ∨ (adG six ah al = true ∧ ((pr : Int) != 6) = false ∧ wyB wy = false ∧ Hid (addE C (⟨k, v, b, e, six, ah, al, pt, pr, wy, ms⟩ : OpR) = 1)) ∨
   (adG six ah al = true ∧ ((pr : Int) != 6) = true ∧ ((pr : Int) != 17) = false ∧ wyB wy = false ∧ Hid (addE C (⟨k, v, b, e, six, ah, al, pt, pr, wy, ms⟩ : OpR) = 1)) ∨ (adG six ah al = true ∧ ((pr : Int) != 6) = true ∧ ((pr : Int) != 17) = true ∧ Hid (addE C (⟨k, v, b, e, six, ah, al, pt, pr, wy, ms⟩ : OpR) = 1)) ∨
   (adG six ah al = true ∧ ((pr : Int) != 6) = false ∧ wyB wy = true ∧ Hid (decide (pr = 6 ∨ pr = 17) = true)) ∨ (adG six ah al = true ∧ ((pr : Int) != 6) = true ∧ ((pr : Int) != 17) = false ∧ wyB wy = true ∧ Hid (decide (pr = 6 ∨ pr = 17) = true)) := by
  cases hg : adG six ah al with
  | false => exact .inl ⟨rfl, Lib.hid (by unfold addE; rw [if_pos (by simp [hg])])⟩
  | true =>
   by_cases h6 : pr = 6
   ·have h6i : ((pr : Int) != 6) = false := by simp; omega
    cases hwb : wyB wy with
    | false => exact .inr (.inl ⟨rfl, h6i, rfl, Lib.hid (by unfold addE; rw [if_pos (by simp [hwb])])⟩)
    | true => exact .inr (.inr (.inr (.inr (.inl ⟨rfl, h6i, rfl, Lib.hid (by simp [h6])⟩))))
   ·have h6i : ((pr : Int) != 6) = true := by simp; omega
    by_cases h17 : pr = 17
    ·have h17i : ((pr : Int) != 17) = false := by simp; omega
     cases hwb : wyB wy with
     | false => exact .inr (.inr (.inl ⟨rfl, h6i, h17i, rfl, Lib.hid (by unfold addE; rw [if_pos (by simp [hwb])])⟩))
     | true => exact .inr (.inr (.inr (.inr (.inr ⟨rfl, h6i, h17i, rfl, Lib.hid (by simp [h17])⟩))))
    ·have h17i : ((pr : Int) != 17) = true := by simp; omega
     exact .inr (.inr (.inr (.inl ⟨rfl, h6i, h17i, Lib.hid (by unfold addE; rw [if_pos (by simp [h6, h17])])⟩)))
 rcases hcases with ⟨hg, he⟩ | ⟨hg, h6i, hwb, he⟩ | ⟨hg, h6i, h17i, hwb, he⟩ | ⟨hg, h6i, h17i, he⟩ | ⟨hg, h6i, hwb, HP⟩ | ⟨hg, h6i, h17i, hwb, HP⟩
 all_goals rw [hg] at HA
 all_goals first | rw [hwb] at HW | skip
 iterate 4
  focus
   have hcs := Lib.hid (show addS C (⟨k, v, b, e, six, ah, al, pt, pr, wy, ms⟩ : OpR) = C from if_neg (by rw [he.out]; decide))
   obtain ⟨bo, be, zV⟩ := box1 w 45 (opC k v b e six ah al pt pr wy B mm d)
   go_enter Tryd.func31, Tryd.ntmps31
   go_upto_region 1 with (fail)
   generalize w.alloc (.cells (opC k v b e six ah al pt pr wy B mm d).toArray 45) = V at *
   replace hX := hX.later be
   refine wp_region_lit ?_
   refine wpList_plain rfl (fun K hK => ?_); go_simp; with_reducible refine hK _ _ ?_; clear hK K
   refine wpList_ldA (t := 45) (cs := opC k v b e six ah al pt pr wy B mm d) 32 (.tmp 7) rfl rfl (adC six ah al) rfl (bo) rfl va1 va2 (szAd _ _ _) ?_
   refine wpList_plain rfl (fun K hK => ?_)
   go_simp
   refine (HA.out _).mono ?_
   rintro e w1 ⟨bs1, d1, rfl, rfl⟩
   with_reducible refine hK _ _ ?_
   clear hK K
   have hb1 := below_plus V bs1 d1
   replace hX := hX.later hb1
   replace bo := bo.later hb1
   replace be := be.trans (hb1.mono be.size)
   clear hb1
   generalize plus V bs1 d1 = V1 at *
   iterate 2 (refine wpList_plain rfl (fun K hK => ?_); go_simp; with_reducible refine hK _ _ ?_; clear hK K)
   first | ((with_reducible refine wpList_skip ?_ ?_); (· first | (go_simp; done) | (go_simp; intro h; cases h)); simp only [Act.put, qsT, qsZ, qsS]) | (refine wpList_step (fun K hK => ?_); go_simp; (with_reducible refine hK _ _ ?_); clear hK K)
   first | ((with_reducible refine wpList_skip ?_ ?_); (· first | (go_simp; done) | (go_simp; intro h; cases h)); simp only [Act.put, qsT, qsZ, qsS]) | (refine wpList_ld1 (t := 45) (cs := opC k v b e six ah al pt pr wy B mm d) 5 (.tmp 12) rfl (by go_simp) rfl (bo) rfl Tryd.underlying5 rfl ?_; simp only [Act.put, qsT, qsZ, qsS])
   first | ((with_reducible refine wpList_skip ?_ ?_); (· first | (go_simp; done) | (go_simp; intro h; cases h)); simp only [Act.put, qsT, qsZ, qsS]) | (refine wpList_step (fun K hK => ?_); go_simp; (with_reducible refine hK _ _ ?_); clear hK K)
   first | ((with_reducible refine wpList_skip ?_ ?_); (· first | (go_simp; done) | (go_simp; intro h; cases h)); simp only [Act.put, qsT, qsZ, qsS]) | (refine wpList_step (fun K hK => ?_); go_simp; (with_reducible refine hK _ _ ?_); clear hK K)
   first | ((with_reducible refine wpList_skip ?_ ?_); (· first | (go_simp; done) | (go_simp; intro h; cases h)); simp only [Act.put, qsT, qsZ, qsS]) | (refine wpList_step (fun K hK => ?_); go_simp; (with_reducible refine hK _ _ ?_); clear hK K)
   first | ((with_reducible refine wpList_skip ?_ ?_); (· first | (go_simp; done) | (go_simp; intro h; cases h)); simp only [Act.put, qsT, qsZ, qsS]) | (refine wpList_ld1 (t := 45) (cs := opC k v b e six ah al pt pr wy B mm d) 5 (.tmp 16) rfl (by go_simp) rfl (bo) rfl Tryd.underlying5 rfl ?_; simp only [Act.put, qsT, qsZ, qsS])
   first | ((with_reducible refine wpList_skip ?_ ?_); (· first | (go_simp; done) | (go_simp; intro h; cases h)); simp only [Act.put, qsT, qsZ, qsS]) | (refine wpList_step (fun K hK => ?_); go_simp; (with_reducible refine hK _ _ ?_); clear hK K)
   first | ((with_reducible refine wpList_skip ?_ ?_); (· first | (go_simp; done) | (go_simp; intro h; cases h)); simp only [Act.put, qsT, qsZ, qsS]) | (refine wpList_step (fun K hK => ?_); go_simp; (with_reducible refine hK _ _ ?_); clear hK K)
   iterate 2 (refine wpList_plain rfl (fun K hK => ?_); go_simp; with_reducible refine hK _ _ ?_; clear hK K)
   first | ((with_reducible refine wpList_skip ?_ ?_); (· first | (go_simp; done) | (go_simp; intro h; cases h)); simp only [Act.put, qsT, qsZ, qsS]) | (refine wpList_step (fun K hK => ?_); go_simp; (with_reducible refine hK _ _ ?_); clear hK K)
   first | ((with_reducible refine wpList_skip ?_ ?_); (· first | (go_simp; done) | (go_simp; intro h; cases h)); simp only [Act.put, qsT, qsZ, qsS]) | (refine wpList_ld1 (t := 45) (cs := opC k v b e six ah al pt pr wy B mm d) 3 (.tmp 22) rfl (by go_simp) rfl (bo) rfl Tryd.underlying3 rfl ?_; simp only [Act.put, qsT, qsZ, qsS])
   first | ((with_reducible refine wpList_skip ?_ ?_); (· first | (go_simp; done) | (go_simp; intro h; cases h)); simp only [Act.put, qsT, qsZ, qsS]) | (refine wpList_step (fun K hK => ?_); go_simp; refine (HW.out _).mono ?_; rintro e w1 ⟨rfl, rfl⟩; (with_reducible refine hK _ _ ?_); clear hK K)
   first | ((with_reducible refine wpList_skip ?_ ?_); (· first | (go_simp; done) | (go_simp; intro h; cases h)); simp only [Act.put, qsT, qsZ, qsS]) | (refine wpList_step (fun K hK => ?_); go_simp; (with_reducible refine hK _ _ ?_); clear hK K)
   refine wpList_plain rfl (fun K hK => ?_); go_simp; with_reducible refine hK _ _ ?_; clear hK K
   go_wp2
   go_ret
   exact ⟨by rw [he.out]; rfl, G, D, ⟨A, n, c, E, by rw [hcs.out]; exact hX⟩, Grow.refl _ _ _, Chg.of_below be⟩
 iterate 2
  focus
   obtain ⟨bo, be, zV⟩ := box1 w 45 (opC k v b e six ah al pt pr wy B mm d)
   go_enter Tryd.func31, Tryd.ntmps31
   go_upto_region 1 with (fail)
   generalize w.alloc (.cells (opC k v b e six ah al pt pr wy B mm d).toArray 45) = V at *
   replace hX := hX.later be
   refine wp_region_lit ?_
   refine wpList_plain rfl (fun K hK => ?_); go_simp; with_reducible refine hK _ _ ?_; clear hK K
   refine wpList_ldA (t := 45) (cs := opC k v b e six ah al pt pr wy B mm d) 32 (.tmp 7) rfl rfl (adC six ah al) rfl (bo) rfl va1 va2 (szAd _ _ _) ?_
   refine wpList_plain rfl (fun K hK => ?_)
   go_simp
   refine (HA.out _).mono ?_
   rintro e w1 ⟨bs1, d1, rfl, rfl⟩
   with_reducible refine hK _ _ ?_
   clear hK K
   have hb1 := below_plus V bs1 d1
   replace hX := hX.later hb1
   replace bo := bo.later hb1
   replace be := be.trans (hb1.mono be.size)
   clear hb1
   generalize plus V bs1 d1 = V1 at *
   iterate 2 (refine wpList_plain rfl (fun K hK => ?_); go_simp; with_reducible refine hK _ _ ?_; clear hK K)
   first | ((with_reducible refine wpList_skip ?_ ?_); (· first | (go_simp; done) | (go_simp; intro h; cases h)); simp only [Act.put, qsT, qsZ, qsS]) | (refine wpList_step (fun K hK => ?_); go_simp; (with_reducible refine hK _ _ ?_); clear hK K)
   first | ((with_reducible refine wpList_skip ?_ ?_); (· first | (go_simp; done) | (go_simp; intro h; cases h)); simp only [Act.put, qsT, qsZ, qsS]) | (refine wpList_ld1 (t := 45) (cs := opC k v b e six ah al pt pr wy B mm d) 5 (.tmp 12) rfl (by go_simp) rfl (bo) rfl Tryd.underlying5 rfl ?_; simp only [Act.put, qsT, qsZ, qsS])
   first | ((with_reducible refine wpList_skip ?_ ?_); (· first | (go_simp; done) | (go_simp; intro h; cases h)); simp only [Act.put, qsT, qsZ, qsS]) | (refine wpList_step (fun K hK => ?_); go_simp; (with_reducible refine hK _ _ ?_); clear hK K)
   first | ((with_reducible refine wpList_skip ?_ ?_); (· first | (go_simp; done) | (go_simp; intro h; cases h)); simp only [Act.put, qsT, qsZ, qsS]) | (refine wpList_step (fun K hK => ?_); go_simp; (with_reducible refine hK _ _ ?_); clear hK K)
   first | ((with_reducible refine wpList_skip ?_ ?_); (· first | (go_simp; done) | (go_simp; intro h; cases h)); simp only [Act.put, qsT, qsZ, qsS]) | (refine wpList_step (fun K hK => ?_); go_simp; (with_reducible refine hK _ _ ?_); clear hK K)
   first | ((with_reducible refine wpList_skip ?_ ?_); (· first | (go_simp; done) | (go_simp; intro h; cases h)); simp only [Act.put, qsT, qsZ, qsS]) | (refine wpList_ld1 (t := 45) (cs := opC k v b e six ah al pt pr wy B mm d) 5 (.tmp 16) rfl (by go_simp) rfl (bo) rfl Tryd.underlying5 rfl ?_; simp only [Act.put, qsT, qsZ, qsS])
   first | ((with_reducible refine wpList_skip ?_ ?_); (· first | (go_simp; done) | (go_simp; intro h; cases h)); simp only [Act.put, qsT, qsZ, qsS]) | (refine wpList_step (fun K hK => ?_); go_simp; (with_reducible refine hK _ _ ?_); clear hK K)
   first | ((with_reducible refine wpList_skip ?_ ?_); (· first | (go_simp; done) | (go_simp; intro h; cases h)); simp only [Act.put, qsT, qsZ, qsS]) | (refine wpList_step (fun K hK => ?_); go_simp; (with_reducible refine hK _ _ ?_); clear hK K)
   iterate 2 (refine wpList_plain rfl (fun K hK => ?_); go_simp; with_reducible refine hK _ _ ?_; clear hK K)
   first | ((with_reducible refine wpList_skip ?_ ?_); (· first | (go_simp; done) | (go_simp; intro h; cases h)); simp only [Act.put, qsT, qsZ, qsS]) | (refine wpList_step (fun K hK => ?_); go_simp; (with_reducible refine hK _ _ ?_); clear hK K)
   first | ((with_reducible refine wpList_skip ?_ ?_); (· first | (go_simp; done) | (go_simp; intro h; cases h)); simp only [Act.put, qsT, qsZ, qsS]) | (refine wpList_ld1 (t := 45) (cs := opC k v b e six ah al pt pr wy B mm d) 3 (.tmp 22) rfl (by go_simp) rfl (bo) rfl Tryd.underlying3 rfl ?_; simp only [Act.put, qsT, qsZ, qsS])
   first | ((with_reducible refine wpList_skip ?_ ?_); (· first | (go_simp; done) | (go_simp; intro h; cases h)); simp only [Act.put, qsT, qsZ, qsS]) | (refine wpList_step (fun K hK => ?_); go_simp; refine (HW.out _).mono ?_; rintro e w1 ⟨rfl, rfl⟩; (with_reducible refine hK _ _ ?_); clear hK K)
   first | ((with_reducible refine wpList_skip ?_ ?_); (· first | (go_simp; done) | (go_simp; intro h; cases h)); simp only [Act.put, qsT, qsZ, qsS]) | (refine wpList_step (fun K hK => ?_); go_simp; (with_reducible refine hK _ _ ?_); clear hK K)
   refine wpList_plain rfl (fun K hK => ?_); go_simp; with_reducible refine hK _ _ ?_; clear hK K
   go_upto_region 3 with (fail)
   have HF := Lib.hid (fun w (h : CfX G D w g C A n c E) => cfgFind_any C hk hb A n c E h.vs g (six, ah, al) pt pr w h.st h.row hn1000)
   refine wp_region_lit ?_
   iterate 2 (refine wpList_plain rfl (fun K hK => ?_); go_simp; with_reducible refine hK _ _ ?_; clear hK K)
   refine wpList_ldA (t := 45) (cs := opC k v b e six ah al pt pr wy B mm d) 32 (.tmp 28) rfl rfl (adC six ah al) rfl (bo) rfl va1 va2 (szAd _ _ _) ?_
   refine wpList_plain rfl (fun K hK => ?_); go_simp; with_reducible refine hK _ _ ?_; clear hK K
   refine wpList_ld1 (t := 45) (cs := opC k v b e six ah al pt pr wy B mm d) 42 (.tmp 30) rfl (by rfl) rfl (bo) rfl Tryd.underlying42 rfl ?_
   refine wpList_plain rfl (fun K hK => ?_); go_simp; with_reducible refine hK _ _ ?_; clear hK K
   refine wpList_ld1 (t := 45) (cs := opC k v b e six ah al pt pr wy B mm d) 5 (.tmp 32) rfl (by rfl) rfl (bo) rfl Tryd.underlying5 rfl ?_
   refine wpList_plain rfl (fun K hK => ?_)
   go_simp
   refine (HF.out _ hX).mono ?_
   rintro e w1 ⟨bs1, d1, rfl, rfl⟩
   with_reducible refine hK _ _ ?_
   clear hK K
   have hb1 := below_plus V1 bs1 d1
   replace hX := hX.later hb1
   replace bo := bo.later hb1
   replace be := be.trans (hb1.mono be.size)
   clear hb1
   generalize plus V1 bs1 d1 = V2 at *
   refine wpList_plain rfl (fun K hK => ?_); go_simp; with_reducible refine hK _ _ ?_; clear hK K
   clear HF HA
   by_cases hfd : fdC C (six, ah, al) pt pr < C.vs.length
   ·have e1 : fdI C (six, ah, al) pt pr = (fdC C (six, ah, al) pt pr : Int) := if_pos hfd
    have he := Lib.hid (show addE C (⟨k, v, b, e, six, ah, al, pt, pr, wy, ms⟩ : OpR) = 7 by unfold addE; rw [if_neg (by rw [hg, hwb, HP.out]; simp), if_pos hfd])
    have hcs := Lib.hid (show addS C (⟨k, v, b, e, six, ah, al, pt, pr, wy, ms⟩ : OpR) = C from if_neg (by rw [he.out]; decide))
    rw [e1]
    generalize fdC C (six, ah, al) pt pr = fd at *
    have i0 : (0 : Int) ≤ (fd : Int) := by omega
    clear e1
    go_wp2
    go_ret
    exact ⟨by rw [he.out]; rfl, G, D, ⟨A, n, c, E, by rw [hcs.out]; exact hX⟩, Grow.refl _ _ _, Chg.of_below be⟩
   have e1 : fdI C (six, ah, al) pt pr = -1 := if_neg hfd
   rw [e1]
   clear e1
   have q0 : V2.cell? ⟨g, 278, none⟩ = some (.slice A n c) := (hX.st.cell 278).trans (stC_vips C hk hb A n c)
   by_cases h16 : 16 ≤ n
   ·have i16 : (16 : Int) ≤ (n : Int) := by omega
    have he := Lib.hid (show addE C (⟨k, v, b, e, six, ah, al, pt, pr, wy, ms⟩ : OpR) = 23 by unfold addE; rw [if_neg (by rw [hg, hwb, HP.out]; simp), if_neg hfd, if_pos (by have := HNV.out; omega)])
    have hcs := Lib.hid (show addS C (⟨k, v, b, e, six, ah, al, pt, pr, wy, ms⟩ : OpR) = C from if_neg (by rw [he.out]; decide))
    go_wp2
    go_ret
    exact ⟨by rw [he.out]; rfl, G, D, ⟨A, n, c, E, by rw [hcs.out]; exact hX⟩, Grow.refl _ _ _, Chg.of_below be⟩
   have i16 : ¬ (16 : Int) ≤ (n : Int) := by omega
   have he := Lib.hid (show addE C (⟨k, v, b, e, six, ah, al, pt, pr, wy, ms⟩ : OpR) = 0 by unfold addE; rw [if_neg (by rw [hg, hwb, HP.out]; simp), if_neg hfd, if_neg (by have := HNV.out; omega)])
   have hcs := Lib.hid (show addS C (⟨k, v, b, e, six, ah, al, pt, pr, wy, ms⟩ : OpR) = { C with vs := C.vs ++ [newV C (⟨k, v, b, e, six, ah, al, pt, pr, wy, ms⟩ : OpR)] } from if_pos he.out)
   have hzs : ∀ w, (zeroValue 102).run Tryd.prog w = .ok (.agg (stkC stk0).toArray) w := fun _ => by kernel_rfl
   go_upto_region 8 with (fail)
   clear q0 hzs
   have b7 : Below V2.heap.size V2 (V2.alloc (.cells (stkC stk0).toArray 102)) := Below.allocS (Below.refl _ _) _
   have hT : Bk (V2.alloc (.cells (stkC stk0).toArray 102)) V2.heap.size 102 (stkC stk0) := Bk.new V2 102 (stkC stk0).toArray
   have zT : V2.heap.size < (V2.alloc (.cells (stkC stk0).toArray 102)).heap.size := hT.lt
   have hwT : w.heap.size < V2.heap.size := bo.lt
   have hTG : ¬ G V2.heap.size := fun h => by have := hX.lt _ h; omega
   have hmo := fun x hx => Off.more (D' := fun b => G b ∨ b = V2.heap.size) (hX.mo x hx) (fun b hb => hb.elim .inl (fun h => .inr (by rw [h]; exact Nat.le_refl _)))
   replace hX := hX.later b7
   replace hX := hX.more (G' := fun b => G b ∨ b = V2.heap.size) (fun b hb => .inl hb) (fun b hb => hb.elim (hX.lt b) (fun h => by rw [h]; exact zT)) (fun x hx => (hmo x hx).size b7.size)
   have hTD : ¬ D V2.heap.size := fun h => hTG (hX0.out.sub _ h)
   replace bo := bo.later b7
   replace be := be.trans (b7.mono be.size)
   replace hT : Bk (V2.alloc (.cells (stkC stk0).toArray 102)) V2.heap.size 102 (stkC (stE (ev0 C) 0)) := by rw [stE_0]; exact hT
   clear b7 hmo zT
   generalize V2.alloc (.cells (stkC stk0).toArray 102) = V3 at *
   generalize V2.heap.size = T at *
   go_upto_region 9 with (fail)
   have HST := Lib.hid (And.intro hX (And.intro hT (And.intro bo be)))
   clear hX hT bo be
   go_loopw [6] (fun I wr => ∃ m : Nat, I = .int .i64 (m : Int) ∧ 1 ≤ m ∧ m ≤ 65 ∧ CfX (fun b => G b ∨ b = T) D wr g C A n c E ∧ Bk wr T 102 (stkC (stE (ev0 C) (m - 1))) ∧ Bk wr w.heap.size 45 (opC k v b e six ah al pt pr wy B mm d) ∧ Below w.heap.size w wr) (fun I _ => 65 - (intOf I).toNat)
   case atStart => exact ⟨1, rfl, Nat.le_refl _, by omega, HST.out.1, HST.out.2.1, HST.out.2.2.1, HST.out.2.2.2⟩
   case round =>
    clear HST
    obtain ⟨m, rfl, hm1, hm65, hX, hT, bo, hE⟩ := hrel
    have q0 : wr.cell? ⟨g, 278, none⟩ = some (.slice A n c) := (hX.st.cell 278).trans (stC_vips C hk hb A n c)
    by_cases h64 : m ≤ 64
    ·have i64 : (m : Int) ≤ 64 := by omega
     rcases Nat.eq_zero_or_pos n with h0 | h0
     ·have hno : hasB (ev0 C) (m : Int) 1 64 = false := by
       have : C.vs = [] := List.eq_nil_of_length_eq_zero (by have := hX.n_; omega)
       simp [ev0, this, hasB]
      have hs := stE_no' (ev0 C) m hm1 h64 hno
      rw [hs] at hT
      have h0i : ¬ (0 : Int) < (n : Int) := by omega
      have h0n : ¬ 0 < n := by omega
      clear h0
      have HH := Lib.hid (And.intro hX (And.intro hT (And.intro bo hE)))
      clear hno hs hX hT bo hE
      go_upto_region 11 with (fail)
      refine wp_region_lit ?_
      iterate 7 (refine wpList_plain rfl (fun K hK => ?_); go_simp; with_reducible refine hK _ _ ?_; clear hK K)
      iterate 9 ((with_reducible refine wpList_skip ?_ ?_); (· first | (go_simp; done) | (go_simp; intro h; cases h)); simp only [Act.put, qsT, qsZ, qsS])
      refine wpList_plain rfl (fun K hK => ?_); go_simp; with_reducible refine hK _ _ ?_; clear hK K
      go_wp2
      exact ⟨⟨m + 1, by go_num, by omega, by omega, HH.out.1, by simpa using HH.out.2.1, HH.out.2.2.1, HH.out.2.2.2⟩, by simp [intOf]; omega⟩
     ·have hlE := hX.len
      have hnv := hX.n_
      obtain ⟨bb, cur, rfl, -, hB, -⟩ := hX.row.bk h0
      have hrg : wr.rangeAt bb (0 * 8) (veC (E[0]'(by omega))) := by
       have := hX.row.rs.rangeE veC_len 0 (by omega)
       rwa [Nat.zero_add] at this
      rw [Nat.zero_mul] at hrg
      have q7 : wr.cell? ⟨bb, 7, none⟩ = some (.pointer (some ⟨(E[0]'(by omega)).2.T, 0, none⟩)) := by simpa using hrg 7 _ rfl
      have hmem : E[0]'(by omega) ∈ E := List.getElem_mem _
      have hvm : (E[0]'(by omega)).1 ∈ C.vs := by rw [← hX.vs]; exact List.mem_map.2 ⟨_, hmem, rfl⟩
      have hvo := hC.vs _ hvm
      have hev : ∀ i : Int, deadS (E[0]'(by omega)).1.S i = hasB (ev0 C) i 1 64 := fun i => by rw [hasB_dead, hvo.ev]
      generalize E[0]'(by omega) = x0 at *
      have HEV := Lib.hid (fun w (h : CfX (fun b => G b ∨ b = T) D w g C (some ⟨bb, 0, none⟩) n c E) => evicted_any x0.1.S hvo.st.ev x0.2.T (m : Int) (by omega) w (h.tb x0 hmem))
      rw [hev] at HEV
      have h0i : (0 : Int) < (n : Int) := by omega
      clear hrg hvm hvo hev hB hnv hlE
      go_upto_region 11 with (fail)
      refine wp_region_lit ?_
      iterate 7 (refine wpList_plain rfl (fun K hK => ?_); go_simp; with_reducible refine hK _ _ ?_; clear hK K)
      iterate 8 (refine wpList_step (fun K hK => ?_); go_simp; with_reducible refine hK _ _ ?_; clear hK K)
      refine wpList_step (fun K hK => ?_)
      go_simp
      refine (HEV.out _ hX).mono ?_
      rintro e w1 ⟨bs1, d1, rfl, rfl⟩
      with_reducible refine hK _ _ ?_
      clear hK K
      have hb1 := below_plus wr bs1 d1
      replace hX := hX.later hb1
      replace hT := hT.later hb1
      replace bo := bo.later hb1
      replace hE := hE.trans (hb1.mono hE.size)
      clear hb1
      generalize plus wr bs1 d1 = W2 at *
      refine wpList_plain rfl (fun K hK => ?_); go_simp; with_reducible refine hK _ _ ?_; clear hK K
      clear HEV q0 q7
      cases hd : hasB (ev0 C) (m : Int) 1 64
      ·have hs := stE_no' (ev0 C) m hm1 h64 hd
       rw [hs] at hT
       have HH := Lib.hid (And.intro hX (And.intro hT (And.intro bo hE)))
       clear hd hs hX hT bo hE
       go_wp2
       exact ⟨⟨m + 1, by go_num, by omega, by omega, HH.out.1, by simpa using HH.out.2.1, HH.out.2.2.1, HH.out.2.2.2⟩, by simp [intOf]; omega⟩
      ·have hs := stE_yes' (ev0 C) m hm1 h64 hd
       have HET := Lib.hid (fun w h => evict_any (stE (ev0 C) (m - 1)) (stE_ok _ _ (by omega)) T (m : Int) (by omega) w h)
       rw [hs] at HET
       clear hd hs
       go_upto_region 12 with (fail)
       refine wp_region_lit ?_
       iterate 2 (refine wpList_plain rfl (fun K hK => ?_); go_simp; with_reducible refine hK _ _ ?_; clear hK K)
       refine wpList_plain rfl (fun K hK => ?_)
       go_simp
       refine (HET.out _ hT).mono ?_
       rintro e w1 ⟨rfl, hT2, hc2⟩
       with_reducible refine hK _ _ ?_
       clear hK K
       replace hX := hX.chg hc2 (fun b hb => .inr hb) (fun b hb => by rw [show b = T from hb]; exact hTD)
       replace bo := bo.chg hc2 (fun e => by have e : w.heap.size = T := e; omega)
       replace hE := hE.trans (hc2.below (fun b hb => by have hb : b = T := hb; omega) hE.size)
       have HH := Lib.hid (And.intro hX (And.intro hT2 (And.intro bo hE)))
       clear hX hT hT2 bo hE hc2 HET
       go_wp2
       exact ⟨⟨m + 1, by go_num, by omega, by omega, HH.out.1, by simpa using HH.out.2.1, HH.out.2.2.1, HH.out.2.2.2⟩, by simp [intOf]; omega⟩
    ·have i64 : ¬ (m : Int) ≤ 64 := by omega
     obtain rfl : m = 65 := by omega
     replace hT : Bk wr T 102 (stkC (stE (ev0 C) 64)) := hT
     rw [stE_64 _ hev64] at hT
     clear hm1 hm65 h64
     obtain ⟨v0, hv0⟩ : ∃ v0, (newV C (⟨k, v, b, e, six, ah, al, pt, pr, wy, ms⟩ : OpR)) = v0 := ⟨_, rfl⟩
     have hbld : ∀ w, (Instr.build 53 #[(0, .agg (adC six ah al).toArray), (1, .int .u16 (pt : Int)), (2, .int .u8 (pr : Int)), (3, .int .i64 wy), (5, .pointer (some ⟨T, 0, none⟩))]).run Tryd.prog w = .ok (.agg (veC (v0, ⟨none, 0, 0, T⟩)).toArray) w := fun w => by rw [← hv0]; exact run_buildVe six ah al pt pr wy T _ rfl rfl rfl rfl w
     have HV0 := Lib.hid hv0
     clear hv0
     go_upto_region 13 with (fail)
     clear q0
     refine wp_relES 16 86 [0] rfl (by kernel_rfl) (by kernel_rfl) ?_
     apply Steps.oneP (.pointer (some ⟨g, 0, none⟩)) 1 rfl (by decide)
     ·intro o ho FA x hO hD
      obtain rfl := qoi ho
      have e0 := hO 0 (by kernel_rfl)
      simp only [eval_tmp, qgT, qgS, qgZ, qoS] at e0
      have ev0 := Lib.hid ((eval_tmp FA 0).trans e0)
      clear hO hD ho
      refine .inl ⟨by simp [Region.wanted], fun w => ?_⟩
      go_simp
     apply Steps.oneE (MP.eq _) 2 rfl (by decide)
     ·intro o ho FA x hO hD K hK
      obtain rfl := qoi ho
      have e0 := hO 0 (by kernel_rfl)
      simp only [eval_tmp, qgT, qgS, qgZ, qoS] at e0
      have ev0 := Lib.hid ((eval_tmp FA 0).trans e0)
      clear hO hD ho
      go_simp
      exact hK.out _ _ (Ex.refl _) rfl
     apply Steps.oneE (MP.eq _) 3 rfl (by decide)
     ·intro o ho FA x hO hD K hK
      obtain rfl := qoi ho
      obtain ⟨e68, ev68⟩ := qE (hD 1 68 (by kernel_rfl))
      clear hO hD ho
      go_simp
      exact hK.out _ _ (Ex.refl _) rfl
     apply Steps.oneE (MP.eq _) 4 rfl (by decide)
     ·intro o ho FA x hO hD K hK
      obtain rfl := qoi ho
      obtain ⟨e69, ev69⟩ := qE (hD 2 69 (by kernel_rfl))
      clear hO hD ho
      go_simp
      exact hK.out _ _ (Ex.refl _) rfl
     apply Steps.oneE (MP.eq _) 5 rfl (by decide)
     ·intro o ho FA x hO hD K hK
      obtain rfl := qoi ho
      obtain ⟨e70, ev70⟩ := qE (hD 3 70 (by kernel_rfl))
      clear hO hD ho
      refine wanted_if rfl ?_
      refine wp_ld1 83 (.tmp 70) rfl ev70.out (hX.st.later (below_plus _ _ _)) (stC_vips C hk hb A n c) Tryd.underlying83 rfl ?_
      exact hK.out _ _ (Ex.refl _) rfl
     apply Steps.oneE (MP.eq _) 6 rfl (by decide)
     ·intro o ho FA x hO hD K hK
      obtain rfl := qoi ho
      have e3 := hO 3 (by kernel_rfl)
      simp only [eval_tmp, qgT, qgS, qgZ, qoS] at e3
      have ev3 := Lib.hid ((eval_tmp FA 3).trans e3)
      clear hO hD ho
      go_simp
      exact hK.out _ _ (Ex.refl _) rfl
     apply Steps.oneE (MP.eq _) 7 rfl (by decide)
     ·intro o ho FA x hO hD K hK
      obtain rfl := qoi ho
      obtain ⟨e72, ev72⟩ := qE (hD 5 72 (by kernel_rfl))
      clear hO hD ho
      refine wanted_if rfl ?_
      refine wp_ldA 32 (.tmp 72) rfl (adC six ah al) ev72.out (bo.later (below_plus _ _ _)) rfl va1 va2 (szAd _ _ _) ?_
      exact hK.out _ _ (Ex.refl _) rfl
     apply Steps.oneE (MP.eq _) 8 rfl (by decide)
     ·intro o ho FA x hO hD K hK
      obtain rfl := qoi ho
      have e3 := hO 3 (by kernel_rfl)
      simp only [eval_tmp, qgT, qgS, qgZ, qoS] at e3
      have ev3 := Lib.hid ((eval_tmp FA 3).trans e3)
      clear hO hD ho
      go_simp
      exact hK.out _ _ (Ex.refl _) rfl
     apply Steps.oneE (MP.eq _) 9 rfl (by decide)
     ·intro o ho FA x hO hD K hK
      obtain rfl := qoi ho
      obtain ⟨e74, ev74⟩ := qE (hD 7 74 (by kernel_rfl))
      clear hO hD ho
      refine wanted_if rfl ?_
      refine wp_ld1 42 (.tmp 74) rfl ev74.out (bo.later (below_plus _ _ _)) rfl Tryd.underlying42 rfl ?_
      exact hK.out _ _ (Ex.refl _) rfl
     apply Steps.oneE (MP.eq _) 10 rfl (by decide)
     ·intro o ho FA x hO hD K hK
      obtain rfl := qoi ho
      have e3 := hO 3 (by kernel_rfl)
      simp only [eval_tmp, qgT, qgS, qgZ, qoS] at e3
      have ev3 := Lib.hid ((eval_tmp FA 3).trans e3)
      clear hO hD ho
      go_simp
      exact hK.out _ _ (Ex.refl _) rfl
     apply Steps.oneE (MP.eq _) 11 rfl (by decide)
     ·intro o ho FA x hO hD K hK
      obtain rfl := qoi ho
      obtain ⟨e76, ev76⟩ := qE (hD 9 76 (by kernel_rfl))
      clear hO hD ho
      refine wanted_if rfl ?_
      refine wp_ld1 5 (.tmp 76) rfl ev76.out (bo.later (below_plus _ _ _)) rfl Tryd.underlying5 rfl ?_
      exact hK.out _ _ (Ex.refl _) rfl
     apply Steps.oneE (MP.eq _) 12 rfl (by decide)
     ·intro o ho FA x hO hD K hK
      obtain rfl := qoi ho
      have e3 := hO 3 (by kernel_rfl)
      simp only [eval_tmp, qgT, qgS, qgZ, qoS] at e3
      have ev3 := Lib.hid ((eval_tmp FA 3).trans e3)
      clear hO hD ho
      go_simp
      exact hK.out _ _ (Ex.refl _) rfl
     apply Steps.oneE (MP.eq _) 13 rfl (by decide)
     ·intro o ho FA x hO hD K hK
      obtain rfl := qoi ho
      obtain ⟨e78, ev78⟩ := qE (hD 11 78 (by kernel_rfl))
      clear hO hD ho
      refine wanted_if rfl ?_
      refine wp_ld1 3 (.tmp 78) rfl ev78.out (bo.later (below_plus _ _ _)) rfl Tryd.underlying3 rfl ?_
      exact hK.out _ _ (Ex.refl _) rfl
     apply Steps.oneE (MP.eq _) 14 rfl (by decide)
     ·intro o ho FA x hO hD K hK
      obtain rfl := qoi ho
      have e5 := hO 5 (by kernel_rfl)
      simp only [eval_tmp, qgT, qgS, qgZ, qoS] at e5
      have ev5 := Lib.hid ((eval_tmp FA 5).trans e5)
      clear hO hD ho
      go_simp
      exact hK.out _ _ (Ex.refl _) rfl
     apply Steps.oneE (MP.eq _) 15 rfl (by decide)
     ·intro o ho FA x hO hD K hK
      obtain rfl := qoi ho
      obtain ⟨e73, ev73⟩ := qE (hD 6 73 (by kernel_rfl))
      obtain ⟨e75, ev75⟩ := qE (hD 8 75 (by kernel_rfl))
      obtain ⟨e77, ev77⟩ := qE (hD 10 77 (by kernel_rfl))
      obtain ⟨e79, ev79⟩ := qE (hD 12 79 (by kernel_rfl))
      obtain ⟨e80, ev80⟩ := qE (hD 13 80 (by kernel_rfl))
      clear hO hD ho
      refine wanted_if rfl ?_
      refine wp_buildV 53 [(0, .tmp 73), (1, .tmp 75), (2, .tmp 77), (3, .tmp 79), (5, .tmp 80)] rfl (.agg (veC (v0, ⟨none, 0, 0, T⟩)).toArray) (by simp only [List.map_cons, List.map_nil, ev73.out, ev75.out, ev77.out, ev79.out, ev80.out]; exact hbld _) ?_
      exact hK.out _ _ (Ex.refl _) rfl
     apply Steps.oneE (MP.ofs 53 8 0 (veC (v0, ⟨none, 0, 0, T⟩))) 16 rfl (by decide)
     ·intro o ho FA x hO hD K hK
      obtain rfl := qoi ho
      obtain ⟨e81, ev81⟩ := qE (hD 14 81 (by kernel_rfl))
      clear hO hD ho
      go_simp
      refine hK.out _ _ (Ex.alloc _ _) ⟨_, _, rfl, ?_⟩
      have h := Os.lit (s := 8) (e := 53) (base := 0) (plus wr x.bs x.d) (Nat.zero_le _) (veC (v0, ⟨none, 0, 0, T⟩)).toArray 1 rfl (by decide)
      exact h
     refine Steps.fin_ (fun vs x hp => ?_)
     have p0 : vs 0 = _ := hp 0 (by omega)
     have p1 : vs 1 = _ := hp 1 (by omega)
     have p2 : vs 2 = _ := hp 2 (by omega)
     have p3 : vs 3 = _ := hp 3 (by omega)
     have p4 : vs 4 = _ := hp 4 (by omega)
     have p5 : vs 5 = _ := hp 5 (by omega)
     have p6 : vs 6 = _ := hp 6 (by omega)
     have p7 : vs 7 = _ := hp 7 (by omega)
     have p8 : vs 8 = _ := hp 8 (by omega)
     have p9 : vs 9 = _ := hp 9 (by omega)
     have p10 : vs 10 = _ := hp 10 (by omega)
     have p11 : vs 11 = _ := hp 11 (by omega)
     have p12 : vs 12 = _ := hp 12 (by omega)
     have p13 : vs 13 = _ := hp 13 (by omega)
     have p14 : vs 14 = _ := hp 14 (by omega)
     have p15 := hp 15 (by omega)
     clear hp
     simp only [List.take_succ_cons, List.take_zero, List.drop_succ_cons, List.drop_zero, putAll, Nat.zero_add, Nat.reduceAdd, Act.put, qsT, qsZ, qsS, p0, p1, p2, p3, p4, p5, p6, p7, p8, p9, p10, p11, p12, p13, p14]
     clear p0 p1 p2 p3 p4 p5 p6 p7 p8 p9 p10 p11 p12 p13 p14
     generalize vs 15 = y15 at *
     clear vs
     obtain ⟨A15, n15, rfl, h15⟩ := p15
     obtain rfl : n15 = 1 := by have := h15.1; rw [veC_len] at this; omega
     have hb13 := below_plus wr x.bs x.d
     replace hX := hX.later hb13
     replace hT := hT.later hb13
     replace hE := hE.trans (hb13.mono hE.size)
     clear hb13 bo
     generalize plus wr x.bs x.d = Z at *
     have hgr := hX.own_ne_g
     refine wpList_appS2 etVe rfl (.tmp 71) (.tmp 82) rfl rfl hX.row rfl h15.rs (veC_one _) (by omega) (Nat.zero_le _) ?_
     intro A5 n5 c5 w5 hn5 hO5 hb5 hg5 hob5
     subst hn5
     simp only [Act.put, qsT, qsZ, qsS]
     have hst5 := hX.st.grown hg5 hgr
     iterate 2 (refine wpList_plain rfl (fun K hK => ?_); go_simp; with_reducible refine hK _ _ ?_; clear hK K)
     refine wpList_st1 (v := .slice A5 (n + 1) c5) 83 (.tmp 85) (.tmp 83) rfl rfl rfl rfl hst5 (by rw [stC_len C hk hb]; omega) rfl (by kernel_rfl) ?_
     intro W6 h6 g6
     simp only [Act.put, qsT, qsZ, qsS]
     have hg6 := hX.add hT (Or.inr rfl) hTD (by rw [← HV0.out]; rfl) (by rw [← HV0.out]; rfl) hO5 hg5 (fun b hb => by
      rcases hob5 with h | h
      ·exact .inl (by rw [← h]; exact hb)
      ·rw [h] at hb; injection hb with hb; exact .inr (by omega)) (C' := { C with vs := C.vs ++ [v0] }) (by rw [← stC_setVips C hk hb A n c]; exact h6) g6 rfl
     have hch : Chg D w W6 := ((Chg.of_below hE).trans (Chg.grown hg5 (fun k hk => hX.dr k hk))).trans (Chg.one g6 hX.dg)
     go_wp2
     go_wp2
     apply_assumption
     go_wp2
     go_ret
     refine ⟨by rw [he.out]; rfl, (fun b => (G b ∨ b = T) ∨ (Value.slice A5 (n + 1) c5).ownBlock = some b), (fun b => D b ∨ b = T ∨ (Value.slice A5 (n + 1) c5).ownBlock = some b), ⟨_, _, _, _, by rw [hcs.out, HV0.out]; exact hg6⟩, ⟨fun b hb => .inl (.inl hb), fun b hb => ?_, fun b hb => ?_⟩, hch⟩
     ·rcases hb with (hb | hb) | hb
      ·exact .inl hb
      ·exact .inr (by rw [hb]; exact Nat.le_of_lt hwT)
      ·rcases hob5 with h | h
       ·exact .inl (hX0.out.sub _ (hX.dr b (by rw [← h]; exact hb)))
       ·rw [h] at hb; injection hb with hb; exact .inr (by rw [← hb]; exact hE.size)
     ·rcases hb with hb | hb | hb
      ·exact .inl hb
      ·exact .inr (by rw [hb]; exact Nat.le_of_lt hwT)
      ·rcases hob5 with h | h
       ·exact .inl (hX.dr b (by rw [← h]; exact hb))
       ·rw [h] at hb; injection hb with hb; exact .inr (by rw [← hb]; exact hE.size)
end

section
open Go.RowKit
attribute [local go_sem ↓] sliced_cut
attribute [local go_sem] cutA_zero
theorem mclone_any (ms : List (Int × Int)) (A : Option Addr) (n c : Nat) (w : World) (h : Rs 2 w A n c (prs .i64 ms)) (hm : n ≤ 1000000) : Calls Tryd.prog 23 #[.slice A n c] w (RetOs 68 2 w (prs .i64 ms)) := by
 have hnil := fun w => Lib.run_eql_slice_nil (P := Tryd.prog) w 43 68 A n c 0 0 Tryd.underlying43
 cases A with
 | none =>
  go_enter Tryd.func23, Tryd.ntmps23
  go_wp2
  go_ret
  have : prs .i64 ms = [] := by
   rcases h.2.2 with h | ⟨b, off, h, _⟩
   ·exact h
   ·cases h
  rw [this]
  exact RetOs.mk Os.nil_ (Below.refl _ _)
 | some ad =>
  go_enter Tryd.func23, Tryd.ntmps23
  go_wp2_with (at_builtin; refine wpList_appS etCm rfl (.tmp 5) (.tmp 6) rfl rfl (Os.lit w (Nat.le_refl _) #[] 0 rfl (Nat.zero_le _)) rfl (h.alloc _) (prs_one _ _) (by omega) (by simp) ?_; intro A2 n2 c2 w4 hn2 hO4 hb4 hg4; subst hn2)
  go_ret
  simp only [List.nil_append, Nat.zero_add] at hO4
  exact RetOs.mk hO4 ((Below.allocS (Below.refl _ _) _).trans (hb4.mono (by simp)))
section
variable {G D : Nat → Prop} {w w' : World} {g : Nat} {C : Cf} {A : Option Addr} {n c : Nat} {E : List Ve}
theorem CfX.setRow (h : CfX G D w g C A n c E) {i : Nat} {x : Ve} (hi : E[i]? = some x) {b0 : Nat} {cur : List Value} (hA : A = some ⟨b0, 0, none⟩) (hB : Bk w b0 53 cur) {j : Nat} {u : Value} (hj : j < 8) {y : Ve} (hy : (veC x).set j u = veC y) (hyT : y.2.T = x.2.T) (hyS : y.1.S = x.1.S)
  (hg : w.grownBy w' (some b0)) (hb : Bk w' b0 53 (cur.set (i * 8 + j) u)) (hm : Rs 2 w' y.2.A y.2.n y.2.c (prs .i64 y.1.ms)) (ho : Off G w' y.2.A) : CfX G D w' g { C with vs := C.vs.set i y.1 } A n c (E.set i y) := by
 have hx := List.mem_of_getElem? hi
 have hil := (List.getElem?_eq_some_iff.1 hi).1
 have hxi : E[i] = x := (List.getElem?_eq_some_iff.1 hi).2
 have hn0 : 0 < n := by have := h.len; have := h.n_; omega
 obtain ⟨b1, cur1, hA1, hob, hB1, hl, ht, hnc, hcm⟩ := h.row.bk hn0
 have e1 : b1 = b0 := by rw [hA] at hA1; injection hA1 with hA1; injection hA1 with hA1; exact hA1.symm
 subst e1
 obtain rfl := hB1.same hB
 have hD := h.dr _ hob
 have hG := h.sub _ hD
 have hc : Chg (fun b => b = b1) w w' := Chg.one hg rfl
 have mem : ∀ z ∈ E.set i y, z = y ∨ (∃ j, ∃ hj : j < E.length, j ≠ i ∧ z = E[j]) := by
  intro z hz
  obtain ⟨k, hk, rfl⟩ := List.mem_iff_getElem.1 hz
  rw [List.length_set] at hk
  rw [List.getElem_set]
  split
  ·exact .inl rfl
  ·rename_i hne
   exact .inr ⟨k, hk, fun e => hne e.symm, rfl⟩
 refine ⟨?_, h.st.chg hc (fun e => hB1.apart h.st (by decide) e.symm), ?_, h.dr, h.dg, ?_, ?_, ?_, ?_, ?_, h.sub, fun b hb' => Nat.lt_of_lt_of_le (h.lt b hb') hc.size⟩
 ·show _ = C.vs.set i _
  rw [List.map_set, h.vs]
 ·subst hA
  refine Os.of_bk hb (by rw [List.length_set]; exact hl) ?_ hnc hcm (by rw [flat_len veC 8 veC_len, List.length_set]; have := h.len; have := h.n_; omega)
  rw [List.take_set, ht, flat_set veC 8 veC_len E i hil y j u hj (by rw [hxi]; exact hy)]
 ·intro z hz
  rcases mem z hz with rfl | ⟨k, hk, _, rfl⟩
  ·rw [hyT, hyS]
   exact (h.tb x hx).chg hc (fun e => hB1.apart (h.tb x hx) (by decide) e.symm)
  ·exact (h.tb _ (List.getElem_mem hk)).chg hc (fun e => hB1.apart (h.tb _ (List.getElem_mem hk)) (by decide) e.symm)
 ·intro z hz
  rcases mem z hz with rfl | ⟨k, hk, _, rfl⟩
  ·rw [hyT]; exact h.dt x hx
  ·exact h.dt _ (List.getElem_mem hk)
 ·intro z hz
  rcases mem z hz with rfl | ⟨k, hk, _, rfl⟩
  ·exact hm
  ·exact (h.mm _ (List.getElem_mem hk)).chg hc (fun a ha e => (h.mo _ (List.getElem_mem hk) a ha).2 (by rw [e]; exact hG))
 ·intro z hz
  rcases mem z hz with rfl | ⟨k, hk, _, rfl⟩
  ·exact ho
  ·exact (h.mo _ (List.getElem_mem hk)).size hc.size
 ·rw [List.map_set, hyT]
  have : (E.map (·.2.T)).set i x.2.T = E.map (·.2.T) := by
   apply List.ext_getElem
   ·simp
   ·intro j h1 h2
    rw [List.getElem_set]
    split
    ·rename_i e; subst e; simp [hxi]
    ·rfl
  rw [this]
  exact h.nd
end
def setS (C : Cf) (i : Nat) (v : Vp) (ms : List (Int × Int)) : Cf := if setE C v ms = 0 then { C with vs := C.vs.set i (setV v ms) } else C
set_option maxHeartbeats 4000000 in
set_option maxRecDepth 100000 in
theorem setMembers_any {G D : Nat → Prop} (ms : List (Int × Int)) (B : Option Addr) (mm d : Nat) (C : Cf) (hC : CfOk C) (g : Nat) (A : Option Addr) (n c : Nat) (E : List Ve) (w : World) (hX : CfX G D w g C A n c E) (hr : Rs 2 w B mm d (prs .i64 ms)) (hB0 : Off G w B) (hm : mm ≤ 1000000) (i b0 : Nat) (x : Ve) (hi : E[i]? = some x) (hA : A = some ⟨b0, 0, none⟩) : Calls Tryd.prog 34 #[.pointer (some ⟨g, 0, none⟩), .pointer (some ⟨b0, i * 8, none⟩), .slice B mm d] w (RetCf G D w g (setS C i x.1 ms) (.int .i64 (setE C x.1 ms : Nat))) := by
 have hml : ms.length = mm := by have := hr.1; rw [prs_length] at this; omega
 obtain ⟨dm, m1, m2⟩ := rowMb
 obtain ⟨dvt, vt1, vt2⟩ := rowTab
 have HFT := Lib.hid (fun w h h2 => fit_any ms B mm d C hC g A n c w h h2 hm)
 have hmem := List.mem_of_getElem? hi
 have hil := (List.getElem?_eq_some_iff.1 hi).1
 have hxi : E[i] = x := (List.getElem?_eq_some_iff.1 hi).2
 have hvm : x.1 ∈ C.vs := by rw [← hX.vs]; exact List.mem_map.2 ⟨x, hmem, rfl⟩
 have hok := (hC.vs _ hvm).st
 have hn0 : 0 < n := by have := hX.len; have := hX.n_; omega
 have HI := Lib.hid hi
 have be := Below.refl w.heap.size w
 have HGL := Lib.hid hX.lt
 have HVS := Lib.hid hX.vs
 have HML := Lib.hid hml
 have hin : i < n := by have := hX.len; have := hX.n_; omega
 have HTL := Lib.hid (hX.lt _ (hX.sub _ (hX.dt x hmem)))
 clear hi
 cases hfit : okM C ms
 ·rw [hfit] at HFT
  have he := Lib.hid (show setE C x.1 ms = 1 by unfold setE; rw [if_pos hfit])
  have hcs := Lib.hid (show setS C i x.1 ms = C from if_neg (by rw [he.out]; decide))
  clear hxi hA
  go_enter Tryd.func34, Tryd.ntmps34
  go_upto_region 2 with (go_at_call 21; refine (HFT.out _ hX.st hr).mono ?_; rintro e w1 ⟨bs1, d1, rfl, rfl⟩)
  replace hX := hX.later (below_plus w bs1 d1)
  replace be := belowP be bs1 d1
  go_wp2
  go_ret
  exact ⟨by rw [he.out]; rfl, G, D, ⟨_, n, c, E, by rw [hcs.out]; exact hX⟩, Grow.refl _ _ _, Chg.of_below be⟩
 ·rw [hfit] at HFT
  have hm64 : mm ≤ 64 := by have := okM_len hfit; omega
  have HFIT := Lib.hid hfit
  clear hfit
  subst hA
  go_enter Tryd.func34, Tryd.ntmps34
  go_upto_region 4 with (go_at_call 21; refine (HFT.out _ hX.st hr).mono ?_; rintro e w1 ⟨bs1, d1, rfl, rfl⟩)
  have hb1 := below_plus w bs1 d1
  have hX1 := hX.later hb1
  replace hr := hr.later hb1
  replace hB0 := hB0.size hb1.size
  replace be := be.trans (hb1.mono be.size)
  have hwV := Lib.hid be.size
  clear hb1 HFT
  generalize plus w bs1 d1 = V at *
  go_upto_region 5 with (fail)
  have hO0 : Os 3 1 V V.heap.size none 0 0 (itK ((ms.take 0).map (·.1))) := Os.nil_
  have bv := Below.refl V.heap.size V
  go_loopw [7, 21] (fun OUT I wr => ∃ (j : Nat) (Ab : Option Addr) (kb cb : Nat), I = .int .i64 (j : Int) ∧ OUT = .slice Ab kb cb ∧ j ≤ mm ∧ Os 3 1 wr V.heap.size Ab kb cb (itK ((ms.take j).map (·.1))) ∧ Below V.heap.size V wr) (fun _ I _ => mm - (intOf I).toNat)
  case atStart => exact ⟨0, none, 0, 0, rfl, rfl, Nat.zero_le _, hO0, bv⟩
  case round =>
   clear hO0 bv
   obtain ⟨j, Ab, kb, cb, rfl, rfl, hj, hO, hE⟩ := hrel
   have hkb : kb = j := by have := hO.1; rw [itK_len] at this; simp at this; omega
   by_cases hlt : j < mm
   ·have ij : (j : Int) < (mm : Int) := by omega
    have hjL : j < ms.length := by omega
    obtain ⟨bl, ol, rfl, hbl, -⟩ := (hr.later hE).at_ (by omega) (by decide)
    have hg7 := rng_pr ((hr.later hE).range2 j hjL)
    have hsn : ms.take (j + 1) = ms.take j ++ [ms[j]] := by simp
    generalize ms[j] = p at *
    obtain ⟨xb, yb⟩ := p
    have HSN := Lib.hid hsn
    have hkb60 : kb ≤ 64 := by omega
    clear hsn hkb
    go_upto_region 7 with (first
     | (refine at_op (.load 68 (.tmp 23)) rfl ?_; refine wpList_load_mid rfl 68 (.tmp 23) rfl bl (ol + j * 2) rfl [.int .i64 xb, .int .i64 yb] _ hg7 m1 m2 (szMb _ _) ?_)
     | (refine at_op (.store 68 (.tmp 9) (.tmp 24)) rfl ?_; refine wpList_stA (t := 68) 68 (.tmp 9) (.tmp 24) rfl rfl [.int .i64 xb, .int .i64 yb] [.int .i64 0, .int .i64 0] rfl (by simp [Value.oneCell']) rfl rfl (Bk.new _ _ _) (szMb _ _) ?_; intro W4 h4 g4))
    have be4 : Below wr.heap.size wr W4 := below_grown (Below.allocS (Below.refl _ _) _) g4 (Nat.le_refl _)
    have q0 : W4.cell? ⟨wr.heap.size, 0, none⟩ = some (.int .i64 xb) := h4.cell 0
    replace hE := hE.trans (be4.mono hE.size)
    replace hO := hO.later be4
    clear be4 h4 g4 hg7
    generalize wr.heap.size = gm at *
    go_wp2_with (at_builtin; refine wpList_appS etI rfl (.tmp 25) (.tmp 28) rfl rfl (hO.later (Below.allocS (Below.refl _ _) _)) rfl (Rs.of_bk (n := 1) (c := 1) (Bk.new W4 _ _) rfl (Nat.le_refl _)) (by simp [Value.oneCell']) (by omega) (by have := hE.size; simp; omega) ?_; intro A2 n2 c2 w4 hn2 hO4 hb4 hg4; subst hn2)
    exact ⟨⟨j + 1, A2, _, c2, by go_num, rfl, by omega, by rw [HSN.out, List.map_append, itK_append]; exact hO4, (Below.allocS hE _).trans hb4⟩, by simp [intOf]; omega⟩
   ·obtain rfl : j = mm := by omega
    have ij : ¬ (j : Int) < (j : Int) := by omega
    rw [List.take_of_length_le (by omega)] at hO
    have hX := hX1.later hE
    have hEV := Lib.hid hE
    replace hr := hr.later hE
    replace hB0 := hB0.size hE.size
    replace hE := be.trans (hE.mono be.size)
    have hkb60 : kb ≤ 64 := by omega
    have zVr := hEV.out.size
    clear hkb hj hX1 be hml hEV
    obtain ⟨bb, cur, hA1, hob, hBr, hcl, -, hnc, -⟩ := hX.row.bk hn0
    have e1 : bb = b0 := by injection hA1 with hA1; injection hA1 with hA1; exact hA1.symm
    subst e1
    clear hA1
    have HBL := Lib.hid (HGL.out _ (hX.sub _ (hX.dr _ hob)))
    have hTw := hX.tb x hmem
    have hDT := hX.dt x hmem
    have hrT := hX.ne_row hmem _ hob
    have hQ0 : ∀ W, Chg (fun b => b = x.2.T) w W → W.cell? ⟨bb, i * 8 + 7, none⟩ = some (.pointer (some ⟨x.2.T, 0, none⟩)) := fun W hc => by
     have h0 := ‹CfX G D w g C _ n c E›
     have := (h0.row.rs.chg hc (fun a ha e => by injection ha with ha; subst ha; exact hrT e)).rangeE veC_len i hil
     rw [Nat.zero_add, hxi] at this
     exact this 7 _ rfl
    obtain ⟨T, hT0⟩ : ∃ T, x.2.T = T := ⟨_, rfl⟩
    rw [hT0] at hTw hDT hrT hQ0
    have HQ := Lib.hid hQ0
    have HT0 := Lib.hid hT0
    have q7 := hQ0 wr (Chg.of_below hE)
    have hT := hTw
    obtain ⟨S, hS0⟩ : ∃ S, x.1.S = S := ⟨_, rfl⟩
    rw [hS0] at hT hok
    obtain ⟨xn, bn, hnw⟩ := newest_ex S hok.len
    have HN := Lib.hid (fun w h => hnw T w h)
    have htk := newT_ok hok
    have HNX := Lib.hid (fun w (h : Rs 1 w Ab kb cb (itK (ms.map (·.1)))) => tabNext_any (newT S) htk (ms.map (·.1)) Ab kb cb w h (by omega))
    have HP := Lib.hid (fun w h => push_any S hok T (tNext (newT S) (ms.map (·.1))) w h)
    have hsv : setV x.1 ms = { x.1 with S := pushS S (tNext (newT S) (ms.map (·.1))), ms := ms } := by unfold setV tabS; rw [hS0]
    have hse : setE C x.1 ms = pushE S := by unfold setE; rw [if_neg (by rw [HFIT.out]; simp), hS0]
    have HSV := Lib.hid hsv
    have HSE := Lib.hid hse
    clear hnw hT0 hTw hQ0 hsv hse
    generalize newT S = TT0 at *
    generalize tNext TT0 (ms.map (·.1)) = TT at *
    obtain ⟨ES, hES⟩ : ∃ ES, pushS S TT = ES := ⟨_, rfl⟩
    rw [hES] at HP HSV
    have HES := Lib.hid hES
    have HS0 := Lib.hid hS0
    clear hES hS0
    have hzt : ∀ w, (zeroValue 73).run Tryd.prog w = .ok (.agg (tabC []).toArray) w := fun _ => by kernel_rfl
    go_upto_region 9 with (fail)
    refine wp_region_lit ?_
    iterate 4 (refine wpList_plain rfl (fun K hK => ?_); go_simp; with_reducible refine hK _ _ ?_; clear hK K)
    refine wpList_plain rfl (fun K hK => ?_)
    go_simp
    refine (HN.out _ hT).mono ?_
    rintro e w1 ⟨bs1, d1, rfl, rfl⟩
    with_reducible refine hK _ _ ?_
    clear hK K
    have hb1 := below_plus wr bs1 d1
    replace hX := hX.later hb1
    replace hT := hT.later hb1
    replace hO := hO.later hb1
    replace hr := hr.later hb1
    replace hBr := hBr.later hb1
    replace hE := hE.trans (hb1.mono hE.size)
    have hVs := Nat.le_trans zVr hb1.size
    clear hb1 HN q7
    generalize plus wr bs1 d1 = W at *
    iterate 6 (refine wpList_plain rfl (fun K hK => ?_); go_simp; with_reducible refine hK _ _ ?_; clear hK K)
    refine wpList_stA (t := 73) 73 (.tmp 11) (.tmp 38) rfl rfl (tabC TT0) (tabC []) (by rw [tabC_len0, tabC_len0]) (tabC_one _) rfl rfl (Bk.new _ _ _) (by rw [tabC_len0]; kernel_rfl) ?_
    intro W4 h4 g4
    refine wpList_plain rfl (fun K hK => ?_); go_simp; with_reducible refine hK _ _ ?_; clear hK K
    have be4 : Below W.heap.size W W4 := below_grown (Below.allocS (Below.refl _ _) _) g4 (Nat.le_refl _)
    replace hX := hX.later be4
    replace hT := hT.later be4
    replace hO := hO.later be4
    replace hr := hr.later be4
    replace hBr := hBr.later be4
    replace hE := hE.trans (be4.mono hE.size)
    have h4 : Bk W4 W.heap.size 73 (tabC TT0) := h4
    have zg4 : ¬ W.heap.size = T := h4.apart hT (by decide)
    clear be4 g4 hzt
    have hoT : ∀ a, Ab = some a → ¬ a.block = T := fun a ha e => by
     have h1 := (hO.blk a.block (by rw [ha]; rfl)).1
     have h2 := HTL.out
     rw [HT0.out] at h2
     have h3 := hwV.out
     omega
    go_upto_region 10 with (fail)
    refine wp_suS (fun b => b = T) 13 59 2 [7] rfl (by kernel_rfl) (by kernel_rfl) (fun k w' => Bk w' T 102 (stkC (if k = 0 then S else ES))) (fun k _ _ h hx => h.later hx.below) (hT) ?_
    apply StepsC.one (MC.eq _) 1 rfl (by decide)
    ·intro o ho FA w' hC hO hD K hK
     obtain rfl := qoi ho
     have e1 := hO 1 (by kernel_rfl)
     simp only [eval_tmp, qgT, qgS, qgZ, qoS] at e1
     have ev1 := Lib.hid ((eval_tmp FA 1).trans e1)
     clear hO hD ho
     go_simp
     exact hK.out _ _ (Ex.refl _) rfl
    apply StepsC.one (MC.eq _) 2 rfl (by decide)
    ·intro o ho FA w' hC hO hD K hK
     obtain rfl := qoi ho
     obtain ⟨e41, ev41⟩ := qE (hD 0 41 (by kernel_rfl))
     clear hO hD ho
     go_simp
     exact hK.out _ _ (Ex.refl _) rfl
    apply StepsC.one (MC.eq _) 3 rfl (by decide)
    ·intro o ho FA w' hC hO hD K hK
     obtain rfl := qoi ho
     obtain ⟨e42, ev42⟩ := qE (hD 1 42 (by kernel_rfl))
     clear hO hD ho
     go_simp
     exact hK.out _ _ (Ex.refl _) rfl
    apply StepsC.one (MC.eq _) 4 rfl (by decide)
    ·intro o ho FA w' hC hO hD K hK
     obtain rfl := qoi ho
     obtain ⟨e43, ev43⟩ := qE (hD 2 43 (by kernel_rfl))
     clear hO hD ho
     have hq := HQ.out w' ((Chg.of_below hE).trans hC)
     go_simp
     exact hK.out _ _ (Ex.refl _) rfl
    apply StepsC.one (MC.eq _) 5 rfl (by decide)
    ·intro o ho FA w' hC hO hD K hK
     obtain rfl := qoi ho
     have e11 := hO 11 (by kernel_rfl)
     simp only [eval_tmp, qgT, qgS, qgZ, qoS] at e11
     have ev11 := Lib.hid ((eval_tmp FA 11).trans e11)
     clear hO hD ho
     refine wanted_if rfl ?_
     refine wp_ldA 73 (.tmp 11) rfl (tabC TT0) ev11.out (h4.chg hC zg4) (whole_ _) vt1 vt2 (by rw [tabC_len0]; kernel_rfl) ?_
     exact hK.out _ _ (Ex.refl _) rfl
    apply StepsC.one (MC.eq _) 6 rfl (by decide)
    ·intro o ho FA w' hC hO hD K hK
     obtain rfl := qoi ho
     have e7 := hO 7 (by kernel_rfl)
     simp only [eval_tmp, qgT, qgS, qgZ, qoS] at e7
     have ev7 := Lib.hid ((eval_tmp FA 7).trans e7)
     clear hO hD ho
     go_simp
     exact hK.out _ _ (Ex.refl _) rfl
    apply StepsC.one (MC.eq _) 7 rfl (by decide)
    ·intro o ho FA w' hC hO hD K hK
     obtain rfl := qoi ho
     obtain ⟨e45, ev45⟩ := qE (hD 4 45 (by kernel_rfl))
     obtain ⟨e46, ev46⟩ := qE (hD 5 46 (by kernel_rfl))
     clear hO hD ho
     go_simp
     refine (HNX.out _ (hO.rs.chg hC hoT)).mono ?_
     rintro e w2 ⟨bs2, d2, rfl, rfl⟩
     exact hK.out _ _ (Ex.plus_ _ _ _) rfl
    apply StepsC.mov (MC.eq (.tuple #[.int .i64 (pushV S : Nat), .int .i64 (pushE S : Nat)])) 8 0 rfl rfl rfl
    ·intro o ho FA w' hC hO hD hS K hK
     obtain rfl := qoi ho
     obtain ⟨e44, ev44⟩ := qE (hD 3 44 (by kernel_rfl))
     obtain ⟨e47, ev47⟩ := qE (hD 6 47 (by kernel_rfl))
     clear hO hD ho
     go_simp
     refine (HP.out _ hS).mono ?_
     rintro e w2 ⟨rfl, hS2, hc2⟩
     exact hK.out _ _ hc2 hS2 rfl
    apply StepsC.one (MC.eq _) 9 rfl (by decide)
    ·intro o ho FA w' hC hO hD K hK
     obtain rfl := qoi ho
     obtain ⟨e48, ev48⟩ := qE (hD 7 48 (by kernel_rfl))
     clear hO hD ho
     go_simp
     exact hK.out _ _ (Ex.refl _) rfl
    apply StepsC.one (MC.eq _) 10 rfl (by decide)
    ·intro o ho FA w' hC hO hD K hK
     obtain rfl := qoi ho
     obtain ⟨e40, ev40⟩ := qE (hD 8 40 (by kernel_rfl))
     clear hO hD ho
     go_simp
     exact hK.out _ _ (Ex.refl _) rfl
    apply StepsC.one (MC.eq _) 11 rfl (by decide)
    ·intro o ho FA w' hC hO hD K hK
     obtain rfl := qoi ho
     obtain ⟨e40, ev40⟩ := qE (hD 8 40 (by kernel_rfl))
     clear hO hD ho
     go_simp
     exact hK.out _ _ (Ex.refl _) rfl
    apply StepsC.one (MC.eq _) 12 rfl (by decide)
    ·intro o ho FA w' hC hO hD K hK
     obtain rfl := qoi ho
     obtain ⟨e49, ev49⟩ := qE (hD 9 49 (by kernel_rfl))
     clear hO hD ho
     go_simp
     exact hK.out _ _ (Ex.refl _) rfl
    apply StepsC.one (MC.eq _) 13 rfl (by decide)
    ·intro o ho FA w' hC hO hD K hK
     obtain rfl := qoi ho
     obtain ⟨e50, ev50⟩ := qE (hD 10 50 (by kernel_rfl))
     clear hO hD ho
     go_simp
     exact hK.out _ _ (Ex.refl _) rfl
    refine StepsC.fin_ (fun vs w' hC hS hp => ?_)
    have p0 : vs 0 = _ := hp 0 (by omega) rfl
    have p1 : vs 1 = _ := hp 1 (by omega) rfl
    have p2 : vs 2 = _ := hp 2 (by omega) rfl
    have p3 : vs 3 = _ := hp 3 (by omega) rfl
    have p4 : vs 4 = _ := hp 4 (by omega) rfl
    have p5 : vs 5 = _ := hp 5 (by omega) rfl
    have p6 : vs 6 = _ := hp 6 (by omega) rfl
    have p7 : vs 7 = _ := hp 7 (by omega) rfl
    have p8 : vs 8 = _ := hp 8 (by omega) rfl
    have p9 : vs 9 = _ := hp 9 (by omega) rfl
    have p10 : vs 10 = _ := hp 10 (by omega) rfl
    have p11 : vs 11 = _ := hp 11 (by omega) rfl
    have p12 : vs 12 = _ := hp 12 (by omega) rfl
    clear hp
    simp only [List.take_succ_cons, List.take_zero, List.drop_succ_cons, List.drop_zero, putAll, Nat.zero_add, Nat.reduceAdd, Act.put, qsT, qsZ, qsS, p0, p1, p2, p3, p4, p5, p6, p7, p8, p9, p10, p11, p12]
    clear p0 p1 p2 p3 p4 p5 p6 p7 p8 p9 p10 p11 p12
    clear vs
    have hwl : w.heap.size ≤ w'.heap.size := Nat.le_trans hE.size hC.size
    replace hS : Bk w' T 102 (stkC ES) := hS
    have hch : Chg D w w' := (Chg.of_below hE).trans (hC.wid (fun b hb => by rw [show b = T from hb]; exact hDT))
    have X2 := hX.setStk HI.out (S' := ES) (by rw [HT0.out]; exact hS) (by rw [HT0.out]; exact hC)
    have hr2 : Rs 2 w' B j d (prs .i64 ms) := hr.chg hC (fun a ha e => (hB0 a ha).2 (by rw [show a.block = T from e]; exact hX.sub _ hDT))
    have hB2 : Bk w' bb 53 cur := hBr.chg hC (fun e => hrT e)
    clear hX hT hO hr hBr hE h4 hC HQ hoT HNX HP
    obtain ⟨PV, hPV⟩ : ∃ PV : Int, ((pushV S : Nat) : Int) = PV := ⟨_, rfl⟩
    obtain ⟨PE, hPE⟩ : ∃ PE : Int, ((pushE S : Nat) : Int) = PE := ⟨_, rfl⟩
    rw [hPV, hPE]
    have HPE := Lib.hid hPE
    clear hPV hPE
    by_cases hf : freeS S < 8
    ·have hp0 : (PE != 0) = false := by rw [← HPE.out]; simp [pushE, hf]
     have he := Lib.hid (show setE C x.1 ms = 0 by rw [HSE.out]; exact if_pos hf)
     have hcs := Lib.hid (show setS C i x.1 ms = { C with vs := C.vs.set i (setV x.1 ms) } from if_pos he.out)
     have HCL := Lib.hid (fun w h => mclone_any ms B j d w h hm)
     clear hf
     go_upto_region 13 with (fail)
     refine wp_region_lit ?_
     iterate 2 (refine wpList_plain rfl (fun K hK => ?_); go_simp; with_reducible refine hK _ _ ?_; clear hK K)
     refine wpList_plain rfl (fun K hK => ?_)
     go_simp
     refine (HCL.out _ hr2).mono ?_
     rintro e w1 ⟨A9, n9, c9, bs1, d1, rfl, rfl, ho9⟩
     with_reducible refine hK _ _ ?_
     clear hK K
     have hb1 := below_plus w' bs1 d1
     replace X2 := X2.later hb1
     replace hB2 := hB2.later hb1
     replace hch := hch.trans (Chg.of_below hb1)
     have hn9 : n9 = j := by have := ho9.1; rw [prs_length] at this; have := HML.out; omega
     subst hn9
     have ho9lt := fun k hk => (ho9.blk k hk)
     clear hb1
     generalize plus w' bs1 d1 = W7 at *
     iterate 2 (refine wpList_plain rfl (fun K hK => ?_); go_simp; with_reducible refine hK _ _ ?_; clear hK K)
     refine wpList_st1 (v := .slice A9 n9 c9) (t := 53) (cs := cur) (off := i * 8 + 6) 43 (.tmp 58) (.tmp 56) rfl rfl rfl rfl hB2 (by omega) rfl (by kernel_rfl) ?_
     intro W8 h8 g8
     simp only [Act.put, qsT, qsZ, qsS]
     have X3 := X2.setRow (i := i) (x := ({ x.1 with S := ES }, x.2)) (by rw [List.getElem?_set_self hil]) rfl hB2 (j := 6) (u := .slice A9 n9 c9) (by decide) (y := ({ x.1 with S := ES, ms := ms }, ⟨A9, n9, c9, x.2.T⟩)) rfl rfl rfl g8 h8 (ho9.rs.chg (Chg.one (D := fun b => b = bb) g8 rfl) (fun a ha e => by
      have h1 := (ho9lt a.block (by rw [ha]; rfl)).1
      have h2 := HBL.out
      have e : a.block = bb := e
      have := hch.size
      omega)) ((Off.own ho9 (fun b hb => Nat.lt_of_lt_of_le (HGL.out b hb) hwl)).size g8.size)
     rw [List.set_set] at X3
     have hch2 : Chg D w W8 := hch.trans (Chg.one g8 (X2.dr _ hob))
     go_wp2
     go_ret
     rw [hcs.out, HSV.out]
     simp only [List.set_set] at X3
     exact ⟨by rw [he.out]; rfl, G, D, ⟨_, _, _, _, X3⟩, Grow.refl _ _ _, hch2⟩
    ·have hp0 : (PE != 0) = true := by rw [← HPE.out]; simp [pushE, hf]
     have he := Lib.hid (show setE C x.1 ms = pushE S from HSE.out)
     have hcs := Lib.hid (show setS C i x.1 ms = C from if_neg (by rw [he.out]; simp [pushE, hf]))
     have hES : ES = S := by rw [← HES.out]; exact if_neg hf
     have hid : ({ C with vs := C.vs.set i { x.1 with S := ES } } : Cf) = C := by
      have h1 : ({ x.1 with S := ES } : Vp) = x.1 := by rw [hES, ← HS0.out]
      have h2 : C.vs.set i x.1 = C.vs := by
       have h3 := HVS.out
       have : C.vs[i]? = some x.1 := by rw [← h3, List.getElem?_map, HI.out]; rfl
       obtain ⟨h4, h5⟩ := List.getElem?_eq_some_iff.1 this
       rw [← h5, List.set_getElem_self]
      rw [h1, h2]
     rw [hid] at X2
     clear hf hES hid
     go_wp2
     go_ret
     rw [hcs.out]
     exact ⟨by rw [he.out, HPE.out]; rfl, G, D, ⟨_, _, _, _, X2⟩, Grow.refl _ _ _, hch⟩
end

section
open Go.RowKit
attribute [local go_sem ↓] sliced_cut
attribute [local go_sem] cutA_zero
def mkJ (k b : Int) (L : List Vp) (j : Nat) : List Vp := (L.take j).map (mrkV k b) ++ L.drop j
theorem mkJ_0 (k b : Int) (L : List Vp) : mkJ k b L 0 = L := by simp [mkJ]
theorem mkJ_at (k b : Int) (L : List Vp) (j : Nat) : (mkJ k b L j)[j]? = L[j]? := by
 unfold mkJ
 rcases Nat.lt_or_ge j L.length with h | h
 ·rw [List.getElem?_append_right (by simp; omega)]
  simp
  congr 1
  omega
 ·rw [List.getElem?_eq_none (by simp; omega), List.getElem?_eq_none h]
theorem mkJ_succ (k b : Int) (L : List Vp) (j : Nat) (v : Vp) (h : L[j]? = some v) : mkJ k b L (j + 1) = (mkJ k b L j).set j (mrkV k b v) := by
 obtain ⟨hj, hv⟩ := List.getElem?_eq_some_iff.1 h
 unfold mkJ
 rw [List.take_succ_eq_append_getElem hj, List.map_append, List.set_append_right _ _ (by simp; omega), List.append_assoc]
 congr 1
 rw [hv]
 have e : j - (List.map (mrkV k b) (List.take j L)).length = 0 := by simp; omega
 rw [e, List.drop_eq_getElem_cons hj]
 rfl
theorem mrkE_ne {S : Stk} {k n : Int} (h : ¬ mrkE S k n = 0) : mrkS S k n = S := by
 unfold mrkE at h
 unfold mrkS
 split at h
 ·rename_i hk
  rw [if_pos hk]
  unfold admE at h
  unfold admS
  split at h
  ·exact absurd rfl h
  ·rename_i hd; rw [if_neg hd]
 ·rename_i hk
  rw [if_neg hk]
  unfold eviE at h
  unfold eviS
  split at h
  ·rename_i hn
   split at h
   ·rename_i hd; rw [hn, hd]; rfl
   ·exact absurd rfl h
  ·rename_i hn
   simp only [Bool.not_eq_true] at hn
   rw [hn]
   rfl
def markS (C : Cf) (k b : Int) : Cf := if markE C k b = 0 then { C with vs := C.vs.map (mrkV k b) } else C
theorem mrkA (S : Stk) (ho : StkOk S) (T : Nat) (k b : Int) (hb : b ≤ 9223372036854775807) (w : World) (hk : k = 7) (h : Bk w T 102 (stkC S)) : Calls Tryd.prog 54 #[.pointer (some ⟨T, 0, none⟩), .int .i64 b] w (RetSt w T (mrkS S k b) (.int .i64 (mrkE S k b : Nat))) := by
 unfold mrkS mrkE
 rw [if_pos hk, if_pos hk]
 exact admit_any S ho T b hb w h
theorem mrkB (S : Stk) (ho : StkOk S) (T : Nat) (k b : Int) (hb : b ≤ 9223372036854775807) (w : World) (hk : ¬ k = 7) (h : Bk w T 102 (stkC S)) : Calls Tryd.prog 53 #[.pointer (some ⟨T, 0, none⟩), .int .i64 b] w (RetSt w T (mrkS S k b) (.int .i64 (mrkE S k b : Nat))) := by
 unfold mrkS mrkE
 rw [if_neg hk, if_neg hk]
 exact evict_any S ho T b hb w h
set_option maxHeartbeats 4000000 in
set_option maxRecDepth 100000 in
theorem mark_any {G D : Nat → Prop} (k v b e : Int) (six : Bool) (ah al pt pr : Nat) (wy : Int) (ms : List (Int × Int)) (B : Option Addr) (m d : Nat) (C : Cf) (hC : CfOk C) (g : Nat) (A : Option Addr) (n c : Nat) (E : List Ve) (w : World) (hX : CfX G D w g C A n c E) (hb63 : b ≤ 9223372036854775807) : Calls Tryd.prog 32 #[.pointer (some ⟨g, 0, none⟩), .agg (opC k v b e six ah al pt pr wy B m d).toArray] w (RetCf G D w g (markS C k b) (.int .i64 (markE C k b : Nat))) := by
 obtain ⟨da, va1, va2⟩ := rowAdC
 obtain ⟨do1, vo1, vo2⟩ := rowOpC
 obtain ⟨dv1, vv1, vv2⟩ := rowVe
 have hk := hC.key
 have hb := hC.bl
 have HLT := Lib.hid (fun z (h : D z) => hX.lt z (hX.sub z h))
 have HB := Lib.hid (fun w h => backend_any C hk hb A n c g b w h)
 have hn16 : n ≤ 16 := by have := hX.n_; have := hC.vl; omega
 have HN0 := Lib.hid hX.n_
 obtain ⟨bo, be, zV⟩ := box1 w 45 (opC k v b e six ah al pt pr wy B m d)
 go_enter Tryd.func32, Tryd.ntmps32
 go_upto_region 1 with (fail)
 generalize w.alloc (.cells (opC k v b e six ah al pt pr wy B m d).toArray 45) = V at *
 replace hX := hX.later be
 go_upto_region 1 with (fail)
 refine wp_region_lit ?_
 iterate 2 (refine wpList_plain rfl (fun K hK => ?_); go_simp; with_reducible refine hK _ _ ?_; clear hK K)
 refine wpList_ld1 (t := 45) (cs := opC k v b e six ah al pt pr wy B m d) 3 (.tmp 13) rfl (by rfl) rfl (bo) rfl Tryd.underlying3 rfl ?_
 refine wpList_plain rfl (fun K hK => ?_)
 go_simp
 refine (HB.out _ hX.st).mono ?_
 rintro e w1 ⟨bs1, d1, rfl, rfl⟩
 with_reducible refine hK _ _ ?_
 clear hK K
 have hb1 := below_plus V bs1 d1
 replace hX := hX.later hb1
 replace bo := bo.later hb1
 replace be := be.trans (hb1.mono be.size)
 clear hb1
 generalize plus V bs1 d1 = V1 at *
 iterate 4 (refine wpList_plain rfl (fun K hK => ?_); go_simp; with_reducible refine hK _ _ ?_; clear hK K)
 refine wpList_stA (t := 32) 32 (.tmp 5) (.tmp 16) rfl rfl (adC (bkA C b).1 (bkA C b).2.1 (bkA C b).2.2) (adC false 0 0) rfl (by simp [adC, Value.oneCell']) rfl rfl (Bk.new _ _ _) (szAd _ _ _) ?_
 intro W4 h4 g4
 refine wpList_plain rfl (fun K hK => ?_); go_simp; with_reducible refine hK _ _ ?_; clear hK K
 have be4 : Below V1.heap.size V1 W4 := below_grown (Below.allocS (Below.refl _ _) _) g4 (Nat.le_refl _)
 replace hX := hX.later be4
 replace bo := bo.later be4
 replace be := be.trans (be4.mono be.size)
 clear be4 h4 g4 HB
 cases hkn : knC C b
 ·have HKN := Lib.hid hkn
  clear hkn
  have he := Lib.hid (show markE C k b = 6 by unfold markE; rw [if_pos HKN.out])
  have hcs := Lib.hid (show markS C k b = C from if_neg (by rw [he.out]; decide))
  go_wp2
  go_ret
  exact ⟨by rw [he.out]; rfl, G, D, ⟨A, n, c, E, by rw [hcs.out]; exact hX⟩, Grow.refl _ _ _, Chg.of_below be⟩
 ·have HKN := Lib.hid hkn
  clear hkn
  rcases Nat.eq_zero_or_pos n with h0 | h0
  ·have hq0 : W4.cell? ⟨g, 278, none⟩ = some (.slice A n c) := (hX.st.cell 278).trans (stC_vips C hk hb A n c)
   have hvs0 : C.vs = [] := List.eq_nil_of_length_eq_zero (by have := HN0.out; omega)
   have h0i : ((n : Int) == 0) = true := by simp [h0]
   have HVS := Lib.hid hvs0
   clear h0 hvs0
   have he := Lib.hid (show markE C k b = 1 by unfold markE; rw [if_neg (by rw [HKN.out]; simp), HVS.out])
   have hcs := Lib.hid (show markS C k b = C from if_neg (by rw [he.out]; decide))
   go_wp2
   go_ret
   exact ⟨by rw [he.out]; rfl, G, D, ⟨A, n, c, E, by rw [hcs.out]; exact hX⟩, Grow.refl _ _ _, Chg.of_below be⟩
  ·have h0i : ((n : Int) == 0) = false := by simp; omega
   by_cases hk7 : k = 7
   focus
    have hk7i : (k == 7) = true := by simp [hk7]
    have HK7 := Lib.hid hk7
    clear hk7
    have HAP := Lib.hid (fun (S : Stk) (T : Nat) (w : World) (ho : StkOk S) (h : Bk w T 102 (stkC S)) => mrkA S ho T k b hb63 w HK7.out h)
   rotate_left
   focus
    have hk7i : (k == 7) = false := by simp [hk7]
    have HK7 := Lib.hid hk7
    clear hk7
    have HAP := Lib.hid (fun (S : Stk) (T : Nat) (w : World) (ho : StkOk S) (h : Bk w T 102 (stkC S)) => mrkB S ho T k b hb63 w HK7.out h)
   iterate 2
    focus
     have hq0 : W4.cell? ⟨g, 278, none⟩ = some (.slice A n c) := (hX.st.cell 278).trans (stC_vips C hk hb A n c)
     have hn0 : 0 < n := by omega
     have hn0i : (0 : Int) < (n : Int) := by omega
     obtain ⟨bb, cur, rfl, hob, hBr, hcl, -, hnc, -⟩ := hX.row.bk hn0
     have hlE := hX.len
     have hnE := hX.n_
     have hmem : E[0]'(by omega) ∈ E := List.getElem_mem _
     have hi0 : E[0]? = some (E[0]'(by omega)) := List.getElem?_eq_getElem _
     have hv0 : C.vs[0]? = some (E[0]'(by omega)).1 := by rw [← hX.vs, List.getElem?_map, hi0]; rfl
     have hok0 := (hC.vs _ (List.mem_of_getElem? hv0)).st
     have hq7 : ∀ W, Below W4.heap.size W4 W → W.cell? ⟨bb, 7, none⟩ = some (.pointer (some ⟨(E[0]'(by omega)).2.T, 0, none⟩)) := fun W h => by
      have := (hX.row.rs.later h).rangeE veC_len 0 (by omega)
      simpa using this 7 _ rfl
     have HQ := Lib.hid hq7
     generalize E[0]'(by omega) = x0 at *
     have hm1 : markE C k b = mrkE x0.1.S k b := by
      unfold markE
      rw [if_neg (by rw [HKN.out]; simp)]
      cases hc : C.vs with
      | nil => rw [hc] at hv0; cases hv0
      | cons a t => rw [hc] at hv0; simp at hv0; rw [hv0]
     have HM1 := Lib.hid hm1
     have HV0 := Lib.hid hv0
     have HI0 := Lib.hid hi0
     have HLE := Lib.hid hlE
     have HNE := Lib.hid hnE
     clear hq7 hm1 hv0 hi0 hlE hnE hn0
     have hqk : W4.cell? ⟨w.heap.size, 0, none⟩ = some (.int .i64 k) := bo.cell 0
     go_upto_region 9 with (fail)
     clear hq0 hqk
     refine wp_relS 10 60 rfl (by kernel_rfl) (by kernel_rfl) ?_
     apply Steps.o1 (MP.eq _) 1 rfl rfl
     ·intro FA x hO hD K hK
      have e7 := hO 7 (by kernel_rfl)
      simp only [eval_tmp, qgT, qgS, qgZ, qoS] at e7
      have ev7 := Lib.hid ((eval_tmp FA 7).trans e7)
      clear hO hD
      go_simp
      exact hK.out _ _ (Ex.refl _) rfl
     apply Steps.o1 (MP.eq _) 2 rfl rfl
     ·intro FA x hO hD K hK
      have e0 := hO 0 (by kernel_rfl)
      simp only [eval_tmp, qgT, qgS, qgZ, qoS] at e0
      have ev0 := Lib.hid ((eval_tmp FA 0).trans e0)
      clear hO hD
      go_simp
      exact hK.out _ _ (Ex.refl _) rfl
     apply Steps.o1 (MP.eq _) 3 rfl rfl
     ·intro FA x hO hD K hK
      obtain ⟨e30, ev30⟩ := qE (hD 1 30 (by kernel_rfl))
      clear hO hD
      go_simp
      exact hK.out _ _ (Ex.refl _) rfl
     apply Steps.o1 (MP.eq _) 4 rfl rfl
     ·intro FA x hO hD K hK
      obtain ⟨e31, ev31⟩ := qE (hD 2 31 (by kernel_rfl))
      clear hO hD
      go_simp
      exact hK.out _ _ (Ex.refl _) rfl
     apply Steps.o1 (MP.eq _) 5 rfl rfl
     ·intro FA x hO hD K hK
      obtain ⟨e32, ev32⟩ := qE (hD 3 32 (by kernel_rfl))
      clear hO hD
      refine wanted_if rfl ?_
      refine wp_ld1 83 (.tmp 32) rfl ev32.out (hX.st.later (below_plus _ _ _)) (stC_vips C hk hb _ n c) Tryd.underlying83 rfl ?_
      exact hK.out _ _ (Ex.refl _) rfl
     apply Steps.o1 (MP.eq _) 6 rfl rfl
     ·intro FA x hO hD K hK
      obtain ⟨e33, ev33⟩ := qE (hD 4 33 (by kernel_rfl))
      clear hO hD
      go_simp
      exact hK.out _ _ (Ex.refl _) rfl
     apply Steps.o1 (MP.eq _) 7 rfl rfl
     ·intro FA x hO hD K hK
      obtain ⟨e34, ev34⟩ := qE (hD 5 34 (by kernel_rfl))
      clear hO hD
      go_simp
      exact hK.out _ _ (Ex.refl _) rfl
     apply Steps.o1 (MP.eq _) 8 rfl rfl
     ·intro FA x hO hD K hK
      obtain ⟨e35, ev35⟩ := qE (hD 6 35 (by kernel_rfl))
      clear hO hD
      have hq := HQ.out _ (below_plus W4 x.bs x.d)
      go_simp
      exact hK.out _ _ (Ex.refl _) rfl
     apply Steps.o1 (MP.eq _) 9 rfl rfl
     ·intro FA x hO hD K hK
      have e3 := hO 3 (by kernel_rfl)
      simp only [eval_tmp, qgT, qgS, qgZ, qoS] at e3
      have ev3 := Lib.hid ((eval_tmp FA 3).trans e3)
      clear hO hD
      go_simp
      exact hK.out _ _ (Ex.refl _) rfl
     apply Steps.o1 (MP.eq _) 10 rfl rfl
     ·intro FA x hO hD K hK
      obtain ⟨e37, ev37⟩ := qE (hD 8 37 (by kernel_rfl))
      clear hO hD
      refine wanted_if rfl ?_
      refine wp_ld1 3 (.tmp 37) rfl ev37.out (bo.later (below_plus _ _ _)) rfl Tryd.underlying3 rfl ?_
      exact hK.out _ _ (Ex.refl _) rfl
     refine Steps.fin_ (fun vs x hp => ?_)
     have p0 : vs 0 = _ := hp 0 (by omega)
     have p1 : vs 1 = _ := hp 1 (by omega)
     have p2 : vs 2 = _ := hp 2 (by omega)
     have p3 : vs 3 = _ := hp 3 (by omega)
     have p4 : vs 4 = _ := hp 4 (by omega)
     have p5 : vs 5 = _ := hp 5 (by omega)
     have p6 : vs 6 = _ := hp 6 (by omega)
     have p7 : vs 7 = _ := hp 7 (by omega)
     have p8 : vs 8 = _ := hp 8 (by omega)
     have p9 : vs 9 = _ := hp 9 (by omega)
     clear hp
     simp only [List.take_succ_cons, List.take_zero, List.drop_succ_cons, List.drop_zero, putAll, Nat.zero_add, Nat.reduceAdd, Act.put, qsT, qsZ, qsS, p0, p1, p2, p3, p4, p5, p6, p7, p8, p9]
     clear p0 p1 p2 p3 p4 p5 p6 p7 p8 p9
     clear vs
     have hb9 := below_plus W4 x.bs x.d
     replace hX := hX.later hb9
     replace bo := bo.later hb9
     replace be := be.trans (hb9.mono be.size)
     clear hb9 HQ
     generalize plus W4 x.bs x.d = V5 at *
     refine wpList_plain rfl (fun K hK => ?_)
     go_simp
     refine (HAP.out x0.1.S x0.2.T _ hok0 (hX.tb x0 hmem)).mono ?_
     rintro en w1 ⟨rfl, hS2, hc2⟩
     with_reducible refine hK _ _ ?_
     clear hK K
     refine wpList_plain rfl (fun K hK => ?_); go_simp; with_reducible refine hK _ _ ?_; clear hK K
     have X1 := hX.setStk HI0.out hS2 hc2
     have hch : Chg D w w1 := (Chg.of_below be).trans (hc2.wid (fun z hz => by rw [show z = x0.2.T from hz]; exact hX.dt x0 hmem))
     replace bo : Bk w1 w.heap.size 45 (opC k v b e six ah al pt pr wy B m d) := bo.chg hc2 (fun z => by have z : w.heap.size = x0.2.T := z; have := HLT.out _ (hX.dt x0 hmem); omega)
     clear hX hS2 hc2 be
     obtain ⟨PE, hPE⟩ : ∃ PE : Int, ((mrkE x0.1.S k b : Nat) : Int) = PE := ⟨_, rfl⟩
     rw [hPE]
     have HPE := Lib.hid hPE
     clear hPE
     by_cases hne : mrkE x0.1.S k b = 0
     ·have hp0 : (PE != 0) = false := by rw [← HPE.out]; simp [hne]
      have he := Lib.hid (show markE C k b = 0 by rw [HM1.out]; exact hne)
      have hcs := Lib.hid (show markS C k b = { C with vs := C.vs.map (mrkV k b) } from if_pos he.out)
      clear hne
      have hq0 : w1.cell? ⟨g, 278, none⟩ = some (.slice (some ⟨bb, 0, none⟩) n c) := (X1.st.cell 278).trans (stC_vips _ hk hb _ n c)
      have hn1 : (1 : Int) ≤ (n : Int) := by omega
      have hXm : CfX G D w1 g { C with vs := mkJ k b C.vs 1 } (some ⟨bb, 0, none⟩) n c (E.set 0 ({ x0.1 with S := mrkS x0.1.S k b }, x0.2)) := by
       have : C.vs.set 0 { x0.1 with S := mrkS x0.1.S k b } = mkJ k b C.vs 1 := by
        have h := mkJ_succ k b C.vs 0 x0.1 HV0.out
        rw [mkJ_0] at h
        exact h.symm
       rw [← this]
       exact X1
      have HXM := Lib.hid hXm
      clear X1 hXm
      go_upto_region 13 with (fail)
      clear hq0
      have HBO := Lib.hid bo
      have HCH := Lib.hid hch
      clear bo hch
      rcases Nat.lt_or_ge n 2 with h2 | h2
      ·have hn1' : n = 1 := by omega
       subst hn1'
       have hfin : mkJ k b C.vs 1 = C.vs.map (mrkV k b) := by
        unfold mkJ
        rw [List.take_of_length_le (by have := HNE.out; omega), List.drop_of_length_le (by have := HNE.out; omega), List.append_nil]
       have HF := Lib.hid hfin
       clear hfin
       go_loopw [49] (fun I wr => I = .int .i64 0 ∧ wr = w1) (fun I _ => 0)
       case atStart => exact ⟨rfl, rfl⟩
       case round =>
        obtain ⟨rfl, rfl⟩ := hrel
        go_wp2
        go_ret
        rw [hcs.out, ← HF.out]
        exact ⟨by rw [he.out]; rfl, G, D, ⟨_, _, _, _, HXM.out⟩, Grow.refl _ _ _, HCH.out⟩
      ·have hc1 : ¬ c = 1 := by omega
       have hcut : cutA (some ⟨bb, 0, none⟩) c 1 8 = some ⟨bb, 8, none⟩ := by unfold cutA; rw [if_neg hc1]; rfl
       obtain ⟨n1, rfl⟩ : ∃ n1, n = n1 + 1 := ⟨n - 1, by omega⟩
       rw [hcut, Nat.add_sub_cancel]
       have n18 : n1 ≤ 16 := by omega
       clear hcut h2
       go_loopw [49] (fun I wr => ∃ (j : Nat) (E1 : List Ve), I = .int .i64 (j : Int) ∧ j ≤ n1 ∧ CfX G D wr g { C with vs := mkJ k b C.vs (j + 1) } (some ⟨bb, 0, none⟩) (n1 + 1) c E1 ∧ Bk wr w.heap.size 45 (opC k v b e six ah al pt pr wy B m d) ∧ Chg D w wr) (fun I _ => n1 - (intOf I).toNat)
       case atStart => exact ⟨0, _, rfl, Nat.zero_le _, HXM.out, HBO.out, HCH.out⟩
       case round =>
        clear HXM HBO HCH
        obtain ⟨j, E1, rfl, hj, hX, bo, hch⟩ := hrel
        by_cases hlt : j < n1
        ·have ij : (j : Int) < (n1 : Int) := by omega
         have hl1 : E1.length = n1 + 1 := by have h1 := hX.len; have h2 := hX.n_; omega
         have hmy : E1[j + 1]'(by omega) ∈ E1 := List.getElem_mem _
         have hiy : E1[j + 1]? = some (E1[j + 1]'(by omega)) := List.getElem?_eq_getElem _
         have hvy : C.vs[j + 1]? = some (E1[j + 1]'(by omega)).1 := by
          rw [← mkJ_at k b C.vs (j + 1)]
          have := hX.vs
          rw [show mkJ k b C.vs (j + 1) = List.map (·.1) E1 from this.symm, List.getElem?_map, hiy]; rfl
         have hoky := (hC.vs _ (List.mem_of_getElem? hvy)).st
         have hgy : wr.rangeAt bb (8 + j * 8) (veC (E1[j + 1]'(by omega))) := by
          have := hX.row.rs.rangeE veC_len (j + 1) (by omega)
          rwa [show 0 + (j + 1) * 8 = 8 + j * 8 by omega] at this
         generalize E1[j + 1]'(by omega) = y at *
         have HIY := Lib.hid hiy
         have HVY := Lib.hid hvy
         clear hiy hvy hl1
         go_upto_region 15 with (first
          | (refine at_op (.load 53 (.tmp 51)) rfl ?_; refine wpList_load_mid rfl 53 (.tmp 51) rfl bb (8 + j * 8) rfl (veC y) _ hgy vv1 vv2 (szVe _) ?_)
          | (refine at_op (.store 53 (.tmp 10) (.tmp 52)) rfl ?_; refine wpList_stA (t := 53) 53 (.tmp 10) (.tmp 52) rfl rfl (veC y) [.bool false, .int .u64 0, .int .u64 0, .int .u16 0, .int .u8 0, .int .i64 0, .slice none 0 0, .pointer none] rfl (veC_one _) rfl rfl (Bk.new _ _ _) (szVe _) ?_; intro W6 h6 g6))
         have be6 : Below wr.heap.size wr W6 := below_grown (Below.allocS (Below.refl _ _) _) g6 (Nat.le_refl _)
         have q7 : W6.cell? ⟨wr.heap.size, 7, none⟩ = some (.pointer (some ⟨y.2.T, 0, none⟩)) := h6.cell 7
         replace hX := hX.later be6
         replace bo := bo.later be6
         replace hch := hch.trans (Chg.of_below be6)
         clear be6 h6 g6 hgy
         generalize wr.heap.size = gv at *
         refine wp_region_lit ?_
         iterate 4 (refine wpList_plain rfl (fun K hK => ?_); go_simp; with_reducible refine hK _ _ ?_; clear hK K)
         refine wpList_ld1 (t := 45) (cs := opC k v b e six ah al pt pr wy B m d) 3 (.tmp 56) rfl (by rfl) rfl (bo) rfl Tryd.underlying3 rfl ?_
         refine wpList_plain rfl (fun K hK => ?_)
         go_simp
         refine (HAP.out y.1.S y.2.T _ hoky (hX.tb y hmy)).mono ?_
         rintro en w1 ⟨rfl, hS2, hc2⟩
         with_reducible refine hK _ _ ?_
         clear hK K
         have X2 := hX.setStk HIY.out hS2 hc2
         replace hch : Chg D w w1 := hch.trans (hc2.wid (fun z hz => by rw [show z = y.2.T from hz]; exact hX.dt y hmy))
         replace bo : Bk w1 w.heap.size 45 (opC k v b e six ah al pt pr wy B m d) := bo.chg hc2 (fun z => by have z : w.heap.size = y.2.T := z; have := HLT.out _ (hX.dt y hmy); omega)
         have hs := mkJ_succ k b C.vs (j + 1) y.1 HVY.out
         replace X2 : CfX G D w1 g { C with vs := (mkJ k b C.vs (j + 1)).set (j + 1) (mrkV k b y.1) } (some ⟨bb, 0, none⟩) (n1 + 1) c (E1.set (j + 1) ({ y.1 with S := mrkS y.1.S k b }, y.2)) := X2
         rw [← hs] at X2
         have HH := Lib.hid (And.intro X2 (And.intro bo hch))
         clear X2 bo hch hX hS2 hc2 hs q7
         go_wp2
         exact ⟨⟨j + 1, by go_num, by omega, ⟨_, HH.out.1⟩, HH.out.2.1, HH.out.2.2⟩, by simp [intOf]; omega⟩
        ·obtain rfl : j = n1 := by omega
         have ij : ¬ (j : Int) < (j : Int) := by omega
         have hfin : mkJ k b C.vs (j + 1) = C.vs.map (mrkV k b) := by
          unfold mkJ
          rw [List.take_of_length_le (by have := HNE.out; omega), List.drop_of_length_le (by have := HNE.out; omega), List.append_nil]
         rw [hfin] at hX
         have HH := Lib.hid (And.intro hX hch)
         clear hX hch hfin hj bo
         go_wp2
         go_ret
         rw [hcs.out]
         exact ⟨by rw [he.out]; rfl, G, D, ⟨_, _, _, _, HH.out.1⟩, Grow.refl _ _ _, HH.out.2⟩
     ·have hp0 : (PE != 0) = true := by rw [← HPE.out]; simp [hne]
      have he := Lib.hid (show markE C k b = mrkE x0.1.S k b from HM1.out)
      have hcs := Lib.hid (show markS C k b = C from if_neg (by rw [he.out]; exact hne))
      have hid : ({ C with vs := C.vs.set 0 { x0.1 with S := mrkS x0.1.S k b } } : Cf) = C := by
       have h1 : ({ x0.1 with S := mrkS x0.1.S k b } : Vp) = x0.1 := by rw [mrkE_ne hne]
       have h2 : C.vs.set 0 x0.1 = C.vs := by
        obtain ⟨h4, h5⟩ := List.getElem?_eq_some_iff.1 HV0.out
        rw [← h5, List.set_getElem_self]
       rw [h1, h2]
      rw [hid] at X1
      clear hne hid bo
      go_wp2
      go_ret
      rw [hcs.out]
      exact ⟨by rw [he.out, HPE.out]; rfl, G, D, ⟨_, _, _, _, X1⟩, Grow.refl _ _ _, hch⟩
end

end Go.Proofs.YtkecgdnmehgpjaaDoor
