/- Texts of the law HrwRanks, part 4. -/
import Derived.Test.YtknoenceccpkhaaZHrwRanks3
/- HrwRanks' walk (chapter 16). -/
namespace Go.Proofs.Ytknoenceccpkhaa
open Go.RowKit
set_option linter.unusedVariables false
set_option linter.unusedSimpArgs false
attribute [local go_sem ↓] sliced_cut

attribute [local go_sem] cutA_zero

/-- a pointer to a member's cells -/
def MP.pm (p : Int × Int) : MP := ⟨fun v w => ∃ b off, v = .pointer (some ⟨b, off, none⟩) ∧ w.rangeAt b off (mbC p), fun _ _ _ ⟨b, off, h1, h2⟩ h => ⟨b, off, h1, fun j u hu => by
  have h3 := h2 j u hu
  rw [← h3]
  exact h.below.cell (p := ⟨b, off + j, none⟩) (lt_of_cell h3)⟩⟩
theorem rng_mb {w : World} {b off : Nat} {p : Int × Int} (h : w.cell? ⟨b, off, none⟩ = some (.int .i64 p.1) ∧ w.cell? ⟨b, off + 1, none⟩ = some (.int .i64 p.2)) : w.rangeAt b off (mbC p) := by
  intro i u hu
  match i, hu with
  | 0, hu => simp [mbC] at hu; subst hu; exact h.1
  | 1, hu => simp [mbC] at hu; subst hu; exact h.2
  | i + 2, hu => simp [mbC] at hu
set_option maxHeartbeats 4000000 in
set_option maxRecDepth 100000 in
theorem hrwRanks_walk (key : List UInt8) (hk0 : K16 key) (Ll : List (Int × Int)) (hL : ∀ q ∈ Ll, (-9223372036854775808 ≤ q.1 ∧ q.1 ≤ 9223372036854775807) ∧ (-9223372036854775808 ≤ q.2 ∧ q.2 ≤ 9223372036854775807)) (Al : Option Addr) (nl cl : Nat) (A : Option Addr) (n c : Nat) (b : List UInt8) (w : World)
    (hl : Rs 2 w Al nl cl (prs .i64 Ll)) (hml : nl ≤ 9223372036854775807) (hr : Rb w A n c b) (hmn : n ≤ 9223372036854775807) : Calls Try.prog 6 #[.agg (bcs key).toArray, .slice Al nl cl, .slice A n c] w (RetV w (.bool true)) := by
  obtain ⟨dk, u1, u2⟩ := rowK16
  obtain ⟨dm, m1, m2⟩ := rowMb
  obtain ⟨dr, r1, r2⟩ := rowRm
  have HLi := Lib.hid (fun w h => light_any Ll hL Al nl cl w h hml)
  have hk : Bk (w.alloc (.cells (bcs key).toArray 87)) w.heap.size 87 (bcs key) := Bk.new w 87 (bcs key).toArray
  have be : Below w.heap.size w (w.alloc (.cells (bcs key).toArray 87)) := Below.allocS (Below.refl _ _) _
  replace hl := (hl.alloc (.cells (bcs key).toArray 87))
  replace hr := (hr.alloc (.cells (bcs key).toArray 87))
  have zV : w.heap.size + 1 ≤ (w.alloc (.cells (bcs key).toArray 87)).heap.size := by simp
  go_enter Try.func6, Try.ntmps6
  go_upto_region 1 with (fail)
  generalize w.alloc (.cells (bcs key).toArray 87) = V at *
  by_cases h200 : 200 < n
  · have i200 : (200 : Int) < (n : Int) := by omega
    go_wp2_with (go_at_call 29; refine (awake16 _).mono ?_; rintro e w1 ⟨bs3, d3, rfl, rfl⟩)
    go_ret
    exact RetV.mk (belowP be bs3 d3)
  have i200 : ¬ (200 : Int) < (n : Int) := by omega
  go_upto_region 4 with (go_at_call 30; refine (HLi.out _ hl).mono ?_; rintro e w1 ⟨L, hL12, hLt, A1, n1, c1, bs1, d1, rfl, rfl, hx⟩)
  replace be := belowP be bs1 d1
  replace hk := hk.later (below_plus V bs1 d1)
  replace hr := hr.later (below_plus V bs1 d1)
  clear hl HLi zV
  generalize plus V bs1 d1 = W1 at *
  have hnx : L.length = n1 := by have := hx.1; rw [prs_length] at this; omega
  have HTO := Lib.hid (fun w (h : Rs 2 w A1 n1 c1 (prs .i64 L)) => to_any L A1 n1 c1 w h (by omega))
  have HRK := Lib.hid (fun A2 n2 c2 w (h : Rb w A n c b) (h2 : Rs 2 w A2 n2 c2 (prs .i64 L)) (h3 : n2 ≤ 1000) => rank_any key hk0 L hLt hL12 A2 n2 c2 A n c b w h h2 (by omega) h3)
  have HRR := Lib.hid (fun w (h : Rb w A n c b) (h2 : Rs 2 w A1 n1 c1 (prs .i64 L)) => refRank_any key hk0 L hLt hL12 A1 n1 c1 A n c b w h h2 (by omega) (by omega))
  have HPK := Lib.hid (fun A2 n2 c2 w (h : Rb w A n c b) (h2 : Rs 2 w A2 n2 c2 (prs .i64 L)) (h3 : n2 ≤ 1000) => pick_any key hk0 L hLt A2 n2 c2 A n c b w h h2 (by omega) h3)
  have HHD := Lib.hid (fun (h : 0 < (scd (scoreI key b) L).length) => srtL_head (scd (scoreI key b) L) h)
  have hlenR : (rankL key b L).length = (scd (scoreI key b) L).length := by unfold rankL; rw [srtL_len]
  have hpk0 : (scd (scoreI key b) L).length = 0 → pk (scd (scoreI key b) L) = (0, false) := fun h => by rw [List.eq_nil_of_length_eq_zero h]; rfl
  have hHD2 : 0 < (rankL key b L).length → pk (scd (scoreI key b) L) = (((rankL key b L).getD 0 (0, 0)).1, true) := fun h => by rw [hlenR] at h; unfold rankL; exact HHD.out h
  have HPN : Hid ((rankL key b L).length = 0 → pk (scd (scoreI key b) L) = (0, false)) := Lib.hid (fun h => hpk0 (by omega))
  have HPY := Lib.hid hHD2
  obtain ⟨p, hp⟩ : ∃ p, pk (scd (scoreI key b) L) = p := ⟨_, rfl⟩
  rw [hp] at HPK HPN HPY
  obtain ⟨pv1, pv2⟩ := p
  simp only [] at HPK
  clear hp HHD hpk0 hHD2
  have hlR := rankL_len key b L
  obtain ⟨R, hR⟩ : ∃ R, (rankL key b L).map (·.1) = R := ⟨_, rfl⟩
  rw [hR] at HRK HRR
  have hRl : R.length = (rankL key b L).length := by rw [← hR, List.length_map]
  have HR0 : Hid (∀ h : 0 < R.length, pv1 = R[0] ∧ pv2 = true) := Lib.hid (fun h => by
    have h9 := HPY.out (by omega)
    injection h9 with h91 h92
    refine ⟨?_, h92⟩
    rw [h91, List.getD_eq_getElem?_getD, List.getElem?_eq_getElem (by omega), Option.getD_some]
    simp [← hR])
  have HRN : Hid (R.length = 0 → pv1 = 0 ∧ pv2 = false) := Lib.hid (fun h => by
    have h9 := HPN.out (by omega)
    injection h9 with h91 h92
    exact ⟨h91, h92⟩)
  clear HPY HPN hlenR
  have HC := Lib.hid (fun (W : World) (h : Below W1.heap.size W1 W) => show Rs 2 W A1 n1 c1 (prs .i64 L) ∧ Rb W A n c b from ⟨hx.later h, hr.later h⟩)
  go_wp2
  refine wp_relS 11 105 rfl (by kernel_rfl) (by kernel_rfl) ?_
  apply Steps.one (MP.eq _) 1 rfl
  · intro o ho FA x hO hD K hK
    obtain rfl := Option.some.inj ho.symm
    clear ho
    have e3 := hO 3 (by kernel_rfl)
    simp only [eval_tmp, List.getElem?_toArray, List.getElem?_cons_succ, List.getElem?_cons_zero, Option.getD_some] at e3
    have ev3 := Lib.hid ((eval_tmp FA 3).trans e3)
    clear hO hD
    refine wanted_if rfl ?_
    refine wp_ldA 87 (.tmp 3) rfl (bcs key) ev3.out (hk.later (below_plus _ _ _)) (whole_ _) u1 u2 (szK16 key hk0) ?_
    exact hK.out _ _ (Ex.refl _) rfl
  apply Steps.one (MP.eq _) 2 rfl
  · intro o ho FA x hO hD K hK
    obtain rfl := Option.some.inj ho.symm
    clear ho
    have e7 := hO 7 (by kernel_rfl)
    simp only [eval_tmp, List.getElem?_toArray, List.getElem?_cons_succ, List.getElem?_cons_zero, Option.getD_some] at e7
    have ev7 := Lib.hid ((eval_tmp FA 7).trans e7)
    clear hO hD
    go_simp
    exact hK.out _ _ (Ex.refl _) rfl
  apply Steps.one (MP.rs 2 (prs .i64 L)) 3 rfl
  · intro o ho FA x hO hD K hK
    obtain rfl := Option.some.inj ho.symm
    clear ho
    have ev21 : FA.eval (.tmp 21) = _ := hD 1 21 (by kernel_rfl)
    have e21 := (eval_tmp FA 21).symm.trans ev21
    replace ev21 := Lib.hid ev21
    clear hO hD
    go_simp
    refine (HTO.out _ (HC.out _ (below_plus _ _ _)).1).mono ?_
    rintro e w1 ⟨A7, n7, c7, bs7, d7, rfl, rfl, h7⟩
    exact hK.out _ _ (Ex.plus_ _ _ _) ⟨_, _, _, rfl, h7⟩
  apply Steps.one (MP.eq _) 4 rfl
  · intro o ho FA x hO hD K hK
    obtain rfl := Option.some.inj ho.symm
    clear ho
    have e2 := hO 2 (by kernel_rfl)
    simp only [eval_tmp, List.getElem?_toArray, List.getElem?_cons_succ, List.getElem?_cons_zero, Option.getD_some] at e2
    have ev2 := Lib.hid ((eval_tmp FA 2).trans e2)
    clear hO hD
    go_simp
    exact hK.out _ _ (Ex.refl _) rfl
  apply Steps.one (MP.rs 1 (itH R)) 5 rfl
  · intro o ho FA x hO hD K hK
    obtain rfl := Option.some.inj ho.symm
    clear ho
    have ev20 : FA.eval (.tmp 20) = _ := hD 0 20 (by kernel_rfl)
    have e20 := (eval_tmp FA 20).symm.trans ev20
    replace ev20 := Lib.hid ev20
    have f22 := hD 2 22 (by kernel_rfl)
    generalize eu22 : FA.eval (.tmp 22) = u22 at f22
    have e22 := (eval_tmp FA 22).symm.trans eu22
    have ev22 := Lib.hid eu22
    clear eu22
    have ev23 : FA.eval (.tmp 23) = _ := hD 3 23 (by kernel_rfl)
    have e23 := (eval_tmp FA 23).symm.trans ev23
    replace ev23 := Lib.hid ev23
    clear hO hD
    obtain ⟨A7, n7, c7, rfl, h7⟩ := f22
    have hn7 : n7 ≤ 1000 := by have := h7.1; rw [prs_length] at this; omega
    go_simp
    refine (HRK.out _ _ _ _ (HC.out _ (below_plus _ _ _)).2 h7 hn7).mono ?_
    rintro e w1 ⟨A8, n8, c8, bs8, d8, rfl, rfl, h8⟩
    exact hK.out _ _ (Ex.plus_ _ _ _) ⟨_, _, _, rfl, h8⟩
  apply Steps.one (MP.eq _) 6 rfl
  · intro o ho FA x hO hD K hK
    obtain rfl := Option.some.inj ho.symm
    clear ho
    have e3 := hO 3 (by kernel_rfl)
    simp only [eval_tmp, List.getElem?_toArray, List.getElem?_cons_succ, List.getElem?_cons_zero, Option.getD_some] at e3
    have ev3 := Lib.hid ((eval_tmp FA 3).trans e3)
    clear hO hD
    refine wanted_if rfl ?_
    refine wp_ldA 87 (.tmp 3) rfl (bcs key) ev3.out (hk.later (below_plus _ _ _)) (whole_ _) u1 u2 (szK16 key hk0) ?_
    exact hK.out _ _ (Ex.refl _) rfl
  apply Steps.one (MP.eq _) 7 rfl
  · intro o ho FA x hO hD K hK
    obtain rfl := Option.some.inj ho.symm
    clear ho
    have e7 := hO 7 (by kernel_rfl)
    simp only [eval_tmp, List.getElem?_toArray, List.getElem?_cons_succ, List.getElem?_cons_zero, Option.getD_some] at e7
    have ev7 := Lib.hid ((eval_tmp FA 7).trans e7)
    clear hO hD
    go_simp
    exact hK.out _ _ (Ex.refl _) rfl
  apply Steps.one (MP.eq _) 8 rfl
  · intro o ho FA x hO hD K hK
    obtain rfl := Option.some.inj ho.symm
    clear ho
    have e2 := hO 2 (by kernel_rfl)
    simp only [eval_tmp, List.getElem?_toArray, List.getElem?_cons_succ, List.getElem?_cons_zero, Option.getD_some] at e2
    have ev2 := Lib.hid ((eval_tmp FA 2).trans e2)
    clear hO hD
    go_simp
    exact hK.out _ _ (Ex.refl _) rfl
  apply Steps.one (MP.rs 1 (itH R)) 9 rfl
  · intro o ho FA x hO hD K hK
    obtain rfl := Option.some.inj ho.symm
    clear ho
    have ev25 : FA.eval (.tmp 25) = _ := hD 5 25 (by kernel_rfl)
    have e25 := (eval_tmp FA 25).symm.trans ev25
    replace ev25 := Lib.hid ev25
    have ev26 : FA.eval (.tmp 26) = _ := hD 6 26 (by kernel_rfl)
    have e26 := (eval_tmp FA 26).symm.trans ev26
    replace ev26 := Lib.hid ev26
    have ev27 : FA.eval (.tmp 27) = _ := hD 7 27 (by kernel_rfl)
    have e27 := (eval_tmp FA 27).symm.trans ev27
    replace ev27 := Lib.hid ev27
    clear hO hD
    go_simp
    refine (HRR.out _ (HC.out _ (below_plus _ _ _)).2 (HC.out _ (below_plus _ _ _)).1).mono ?_
    rintro e w1 ⟨A8, n8, c8, bs8, d8, rfl, rfl, h8⟩
    exact hK.out _ _ (Ex.plus_ _ _ _) ⟨_, _, _, rfl, h8⟩
  apply Steps.one (MP.rs 1 (itH R)) 10 rfl
  · intro o ho FA x hO hD K hK
    obtain rfl := Option.some.inj ho.symm
    clear ho
    have f24 := hD 4 24 (by kernel_rfl)
    generalize eu24 : FA.eval (.tmp 24) = u24 at f24
    have e24 := (eval_tmp FA 24).symm.trans eu24
    have ev24 := Lib.hid eu24
    clear eu24
    clear hO hD
    go_simp
    exact hK.out _ _ (Ex.refl _) f24
  apply Steps.one (MP.rs 1 (itH R)) 11 rfl
  · intro o ho FA x hO hD K hK
    obtain rfl := Option.some.inj ho.symm
    clear ho
    have f28 := hD 8 28 (by kernel_rfl)
    generalize eu28 : FA.eval (.tmp 28) = u28 at f28
    have e28 := (eval_tmp FA 28).symm.trans eu28
    have ev28 := Lib.hid eu28
    clear eu28
    clear hO hD
    go_simp
    exact hK.out _ _ (Ex.refl _) f28
  refine Steps.fin_ (fun vs x hp => ?_)
  have p0 : vs 0 = _ := hp 0 (by omega)
  have p1 : vs 1 = _ := hp 1 (by omega)
  have p2 := hp 2 (by omega)
  have p3 : vs 3 = _ := hp 3 (by omega)
  have p4 := hp 4 (by omega)
  have p5 : vs 5 = _ := hp 5 (by omega)
  have p6 : vs 6 = _ := hp 6 (by omega)
  have p7 : vs 7 = _ := hp 7 (by omega)
  have p8 := hp 8 (by omega)
  have p9 := hp 9 (by omega)
  have p10 := hp 10 (by omega)
  clear hp
  simp only [List.take_succ_cons, List.take_zero, List.drop_succ_cons, List.drop_zero, putAll, Nat.zero_add, Nat.reduceAdd, Act.put, List.setIfInBounds_toArray, List.set_cons_zero, List.set_cons_succ, p0, p1, p3, p5, p6, p7]
  clear p0 p1 p3 p5 p6 p7
  generalize vs 2 = y2 at *
  generalize vs 4 = y4 at *
  generalize vs 8 = y8 at *
  generalize vs 9 = y9 at *
  generalize vs 10 = y10 at *
  clear vs
  have b4 := below_plus W1 x.bs x.d
  obtain ⟨A3, n3, c3, rfl, h3⟩ := p9
  obtain ⟨A4, n4, c4, rfl, h4⟩ := p10
  have hn3 : R.length = n3 := by have := h3.1; rw [itH_len] at this; omega
  have hn4 : n3 = n4 := by have := h4.1; rw [itH_len] at this; omega
  subst hn4
  have hn12 : n3 ≤ 12 := by omega
  replace be := belowP be x.bs x.d
  replace hk := hk.later b4
  replace hx := hx.later b4
  replace hr := hr.later b4
  clear b4 HC HRK HRR hRl hR
  generalize plus W1 x.bs x.d = W2 at *
  go_upto_region 8 with (fail)
  have HE := Lib.hid be
  clear be
  go_loopw [10] (fun I wr => ∃ i : Nat, I = .int .i64 (i : Int) ∧ i ≤ n3 ∧ Below W2.heap.size W2 wr) (fun I _ => n3 - (intOf I).toNat)
  case atStart => exact ⟨0, rfl, Nat.zero_le _, Below.refl _ _⟩
  case round =>
    obtain ⟨i, rfl, hi, hE⟩ := hrel
    by_cases hlt : i < n3
    · have ii : (i : Int) < (n3 : Int) := by omega
      have hiR : i < R.length := by omega
      obtain ⟨b3, o3, rfl, hb3, -⟩ := h3.at_ (by omega) (by decide)
      obtain ⟨b4, o4, rfl, hb4, -⟩ := h4.at_ (by omega) (by decide)
      have hc3 : ∀ W, Below W2.heap.size W2 W → W.cell? ⟨b3, o3 + i, none⟩ = some (.int .i64 R[i]) := fun W h => by
        obtain ⟨b9, o9, e9, _, hc9⟩ := (h3.later h).at_ (by omega) (by decide)
        injection e9 with e9
        injection e9 with e91 e92
        subst e91 e92
        exact hc9 i _ (itH_at _ i hiR)
      have hc4 : ∀ W, Below W2.heap.size W2 W → W.cell? ⟨b4, o4 + i, none⟩ = some (.int .i64 R[i]) := fun W h => by
        obtain ⟨b9, o9, e9, _, hc9⟩ := (h4.later h).at_ (by omega) (by decide)
        injection e9 with e9
        injection e9 with e91 e92
        subst e91 e92
        exact hc9 i _ (itH_at _ i hiR)
      generalize R[i] = v at *
      have HC := Lib.hid (fun (W : World) (h : Below wr.heap.size wr W) => show W.cell? ⟨b3, o3 + i, none⟩ = some (.int .i64 v) ∧ W.cell? ⟨b4, o4 + i, none⟩ = some (.int .i64 v) from ⟨hc3 W (hE.trans (h.mono hE.size)), hc4 W (hE.trans (h.mono hE.size))⟩)
      clear hc3 hc4
      go_upto_region 10 with (fail)
      go_wp2
      refine wp_relS 9 105 rfl (by kernel_rfl) (by kernel_rfl) ?_
      apply Steps.one (MP.eq _) 1 rfl
      · intro o ho FA x hO hD K hK
        obtain rfl := Option.some.inj ho.symm
        clear ho
        have e8 := hO 8 (by kernel_rfl)
        simp only [eval_tmp, List.getElem?_toArray, List.getElem?_cons_succ, List.getElem?_cons_zero, Option.getD_some] at e8
        have ev8 := Lib.hid ((eval_tmp FA 8).trans e8)
        clear hO hD
        go_simp
        exact hK.out _ _ (Ex.refl _) rfl
      apply Steps.one (MP.eq _) 2 rfl
      · intro o ho FA x hO hD K hK
        obtain rfl := Option.some.inj ho.symm
        clear ho
        have e10 := hO 10 (by kernel_rfl)
        simp only [eval_tmp, List.getElem?_toArray, List.getElem?_cons_succ, List.getElem?_cons_zero, Option.getD_some] at e10
        have ev10 := Lib.hid ((eval_tmp FA 10).trans e10)
        clear hO hD
        go_simp
        exact hK.out _ _ (Ex.refl _) rfl
      apply Steps.one (MP.eq _) 3 rfl
      · intro o ho FA x hO hD K hK
        obtain rfl := Option.some.inj ho.symm
        clear ho
        have ev40 : FA.eval (.tmp 40) = _ := hD 0 40 (by kernel_rfl)
        have e40 := (eval_tmp FA 40).symm.trans ev40
        replace ev40 := Lib.hid ev40
        have ev41 : FA.eval (.tmp 41) = _ := hD 1 41 (by kernel_rfl)
        have e41 := (eval_tmp FA 41).symm.trans ev41
        replace ev41 := Lib.hid ev41
        clear hO hD
        go_simp
        exact hK.out _ _ (Ex.refl _) rfl
      apply Steps.one (MP.eq _) 4 rfl
      · intro o ho FA x hO hD K hK
        obtain rfl := Option.some.inj ho.symm
        clear ho
        have ev42 : FA.eval (.tmp 42) = _ := hD 2 42 (by kernel_rfl)
        have e42 := (eval_tmp FA 42).symm.trans ev42
        replace ev42 := Lib.hid ev42
        clear hO hD
        have q9 := (HC.out (plus wr x.bs x.d) (below_plus _ _ _)).1
        go_simp
        exact hK.out _ _ (Ex.refl _) rfl
      apply Steps.one (MP.eq _) 5 rfl
      · intro o ho FA x hO hD K hK
        obtain rfl := Option.some.inj ho.symm
        clear ho
        have e9 := hO 9 (by kernel_rfl)
        simp only [eval_tmp, List.getElem?_toArray, List.getElem?_cons_succ, List.getElem?_cons_zero, Option.getD_some] at e9
        have ev9 := Lib.hid ((eval_tmp FA 9).trans e9)
        clear hO hD
        go_simp
        exact hK.out _ _ (Ex.refl _) rfl
      apply Steps.one (MP.eq _) 6 rfl
      · intro o ho FA x hO hD K hK
        obtain rfl := Option.some.inj ho.symm
        clear ho
        have e10 := hO 10 (by kernel_rfl)
        simp only [eval_tmp, List.getElem?_toArray, List.getElem?_cons_succ, List.getElem?_cons_zero, Option.getD_some] at e10
        have ev10 := Lib.hid ((eval_tmp FA 10).trans e10)
        clear hO hD
        go_simp
        exact hK.out _ _ (Ex.refl _) rfl
      apply Steps.one (MP.eq _) 7 rfl
      · intro o ho FA x hO hD K hK
        obtain rfl := Option.some.inj ho.symm
        clear ho
        have ev44 : FA.eval (.tmp 44) = _ := hD 4 44 (by kernel_rfl)
        have e44 := (eval_tmp FA 44).symm.trans ev44
        replace ev44 := Lib.hid ev44
        have ev45 : FA.eval (.tmp 45) = _ := hD 5 45 (by kernel_rfl)
        have e45 := (eval_tmp FA 45).symm.trans ev45
        replace ev45 := Lib.hid ev45
        clear hO hD
        go_simp
        exact hK.out _ _ (Ex.refl _) rfl
      apply Steps.one (MP.eq _) 8 rfl
      · intro o ho FA x hO hD K hK
        obtain rfl := Option.some.inj ho.symm
        clear ho
        have ev46 : FA.eval (.tmp 46) = _ := hD 6 46 (by kernel_rfl)
        have e46 := (eval_tmp FA 46).symm.trans ev46
        replace ev46 := Lib.hid ev46
        clear hO hD
        have q9 := (HC.out (plus wr x.bs x.d) (below_plus _ _ _)).2
        go_simp
        exact hK.out _ _ (Ex.refl _) rfl
      apply Steps.one (MP.eq _) 9 rfl
      · intro o ho FA x hO hD K hK
        obtain rfl := Option.some.inj ho.symm
        clear ho
        have ev43 : FA.eval (.tmp 43) = _ := hD 3 43 (by kernel_rfl)
        have e43 := (eval_tmp FA 43).symm.trans ev43
        replace ev43 := Lib.hid ev43
        have ev47 : FA.eval (.tmp 47) = _ := hD 7 47 (by kernel_rfl)
        have e47 := (eval_tmp FA 47).symm.trans ev47
        replace ev47 := Lib.hid ev47
        clear hO hD
        go_simp
        exact hK.out _ _ (Ex.refl _) rfl
      refine Steps.fin_ (fun vs x hp => ?_)
      have p0 : vs 0 = _ := hp 0 (by omega)
      have p1 : vs 1 = _ := hp 1 (by omega)
      have p2 : vs 2 = _ := hp 2 (by omega)
      have p3 : vs 3 = _ := hp 3 (by omega)
      have p4 : vs 4 = _ := hp 4 (by omega)
      have p5 : vs 5 = _ := hp 5 (by omega)
      have p6 : vs 6 = _ := hp 6 (by omega)
      have p7 : vs 7 = _ := hp 7 (by omega)
      have p8 : vs 8 = _ := hp 8 (by omega)
      clear hp
      simp only [List.take_succ_cons, List.take_zero, List.drop_succ_cons, List.drop_zero, putAll, Nat.zero_add, Nat.reduceAdd, Act.put, List.setIfInBounds_toArray, List.set_cons_zero, List.set_cons_succ, p0, p1, p2, p3, p4, p5, p6, p7, p8]
      clear p0 p1 p2 p3 p4 p5 p6 p7 p8
      clear vs
      have hE2 := belowP hE x.bs x.d
      clear HC
      go_wp2
      exact ⟨⟨i + 1, by go_num, by omega, hE2⟩, by simp [intOf]; omega⟩
    · obtain rfl : n3 = i := by omega
      have ii : ¬ (n3 : Int) < (n3 : Int) := by omega
      have hbe := HE.out.trans (hE.mono HE.out.size)
      replace hk := hk.later hE
      replace hx := hx.later hE
      replace hr := hr.later hE
      replace h4 := h4.later hE
      clear HE hE h3
      generalize wr = W3 at *
      go_upto_region 13 with (fail)
      go_loopw [11] (fun I wr => ∃ i : Nat, I = .int .i64 (i : Int) ∧ i ≤ n1 ∧ Below W3.heap.size W3 wr) (fun I _ => n1 - (intOf I).toNat)
      case atStart => exact ⟨0, rfl, Nat.zero_le _, Below.refl _ _⟩
      case round =>
        obtain ⟨i, rfl, hi, hE⟩ := hrel
        by_cases hlt : i < n1
        · have ij : (i : Int) < (n1 : Int) := by omega
          have hiL : i < L.length := by omega
          obtain ⟨bl, ol, rfl, hbl, -⟩ := hx.at_ (by omega) (by decide)
          have hq2 := fun W (h : Below W3.heap.size W3 W) => (hx.later h).range2 i hiL
          have hpL := hLt L[i] (List.getElem_mem hiL)
          obtain ⟨pi_, hpi⟩ : ∃ p, L[i] = p := ⟨_, rfl⟩
          rw [hpi] at hpL hq2
          obtain ⟨pid, wt⟩ := pi_
          obtain ⟨id, rfl⟩ := Int.eq_ofNat_of_zero_le hpL.1
          have hid : id < 64 := by have := hpL.2.1; simp at this; omega
          have hwt : wt < 8 := hpL.2.2
          have HLI := Lib.hid hpi
          have HS1 := Lib.hid (fun W (h : Rb W A n c b) => score_any key hk0 id wt A n c b W h (by omega) (by omega) (by omega))
          have HS2 := Lib.hid (fun W (h : Rb W A n c b) => refScore_any key hk0 id wt A n c b W h (by omega) (by omega) (by omega))
          generalize scoreI key b ((id : Int), wt) = X at *
          have HC := Lib.hid (fun (W : World) (h : Below wr.heap.size wr W) => show Rs 2 W (some ⟨bl, ol, none⟩) n1 c1 (prs .i64 L) ∧ Rb W A n c b ∧ W.rangeAt bl (ol + i * 2) (mbC ((id : Int), wt)) from ⟨hx.later (hE.trans (h.mono hE.size)), hr.later (hE.trans (h.mono hE.size)), rng_mb (hq2 W (hE.trans (h.mono hE.size)))⟩)
          have hk2 := hk.later hE
          clear hpL hpi hq2
          go_upto_region 15 with (fail)
          go_wp2
          refine wp_relS 16 105 rfl (by kernel_rfl) (by kernel_rfl) ?_
          apply Steps.one (MP.eq _) 1 rfl
          · intro o ho FA x hO hD K hK
            obtain rfl := Option.some.inj ho.symm
            clear ho
            have e3 := hO 3 (by kernel_rfl)
            simp only [eval_tmp, List.getElem?_toArray, List.getElem?_cons_succ, List.getElem?_cons_zero, Option.getD_some] at e3
            have ev3 := Lib.hid ((eval_tmp FA 3).trans e3)
            clear hO hD
            refine wanted_if rfl ?_
            refine wp_ldA 87 (.tmp 3) rfl (bcs key) ev3.out (hk2.later (below_plus _ _ _)) (whole_ _) u1 u2 (szK16 key hk0) ?_
            exact hK.out _ _ (Ex.refl _) rfl
          apply Steps.one (MP.eq _) 2 rfl
          · intro o ho FA x hO hD K hK
            obtain rfl := Option.some.inj ho.symm
            clear ho
            have e7 := hO 7 (by kernel_rfl)
            simp only [eval_tmp, List.getElem?_toArray, List.getElem?_cons_succ, List.getElem?_cons_zero, Option.getD_some] at e7
            have ev7 := Lib.hid ((eval_tmp FA 7).trans e7)
            clear hO hD
            go_simp
            exact hK.out _ _ (Ex.refl _) rfl
          apply Steps.one (MP.rs 2 (prs .i64 L)) 3 rfl
          · intro o ho FA x hO hD K hK
            obtain rfl := Option.some.inj ho.symm
            clear ho
            have ev56 : FA.eval (.tmp 56) = _ := hD 1 56 (by kernel_rfl)
            have e56 := (eval_tmp FA 56).symm.trans ev56
            replace ev56 := Lib.hid ev56
            clear hO hD
            go_simp
            refine (HTO.out _ (HC.out _ (below_plus _ _ _)).1).mono ?_
            rintro e w1 ⟨A7, n7, c7, bs7, d7, rfl, rfl, h7⟩
            exact hK.out _ _ (Ex.plus_ _ _ _) ⟨_, _, _, rfl, h7⟩
          apply Steps.one (MP.eq _) 4 rfl
          · intro o ho FA x hO hD K hK
            obtain rfl := Option.some.inj ho.symm
            clear ho
            have e11 := hO 11 (by kernel_rfl)
            simp only [eval_tmp, List.getElem?_toArray, List.getElem?_cons_succ, List.getElem?_cons_zero, Option.getD_some] at e11
            have ev11 := Lib.hid ((eval_tmp FA 11).trans e11)
            clear hO hD
            go_simp
            exact hK.out _ _ (Ex.refl _) rfl
          apply Steps.one (MP.pm ((id : Int), wt)) 5 rfl
          · intro o ho FA x hO hD K hK
            obtain rfl := Option.some.inj ho.symm
            clear ho
            have f57 := hD 2 57 (by kernel_rfl)
            generalize eu57 : FA.eval (.tmp 57) = u57 at f57
            have e57 := (eval_tmp FA 57).symm.trans eu57
            have ev57 := Lib.hid eu57
            clear eu57
            have ev58 : FA.eval (.tmp 58) = _ := hD 3 58 (by kernel_rfl)
            have e58 := (eval_tmp FA 58).symm.trans ev58
            replace ev58 := Lib.hid ev58
            clear hO hD
            obtain ⟨A7, n7, c7, rfl, h7⟩ := f57
            have hn7 : n7 ≤ 1000 := by have := h7.1; rw [prs_length] at this; omega
            have h7n := h7.1
            rw [prs_length] at h7n
            have i7 : (i : Int) < (n7 : Int) := by omega
            obtain ⟨b7, o7, rfl, hb7, -⟩ := h7.at_ (by omega) (by decide)
            have hg7 := h7.range2 i hiL
            rw [HLI.out] at hg7
            go_simp
            exact hK.out _ _ (Ex.refl _) ⟨b7, o7 + i * 2, rfl, rng_mb hg7⟩
          apply Steps.one (MP.eq _) 6 rfl
          · intro o ho FA x hO hD K hK
            obtain rfl := Option.some.inj ho.symm
            clear ho
            have f59 := hD 4 59 (by kernel_rfl)
            generalize eu59 : FA.eval (.tmp 59) = u59 at f59
            have e59 := (eval_tmp FA 59).symm.trans eu59
            have ev59 := Lib.hid eu59
            clear eu59
            clear hO hD
            obtain ⟨b7, o7, rfl, hg7⟩ := f59
            refine wanted_if rfl ?_
            refine wp_load_mid 96 (.tmp 59) rfl b7 o7 ev59.out (mbC ((id : Int), wt)) _ hg7 m1 m2 (szMb _) ?_
            exact hK.out _ _ (Ex.refl _) rfl
          apply Steps.one (MP.eq _) 7 rfl
          · intro o ho FA x hO hD K hK
            obtain rfl := Option.some.inj ho.symm
            clear ho
            have e2 := hO 2 (by kernel_rfl)
            simp only [eval_tmp, List.getElem?_toArray, List.getElem?_cons_succ, List.getElem?_cons_zero, Option.getD_some] at e2
            have ev2 := Lib.hid ((eval_tmp FA 2).trans e2)
            clear hO hD
            go_simp
            exact hK.out _ _ (Ex.refl _) rfl
          apply Steps.one (MP.eq (.int .u64 X)) 8 rfl
          · intro o ho FA x hO hD K hK
            obtain rfl := Option.some.inj ho.symm
            clear ho
            have ev55 : FA.eval (.tmp 55) = _ := hD 0 55 (by kernel_rfl)
            have e55 := (eval_tmp FA 55).symm.trans ev55
            replace ev55 := Lib.hid ev55
            have ev60 : FA.eval (.tmp 60) = _ := hD 5 60 (by kernel_rfl)
            have e60 := (eval_tmp FA 60).symm.trans ev60
            replace ev60 := Lib.hid ev60
            have ev61 : FA.eval (.tmp 61) = _ := hD 6 61 (by kernel_rfl)
            have e61 := (eval_tmp FA 61).symm.trans ev61
            replace ev61 := Lib.hid ev61
            clear hO hD
            go_simp
            refine (HS1.out _ (HC.out _ (below_plus _ _ _)).2.1).mono ?_
            rintro e w1 ⟨bs9, d9, rfl, rfl⟩
            exact hK.out _ _ (Ex.plus_ _ _ _) rfl
          apply Steps.one (MP.eq _) 9 rfl
          · intro o ho FA x hO hD K hK
            obtain rfl := Option.some.inj ho.symm
            clear ho
            have e3 := hO 3 (by kernel_rfl)
            simp only [eval_tmp, List.getElem?_toArray, List.getElem?_cons_succ, List.getElem?_cons_zero, Option.getD_some] at e3
            have ev3 := Lib.hid ((eval_tmp FA 3).trans e3)
            clear hO hD
            refine wanted_if rfl ?_
            refine wp_ldA 87 (.tmp 3) rfl (bcs key) ev3.out (hk2.later (below_plus _ _ _)) (whole_ _) u1 u2 (szK16 key hk0) ?_
            exact hK.out _ _ (Ex.refl _) rfl
          apply Steps.one (MP.eq _) 10 rfl
          · intro o ho FA x hO hD K hK
            obtain rfl := Option.some.inj ho.symm
            clear ho
            have e7 := hO 7 (by kernel_rfl)
            simp only [eval_tmp, List.getElem?_toArray, List.getElem?_cons_succ, List.getElem?_cons_zero, Option.getD_some] at e7
            have ev7 := Lib.hid ((eval_tmp FA 7).trans e7)
            clear hO hD
            go_simp
            exact hK.out _ _ (Ex.refl _) rfl
          apply Steps.one (MP.eq _) 11 rfl
          · intro o ho FA x hO hD K hK
            obtain rfl := Option.some.inj ho.symm
            clear ho
            have e11 := hO 11 (by kernel_rfl)
            simp only [eval_tmp, List.getElem?_toArray, List.getElem?_cons_succ, List.getElem?_cons_zero, Option.getD_some] at e11
            have ev11 := Lib.hid ((eval_tmp FA 11).trans e11)
            clear hO hD
            go_simp
            exact hK.out _ _ (Ex.refl _) rfl
          apply Steps.one (MP.eq _) 12 rfl
          · intro o ho FA x hO hD K hK
            obtain rfl := Option.some.inj ho.symm
            clear ho
            have ev64 : FA.eval (.tmp 64) = _ := hD 9 64 (by kernel_rfl)
            have e64 := (eval_tmp FA 64).symm.trans ev64
            replace ev64 := Lib.hid ev64
            have ev65 : FA.eval (.tmp 65) = _ := hD 10 65 (by kernel_rfl)
            have e65 := (eval_tmp FA 65).symm.trans ev65
            replace ev65 := Lib.hid ev65
            clear hO hD
            go_simp
            exact hK.out _ _ (Ex.refl _) rfl
          apply Steps.one (MP.eq _) 13 rfl
          · intro o ho FA x hO hD K hK
            obtain rfl := Option.some.inj ho.symm
            clear ho
            have ev66 : FA.eval (.tmp 66) = _ := hD 11 66 (by kernel_rfl)
            have e66 := (eval_tmp FA 66).symm.trans ev66
            replace ev66 := Lib.hid ev66
            clear hO hD
            refine wanted_if rfl ?_
            refine wp_load_mid 98 (.tmp 66) rfl bl (ol + i * 2) ev66.out (mbC ((id : Int), wt)) _ (HC.out _ (below_plus _ _ _)).2.2 r1 r2 (szRm _) ?_
            exact hK.out _ _ (Ex.refl _) rfl
          apply Steps.one (MP.eq _) 14 rfl
          · intro o ho FA x hO hD K hK
            obtain rfl := Option.some.inj ho.symm
            clear ho
            have e2 := hO 2 (by kernel_rfl)
            simp only [eval_tmp, List.getElem?_toArray, List.getElem?_cons_succ, List.getElem?_cons_zero, Option.getD_some] at e2
            have ev2 := Lib.hid ((eval_tmp FA 2).trans e2)
            clear hO hD
            go_simp
            exact hK.out _ _ (Ex.refl _) rfl
          apply Steps.one (MP.eq (.int .u64 X)) 15 rfl
          · intro o ho FA x hO hD K hK
            obtain rfl := Option.some.inj ho.symm
            clear ho
            have ev63 : FA.eval (.tmp 63) = _ := hD 8 63 (by kernel_rfl)
            have e63 := (eval_tmp FA 63).symm.trans ev63
            replace ev63 := Lib.hid ev63
            have ev67 : FA.eval (.tmp 67) = _ := hD 12 67 (by kernel_rfl)
            have e67 := (eval_tmp FA 67).symm.trans ev67
            replace ev67 := Lib.hid ev67
            have ev68 : FA.eval (.tmp 68) = _ := hD 13 68 (by kernel_rfl)
            have e68 := (eval_tmp FA 68).symm.trans ev68
            replace ev68 := Lib.hid ev68
            clear hO hD
            go_simp
            refine (HS2.out _ (HC.out _ (below_plus _ _ _)).2.1).mono ?_
            rintro e w1 ⟨bs9, d9, rfl, rfl⟩
            exact hK.out _ _ (Ex.plus_ _ _ _) rfl
          apply Steps.one (MP.eq _) 16 rfl
          · intro o ho FA x hO hD K hK
            obtain rfl := Option.some.inj ho.symm
            clear ho
            have ev62 : FA.eval (.tmp 62) = _ := hD 7 62 (by kernel_rfl)
            have e62 := (eval_tmp FA 62).symm.trans ev62
            replace ev62 := Lib.hid ev62
            have ev69 : FA.eval (.tmp 69) = _ := hD 14 69 (by kernel_rfl)
            have e69 := (eval_tmp FA 69).symm.trans ev69
            replace ev69 := Lib.hid ev69
            clear hO hD
            go_simp
            exact hK.out _ _ (Ex.refl _) rfl
          refine Steps.fin_ (fun vs x hp => ?_)
          have p0 : vs 0 = _ := hp 0 (by omega)
          have p1 : vs 1 = _ := hp 1 (by omega)
          have p2 := hp 2 (by omega)
          have p3 : vs 3 = _ := hp 3 (by omega)
          have p4 := hp 4 (by omega)
          have p5 : vs 5 = _ := hp 5 (by omega)
          have p6 : vs 6 = _ := hp 6 (by omega)
          have p7 : vs 7 = _ := hp 7 (by omega)
          have p8 : vs 8 = _ := hp 8 (by omega)
          have p9 : vs 9 = _ := hp 9 (by omega)
          have p10 : vs 10 = _ := hp 10 (by omega)
          have p11 : vs 11 = _ := hp 11 (by omega)
          have p12 : vs 12 = _ := hp 12 (by omega)
          have p13 : vs 13 = _ := hp 13 (by omega)
          have p14 : vs 14 = _ := hp 14 (by omega)
          have p15 : vs 15 = _ := hp 15 (by omega)
          clear hp
          simp only [List.take_succ_cons, List.take_zero, List.drop_succ_cons, List.drop_zero, putAll, Nat.zero_add, Nat.reduceAdd, Act.put, List.setIfInBounds_toArray, List.set_cons_zero, List.set_cons_succ, p0, p1, p3, p5, p6, p7, p8, p9, p10, p11, p12, p13, p14, p15]
          clear p0 p1 p3 p5 p6 p7 p8 p9 p10 p11 p12 p13 p14 p15
          generalize vs 2 = y2 at *
          generalize vs 4 = y4 at *
          clear vs
          have hE2 := belowP hE x.bs x.d
          clear HC hk2
          go_wp2
          exact ⟨⟨i + 1, by go_num, by omega, hE2⟩, by simp [intOf]; omega⟩
        · obtain rfl : n1 = i := by omega
          have ij : ¬ (n1 : Int) < (n1 : Int) := by omega
          have hbe2 := hbe.trans (hE.mono hbe.size)
          have hk2 := hk.later hE
          replace h4 := h4.later hE
          have HC := Lib.hid (fun (W : World) (h : Below wr.heap.size wr W) => show Rs 2 W A1 n1 c1 (prs .i64 L) ∧ Rb W A n c b from ⟨hx.later (hE.trans (h.mono hE.size)), hr.later (hE.trans (h.mono hE.size))⟩)
          go_upto_region 17 with (fail)
          go_wp2
          refine wp_relS 10 105 rfl (by kernel_rfl) (by kernel_rfl) ?_
          apply Steps.one (MP.eq _) 1 rfl
          · intro o ho FA x hO hD K hK
            obtain rfl := Option.some.inj ho.symm
            clear ho
            have e3 := hO 3 (by kernel_rfl)
            simp only [eval_tmp, List.getElem?_toArray, List.getElem?_cons_succ, List.getElem?_cons_zero, Option.getD_some] at e3
            have ev3 := Lib.hid ((eval_tmp FA 3).trans e3)
            clear hO hD
            refine wanted_if rfl ?_
            refine wp_ldA 87 (.tmp 3) rfl (bcs key) ev3.out (hk2.later (below_plus _ _ _)) (whole_ _) u1 u2 (szK16 key hk0) ?_
            exact hK.out _ _ (Ex.refl _) rfl
          apply Steps.one (MP.eq _) 2 rfl
          · intro o ho FA x hO hD K hK
            obtain rfl := Option.some.inj ho.symm
            clear ho
            have e7 := hO 7 (by kernel_rfl)
            simp only [eval_tmp, List.getElem?_toArray, List.getElem?_cons_succ, List.getElem?_cons_zero, Option.getD_some] at e7
            have ev7 := Lib.hid ((eval_tmp FA 7).trans e7)
            clear hO hD
            go_simp
            exact hK.out _ _ (Ex.refl _) rfl
          apply Steps.one (MP.rs 2 (prs .i64 L)) 3 rfl
          · intro o ho FA x hO hD K hK
            obtain rfl := Option.some.inj ho.symm
            clear ho
            have ev73 : FA.eval (.tmp 73) = _ := hD 1 73 (by kernel_rfl)
            have e73 := (eval_tmp FA 73).symm.trans ev73
            replace ev73 := Lib.hid ev73
            clear hO hD
            go_simp
            refine (HTO.out _ (HC.out _ (below_plus _ _ _)).1).mono ?_
            rintro e w1 ⟨A7, n7, c7, bs7, d7, rfl, rfl, h7⟩
            exact hK.out _ _ (Ex.plus_ _ _ _) ⟨_, _, _, rfl, h7⟩
          apply Steps.one (MP.eq _) 4 rfl
          · intro o ho FA x hO hD K hK
            obtain rfl := Option.some.inj ho.symm
            clear ho
            have e2 := hO 2 (by kernel_rfl)
            simp only [eval_tmp, List.getElem?_toArray, List.getElem?_cons_succ, List.getElem?_cons_zero, Option.getD_some] at e2
            have ev2 := Lib.hid ((eval_tmp FA 2).trans e2)
            clear hO hD
            go_simp
            exact hK.out _ _ (Ex.refl _) rfl
          apply Steps.one (MP.eq (.tuple #[.int .i64 pv1, .bool pv2])) 5 rfl
          · intro o ho FA x hO hD K hK
            obtain rfl := Option.some.inj ho.symm
            clear ho
            have ev72 : FA.eval (.tmp 72) = _ := hD 0 72 (by kernel_rfl)
            have e72 := (eval_tmp FA 72).symm.trans ev72
            replace ev72 := Lib.hid ev72
            have f74 := hD 2 74 (by kernel_rfl)
            generalize eu74 : FA.eval (.tmp 74) = u74 at f74
            have e74 := (eval_tmp FA 74).symm.trans eu74
            have ev74 := Lib.hid eu74
            clear eu74
            have ev75 : FA.eval (.tmp 75) = _ := hD 3 75 (by kernel_rfl)
            have e75 := (eval_tmp FA 75).symm.trans ev75
            replace ev75 := Lib.hid ev75
            clear hO hD
            obtain ⟨A7, n7, c7, rfl, h7⟩ := f74
            have hn7 : n7 ≤ 1000 := by have := h7.1; rw [prs_length] at this; omega
            go_simp
            refine (HPK.out _ _ _ _ (HC.out _ (below_plus _ _ _)).2 h7 hn7).mono ?_
            rintro e w1 ⟨bs9, d9, rfl, rfl⟩
            exact hK.out _ _ (Ex.plus_ _ _ _) rfl
          apply Steps.one (MP.eq _) 6 rfl
          · intro o ho FA x hO hD K hK
            obtain rfl := Option.some.inj ho.symm
            clear ho
            have ev76 : FA.eval (.tmp 76) = _ := hD 4 76 (by kernel_rfl)
            have e76 := (eval_tmp FA 76).symm.trans ev76
            replace ev76 := Lib.hid ev76
            clear hO hD
            go_simp
            exact hK.out _ _ (Ex.refl _) rfl
          apply Steps.one (MP.eq _) 7 rfl
          · intro o ho FA x hO hD K hK
            obtain rfl := Option.some.inj ho.symm
            clear ho
            have ev71 : FA.eval (.tmp 71) = _ := hD 5 71 (by kernel_rfl)
            have e71 := (eval_tmp FA 71).symm.trans ev71
            replace ev71 := Lib.hid ev71
            clear hO hD
            go_simp
            exact hK.out _ _ (Ex.refl _) rfl
          apply Steps.one (MP.eq _) 8 rfl
          · intro o ho FA x hO hD K hK
            obtain rfl := Option.some.inj ho.symm
            clear ho
            have ev71 : FA.eval (.tmp 71) = _ := hD 5 71 (by kernel_rfl)
            have e71 := (eval_tmp FA 71).symm.trans ev71
            replace ev71 := Lib.hid ev71
            clear hO hD
            go_simp
            exact hK.out _ _ (Ex.refl _) rfl
          apply Steps.one (MP.eq _) 9 rfl
          · intro o ho FA x hO hD K hK
            obtain rfl := Option.some.inj ho.symm
            clear ho
            have ev77 : FA.eval (.tmp 77) = _ := hD 6 77 (by kernel_rfl)
            have e77 := (eval_tmp FA 77).symm.trans ev77
            replace ev77 := Lib.hid ev77
            clear hO hD
            go_simp
            exact hK.out _ _ (Ex.refl _) rfl
          apply Steps.one (MP.eq _) 10 rfl
          · intro o ho FA x hO hD K hK
            obtain rfl := Option.some.inj ho.symm
            clear ho
            have ev78 : FA.eval (.tmp 78) = _ := hD 7 78 (by kernel_rfl)
            have e78 := (eval_tmp FA 78).symm.trans ev78
            replace ev78 := Lib.hid ev78
            clear hO hD
            go_simp
            exact hK.out _ _ (Ex.refl _) rfl
          refine Steps.fin_ (fun vs x hp => ?_)
          have p0 : vs 0 = _ := hp 0 (by omega)
          have p1 : vs 1 = _ := hp 1 (by omega)
          have p2 := hp 2 (by omega)
          have p3 : vs 3 = _ := hp 3 (by omega)
          have p4 : vs 4 = _ := hp 4 (by omega)
          have p5 : vs 5 = _ := hp 5 (by omega)
          have p6 : vs 6 = _ := hp 6 (by omega)
          have p7 : vs 7 = _ := hp 7 (by omega)
          have p8 : vs 8 = _ := hp 8 (by omega)
          have p9 : vs 9 = _ := hp 9 (by omega)
          clear hp
          simp only [List.take_succ_cons, List.take_zero, List.drop_succ_cons, List.drop_zero, putAll, Nat.zero_add, Nat.reduceAdd, Act.put, List.setIfInBounds_toArray, List.set_cons_zero, List.set_cons_succ, p0, p1, p3, p4, p5, p6, p7, p8, p9]
          clear p0 p1 p3 p4 p5 p6 p7 p8 p9
          generalize vs 2 = y2 at *
          clear vs
          replace h4 := h4.later (below_plus wr x.bs x.d)
          replace hbe2 := belowP hbe2 x.bs x.d
          clear HC hk2 hE
          generalize plus wr x.bs x.d = W5 at *
          by_cases h00 : n3 = 0
          · obtain ⟨rfl, rfl⟩ := HRN.out (by omega)
            subst h00
            go_wp2_with (go_at_call 29; refine (awake16 _).mono ?_; rintro e w1 ⟨bs3, d3, rfl, rfl⟩)
            go_ret
            exact RetV.mk (belowP hbe2 bs3 d3)
          · have hR0 : 0 < R.length := by omega
            obtain ⟨e1, rfl⟩ := HR0.out hR0
            have i00 : (0 : Int) < (n3 : Int) := by omega
            obtain ⟨b4, o4, rfl, hb4, hc9⟩ := h4.at_ (by omega) (by decide)
            have hc4 : W5.cell? ⟨b4, o4, none⟩ = some (.int .i64 R[0]) := hc9 0 _ (itH_at _ 0 hR0)
            rw [← e1] at hc4
            clear e1 hc9
            go_wp2_with (go_at_call 29; refine (awake16 _).mono ?_; rintro e w1 ⟨bs3, d3, rfl, rfl⟩)
            go_ret
            exact RetV.mk (belowP hbe2 bs3 d3)
end Go.Proofs.Ytknoenceccpkhaa

/- HrwRanks: the row (chapter 16). -/
namespace Go.Proofs.Ytknoenceccpkhaa
open Go.RowKit
set_option linter.unusedVariables false

theorem hrwRanks_row (w : World) (key : List UInt8) (hk : K16 key) (A0 : Option Addr) (c0 : Nat) (L : List (Int × Int)) (hl : L.length ≤ c0) (hc : c0 ≤ maxLen) (hr : Rd w w.heap.size A0 (prs .i64 L)) (hw : ∀ q ∈ L, (Lit.int .i64 q.1).wf = true ∧ (Lit.int .i64 q.2).wf = true)
    (A : Option Addr) (c : Nat) (l : List UInt8) (hl2 : l.length ≤ c) (hc2 : c ≤ maxLen) (hr2 : Rd w w.heap.size A (bcs l)) :
    Calls Try.prog 6 #[.agg (bcs key).toArray, .slice A0 L.length c0, .slice A l.length c] w fun e w' => e = .returned (.bool true) ∧ Below w.heap.size w w' := by
  simp only [maxLen] at hc hc2
  refine (hrwRanks_walk key hk L (fun q hq => ?_) A0 L.length c0 A l.length c l w ⟨prs_length _ _, hl, hr⟩ (by omega) ⟨rfl, hl2, hr2⟩ (by omega)).mono ?_
  · have h1 := bounds_i64 (hw q hq).1
    have h2 := bounds_i64 (hw q hq).2
    exact ⟨h1, h2⟩
  · rintro e w1 ⟨bs, d, rfl, rfl⟩
    exact ⟨rfl, below_plus _ _ _⟩
end Go.Proofs.Ytknoenceccpkhaa

