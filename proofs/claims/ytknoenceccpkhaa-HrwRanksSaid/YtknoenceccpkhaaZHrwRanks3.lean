/- Texts of the law HrwRanks, part 3. -/
import Derived.Test.YtknoenceccpkhaaZHrwRanks2
/- The reference's Rank (chapter 16). -/
namespace Go.Proofs.Ytknoenceccpkhaa
open Go.RowKit
set_option linter.unusedVariables false
set_option linter.unusedSimpArgs false
attribute [local go_sem ↓] sliced_cut

attribute [local go_sem] cutA_zero

theorem rankL_snoc (key b : List UInt8) (L : List (Int × Int)) (j : Nat) (hj : j < L.length) (hw : 0 < L[j].2) : rankL key b (L.take (j + 1)) = insL (rankL key b (L.take j)) (L[j].1, scoreI key b L[j]) := by
  unfold rankL
  rw [scd_snoc _ _ _ hj]
  have e : scd (scoreI key b) [L[j]] = [(L[j].1, scoreI key b L[j])] := by simp only [scd]; rw [if_pos hw]
  rw [e, srtL_snoc]
theorem rankL_skip (key b : List UInt8) (L : List (Int × Int)) (j : Nat) (hj : j < L.length) (hw : ¬ 0 < L[j].2) : rankL key b (L.take (j + 1)) = rankL key b (L.take j) := by
  unfold rankL
  rw [scd_snoc _ _ _ hj]
  have e : scd (scoreI key b) [L[j]] = [] := by simp only [scd]; rw [if_neg hw]
  rw [e, List.append_nil]
theorem rankL_len (key b : List UInt8) (L : List (Int × Int)) : (rankL key b L).length ≤ L.length := by
  unfold rankL
  rw [srtL_len]
  exact scd_len _ _
set_option maxHeartbeats 4000000 in
set_option maxRecDepth 100000 in
theorem refRank_any (key : List UInt8) (hk0 : K16 key) (L : List (Int × Int)) (hL : Light L) (h12 : L.length ≤ 12) (Al : Option Addr) (nl cl : Nat) (A : Option Addr) (n c : Nat) (b : List UInt8) (w : World) (hr : Rb w A n c b) (hl : Rs 2 w Al nl cl (prs .i64 L)) (hm : n ≤ 1000) (hml : nl ≤ 1000) :
    Calls Try.prog 33 #[.agg (bcs key).toArray, .slice Al nl cl, .slice A n c] w (RetRs 1 w (itH ((rankL key b L).map (·.1)))) := by
  obtain ⟨dk, u1, u2⟩ := rowK16
  obtain ⟨dm, m1, m2⟩ := rowRm
  have hln : L.length = nl := by have := hl.1; rw [prs_length] at this; omega
  have hk : Bk (w.alloc (.cells (bcs key).toArray 87)) w.heap.size 87 (bcs key) := Bk.new w 87 (bcs key).toArray
  have be : Below w.heap.size w (w.alloc (.cells (bcs key).toArray 87)) := Below.allocS (Below.refl _ _) _
  replace hr := (hr.alloc (.cells (bcs key).toArray 87))
  replace hl := (hl.alloc (.cells (bcs key).toArray 87))
  have zV : w.heap.size + 1 ≤ (w.alloc (.cells (bcs key).toArray 87)).heap.size := by simp
  go_enter Try.func33, Try.ntmps33
  go_upto_region 1 with (fail)
  generalize w.alloc (.cells (bcs key).toArray 87) = V at *
  go_upto_region 4 with (fail)
  have HE := Lib.hid be
  have HK := Lib.hid hk
  clear be hk
  go_loopw [7, 8, 9, 10, 11] (fun O Z I A10 A11 wr => ∃ (j : Nat) (Ao As : Option Addr) (n1 c1 c2 : Nat), I = .int .i64 (j : Int) ∧ j ≤ nl ∧ O = .slice Ao n1 c1 ∧ Z = .slice As n1 c2 ∧ Rs 1 wr Ao n1 c1 (itH ((rankL key b (L.take j)).map (·.1))) ∧ Rs 1 wr As n1 c2 (usH ((rankL key b (L.take j)).map (·.2))) ∧ Bk wr w.heap.size 87 (bcs key) ∧ Below w.heap.size w wr ∧ Below V.heap.size V wr) (fun _ _ I _ _ _ => nl - (intOf I).toNat)
  case atStart => exact ⟨0, none, none, 0, 0, 0, rfl, Nat.zero_le _, rfl, rfl, by simpa [itH, rankL, scd, srtL] using (Rs.nil_ : Rs 1 V none 0 0 []), by simpa [usH, rankL, scd, srtL] using (Rs.nil_ : Rs 1 V none 0 0 []), HK.out, HE.out, Below.refl _ _⟩
  case round =>
    clear HE HK
    obtain ⟨j, Ao, As, n1, c1, c2, rfl, hj, rfl, rfl, hO, hZ, hk2, hE, hV⟩ := hrel
    by_cases hlt : j < nl
    · have ij : (j : Int) < (nl : Int) := by omega
      have hjL : j < L.length := by omega
      obtain ⟨bl, ol, rfl, hbl, -⟩ := hl.at_ (by omega) (by decide)
      have hq2 := fun W (h : Below V.heap.size V W) => (hl.later h).range2 j hjL
      have hp := hL L[j] (List.getElem_mem hjL)
      have hsk := rankL_skip key b L j hjL
      have hsn := rankL_snoc key b L j hjL
      have hlS := rankL_len key b (L.take j)
      have hlS2 : (rankL key b (L.take j)).length = n1 := by have := hO.1; rw [itH_len, List.length_map] at this; omega
      generalize L[j] = p at *
      obtain ⟨pid, wt⟩ := p
      obtain ⟨id, rfl⟩ := Int.eq_ofNat_of_zero_le hp.1
      have hid : id < 64 := by have := hp.2.1; simp at this; omega
      have hwt : wt < 8 := hp.2.2
      simp only [] at hsk hsn hq2
      have hn1 : n1 ≤ 12 := by rw [List.length_take] at hlS; omega
      have q1 := (hq2 wr hV).2
      have q0 := (hq2 wr hV).1
      have HSK := Lib.hid hsk
      have HSN := Lib.hid hsn
      have HQ2 := Lib.hid hq2
      clear hp hsk hsn hlS hq2
      generalize rankL key b (L.take j) = S at *
      by_cases hw0 : wt ≤ 0
      · have hs := HSK.out (by omega)
        have HS := Lib.hid hs
        clear hs HSK HSN q0
        go_wp2
        exact ⟨⟨j + 1, Ao, As, n1, c1, c2, by go_num, by omega, rfl, rfl, by rw [HS.out]; exact hO, by rw [HS.out]; exact hZ, hk2, hE, hV⟩, by simp [intOf]; omega⟩
      · have hs := HSN.out (by omega)
        have HN := Lib.hid hs
        clear hs HSK HSN
        have HS := Lib.hid (fun W (h : Rb W A n c b) => refScore_any key hk0 id wt A n c b W h hm (by omega) (by omega))
        generalize scoreI key b ((id : Int), wt) = X at *
        have HB := Lib.hid (fun (W : World) (h : Below wr.heap.size wr W) => ((hr.later hV).later h : Rb W A n c b))
        have HM := Lib.hid (fun (W : World) (h : Below wr.heap.size wr W) => show W.rangeAt bl (ol + j * 2) (mbC ((id : Int), wt)) from fun i u hu => by
          have h9 := HQ2.out W (hV.trans (h.mono hV.size))
          match i, hu with
          | 0, hu => simp [mbC] at hu; subst hu; exact h9.1
          | 1, hu => simp [mbC] at hu; subst hu; exact h9.2
          | i + 2, hu => simp [mbC] at hu)
        go_upto_region 7 with (fail)
        clear q0 q1
        go_wp2
        refine wp_relS 8 97 rfl (by kernel_rfl) (by kernel_rfl) ?_
        apply Steps.one (MP.eq _) 1 rfl
        · intro o ho FA x hO hD K hK
          obtain rfl := Option.some.inj ho.symm
          clear ho
          have e3 := hO 3 (by kernel_rfl)
          simp only [eval_tmp, List.getElem?_toArray, List.getElem?_cons_succ, List.getElem?_cons_zero, Option.getD_some] at e3
          have ev3 := Lib.hid ((eval_tmp FA 3).trans e3)
          clear hO hD
          refine wanted_if rfl ?_
          refine wp_ldA 87 (.tmp 3) rfl (bcs key) ev3.out (hk2.later (below_plus _ _ _)) (whole_ _) u1 u2 (szK16 key hk0) ?_
          exact hK.out _ _ (Ex.refl _) rfl
        apply Steps.one (MP.eq _) 2 rfl
        · intro o ho FA x hO hD K hK
          obtain rfl := Option.some.inj ho.symm
          clear ho
          have e1 := hO 1 (by kernel_rfl)
          simp only [eval_tmp, List.getElem?_toArray, List.getElem?_cons_succ, List.getElem?_cons_zero, Option.getD_some] at e1
          have ev1 := Lib.hid ((eval_tmp FA 1).trans e1)
          clear hO hD
          go_simp
          exact hK.out _ _ (Ex.refl _) rfl
        apply Steps.one (MP.eq _) 3 rfl
        · intro o ho FA x hO hD K hK
          obtain rfl := Option.some.inj ho.symm
          clear ho
          have e9 := hO 9 (by kernel_rfl)
          simp only [eval_tmp, List.getElem?_toArray, List.getElem?_cons_succ, List.getElem?_cons_zero, Option.getD_some] at e9
          have ev9 := Lib.hid ((eval_tmp FA 9).trans e9)
          clear hO hD
          go_simp
          exact hK.out _ _ (Ex.refl _) rfl
        apply Steps.one (MP.eq _) 4 rfl
        · intro o ho FA x hO hD K hK
          obtain rfl := Option.some.inj ho.symm
          clear ho
          have ev25 : FA.eval (.tmp 25) = _ := hD 1 25 (by kernel_rfl)
          have e25 := (eval_tmp FA 25).symm.trans ev25
          replace ev25 := Lib.hid ev25
          have ev26 : FA.eval (.tmp 26) = _ := hD 2 26 (by kernel_rfl)
          have e26 := (eval_tmp FA 26).symm.trans ev26
          replace ev26 := Lib.hid ev26
          clear hO hD
          go_simp
          exact hK.out _ _ (Ex.refl _) rfl
        apply Steps.one (MP.eq _) 5 rfl
        · intro o ho FA x hO hD K hK
          obtain rfl := Option.some.inj ho.symm
          clear ho
          have ev27 : FA.eval (.tmp 27) = _ := hD 3 27 (by kernel_rfl)
          have e27 := (eval_tmp FA 27).symm.trans ev27
          replace ev27 := Lib.hid ev27
          clear hO hD
          refine wanted_if rfl ?_
          refine wp_load_mid 98 (.tmp 27) rfl bl (ol + j * 2) ev27.out (mbC ((id : Int), wt)) _ (HM.out _ (below_plus _ _ _)) m1 m2 (szRm _) ?_
          exact hK.out _ _ (Ex.refl _) rfl
        apply Steps.one (MP.eq _) 6 rfl
        · intro o ho FA x hO hD K hK
          obtain rfl := Option.some.inj ho.symm
          clear ho
          have e2 := hO 2 (by kernel_rfl)
          simp only [eval_tmp, List.getElem?_toArray, List.getElem?_cons_succ, List.getElem?_cons_zero, Option.getD_some] at e2
          have ev2 := Lib.hid ((eval_tmp FA 2).trans e2)
          clear hO hD
          go_simp
          exact hK.out _ _ (Ex.refl _) rfl
        apply Steps.one (MP.eq (.int .u64 X)) 7 rfl
        · intro o ho FA x hO hD K hK
          obtain rfl := Option.some.inj ho.symm
          clear ho
          have ev24 : FA.eval (.tmp 24) = _ := hD 0 24 (by kernel_rfl)
          have e24 := (eval_tmp FA 24).symm.trans ev24
          replace ev24 := Lib.hid ev24
          have ev28 : FA.eval (.tmp 28) = _ := hD 4 28 (by kernel_rfl)
          have e28 := (eval_tmp FA 28).symm.trans ev28
          replace ev28 := Lib.hid ev28
          have ev29 : FA.eval (.tmp 29) = _ := hD 5 29 (by kernel_rfl)
          have e29 := (eval_tmp FA 29).symm.trans ev29
          replace ev29 := Lib.hid ev29
          clear hO hD
          go_simp
          refine (HS.out _ (HB.out _ (below_plus _ _ _))).mono ?_
          rintro e w1 ⟨bs2, d2, rfl, rfl⟩
          exact hK.out _ _ (Ex.plus_ _ _ _) rfl
        apply Steps.one (MP.eq _) 8 rfl
        · intro o ho FA x hO hD K hK
          obtain rfl := Option.some.inj ho.symm
          clear ho
          have ev30 : FA.eval (.tmp 30) = _ := hD 6 30 (by kernel_rfl)
          have e30 := (eval_tmp FA 30).symm.trans ev30
          replace ev30 := Lib.hid ev30
          clear hO hD
          go_simp
          exact hK.out _ _ (Ex.refl _) rfl
        refine Steps.fin_ (fun vs x hp => ?_)
        have p0 : vs 0 = _ := hp 0 (by omega)
        have p1 : vs 1 = _ := hp 1 (by omega)
        have p2 : vs 2 = _ := hp 2 (by omega)
        have p3 : vs 3 = _ := hp 3 (by omega)
        have p4 : vs 4 = _ := hp 4 (by omega)
        have p5 : vs 5 = _ := hp 5 (by omega)
        have p6 : vs 6 = _ := hp 6 (by omega)
        have p7 : vs 7 = _ := hp 7 (by omega)
        clear hp
        simp only [List.take_succ_cons, List.take_zero, List.drop_succ_cons, List.drop_zero, putAll, Nat.zero_add, Nat.reduceAdd, Act.put, List.setIfInBounds_toArray, List.set_cons_zero, List.set_cons_succ, p0, p1, p2, p3, p4, p5, p6, p7]
        clear p0 p1 p2 p3 p4 p5 p6 p7
        clear vs
        have b7 := below_plus wr x.bs x.d
        replace hO := hO.later b7
        replace hZ := hZ.later b7
        replace hk2 := hk2.later b7
        replace hE := belowP hE x.bs x.d
        replace hV := belowP hV x.bs x.d
        clear b7 HB HM HS
        generalize plus wr x.bs x.d = W2 at *
        have hins : insL S ((id : Int), X) = S.take (posL S ((id : Int), X) n1) ++ ((id : Int), X) :: S.drop (posL S ((id : Int), X) n1) := by unfold insL; rw [hlS2]
        obtain ⟨Qx, hQx⟩ : ∃ Q, posL S ((id : Int), X) n1 = Q := ⟨_, rfl⟩
        rw [hQx] at hins
        have HINS := Lib.hid hins
        have HQX := Lib.hid hQx
        clear hins hQx
        go_upto_region 9 with (fail)
        go_loopw [11] (fun AT wr => ∃ q : Nat, AT = .int .i64 (q : Int) ∧ q ≤ n1 ∧ posL S ((id : Int), X) q = Qx ∧ Below W2.heap.size W2 wr) (fun AT _ => (intOf AT).toNat)
        case atStart => exact ⟨n1, rfl, Nat.le_refl _, HQX.out, Below.refl _ _⟩
        case round =>
          obtain ⟨q, rfl, hqn, hqx, hE9b⟩ := hrel
          have hE9 := hE.trans (hE9b.mono hE.size)
          have hV9 := hV.trans (hE9b.mono hV.size)
          obtain ⟨Po, hPo0⟩ : ∃ P, (S.take q).map (·.1) = P := ⟨_, rfl⟩
          obtain ⟨Qo, hQo0⟩ : ∃ P, (S.drop q).map (·.1) = P := ⟨_, rfl⟩
          obtain ⟨Ps, hPs0⟩ : ∃ P, (S.take q).map (·.2) = P := ⟨_, rfl⟩
          obtain ⟨Qs, hQs0⟩ : ∃ P, (S.drop q).map (·.2) = P := ⟨_, rfl⟩
          have HPo := Lib.hid hPo0
          have HQo := Lib.hid hQo0
          have HPs := Lib.hid hPs0
          have HQs := Lib.hid hQs0
          clear hPo0 hQo0 hPs0 hQs0
          by_cases hq0 : q = 0
          · have i0 : ¬ (0 : Int) < (q : Int) := by omega
            have n0 : ¬ 0 < q := by omega
            have hres : q = Qx := by rw [hq0] at hqx ⊢; exact hqx
            have HRES := Lib.hid hres
            have HC := Lib.hid True.intro
            clear hq0 hqx hres
            go_upto_region 9 with (fail)
            go_wp2
            refine wp_relS 33 97 rfl (by kernel_rfl) (by kernel_rfl) ?_
            apply Steps.one (MP.eq _) 1 rfl
            · intro o ho FA x hO hD K hK
              obtain rfl := Option.some.inj ho.symm
              clear ho
              have e11 := hO 11 (by kernel_rfl)
              simp only [eval_tmp, List.getElem?_toArray, List.getElem?_cons_succ, List.getElem?_cons_zero, Option.getD_some] at e11
              have ev11 := Lib.hid ((eval_tmp FA 11).trans e11)
              clear hO hD
              go_simp
              exact hK.out _ _ (Ex.refl _) rfl
            apply Steps.one (MP.eq _) 2 rfl
            · intro o ho FA x hO hD K hK
              obtain rfl := Option.some.inj ho.symm
              clear ho
              have ev33 : FA.eval (.tmp 33) = _ := hD 0 33 (by kernel_rfl)
              have e33 := (eval_tmp FA 33).symm.trans ev33
              replace ev33 := Lib.hid ev33
              clear hO hD
              go_simp
              exact hK.out _ _ (Ex.refl _) rfl
            apply Steps.one (MP.eq _) 3 rfl
            · intro o ho FA x hO hD K hK
              obtain rfl := Option.some.inj ho.symm
              clear ho
              have ev34 : FA.eval (.tmp 34) = _ := hD 1 34 (by kernel_rfl)
              have e34 := (eval_tmp FA 34).symm.trans ev34
              replace ev34 := Lib.hid ev34
              clear hO hD
              go_simp
              exact hK.out _ _ (Ex.refl _) rfl
            apply Steps.one (MP.eq _) 4 rfl
            · intro o ho FA x hO hD K hK
              obtain rfl := Option.some.inj ho.symm
              clear ho
              have e8 := hO 8 (by kernel_rfl)
              simp only [eval_tmp, List.getElem?_toArray, List.getElem?_cons_succ, List.getElem?_cons_zero, Option.getD_some] at e8
              have ev8 := Lib.hid ((eval_tmp FA 8).trans e8)
              have ev35 : FA.eval (.tmp 35) = _ := hD 2 35 (by kernel_rfl)
              have e35 := (eval_tmp FA 35).symm.trans ev35
              replace ev35 := Lib.hid ev35
              first | have ge35 := slot_of e35 | have ge35 := slot_un e35
              clear hO hD
              first | (go_simp; exact hK.out _ _ (Ex.refl _) rfl) | (rcases ge35 with ge35 | ge35 <;> (go_simp; exact hK.out _ _ (Ex.refl _) rfl))
            apply Steps.one (MP.eq _) 5 rfl
            · intro o ho FA x hO hD K hK
              obtain rfl := Option.some.inj ho.symm
              clear ho
              have e11 := hO 11 (by kernel_rfl)
              simp only [eval_tmp, List.getElem?_toArray, List.getElem?_cons_succ, List.getElem?_cons_zero, Option.getD_some] at e11
              have ev11 := Lib.hid ((eval_tmp FA 11).trans e11)
              have ev35 : FA.eval (.tmp 35) = _ := hD 2 35 (by kernel_rfl)
              have e35 := (eval_tmp FA 35).symm.trans ev35
              replace ev35 := Lib.hid ev35
              first | have ge35 := slot_of e35 | have ge35 := slot_un e35
              clear hO hD
              first | (go_simp; exact hK.out _ _ (Ex.refl _) rfl) | (rcases ge35 with ge35 | ge35 <;> (go_simp; exact hK.out _ _ (Ex.refl _) rfl))
            apply Steps.one (MP.eq _) 6 rfl
            · intro o ho FA x hO hD K hK
              obtain rfl := Option.some.inj ho.symm
              clear ho
              have ev37 : FA.eval (.tmp 37) = _ := hD 4 37 (by kernel_rfl)
              have e37 := (eval_tmp FA 37).symm.trans ev37
              replace ev37 := Lib.hid ev37
              have ev35 : FA.eval (.tmp 35) = _ := hD 2 35 (by kernel_rfl)
              have e35 := (eval_tmp FA 35).symm.trans ev35
              replace ev35 := Lib.hid ev35
              first | have ge35 := slot_of e35 | have ge35 := slot_un e35
              clear hO hD
              first | (go_simp; exact hK.out _ _ (Ex.refl _) rfl) | (rcases ge35 with ge35 | ge35 <;> (go_simp; exact hK.out _ _ (Ex.refl _) rfl))
            apply Steps.one (MP.eq _) 7 rfl
            · intro o ho FA x hO hD K hK
              obtain rfl := Option.some.inj ho.symm
              clear ho
              have ev36 : FA.eval (.tmp 36) = _ := hD 3 36 (by kernel_rfl)
              have e36 := (eval_tmp FA 36).symm.trans ev36
              replace ev36 := Lib.hid ev36
              have ev38 : FA.eval (.tmp 38) = _ := hD 5 38 (by kernel_rfl)
              have e38 := (eval_tmp FA 38).symm.trans ev38
              replace ev38 := Lib.hid ev38
              have ev35 : FA.eval (.tmp 35) = _ := hD 2 35 (by kernel_rfl)
              have e35 := (eval_tmp FA 35).symm.trans ev35
              replace ev35 := Lib.hid ev35
              first | have ge35 := slot_of e35 | have ge35 := slot_un e35
              clear hO hD
              first | (go_simp; exact hK.out _ _ (Ex.refl _) rfl) | (rcases ge35 with ge35 | ge35 <;> (go_simp; exact hK.out _ _ (Ex.refl _) rfl))
            apply Steps.one (MP.eq _) 8 rfl
            · intro o ho FA x hO hD K hK
              obtain rfl := Option.some.inj ho.symm
              clear ho
              have ev39 : FA.eval (.tmp 39) = _ := hD 6 39 (by kernel_rfl)
              have e39 := (eval_tmp FA 39).symm.trans ev39
              replace ev39 := Lib.hid ev39
              have ev35 : FA.eval (.tmp 35) = _ := hD 2 35 (by kernel_rfl)
              have e35 := (eval_tmp FA 35).symm.trans ev35
              replace ev35 := Lib.hid ev35
              first | have ge35 := slot_of e35 | have ge35 := slot_un e35
              clear hO hD
              first | (go_simp; exact hK.out _ _ (Ex.refl _) rfl) | (rcases ge35 with ge35 | ge35 <;> (go_simp; exact hK.out _ _ (Ex.refl _) rfl))
            apply Steps.one (MP.eq _) 9 rfl
            · intro o ho FA x hO hD K hK
              obtain rfl := Option.some.inj ho.symm
              clear ho
              have e10 := hO 10 (by kernel_rfl)
              simp only [eval_tmp, List.getElem?_toArray, List.getElem?_cons_succ, List.getElem?_cons_zero, Option.getD_some] at e10
              have ev10 := Lib.hid ((eval_tmp FA 10).trans e10)
              have ev35 : FA.eval (.tmp 35) = _ := hD 2 35 (by kernel_rfl)
              have e35 := (eval_tmp FA 35).symm.trans ev35
              replace ev35 := Lib.hid ev35
              first | have ge35 := slot_of e35 | have ge35 := slot_un e35
              clear hO hD
              first | (go_simp; exact hK.out _ _ (Ex.refl _) rfl) | (rcases ge35 with ge35 | ge35 <;> (go_simp; exact hK.out _ _ (Ex.refl _) rfl))
            apply Steps.one (MP.eq _) 10 rfl
            · intro o ho FA x hO hD K hK
              obtain rfl := Option.some.inj ho.symm
              clear ho
              have ev40 : FA.eval (.tmp 40) = _ := hD 7 40 (by kernel_rfl)
              have e40 := (eval_tmp FA 40).symm.trans ev40
              replace ev40 := Lib.hid ev40
              have ev41 : FA.eval (.tmp 41) = _ := hD 8 41 (by kernel_rfl)
              have e41 := (eval_tmp FA 41).symm.trans ev41
              replace ev41 := Lib.hid ev41
              have ev35 : FA.eval (.tmp 35) = _ := hD 2 35 (by kernel_rfl)
              have e35 := (eval_tmp FA 35).symm.trans ev35
              replace ev35 := Lib.hid ev35
              first | have ge35 := slot_of e35 | have ge35 := slot_un e35
              clear hO hD
              first | (go_simp; exact hK.out _ _ (Ex.refl _) rfl) | (rcases ge35 with ge35 | ge35 <;> (go_simp; exact hK.out _ _ (Ex.refl _) rfl))
            apply Steps.one (MP.eq _) 11 rfl
            · intro o ho FA x hO hD K hK
              obtain rfl := Option.some.inj ho.symm
              clear ho
              have ev42 : FA.eval (.tmp 42) = _ := hD 9 42 (by kernel_rfl)
              have e42 := (eval_tmp FA 42).symm.trans ev42
              replace ev42 := Lib.hid ev42
              have ev35 : FA.eval (.tmp 35) = _ := hD 2 35 (by kernel_rfl)
              have e35 := (eval_tmp FA 35).symm.trans ev35
              replace ev35 := Lib.hid ev35
              first | have ge35 := slot_of e35 | have ge35 := slot_un e35
              clear hO hD
              first | (go_simp; exact hK.out _ _ (Ex.refl _) rfl) | (rcases ge35 with ge35 | ge35 <;> (go_simp; exact hK.out _ _ (Ex.refl _) rfl))
            apply Steps.one (MP.eq _) 12 rfl
            · intro o ho FA x hO hD K hK
              obtain rfl := Option.some.inj ho.symm
              clear ho
              have e8 := hO 8 (by kernel_rfl)
              simp only [eval_tmp, List.getElem?_toArray, List.getElem?_cons_succ, List.getElem?_cons_zero, Option.getD_some] at e8
              have ev8 := Lib.hid ((eval_tmp FA 8).trans e8)
              have ev43 : FA.eval (.tmp 43) = _ := hD 10 43 (by kernel_rfl)
              have e43 := (eval_tmp FA 43).symm.trans ev43
              replace ev43 := Lib.hid ev43
              first | have ge43 := slot_of e43 | have ge43 := slot_un e43
              clear hO hD
              first | (go_simp; exact hK.out _ _ (Ex.refl _) rfl) | (rcases ge43 with ge43 | ge43 <;> (go_simp; exact hK.out _ _ (Ex.refl _) rfl))
            apply Steps.one (MP.eq _) 13 rfl
            · intro o ho FA x hO hD K hK
              obtain rfl := Option.some.inj ho.symm
              clear ho
              have e11 := hO 11 (by kernel_rfl)
              simp only [eval_tmp, List.getElem?_toArray, List.getElem?_cons_succ, List.getElem?_cons_zero, Option.getD_some] at e11
              have ev11 := Lib.hid ((eval_tmp FA 11).trans e11)
              have ev43 : FA.eval (.tmp 43) = _ := hD 10 43 (by kernel_rfl)
              have e43 := (eval_tmp FA 43).symm.trans ev43
              replace ev43 := Lib.hid ev43
              first | have ge43 := slot_of e43 | have ge43 := slot_un e43
              clear hO hD
              first | (go_simp; exact hK.out _ _ (Ex.refl _) rfl) | (rcases ge43 with ge43 | ge43 <;> (go_simp; exact hK.out _ _ (Ex.refl _) rfl))
            apply Steps.one (MP.eq _) 14 rfl
            · intro o ho FA x hO hD K hK
              obtain rfl := Option.some.inj ho.symm
              clear ho
              have ev45 : FA.eval (.tmp 45) = _ := hD 12 45 (by kernel_rfl)
              have e45 := (eval_tmp FA 45).symm.trans ev45
              replace ev45 := Lib.hid ev45
              have ev43 : FA.eval (.tmp 43) = _ := hD 10 43 (by kernel_rfl)
              have e43 := (eval_tmp FA 43).symm.trans ev43
              replace ev43 := Lib.hid ev43
              first | have ge43 := slot_of e43 | have ge43 := slot_un e43
              clear hO hD
              first | (go_simp; exact hK.out _ _ (Ex.refl _) rfl) | (rcases ge43 with ge43 | ge43 <;> (go_simp; exact hK.out _ _ (Ex.refl _) rfl))
            apply Steps.one (MP.eq _) 15 rfl
            · intro o ho FA x hO hD K hK
              obtain rfl := Option.some.inj ho.symm
              clear ho
              have ev44 : FA.eval (.tmp 44) = _ := hD 11 44 (by kernel_rfl)
              have e44 := (eval_tmp FA 44).symm.trans ev44
              replace ev44 := Lib.hid ev44
              have ev46 : FA.eval (.tmp 46) = _ := hD 13 46 (by kernel_rfl)
              have e46 := (eval_tmp FA 46).symm.trans ev46
              replace ev46 := Lib.hid ev46
              have ev43 : FA.eval (.tmp 43) = _ := hD 10 43 (by kernel_rfl)
              have e43 := (eval_tmp FA 43).symm.trans ev43
              replace ev43 := Lib.hid ev43
              first | have ge43 := slot_of e43 | have ge43 := slot_un e43
              clear hO hD
              first | (go_simp; exact hK.out _ _ (Ex.refl _) rfl) | (rcases ge43 with ge43 | ge43 <;> (go_simp; exact hK.out _ _ (Ex.refl _) rfl))
            apply Steps.one (MP.eq _) 16 rfl
            · intro o ho FA x hO hD K hK
              obtain rfl := Option.some.inj ho.symm
              clear ho
              have ev47 : FA.eval (.tmp 47) = _ := hD 14 47 (by kernel_rfl)
              have e47 := (eval_tmp FA 47).symm.trans ev47
              replace ev47 := Lib.hid ev47
              have ev43 : FA.eval (.tmp 43) = _ := hD 10 43 (by kernel_rfl)
              have e43 := (eval_tmp FA 43).symm.trans ev43
              replace ev43 := Lib.hid ev43
              first | have ge43 := slot_of e43 | have ge43 := slot_un e43
              clear hO hD
              first | (go_simp; exact hK.out _ _ (Ex.refl _) rfl) | (rcases ge43 with ge43 | ge43 <;> (go_simp; exact hK.out _ _ (Ex.refl _) rfl))
            apply Steps.one (MP.eq _) 17 rfl
            · intro o ho FA x hO hD K hK
              obtain rfl := Option.some.inj ho.symm
              clear ho
              have e10 := hO 10 (by kernel_rfl)
              simp only [eval_tmp, List.getElem?_toArray, List.getElem?_cons_succ, List.getElem?_cons_zero, Option.getD_some] at e10
              have ev10 := Lib.hid ((eval_tmp FA 10).trans e10)
              have ev43 : FA.eval (.tmp 43) = _ := hD 10 43 (by kernel_rfl)
              have e43 := (eval_tmp FA 43).symm.trans ev43
              replace ev43 := Lib.hid ev43
              first | have ge43 := slot_of e43 | have ge43 := slot_un e43
              clear hO hD
              first | (go_simp; exact hK.out _ _ (Ex.refl _) rfl) | (rcases ge43 with ge43 | ge43 <;> (go_simp; exact hK.out _ _ (Ex.refl _) rfl))
            apply Steps.one (MP.eq _) 18 rfl
            · intro o ho FA x hO hD K hK
              obtain rfl := Option.some.inj ho.symm
              clear ho
              have ev48 : FA.eval (.tmp 48) = _ := hD 15 48 (by kernel_rfl)
              have e48 := (eval_tmp FA 48).symm.trans ev48
              replace ev48 := Lib.hid ev48
              have ev49 : FA.eval (.tmp 49) = _ := hD 16 49 (by kernel_rfl)
              have e49 := (eval_tmp FA 49).symm.trans ev49
              replace ev49 := Lib.hid ev49
              have ev43 : FA.eval (.tmp 43) = _ := hD 10 43 (by kernel_rfl)
              have e43 := (eval_tmp FA 43).symm.trans ev43
              replace ev43 := Lib.hid ev43
              first | have ge43 := slot_of e43 | have ge43 := slot_un e43
              clear hO hD
              first | (go_simp; exact hK.out _ _ (Ex.refl _) rfl) | (rcases ge43 with ge43 | ge43 <;> (go_simp; exact hK.out _ _ (Ex.refl _) rfl))
            apply Steps.one (MP.eq _) 19 rfl
            · intro o ho FA x hO hD K hK
              obtain rfl := Option.some.inj ho.symm
              clear ho
              have ev50 : FA.eval (.tmp 50) = _ := hD 17 50 (by kernel_rfl)
              have e50 := (eval_tmp FA 50).symm.trans ev50
              replace ev50 := Lib.hid ev50
              have ev43 : FA.eval (.tmp 43) = _ := hD 10 43 (by kernel_rfl)
              have e43 := (eval_tmp FA 43).symm.trans ev43
              replace ev43 := Lib.hid ev43
              first | have ge43 := slot_of e43 | have ge43 := slot_un e43
              clear hO hD
              first | (go_simp; exact hK.out _ _ (Ex.refl _) rfl) | (rcases ge43 with ge43 | ge43 <;> (go_simp; exact hK.out _ _ (Ex.refl _) rfl))
            apply Steps.one (MP.eq _) 20 rfl
            · intro o ho FA x hO hD K hK
              obtain rfl := Option.some.inj ho.symm
              clear ho
              have e7 := hO 7 (by kernel_rfl)
              simp only [eval_tmp, List.getElem?_toArray, List.getElem?_cons_succ, List.getElem?_cons_zero, Option.getD_some] at e7
              have ev7 := Lib.hid ((eval_tmp FA 7).trans e7)
              have ev51 : FA.eval (.tmp 51) = _ := hD 18 51 (by kernel_rfl)
              have e51 := (eval_tmp FA 51).symm.trans ev51
              replace ev51 := Lib.hid ev51
              first | have ge51 := slot_of e51 | have ge51 := slot_un e51
              clear hO hD
              first | (go_simp; exact hK.out _ _ (Ex.refl _) rfl) | (rcases ge51 with ge51 | ge51 <;> (go_simp; exact hK.out _ _ (Ex.refl _) rfl))
            apply Steps.one (MP.eq _) 21 rfl
            · intro o ho FA x hO hD K hK
              obtain rfl := Option.some.inj ho.symm
              clear ho
              have e11 := hO 11 (by kernel_rfl)
              simp only [eval_tmp, List.getElem?_toArray, List.getElem?_cons_succ, List.getElem?_cons_zero, Option.getD_some] at e11
              have ev11 := Lib.hid ((eval_tmp FA 11).trans e11)
              have ev51 : FA.eval (.tmp 51) = _ := hD 18 51 (by kernel_rfl)
              have e51 := (eval_tmp FA 51).symm.trans ev51
              replace ev51 := Lib.hid ev51
              first | have ge51 := slot_of e51 | have ge51 := slot_un e51
              clear hO hD
              first | (go_simp; exact hK.out _ _ (Ex.refl _) rfl) | (rcases ge51 with ge51 | ge51 <;> (go_simp; exact hK.out _ _ (Ex.refl _) rfl))
            apply Steps.one (MP.eq _) 22 rfl
            · intro o ho FA x hO hD K hK
              obtain rfl := Option.some.inj ho.symm
              clear ho
              have ev53 : FA.eval (.tmp 53) = _ := hD 20 53 (by kernel_rfl)
              have e53 := (eval_tmp FA 53).symm.trans ev53
              replace ev53 := Lib.hid ev53
              have ev51 : FA.eval (.tmp 51) = _ := hD 18 51 (by kernel_rfl)
              have e51 := (eval_tmp FA 51).symm.trans ev51
              replace ev51 := Lib.hid ev51
              first | have ge51 := slot_of e51 | have ge51 := slot_un e51
              clear hO hD
              first | (go_simp; exact hK.out _ _ (Ex.refl _) rfl) | (rcases ge51 with ge51 | ge51 <;> (go_simp; exact hK.out _ _ (Ex.refl _) rfl))
            apply Steps.one (MP.eq _) 23 rfl
            · intro o ho FA x hO hD K hK
              obtain rfl := Option.some.inj ho.symm
              clear ho
              have ev52 : FA.eval (.tmp 52) = _ := hD 19 52 (by kernel_rfl)
              have e52 := (eval_tmp FA 52).symm.trans ev52
              replace ev52 := Lib.hid ev52
              have ev54 : FA.eval (.tmp 54) = _ := hD 21 54 (by kernel_rfl)
              have e54 := (eval_tmp FA 54).symm.trans ev54
              replace ev54 := Lib.hid ev54
              have ev51 : FA.eval (.tmp 51) = _ := hD 18 51 (by kernel_rfl)
              have e51 := (eval_tmp FA 51).symm.trans ev51
              replace ev51 := Lib.hid ev51
              first | have ge51 := slot_of e51 | have ge51 := slot_un e51
              clear hO hD
              first | (go_simp; exact hK.out _ _ (Ex.refl _) rfl) | (rcases ge51 with ge51 | ge51 <;> (go_simp; exact hK.out _ _ (Ex.refl _) rfl))
            apply Steps.one (MP.eq _) 24 rfl
            · intro o ho FA x hO hD K hK
              obtain rfl := Option.some.inj ho.symm
              clear ho
              have ev55 : FA.eval (.tmp 55) = _ := hD 22 55 (by kernel_rfl)
              have e55 := (eval_tmp FA 55).symm.trans ev55
              replace ev55 := Lib.hid ev55
              have ev51 : FA.eval (.tmp 51) = _ := hD 18 51 (by kernel_rfl)
              have e51 := (eval_tmp FA 51).symm.trans ev51
              replace ev51 := Lib.hid ev51
              first | have ge51 := slot_of e51 | have ge51 := slot_un e51
              clear hO hD
              first | (go_simp; exact hK.out _ _ (Ex.refl _) rfl) | (rcases ge51 with ge51 | ge51 <;> (go_simp; exact hK.out _ _ (Ex.refl _) rfl))
            apply Steps.one (MP.eq _) 25 rfl
            · intro o ho FA x hO hD K hK
              obtain rfl := Option.some.inj ho.symm
              clear ho
              have e1 := hO 1 (by kernel_rfl)
              simp only [eval_tmp, List.getElem?_toArray, List.getElem?_cons_succ, List.getElem?_cons_zero, Option.getD_some] at e1
              have ev1 := Lib.hid ((eval_tmp FA 1).trans e1)
              have ev51 : FA.eval (.tmp 51) = _ := hD 18 51 (by kernel_rfl)
              have e51 := (eval_tmp FA 51).symm.trans ev51
              replace ev51 := Lib.hid ev51
              first | have ge51 := slot_of e51 | have ge51 := slot_un e51
              clear hO hD
              first | (go_simp; exact hK.out _ _ (Ex.refl _) rfl) | (rcases ge51 with ge51 | ge51 <;> (go_simp; exact hK.out _ _ (Ex.refl _) rfl))
            apply Steps.one (MP.eq _) 26 rfl
            · intro o ho FA x hO hD K hK
              obtain rfl := Option.some.inj ho.symm
              clear ho
              have e9 := hO 9 (by kernel_rfl)
              simp only [eval_tmp, List.getElem?_toArray, List.getElem?_cons_succ, List.getElem?_cons_zero, Option.getD_some] at e9
              have ev9 := Lib.hid ((eval_tmp FA 9).trans e9)
              have ev51 : FA.eval (.tmp 51) = _ := hD 18 51 (by kernel_rfl)
              have e51 := (eval_tmp FA 51).symm.trans ev51
              replace ev51 := Lib.hid ev51
              first | have ge51 := slot_of e51 | have ge51 := slot_un e51
              clear hO hD
              first | (go_simp; exact hK.out _ _ (Ex.refl _) rfl) | (rcases ge51 with ge51 | ge51 <;> (go_simp; exact hK.out _ _ (Ex.refl _) rfl))
            apply Steps.one (MP.eq _) 27 rfl
            · intro o ho FA x hO hD K hK
              obtain rfl := Option.some.inj ho.symm
              clear ho
              have ev57 : FA.eval (.tmp 57) = _ := hD 24 57 (by kernel_rfl)
              have e57 := (eval_tmp FA 57).symm.trans ev57
              replace ev57 := Lib.hid ev57
              have ev58 : FA.eval (.tmp 58) = _ := hD 25 58 (by kernel_rfl)
              have e58 := (eval_tmp FA 58).symm.trans ev58
              replace ev58 := Lib.hid ev58
              have ev51 : FA.eval (.tmp 51) = _ := hD 18 51 (by kernel_rfl)
              have e51 := (eval_tmp FA 51).symm.trans ev51
              replace ev51 := Lib.hid ev51
              first | have ge51 := slot_of e51 | have ge51 := slot_un e51
              clear hO hD
              first | (go_simp; exact hK.out _ _ (Ex.refl _) rfl) | (rcases ge51 with ge51 | ge51 <;> (go_simp; exact hK.out _ _ (Ex.refl _) rfl))
            apply Steps.one (MP.eq _) 28 rfl
            · intro o ho FA x hO hD K hK
              obtain rfl := Option.some.inj ho.symm
              clear ho
              have ev59 : FA.eval (.tmp 59) = _ := hD 26 59 (by kernel_rfl)
              have e59 := (eval_tmp FA 59).symm.trans ev59
              replace ev59 := Lib.hid ev59
              have ev51 : FA.eval (.tmp 51) = _ := hD 18 51 (by kernel_rfl)
              have e51 := (eval_tmp FA 51).symm.trans ev51
              replace ev51 := Lib.hid ev51
              first | have ge51 := slot_of e51 | have ge51 := slot_un e51
              clear hO hD
              first | (go_simp; exact hK.out _ _ (Ex.refl _) rfl) | (rcases ge51 with ge51 | ge51 <;> (go_simp; exact hK.out _ _ (Ex.refl _) rfl))
            apply Steps.one (MP.eq _) 29 rfl
            · intro o ho FA x hO hD K hK
              obtain rfl := Option.some.inj ho.symm
              clear ho
              have ev60 : FA.eval (.tmp 60) = _ := hD 27 60 (by kernel_rfl)
              have e60 := (eval_tmp FA 60).symm.trans ev60
              replace ev60 := Lib.hid ev60
              have ev51 : FA.eval (.tmp 51) = _ := hD 18 51 (by kernel_rfl)
              have e51 := (eval_tmp FA 51).symm.trans ev51
              replace ev51 := Lib.hid ev51
              first | have ge51 := slot_of e51 | have ge51 := slot_un e51
              clear hO hD
              first | (go_simp; exact hK.out _ _ (Ex.refl _) rfl) | (rcases ge51 with ge51 | ge51 <;> (go_simp; exact hK.out _ _ (Ex.refl _) rfl))
            apply Steps.one (MP.eq _) 30 rfl
            · intro o ho FA x hO hD K hK
              obtain rfl := Option.some.inj ho.symm
              clear ho
              have ev56 : FA.eval (.tmp 56) = _ := hD 23 56 (by kernel_rfl)
              have e56 := (eval_tmp FA 56).symm.trans ev56
              replace ev56 := Lib.hid ev56
              have ev61 : FA.eval (.tmp 61) = _ := hD 28 61 (by kernel_rfl)
              have e61 := (eval_tmp FA 61).symm.trans ev61
              replace ev61 := Lib.hid ev61
              have ev51 : FA.eval (.tmp 51) = _ := hD 18 51 (by kernel_rfl)
              have e51 := (eval_tmp FA 51).symm.trans ev51
              replace ev51 := Lib.hid ev51
              first | have ge51 := slot_of e51 | have ge51 := slot_un e51
              clear hO hD
              first | (go_simp; exact hK.out _ _ (Ex.refl _) rfl) | (rcases ge51 with ge51 | ge51 <;> (go_simp; exact hK.out _ _ (Ex.refl _) rfl))
            apply Steps.one (MP.eq _) 31 rfl
            · intro o ho FA x hO hD K hK
              obtain rfl := Option.some.inj ho.symm
              clear ho
              have ev51 : FA.eval (.tmp 51) = _ := hD 18 51 (by kernel_rfl)
              have e51 := (eval_tmp FA 51).symm.trans ev51
              replace ev51 := Lib.hid ev51
              have ev62 : FA.eval (.tmp 62) = _ := hD 29 62 (by kernel_rfl)
              have e62 := (eval_tmp FA 62).symm.trans ev62
              replace ev62 := Lib.hid ev62
              have ev43 : FA.eval (.tmp 43) = _ := hD 10 43 (by kernel_rfl)
              have e43 := (eval_tmp FA 43).symm.trans ev43
              replace ev43 := Lib.hid ev43
              first | have ge43 := slot_of e43 | have ge43 := slot_un e43
              clear hO hD
              first | (go_simp; exact hK.out _ _ (Ex.refl _) rfl) | (rcases ge43 with ge43 | ge43 <;> (go_simp; exact hK.out _ _ (Ex.refl _) rfl))
            apply Steps.one (MP.eq _) 32 rfl
            · intro o ho FA x hO hD K hK
              obtain rfl := Option.some.inj ho.symm
              clear ho
              have ev43 : FA.eval (.tmp 43) = _ := hD 10 43 (by kernel_rfl)
              have e43 := (eval_tmp FA 43).symm.trans ev43
              replace ev43 := Lib.hid ev43
              have ev63 : FA.eval (.tmp 63) = _ := hD 30 63 (by kernel_rfl)
              have e63 := (eval_tmp FA 63).symm.trans ev63
              replace ev63 := Lib.hid ev63
              have ev35 : FA.eval (.tmp 35) = _ := hD 2 35 (by kernel_rfl)
              have e35 := (eval_tmp FA 35).symm.trans ev35
              replace ev35 := Lib.hid ev35
              first | have ge35 := slot_of e35 | have ge35 := slot_un e35
              clear hO hD
              first | (go_simp; exact hK.out _ _ (Ex.refl _) rfl) | (rcases ge35 with ge35 | ge35 <;> (go_simp; exact hK.out _ _ (Ex.refl _) rfl))
            apply Steps.one (MP.eq _) 33 rfl
            · intro o ho FA x hO hD K hK
              obtain rfl := Option.some.inj ho.symm
              clear ho
              have ev35 : FA.eval (.tmp 35) = _ := hD 2 35 (by kernel_rfl)
              have e35 := (eval_tmp FA 35).symm.trans ev35
              replace ev35 := Lib.hid ev35
              have ev64 : FA.eval (.tmp 64) = _ := hD 31 64 (by kernel_rfl)
              have e64 := (eval_tmp FA 64).symm.trans ev64
              replace ev64 := Lib.hid ev64
              clear hO hD
              go_simp
              exact hK.out _ _ (Ex.refl _) rfl
            refine Steps.fin_ (fun vs x hp => ?_)
            have p0 : vs 0 = _ := hp 0 (by omega)
            have p1 : vs 1 = _ := hp 1 (by omega)
            have p2 : vs 2 = _ := hp 2 (by omega)
            have p3 : vs 3 = _ := hp 3 (by omega)
            have p4 : vs 4 = _ := hp 4 (by omega)
            have p5 : vs 5 = _ := hp 5 (by omega)
            have p6 : vs 6 = _ := hp 6 (by omega)
            have p7 : vs 7 = _ := hp 7 (by omega)
            have p8 : vs 8 = _ := hp 8 (by omega)
            have p9 : vs 9 = _ := hp 9 (by omega)
            have p10 : vs 10 = _ := hp 10 (by omega)
            have p11 : vs 11 = _ := hp 11 (by omega)
            have p12 : vs 12 = _ := hp 12 (by omega)
            have p13 : vs 13 = _ := hp 13 (by omega)
            have p14 : vs 14 = _ := hp 14 (by omega)
            have p15 : vs 15 = _ := hp 15 (by omega)
            have p16 : vs 16 = _ := hp 16 (by omega)
            have p17 : vs 17 = _ := hp 17 (by omega)
            have p18 : vs 18 = _ := hp 18 (by omega)
            have p19 : vs 19 = _ := hp 19 (by omega)
            have p20 : vs 20 = _ := hp 20 (by omega)
            have p21 : vs 21 = _ := hp 21 (by omega)
            have p22 : vs 22 = _ := hp 22 (by omega)
            have p23 : vs 23 = _ := hp 23 (by omega)
            have p24 : vs 24 = _ := hp 24 (by omega)
            have p25 : vs 25 = _ := hp 25 (by omega)
            have p26 : vs 26 = _ := hp 26 (by omega)
            have p27 : vs 27 = _ := hp 27 (by omega)
            have p28 : vs 28 = _ := hp 28 (by omega)
            have p29 : vs 29 = _ := hp 29 (by omega)
            have p30 : vs 30 = _ := hp 30 (by omega)
            have p31 : vs 31 = _ := hp 31 (by omega)
            have p32 : vs 32 = _ := hp 32 (by omega)
            clear hp
            simp only [List.take_succ_cons, List.take_zero, List.drop_succ_cons, List.drop_zero, putAll, Nat.zero_add, Nat.reduceAdd, Act.put, List.setIfInBounds_toArray, List.set_cons_zero, List.set_cons_succ, p0, p1, p2, p3, p4, p5, p6, p7, p8, p9, p10, p11, p12, p13, p14, p15, p16, p17, p18, p19, p20, p21, p22, p23, p24, p25, p26, p27, p28, p29, p30, p31, p32]
            clear p0 p1 p2 p3 p4 p5 p6 p7 p8 p9 p10 p11 p12 p13 p14 p15 p16 p17 p18 p19 p20 p21 p22 p23 p24 p25 p26 p27 p28 p29 p30 p31 p32
            clear vs
            have hEW := belowP hE9 x.bs x.d
            have hVW := belowP hV9 x.bs x.d
            have hW2 := belowP hE9b x.bs x.d
            have hOW := hO.later hW2
            have hZW := hZ.later hW2
            have hkW := hk2.later hW2
            clear hE9 hV9 hE9b hW2 HC
            generalize plus wr x.bs x.d = W at *
            have hPo : Rs 1 W Ao q c1 (itH Po) := by
              have h := hOW.take (k := q) (by omega)
              rw [Nat.mul_one] at h
              rw [← HPo.out]; simpa [itH, List.map_take] using h
            have hQo : Rs 1 W (cutA Ao c1 q 1) (n1 - q) (c1 - q) (itH Qo) := by
              have h := hOW.cut (k := q) (by omega)
              rw [Nat.mul_one] at h
              rw [← HQo.out]; simpa [itH, List.map_drop] using h
            have hPs : Rs 1 W As q c2 (usH Ps) := by
              have h := hZW.take (k := q) (by omega)
              rw [Nat.mul_one] at h
              rw [← HPs.out]; simpa [usH, List.map_take] using h
            have hQs : Rs 1 W (cutA As c2 q 1) (n1 - q) (c2 - q) (usH Qs) := by
              have h := hZW.cut (k := q) (by omega)
              rw [Nat.mul_one] at h
              rw [← HQs.out]; simpa [usH, List.map_drop] using h
            have hcap1 := hOW.2.1
            have hcap2 := hZW.2.1
            have iq1 : (q : Int) ≤ (n1 : Int) := by omega
            have iq2 : (q : Int) ≤ (c1 : Int) := by omega
            have iq3 : (q : Int) ≤ (c2 : Int) := by omega
            have iq4 : (n1 : Int) ≤ (c1 : Int) := by omega
            have iq5 : (n1 : Int) ≤ (c2 : Int) := by omega
            have HL2 : Hid (Po.length ≤ 12 ∧ Ps.length ≤ 12) := Lib.hid (by rw [← HPo.out, ← HPs.out]; simp; omega)
            have hblW : bl < W.heap.size := Nat.lt_of_lt_of_le hbl hVW.size
            have HID := Lib.hid (fun w' (h : Kept (fun b => b < W.heap.size) W w') => show w'.cell? ⟨bl, ol + j * 2, none⟩ = some (.int .i64 (id : Int)) from (World.cell?_of_block (h.block bl hblW hblW)).trans ((HQ2.out W hVW).1))
            clear hO hZ hk2 hOW hZW
            go_upto_region 11 with (fail)
            go_wp2
            refine wp_own (fun b => b < W.heap.size) 17 0 97 2 (fun i => match i with | i => i) (fun i => match i with | 4 => [0] | 11 => [4] | 15 => [11] | 16 => [15] | _ => []) (fun i => match i with | _ => undef) rfl (by kernel_rfl) (by kernel_rfl) (fun i => match i with | 0 => Own.osr 3 1 W.heap.size ([]) | 1 => Own.eq (.slice Ao n1 c1) | 2 => Own.eq (.int .i64 (q : Int)) | 3 => Own.eq (.slice Ao q c1) | 4 => Own.osr 3 1 W.heap.size ([] ++ itH Po) | 5 => Own.eq (.slice (some ⟨bl, ol, none⟩) nl cl) | 6 => Own.eq (.int .i64 (j : Int)) | 7 => Own.eq (.pointer (some ⟨bl, ol + j * 2, none⟩)) | 8 => Own.eq (.pointer (some ⟨bl, ol + j * 2, none⟩)) | 9 => Own.eq (.int .i64 (id : Int)) | 10 => Own.osr 3 1 W.heap.size ([.int .i64 (id : Int)]) | 11 => Own.osr 3 1 W.heap.size (([] ++ itH Po) ++ [.int .i64 (id : Int)]) | 12 => Own.eq (.slice Ao n1 c1) | 13 => Own.eq (.int .i64 (q : Int)) | 14 => Own.eq (.slice (cutA Ao c1 q 1) (n1 - q) (c1 - q)) | 15 => Own.osr 3 1 W.heap.size ((([] ++ itH Po) ++ [.int .i64 (id : Int)]) ++ itH Qo) | 16 => Own.osr 3 1 W.heap.size ((([] ++ itH Po) ++ [.int .i64 (id : Int)]) ++ itH Qo) | _ => Own.any) (fun b h => h) ?_ ?_ ?_ ?_ ?_
            · exact fun t ht => absurd ht (by omega)
            · exact fun t t' ht => absurd ht (by omega)
            · exact fun t ht => absurd ht (by omega)
            · intro i hi o ho FA w' vs H K hK
              match i, hi, ho, H, hK with
              | 0, _, ho, H, hK => 
                obtain rfl := Option.some.inj ho.symm
                clear ho
                go_simp
                have ho1 := Os.lit (s := 1) (e := 3) w' (Nat.le_refl _) #[] 0 rfl (Nat.zero_le _)
                exact hK.out _ _ (chgX (Ex.alloc _ _)) ⟨_, _, _, rfl, ho1.mono H.kept.size⟩ (fun b hb => .inr (ho1.blk b hb).1)
              | 1, _, ho, H, hK => 
                obtain rfl := Option.some.inj ho.symm
                clear ho
                have ev7 : FA.eval (.tmp 7) = .slice Ao n1 c1 := H.out 7 (by kernel_rfl)
                have e7 : FA.tmps[7]?.getD undef = .slice Ao n1 c1 := by simpa [Act.eval] using ev7
                replace ev7 := Lib.hid ev7
                go_simp
                exact hK.out _ _ (chgX (Ex.refl _)) rfl (fun _ h => h.elim)
              | 2, _, ho, H, hK => 
                obtain rfl := Option.some.inj ho.symm
                clear ho
                have ev11 : FA.eval (.tmp 11) = .int .i64 (q : Int) := H.out 11 (by kernel_rfl)
                have e11 : FA.tmps[11]?.getD undef = .int .i64 (q : Int) := by simpa [Act.eval] using ev11
                replace ev11 := Lib.hid ev11
                go_simp
                exact hK.out _ _ (chgX (Ex.refl _)) rfl (fun _ h => h.elim)
              | 3, _, ho, H, hK => 
                obtain rfl := Option.some.inj ho.symm
                clear ho
                have ev69 : FA.eval (.tmp 69) = .slice Ao n1 c1 := (H.dep 1 69 (by kernel_rfl)).trans (H.word 1 (by omega) (by kernel_rfl))
                have e69 : FA.tmps[69]?.getD undef = .slice Ao n1 c1 := by simpa [Act.eval] using ev69
                replace ev69 := Lib.hid ev69
                have ev70 : FA.eval (.tmp 70) = .int .i64 (q : Int) := (H.dep 2 70 (by kernel_rfl)).trans (H.word 2 (by omega) (by kernel_rfl))
                have e70 : FA.tmps[70]?.getD undef = .int .i64 (q : Int) := by simpa [Act.eval] using ev70
                replace ev70 := Lib.hid ev70
                go_simp
                exact hK.out _ _ (chgX (Ex.refl _)) rfl (fun _ h => h.elim)
              | 4, _, ho, H, hK => 
                obtain rfl := Option.some.inj ho.symm
                clear ho
                have ev68 := H.dep 0 68 (by kernel_rfl)
                have e68 : FA.tmps[68]?.getD undef = vs 0 := by simpa [Act.eval] using ev68
                replace ev68 := Lib.hid ev68
                have ev71 : FA.eval (.tmp 71) = .slice Ao q c1 := (H.dep 3 71 (by kernel_rfl)).trans (H.word 3 (by omega) (by kernel_rfl))
                have e71 : FA.tmps[71]?.getD undef = .slice Ao q c1 := by simpa [Act.eval] using ev71
                replace ev71 := Lib.hid ev71
                obtain ⟨A1, n1, c1, hv1, h1⟩ := H.word 0 (by omega) (by kernel_rfl)
                have hn1 : n1 ≤ 2000 := by have := h1.rs.1; simp only [List.length_append, List.length_nil, itH_len, List.length_cons] at this; have := HL2.out; (try simp at this); omega
                refine wanted_if rfl ?_
                refine own_appS etIH (.tmp 68) (.tmp 71) rfl (ev68.out.trans hv1) h1 ev71.out (hPo.kept H.kept (fun a e h => h)) (itH_one _) (by omega) H.kept.size ?_
                intro A3 n3 c3 w3 hn3 ho3 hg3 hf3
                refine hK.out _ _ (Chg.grown hg3 (fun k hk => ⟨0, rfl, by show (vs 0).ownBlock = some k; rw [hv1]; exact hk⟩)) ⟨_, _, _, rfl, ho3⟩ (fun b hb => ?_)
                rcases hf3 b hb with h | h
                · exact .inl ⟨0, rfl, by show (vs 0).ownBlock = some b; rw [hv1]; exact h⟩
                · exact .inr h
              | 5, _, ho, H, hK => 
                obtain rfl := Option.some.inj ho.symm
                clear ho
                have ev1 : FA.eval (.tmp 1) = .slice (some ⟨bl, ol, none⟩) nl cl := H.out 1 (by kernel_rfl)
                have e1 : FA.tmps[1]?.getD undef = .slice (some ⟨bl, ol, none⟩) nl cl := by simpa [Act.eval] using ev1
                replace ev1 := Lib.hid ev1
                go_simp
                exact hK.out _ _ (chgX (Ex.refl _)) rfl (fun _ h => h.elim)
              | 6, _, ho, H, hK => 
                obtain rfl := Option.some.inj ho.symm
                clear ho
                have ev9 : FA.eval (.tmp 9) = .int .i64 (j : Int) := H.out 9 (by kernel_rfl)
                have e9 : FA.tmps[9]?.getD undef = .int .i64 (j : Int) := by simpa [Act.eval] using ev9
                replace ev9 := Lib.hid ev9
                go_simp
                exact hK.out _ _ (chgX (Ex.refl _)) rfl (fun _ h => h.elim)
              | 7, _, ho, H, hK => 
                obtain rfl := Option.some.inj ho.symm
                clear ho
                have ev73 : FA.eval (.tmp 73) = .slice (some ⟨bl, ol, none⟩) nl cl := (H.dep 5 73 (by kernel_rfl)).trans (H.word 5 (by omega) (by kernel_rfl))
                have e73 : FA.tmps[73]?.getD undef = .slice (some ⟨bl, ol, none⟩) nl cl := by simpa [Act.eval] using ev73
                replace ev73 := Lib.hid ev73
                have ev74 : FA.eval (.tmp 74) = .int .i64 (j : Int) := (H.dep 6 74 (by kernel_rfl)).trans (H.word 6 (by omega) (by kernel_rfl))
                have e74 : FA.tmps[74]?.getD undef = .int .i64 (j : Int) := by simpa [Act.eval] using ev74
                replace ev74 := Lib.hid ev74
                go_simp
                exact hK.out _ _ (chgX (Ex.refl _)) rfl (fun _ h => h.elim)
              | 8, _, ho, H, hK => 
                obtain rfl := Option.some.inj ho.symm
                clear ho
                have ev75 : FA.eval (.tmp 75) = .pointer (some ⟨bl, ol + j * 2, none⟩) := (H.dep 7 75 (by kernel_rfl)).trans (H.word 7 (by omega) (by kernel_rfl))
                have e75 : FA.tmps[75]?.getD undef = .pointer (some ⟨bl, ol + j * 2, none⟩) := by simpa [Act.eval] using ev75
                replace ev75 := Lib.hid ev75
                go_simp
                exact hK.out _ _ (chgX (Ex.refl _)) rfl (fun _ h => h.elim)
              | 9, _, ho, H, hK => 
                obtain rfl := Option.some.inj ho.symm
                clear ho
                have ev76 : FA.eval (.tmp 76) = .pointer (some ⟨bl, ol + j * 2, none⟩) := (H.dep 8 76 (by kernel_rfl)).trans (H.word 8 (by omega) (by kernel_rfl))
                have e76 : FA.tmps[76]?.getD undef = .pointer (some ⟨bl, ol + j * 2, none⟩) := by simpa [Act.eval] using ev76
                replace ev76 := Lib.hid ev76
                have q9 := HID.out w' H.kept
                go_simp
                exact hK.out _ _ (chgX (Ex.refl _)) rfl (fun _ h => h.elim)
              | 10, _, ho, H, hK => 
                obtain rfl := Option.some.inj ho.symm
                clear ho
                have ev77 : FA.eval (.tmp 77) = .int .i64 (id : Int) := (H.dep 9 77 (by kernel_rfl)).trans (H.word 9 (by omega) (by kernel_rfl))
                have e77 : FA.tmps[77]?.getD undef = .int .i64 (id : Int) := by simpa [Act.eval] using ev77
                replace ev77 := Lib.hid ev77
                go_simp
                have ho1 := Os.lit (s := 1) (e := 3) w' (Nat.le_refl _) #[.int .i64 (id : Int)] 1 rfl (by decide)
                exact hK.out _ _ (chgX (Ex.alloc _ _)) ⟨_, _, _, rfl, ho1.mono H.kept.size⟩ (fun b hb => .inr (ho1.blk b hb).1)
              | 11, _, ho, H, hK => 
                obtain rfl := Option.some.inj ho.symm
                clear ho
                have ev72 := H.dep 4 72 (by kernel_rfl)
                have e72 : FA.tmps[72]?.getD undef = vs 4 := by simpa [Act.eval] using ev72
                replace ev72 := Lib.hid ev72
                have ev78 := H.dep 10 78 (by kernel_rfl)
                have e78 : FA.tmps[78]?.getD undef = vs 10 := by simpa [Act.eval] using ev78
                replace ev78 := Lib.hid ev78
                obtain ⟨A1, n1, c1, hv1, h1⟩ := H.word 4 (by omega) (by kernel_rfl)
                obtain ⟨A2, n2, c2, hv2, h2⟩ := H.word 10 (by omega) (by kernel_rfl)
                have hn1 : n1 ≤ 2000 := by have := h1.rs.1; simp only [List.length_append, List.length_nil, itH_len, List.length_cons] at this; have := HL2.out; (try simp at this); omega
                have hn2 : n2 ≤ 2000 := by have := h2.rs.1; simp at this; omega
                refine wanted_if rfl ?_
                refine own_appS etIH (.tmp 72) (.tmp 78) rfl (ev72.out.trans hv1) h1 (ev78.out.trans hv2) h2.rs (by simp [Value.oneCell']) (by omega) H.kept.size ?_
                intro A3 n3 c3 w3 hn3 ho3 hg3 hf3
                refine hK.out _ _ (Chg.grown hg3 (fun k hk => ⟨4, rfl, by show (vs 4).ownBlock = some k; rw [hv1]; exact hk⟩)) ⟨_, _, _, rfl, ho3⟩ (fun b hb => ?_)
                rcases hf3 b hb with h | h
                · exact .inl ⟨4, rfl, by show (vs 4).ownBlock = some b; rw [hv1]; exact h⟩
                · exact .inr h
              | 12, _, ho, H, hK => 
                obtain rfl := Option.some.inj ho.symm
                clear ho
                have ev7 : FA.eval (.tmp 7) = .slice Ao n1 c1 := H.out 7 (by kernel_rfl)
                have e7 : FA.tmps[7]?.getD undef = .slice Ao n1 c1 := by simpa [Act.eval] using ev7
                replace ev7 := Lib.hid ev7
                go_simp
                exact hK.out _ _ (chgX (Ex.refl _)) rfl (fun _ h => h.elim)
              | 13, _, ho, H, hK => 
                obtain rfl := Option.some.inj ho.symm
                clear ho
                have ev11 : FA.eval (.tmp 11) = .int .i64 (q : Int) := H.out 11 (by kernel_rfl)
                have e11 : FA.tmps[11]?.getD undef = .int .i64 (q : Int) := by simpa [Act.eval] using ev11
                replace ev11 := Lib.hid ev11
                go_simp
                exact hK.out _ _ (chgX (Ex.refl _)) rfl (fun _ h => h.elim)
              | 14, _, ho, H, hK => 
                obtain rfl := Option.some.inj ho.symm
                clear ho
                have ev80 : FA.eval (.tmp 80) = .slice Ao n1 c1 := (H.dep 12 80 (by kernel_rfl)).trans (H.word 12 (by omega) (by kernel_rfl))
                have e80 : FA.tmps[80]?.getD undef = .slice Ao n1 c1 := by simpa [Act.eval] using ev80
                replace ev80 := Lib.hid ev80
                have ev81 : FA.eval (.tmp 81) = .int .i64 (q : Int) := (H.dep 13 81 (by kernel_rfl)).trans (H.word 13 (by omega) (by kernel_rfl))
                have e81 : FA.tmps[81]?.getD undef = .int .i64 (q : Int) := by simpa [Act.eval] using ev81
                replace ev81 := Lib.hid ev81
                go_simp
                exact hK.out _ _ (chgX (Ex.refl _)) rfl (fun _ h => h.elim)
              | 15, _, ho, H, hK => 
                obtain rfl := Option.some.inj ho.symm
                clear ho
                have ev79 := H.dep 11 79 (by kernel_rfl)
                have e79 : FA.tmps[79]?.getD undef = vs 11 := by simpa [Act.eval] using ev79
                replace ev79 := Lib.hid ev79
                have ev82 : FA.eval (.tmp 82) = .slice (cutA Ao c1 q 1) (n1 - q) (c1 - q) := (H.dep 14 82 (by kernel_rfl)).trans (H.word 14 (by omega) (by kernel_rfl))
                have e82 : FA.tmps[82]?.getD undef = .slice (cutA Ao c1 q 1) (n1 - q) (c1 - q) := by simpa [Act.eval] using ev82
                replace ev82 := Lib.hid ev82
                obtain ⟨A1, n1, c1, hv1, h1⟩ := H.word 11 (by omega) (by kernel_rfl)
                have hn1 : n1 ≤ 2000 := by have := h1.rs.1; simp only [List.length_append, List.length_nil, itH_len, List.length_cons] at this; have := HL2.out; (try simp at this); omega
                refine wanted_if rfl ?_
                refine own_appS etIH (.tmp 79) (.tmp 82) rfl (ev79.out.trans hv1) h1 ev82.out (hQo.kept H.kept (fun a e h => h)) (itH_one _) (by omega) H.kept.size ?_
                intro A3 n3 c3 w3 hn3 ho3 hg3 hf3
                refine hK.out _ _ (Chg.grown hg3 (fun k hk => ⟨11, rfl, by show (vs 11).ownBlock = some k; rw [hv1]; exact hk⟩)) ⟨_, _, _, rfl, ho3⟩ (fun b hb => ?_)
                rcases hf3 b hb with h | h
                · exact .inl ⟨11, rfl, by show (vs 11).ownBlock = some b; rw [hv1]; exact h⟩
                · exact .inr h
              | 16, _, ho, H, hK => 
                obtain rfl := Option.some.inj ho.symm
                clear ho
                have ev83 := H.dep 15 83 (by kernel_rfl)
                have e83 : FA.tmps[83]?.getD undef = vs 15 := by simpa [Act.eval] using ev83
                replace ev83 := Lib.hid ev83
                have hw := H.word 15 (by omega) (by kernel_rfl)
                go_simp
                exact hK.out _ _ (chgX (Ex.refl _)) hw (fun b hb => .inl ⟨15, rfl, hb⟩)
              | (k + 17), hi, _, _, _ => exact absurd hi (by omega)
            intro vs w' hC hV hW hDis hFr
            have p1 : vs 1 = .slice Ao n1 c1 := hW 1 (by omega) (by kernel_rfl)
            have p2 : vs 2 = .int .i64 (q : Int) := hW 2 (by omega) (by kernel_rfl)
            have p3 : vs 3 = .slice Ao q c1 := hW 3 (by omega) (by kernel_rfl)
            have p5 : vs 5 = .slice (some ⟨bl, ol, none⟩) nl cl := hW 5 (by omega) (by kernel_rfl)
            have p6 : vs 6 = .int .i64 (j : Int) := hW 6 (by omega) (by kernel_rfl)
            have p7 : vs 7 = .pointer (some ⟨bl, ol + j * 2, none⟩) := hW 7 (by omega) (by kernel_rfl)
            have p8 : vs 8 = .pointer (some ⟨bl, ol + j * 2, none⟩) := hW 8 (by omega) (by kernel_rfl)
            have p9 : vs 9 = .int .i64 (id : Int) := hW 9 (by omega) (by kernel_rfl)
            have p10 := hW 10 (by omega) (by kernel_rfl)
            have p12 : vs 12 = .slice Ao n1 c1 := hW 12 (by omega) (by kernel_rfl)
            have p13 : vs 13 = .int .i64 (q : Int) := hW 13 (by omega) (by kernel_rfl)
            have p14 : vs 14 = .slice (cutA Ao c1 q 1) (n1 - q) (c1 - q) := hW 14 (by omega) (by kernel_rfl)
            have p16 := hW 16 (by omega) (by kernel_rfl)
            clear hW
            simp only [List.take_succ_cons, List.take_zero, List.drop_succ_cons, List.drop_zero, putAll, Nat.zero_add, Nat.reduceAdd, Act.put, List.setIfInBounds_toArray, List.set_cons_zero, List.set_cons_succ, p1, p2, p3, p5, p6, p7, p8, p9, p12, p13, p14]
            obtain ⟨A5, n5, c5, hA5, ho5⟩ := p16
            replace hA5 : vs 16 = .slice A5 n5 c5 := hA5
            rw [hA5]
            have hbw := hC.below (B := W.heap.size) (Nat.le_refl _) (fun b hb => hb)
            have hr5 := ho5.rs
            replace hPs := hPs.later hbw
            replace hQs := hQs.later hbw
            replace hkW := hkW.later hbw
            replace hEW := hEW.trans (hbw.mono hEW.size)
            replace hVW := hVW.trans (hbw.mono hVW.size)
            clear hA5 ho5 hbw hC hV hDis hFr hPo hQo HID hblW
            generalize w' = Wz at *
            go_upto_region 12 with (fail)
            go_wp2
            refine wp_own (fun b => b < Wz.heap.size) 13 0 97 2 (fun i => match i with | i => i) (fun i => match i with | 4 => [0] | 7 => [4] | 11 => [7] | 12 => [11] | _ => []) (fun i => match i with | _ => undef) rfl (by kernel_rfl) (by kernel_rfl) (fun i => match i with | 0 => Own.osr 27 1 Wz.heap.size ([]) | 1 => Own.eq (.slice As n1 c2) | 2 => Own.eq (.int .i64 (q : Int)) | 3 => Own.eq (.slice As q c2) | 4 => Own.osr 27 1 Wz.heap.size ([] ++ usH Ps) | 5 => Own.eq (.int .u64 X) | 6 => Own.osr 27 1 Wz.heap.size ([.int .u64 X]) | 7 => Own.osr 27 1 Wz.heap.size (([] ++ usH Ps) ++ [.int .u64 X]) | 8 => Own.eq (.slice As n1 c2) | 9 => Own.eq (.int .i64 (q : Int)) | 10 => Own.eq (.slice (cutA As c2 q 1) (n1 - q) (c2 - q)) | 11 => Own.osr 27 1 Wz.heap.size ((([] ++ usH Ps) ++ [.int .u64 X]) ++ usH Qs) | 12 => Own.osr 27 1 Wz.heap.size ((([] ++ usH Ps) ++ [.int .u64 X]) ++ usH Qs) | _ => Own.any) (fun b h => h) ?_ ?_ ?_ ?_ ?_
            · exact fun t ht => absurd ht (by omega)
            · exact fun t t' ht => absurd ht (by omega)
            · exact fun t ht => absurd ht (by omega)
            · intro i hi o ho FA w' vs H K hK
              match i, hi, ho, H, hK with
              | 0, _, ho, H, hK => 
                obtain rfl := Option.some.inj ho.symm
                clear ho
                go_simp
                have ho1 := Os.lit (s := 1) (e := 27) w' (Nat.le_refl _) #[] 0 rfl (Nat.zero_le _)
                exact hK.out _ _ (chgX (Ex.alloc _ _)) ⟨_, _, _, rfl, ho1.mono H.kept.size⟩ (fun b hb => .inr (ho1.blk b hb).1)
              | 1, _, ho, H, hK => 
                obtain rfl := Option.some.inj ho.symm
                clear ho
                have ev8 : FA.eval (.tmp 8) = .slice As n1 c2 := H.out 8 (by kernel_rfl)
                have e8 : FA.tmps[8]?.getD undef = .slice As n1 c2 := by simpa [Act.eval] using ev8
                replace ev8 := Lib.hid ev8
                go_simp
                exact hK.out _ _ (chgX (Ex.refl _)) rfl (fun _ h => h.elim)
              | 2, _, ho, H, hK => 
                obtain rfl := Option.some.inj ho.symm
                clear ho
                have ev11 : FA.eval (.tmp 11) = .int .i64 (q : Int) := H.out 11 (by kernel_rfl)
                have e11 : FA.tmps[11]?.getD undef = .int .i64 (q : Int) := by simpa [Act.eval] using ev11
                replace ev11 := Lib.hid ev11
                go_simp
                exact hK.out _ _ (chgX (Ex.refl _)) rfl (fun _ h => h.elim)
              | 3, _, ho, H, hK => 
                obtain rfl := Option.some.inj ho.symm
                clear ho
                have ev85 : FA.eval (.tmp 85) = .slice As n1 c2 := (H.dep 1 85 (by kernel_rfl)).trans (H.word 1 (by omega) (by kernel_rfl))
                have e85 : FA.tmps[85]?.getD undef = .slice As n1 c2 := by simpa [Act.eval] using ev85
                replace ev85 := Lib.hid ev85
                have ev86 : FA.eval (.tmp 86) = .int .i64 (q : Int) := (H.dep 2 86 (by kernel_rfl)).trans (H.word 2 (by omega) (by kernel_rfl))
                have e86 : FA.tmps[86]?.getD undef = .int .i64 (q : Int) := by simpa [Act.eval] using ev86
                replace ev86 := Lib.hid ev86
                go_simp
                exact hK.out _ _ (chgX (Ex.refl _)) rfl (fun _ h => h.elim)
              | 4, _, ho, H, hK => 
                obtain rfl := Option.some.inj ho.symm
                clear ho
                have ev84 := H.dep 0 84 (by kernel_rfl)
                have e84 : FA.tmps[84]?.getD undef = vs 0 := by simpa [Act.eval] using ev84
                replace ev84 := Lib.hid ev84
                have ev87 : FA.eval (.tmp 87) = .slice As q c2 := (H.dep 3 87 (by kernel_rfl)).trans (H.word 3 (by omega) (by kernel_rfl))
                have e87 : FA.tmps[87]?.getD undef = .slice As q c2 := by simpa [Act.eval] using ev87
                replace ev87 := Lib.hid ev87
                obtain ⟨A1, n1, c1, hv1, h1⟩ := H.word 0 (by omega) (by kernel_rfl)
                have hn1 : n1 ≤ 2000 := by have := h1.rs.1; simp only [List.length_append, List.length_nil, usH_len, List.length_cons] at this; have := HL2.out; (try simp at this); omega
                refine wanted_if rfl ?_
                refine own_appS etUH (.tmp 84) (.tmp 87) rfl (ev84.out.trans hv1) h1 ev87.out (hPs.kept H.kept (fun a e h => h)) (usH_one _) (by omega) H.kept.size ?_
                intro A3 n3 c3 w3 hn3 ho3 hg3 hf3
                refine hK.out _ _ (Chg.grown hg3 (fun k hk => ⟨0, rfl, by show (vs 0).ownBlock = some k; rw [hv1]; exact hk⟩)) ⟨_, _, _, rfl, ho3⟩ (fun b hb => ?_)
                rcases hf3 b hb with h | h
                · exact .inl ⟨0, rfl, by show (vs 0).ownBlock = some b; rw [hv1]; exact h⟩
                · exact .inr h
              | 5, _, ho, H, hK => 
                obtain rfl := Option.some.inj ho.symm
                clear ho
                have ev10 : FA.eval (.tmp 10) = .int .u64 X := H.out 10 (by kernel_rfl)
                have e10 : FA.tmps[10]?.getD undef = .int .u64 X := by simpa [Act.eval] using ev10
                replace ev10 := Lib.hid ev10
                go_simp
                exact hK.out _ _ (chgX (Ex.refl _)) rfl (fun _ h => h.elim)
              | 6, _, ho, H, hK => 
                obtain rfl := Option.some.inj ho.symm
                clear ho
                have ev89 : FA.eval (.tmp 89) = .int .u64 X := (H.dep 5 89 (by kernel_rfl)).trans (H.word 5 (by omega) (by kernel_rfl))
                have e89 : FA.tmps[89]?.getD undef = .int .u64 X := by simpa [Act.eval] using ev89
                replace ev89 := Lib.hid ev89
                go_simp
                have ho1 := Os.lit (s := 1) (e := 27) w' (Nat.le_refl _) #[.int .u64 X] 1 rfl (by decide)
                exact hK.out _ _ (chgX (Ex.alloc _ _)) ⟨_, _, _, rfl, ho1.mono H.kept.size⟩ (fun b hb => .inr (ho1.blk b hb).1)
              | 7, _, ho, H, hK => 
                obtain rfl := Option.some.inj ho.symm
                clear ho
                have ev88 := H.dep 4 88 (by kernel_rfl)
                have e88 : FA.tmps[88]?.getD undef = vs 4 := by simpa [Act.eval] using ev88
                replace ev88 := Lib.hid ev88
                have ev90 := H.dep 6 90 (by kernel_rfl)
                have e90 : FA.tmps[90]?.getD undef = vs 6 := by simpa [Act.eval] using ev90
                replace ev90 := Lib.hid ev90
                obtain ⟨A1, n1, c1, hv1, h1⟩ := H.word 4 (by omega) (by kernel_rfl)
                obtain ⟨A2, n2, c2, hv2, h2⟩ := H.word 6 (by omega) (by kernel_rfl)
                have hn1 : n1 ≤ 2000 := by have := h1.rs.1; simp only [List.length_append, List.length_nil, usH_len, List.length_cons] at this; have := HL2.out; (try simp at this); omega
                have hn2 : n2 ≤ 2000 := by have := h2.rs.1; simp at this; omega
                refine wanted_if rfl ?_
                refine own_appS etUH (.tmp 88) (.tmp 90) rfl (ev88.out.trans hv1) h1 (ev90.out.trans hv2) h2.rs (by simp [Value.oneCell']) (by omega) H.kept.size ?_
                intro A3 n3 c3 w3 hn3 ho3 hg3 hf3
                refine hK.out _ _ (Chg.grown hg3 (fun k hk => ⟨4, rfl, by show (vs 4).ownBlock = some k; rw [hv1]; exact hk⟩)) ⟨_, _, _, rfl, ho3⟩ (fun b hb => ?_)
                rcases hf3 b hb with h | h
                · exact .inl ⟨4, rfl, by show (vs 4).ownBlock = some b; rw [hv1]; exact h⟩
                · exact .inr h
              | 8, _, ho, H, hK => 
                obtain rfl := Option.some.inj ho.symm
                clear ho
                have ev8 : FA.eval (.tmp 8) = .slice As n1 c2 := H.out 8 (by kernel_rfl)
                have e8 : FA.tmps[8]?.getD undef = .slice As n1 c2 := by simpa [Act.eval] using ev8
                replace ev8 := Lib.hid ev8
                go_simp
                exact hK.out _ _ (chgX (Ex.refl _)) rfl (fun _ h => h.elim)
              | 9, _, ho, H, hK => 
                obtain rfl := Option.some.inj ho.symm
                clear ho
                have ev11 : FA.eval (.tmp 11) = .int .i64 (q : Int) := H.out 11 (by kernel_rfl)
                have e11 : FA.tmps[11]?.getD undef = .int .i64 (q : Int) := by simpa [Act.eval] using ev11
                replace ev11 := Lib.hid ev11
                go_simp
                exact hK.out _ _ (chgX (Ex.refl _)) rfl (fun _ h => h.elim)
              | 10, _, ho, H, hK => 
                obtain rfl := Option.some.inj ho.symm
                clear ho
                have ev92 : FA.eval (.tmp 92) = .slice As n1 c2 := (H.dep 8 92 (by kernel_rfl)).trans (H.word 8 (by omega) (by kernel_rfl))
                have e92 : FA.tmps[92]?.getD undef = .slice As n1 c2 := by simpa [Act.eval] using ev92
                replace ev92 := Lib.hid ev92
                have ev93 : FA.eval (.tmp 93) = .int .i64 (q : Int) := (H.dep 9 93 (by kernel_rfl)).trans (H.word 9 (by omega) (by kernel_rfl))
                have e93 : FA.tmps[93]?.getD undef = .int .i64 (q : Int) := by simpa [Act.eval] using ev93
                replace ev93 := Lib.hid ev93
                go_simp
                exact hK.out _ _ (chgX (Ex.refl _)) rfl (fun _ h => h.elim)
              | 11, _, ho, H, hK => 
                obtain rfl := Option.some.inj ho.symm
                clear ho
                have ev91 := H.dep 7 91 (by kernel_rfl)
                have e91 : FA.tmps[91]?.getD undef = vs 7 := by simpa [Act.eval] using ev91
                replace ev91 := Lib.hid ev91
                have ev94 : FA.eval (.tmp 94) = .slice (cutA As c2 q 1) (n1 - q) (c2 - q) := (H.dep 10 94 (by kernel_rfl)).trans (H.word 10 (by omega) (by kernel_rfl))
                have e94 : FA.tmps[94]?.getD undef = .slice (cutA As c2 q 1) (n1 - q) (c2 - q) := by simpa [Act.eval] using ev94
                replace ev94 := Lib.hid ev94
                obtain ⟨A1, n1, c1, hv1, h1⟩ := H.word 7 (by omega) (by kernel_rfl)
                have hn1 : n1 ≤ 2000 := by have := h1.rs.1; simp only [List.length_append, List.length_nil, usH_len, List.length_cons] at this; have := HL2.out; (try simp at this); omega
                refine wanted_if rfl ?_
                refine own_appS etUH (.tmp 91) (.tmp 94) rfl (ev91.out.trans hv1) h1 ev94.out (hQs.kept H.kept (fun a e h => h)) (usH_one _) (by omega) H.kept.size ?_
                intro A3 n3 c3 w3 hn3 ho3 hg3 hf3
                refine hK.out _ _ (Chg.grown hg3 (fun k hk => ⟨7, rfl, by show (vs 7).ownBlock = some k; rw [hv1]; exact hk⟩)) ⟨_, _, _, rfl, ho3⟩ (fun b hb => ?_)
                rcases hf3 b hb with h | h
                · exact .inl ⟨7, rfl, by show (vs 7).ownBlock = some b; rw [hv1]; exact h⟩
                · exact .inr h
              | 12, _, ho, H, hK => 
                obtain rfl := Option.some.inj ho.symm
                clear ho
                have ev95 := H.dep 11 95 (by kernel_rfl)
                have e95 : FA.tmps[95]?.getD undef = vs 11 := by simpa [Act.eval] using ev95
                replace ev95 := Lib.hid ev95
                have hw := H.word 11 (by omega) (by kernel_rfl)
                go_simp
                exact hK.out _ _ (chgX (Ex.refl _)) hw (fun b hb => .inl ⟨11, rfl, hb⟩)
              | (k + 13), hi, _, _, _ => exact absurd hi (by omega)
            intro vs w' hC hV hW hDis hFr
            have p1 : vs 1 = .slice As n1 c2 := hW 1 (by omega) (by kernel_rfl)
            have p2 : vs 2 = .int .i64 (q : Int) := hW 2 (by omega) (by kernel_rfl)
            have p3 : vs 3 = .slice As q c2 := hW 3 (by omega) (by kernel_rfl)
            have p5 : vs 5 = .int .u64 X := hW 5 (by omega) (by kernel_rfl)
            have p6 := hW 6 (by omega) (by kernel_rfl)
            have p8 : vs 8 = .slice As n1 c2 := hW 8 (by omega) (by kernel_rfl)
            have p9 : vs 9 = .int .i64 (q : Int) := hW 9 (by omega) (by kernel_rfl)
            have p10 : vs 10 = .slice (cutA As c2 q 1) (n1 - q) (c2 - q) := hW 10 (by omega) (by kernel_rfl)
            have p12 := hW 12 (by omega) (by kernel_rfl)
            clear hW
            simp only [List.take_succ_cons, List.take_zero, List.drop_succ_cons, List.drop_zero, putAll, Nat.zero_add, Nat.reduceAdd, Act.put, List.setIfInBounds_toArray, List.set_cons_zero, List.set_cons_succ, p1, p2, p3, p5, p8, p9, p10]
            obtain ⟨A6, n6, c6, hA6, ho6⟩ := p12
            replace hA6 : vs 12 = .slice A6 n6 c6 := hA6
            rw [hA6]
            have hbw := hC.below (B := Wz.heap.size) (Nat.le_refl _) (fun b hb => hb)
            have hr6 := ho6.rs
            replace hr5 := hr5.later hbw
            replace hkW := hkW.later hbw
            replace hEW := hEW.trans (hbw.mono hEW.size)
            replace hVW := hVW.trans (hbw.mono hVW.size)
            have hl5 : (([] ++ itH Po) ++ [Value.int .i64 (id : Int)]) ++ itH Qo = itH ((rankL key b (L.take (j + 1))).map (·.1)) := by rw [HN.out, HINS.out, ← HRES.out, ← HPo.out, ← HQo.out]; simp [itH]
            have hl6 : (([] ++ usH Ps) ++ [Value.int .u64 X]) ++ usH Qs = usH ((rankL key b (L.take (j + 1))).map (·.2)) := by rw [HN.out, HINS.out, ← HRES.out, ← HPs.out, ← HQs.out]; simp [usH]
            rw [hl5] at hr5
            rw [hl6] at hr6
            have hn56 : n5 = n6 := by
              have h1 := hr5.1
              have h2 := hr6.1
              rw [itH_len, List.length_map] at h1
              rw [usH_len, List.length_map] at h2
              omega
            subst hn56
            have HR5 := Lib.hid hr5
            have HR6 := Lib.hid hr6
            clear hA6 ho6 hbw hC hV hDis hFr hPs hQs hr5 hr6 hl5 hl6
            generalize w' = Wy at *
            go_wp2
            exact ⟨⟨j + 1, A5, A6, n5, c5, c6, by go_num, by omega, rfl, rfl, HR5.out, HR6.out, hkW, hEW, hVW⟩, by simp [intOf]; omega⟩
          · obtain ⟨k, hk⟩ : ∃ k, q = k + 1 := ⟨q - 1, by omega⟩
            have i0 : (0 : Int) < (q : Int) := by omega
            have n0 : 0 < q := by omega
            have e1 : (q : Int) - 1 = (k : Int) := by omega
            have w1 : IntKind.i64.wrap ((q : Int) - 1) = (k : Int) := by rw [IntWalk.i64_in _ (by omega)]; omega
            have w2 : IntKind.i64.wrap (k : Int) = (k : Int) := IntWalk.i64_in _ (by omega)
            have ikn : (k : Int) < (n1 : Int) := by omega
            have hkS : k < S.length := by omega
            have hux : posL S ((id : Int), X) q = if aheadI ((id : Int), X) (S.getD k (0, 0)) < 0 then posL S ((id : Int), X) k else q := by rw [hk]; rfl
            rw [hux] at hqx
            have hgd : S.getD k (0, 0) = S[k] := by rw [List.getD_eq_getElem?_getD, List.getElem?_eq_getElem hkS, Option.getD_some]
            have hah := ahead_lt ((id : Int), X) (S.getD k (0, 0))
            obtain ⟨bO, oO, rfl, hbO, -⟩ := hO.at_ (by omega) (by decide)
            obtain ⟨bS, oS, rfl, hbS, -⟩ := hZ.at_ (by omega) (by decide)
            have hcO : ∀ W, Below W2.heap.size W2 W → W.cell? ⟨bO, oO + k, none⟩ = some (.int .i64 (S.getD k (0, 0)).1) := fun W h => by
              obtain ⟨b9, o9, e9, _, hc9⟩ := (hO.later h).at_ (by omega) (by decide)
              injection e9 with e9
              injection e9 with e91 e92
              subst e91 e92
              have := hc9 k _ (itH_at _ k (by simpa using hkS))
              rw [this, hgd]
              simp
            have hcS : ∀ W, Below W2.heap.size W2 W → W.cell? ⟨bS, oS + k, none⟩ = some (.int .u64 (S.getD k (0, 0)).2) := fun W h => by
              obtain ⟨b9, o9, e9, _, hc9⟩ := (hZ.later h).at_ (by omega) (by decide)
              injection e9 with e9
              injection e9 with e91 e92
              subst e91 e92
              have := hc9 k _ (usH_at _ k (by simpa using hkS))
              rw [this, hgd]
              simp
            have HK1 := Lib.hid hk
            clear hk hux hgd
            generalize S.getD k (0, 0) = py at *
            obtain ⟨py1, py2⟩ := py
            simp only [] at hcO hcS
            have HC := Lib.hid (fun (W : World) (h : Below wr.heap.size wr W) => show W.cell? ⟨bS, oS + k, none⟩ = some (.int .u64 py2) ∧ W.cell? ⟨bO, oO + k, none⟩ = some (.int .i64 py1) ∧ W.cell? ⟨bl, ol + j * 2, none⟩ = some (.int .i64 (id : Int)) from
              ⟨hcS W (hE9b.trans (h.mono hE9b.size)), hcO W (hE9b.trans (h.mono hE9b.size)), (HQ2.out W (hV9.trans (h.mono hV9.size))).1⟩)
            clear hcO hcS
            by_cases hA : py2 < X
            · rw [if_pos (hah.2 (.inl hA))] at hqx
              have HQ9 := Lib.hid hqx
              clear hqx hah
              go_upto_region 9 with (fail)
              go_wp2
              refine wp_relS 33 97 rfl (by kernel_rfl) (by kernel_rfl) ?_
              apply Steps.one (MP.eq _) 1 rfl
              · intro o ho FA x hO hD K hK
                obtain rfl := Option.some.inj ho.symm
                clear ho
                have e11 := hO 11 (by kernel_rfl)
                simp only [eval_tmp, List.getElem?_toArray, List.getElem?_cons_succ, List.getElem?_cons_zero, Option.getD_some] at e11
                have ev11 := Lib.hid ((eval_tmp FA 11).trans e11)
                clear hO hD
                go_simp
                exact hK.out _ _ (Ex.refl _) rfl
              apply Steps.one (MP.eq _) 2 rfl
              · intro o ho FA x hO hD K hK
                obtain rfl := Option.some.inj ho.symm
                clear ho
                have ev33 : FA.eval (.tmp 33) = _ := hD 0 33 (by kernel_rfl)
                have e33 := (eval_tmp FA 33).symm.trans ev33
                replace ev33 := Lib.hid ev33
                clear hO hD
                go_simp
                exact hK.out _ _ (Ex.refl _) rfl
              apply Steps.one (MP.eq _) 3 rfl
              · intro o ho FA x hO hD K hK
                obtain rfl := Option.some.inj ho.symm
                clear ho
                have ev34 : FA.eval (.tmp 34) = _ := hD 1 34 (by kernel_rfl)
                have e34 := (eval_tmp FA 34).symm.trans ev34
                replace ev34 := Lib.hid ev34
                clear hO hD
                go_simp
                exact hK.out _ _ (Ex.refl _) rfl
              apply Steps.one (MP.eq _) 4 rfl
              · intro o ho FA x hO hD K hK
                obtain rfl := Option.some.inj ho.symm
                clear ho
                have e8 := hO 8 (by kernel_rfl)
                simp only [eval_tmp, List.getElem?_toArray, List.getElem?_cons_succ, List.getElem?_cons_zero, Option.getD_some] at e8
                have ev8 := Lib.hid ((eval_tmp FA 8).trans e8)
                have ev35 : FA.eval (.tmp 35) = _ := hD 2 35 (by kernel_rfl)
                have e35 := (eval_tmp FA 35).symm.trans ev35
                replace ev35 := Lib.hid ev35
                first | have ge35 := slot_of e35 | have ge35 := slot_un e35
                clear hO hD
                first | (go_simp; exact hK.out _ _ (Ex.refl _) rfl) | (rcases ge35 with ge35 | ge35 <;> (go_simp; exact hK.out _ _ (Ex.refl _) rfl))
              apply Steps.one (MP.eq _) 5 rfl
              · intro o ho FA x hO hD K hK
                obtain rfl := Option.some.inj ho.symm
                clear ho
                have e11 := hO 11 (by kernel_rfl)
                simp only [eval_tmp, List.getElem?_toArray, List.getElem?_cons_succ, List.getElem?_cons_zero, Option.getD_some] at e11
                have ev11 := Lib.hid ((eval_tmp FA 11).trans e11)
                have ev35 : FA.eval (.tmp 35) = _ := hD 2 35 (by kernel_rfl)
                have e35 := (eval_tmp FA 35).symm.trans ev35
                replace ev35 := Lib.hid ev35
                first | have ge35 := slot_of e35 | have ge35 := slot_un e35
                clear hO hD
                first | (go_simp; exact hK.out _ _ (Ex.refl _) rfl) | (rcases ge35 with ge35 | ge35 <;> (go_simp; exact hK.out _ _ (Ex.refl _) rfl))
              apply Steps.one (MP.eq _) 6 rfl
              · intro o ho FA x hO hD K hK
                obtain rfl := Option.some.inj ho.symm
                clear ho
                have ev37 : FA.eval (.tmp 37) = _ := hD 4 37 (by kernel_rfl)
                have e37 := (eval_tmp FA 37).symm.trans ev37
                replace ev37 := Lib.hid ev37
                have ev35 : FA.eval (.tmp 35) = _ := hD 2 35 (by kernel_rfl)
                have e35 := (eval_tmp FA 35).symm.trans ev35
                replace ev35 := Lib.hid ev35
                first | have ge35 := slot_of e35 | have ge35 := slot_un e35
                clear hO hD
                first | (go_simp; exact hK.out _ _ (Ex.refl _) rfl) | (rcases ge35 with ge35 | ge35 <;> (go_simp; exact hK.out _ _ (Ex.refl _) rfl))
              apply Steps.one (MP.eq _) 7 rfl
              · intro o ho FA x hO hD K hK
                obtain rfl := Option.some.inj ho.symm
                clear ho
                have ev36 : FA.eval (.tmp 36) = _ := hD 3 36 (by kernel_rfl)
                have e36 := (eval_tmp FA 36).symm.trans ev36
                replace ev36 := Lib.hid ev36
                have ev38 : FA.eval (.tmp 38) = _ := hD 5 38 (by kernel_rfl)
                have e38 := (eval_tmp FA 38).symm.trans ev38
                replace ev38 := Lib.hid ev38
                have ev35 : FA.eval (.tmp 35) = _ := hD 2 35 (by kernel_rfl)
                have e35 := (eval_tmp FA 35).symm.trans ev35
                replace ev35 := Lib.hid ev35
                first | have ge35 := slot_of e35 | have ge35 := slot_un e35
                clear hO hD
                first | (go_simp; exact hK.out _ _ (Ex.refl _) rfl) | (rcases ge35 with ge35 | ge35 <;> (go_simp; exact hK.out _ _ (Ex.refl _) rfl))
              apply Steps.one (MP.eq _) 8 rfl
              · intro o ho FA x hO hD K hK
                obtain rfl := Option.some.inj ho.symm
                clear ho
                have ev39 : FA.eval (.tmp 39) = _ := hD 6 39 (by kernel_rfl)
                have e39 := (eval_tmp FA 39).symm.trans ev39
                replace ev39 := Lib.hid ev39
                have ev35 : FA.eval (.tmp 35) = _ := hD 2 35 (by kernel_rfl)
                have e35 := (eval_tmp FA 35).symm.trans ev35
                replace ev35 := Lib.hid ev35
                first | have ge35 := slot_of e35 | have ge35 := slot_un e35
                clear hO hD
                first | (refine wanted_ifG ?_ ?_; (· go_simp); have q9 := (HC.out (plus wr x.bs x.d) (below_plus _ _ _)).1; go_simp; exact hK.out _ _ (Ex.refl _) rfl) | (go_simp; exact hK.out _ _ (Ex.refl _) rfl) | (rcases ge35 with ge35 | ge35 <;> (go_simp; exact hK.out _ _ (Ex.refl _) rfl))
              apply Steps.one (MP.eq _) 9 rfl
              · intro o ho FA x hO hD K hK
                obtain rfl := Option.some.inj ho.symm
                clear ho
                have e10 := hO 10 (by kernel_rfl)
                simp only [eval_tmp, List.getElem?_toArray, List.getElem?_cons_succ, List.getElem?_cons_zero, Option.getD_some] at e10
                have ev10 := Lib.hid ((eval_tmp FA 10).trans e10)
                have ev35 : FA.eval (.tmp 35) = _ := hD 2 35 (by kernel_rfl)
                have e35 := (eval_tmp FA 35).symm.trans ev35
                replace ev35 := Lib.hid ev35
                first | have ge35 := slot_of e35 | have ge35 := slot_un e35
                clear hO hD
                first | (go_simp; exact hK.out _ _ (Ex.refl _) rfl) | (rcases ge35 with ge35 | ge35 <;> (go_simp; exact hK.out _ _ (Ex.refl _) rfl))
              apply Steps.one (MP.eq _) 10 rfl
              · intro o ho FA x hO hD K hK
                obtain rfl := Option.some.inj ho.symm
                clear ho
                have ev40 : FA.eval (.tmp 40) = _ := hD 7 40 (by kernel_rfl)
                have e40 := (eval_tmp FA 40).symm.trans ev40
                replace ev40 := Lib.hid ev40
                have ev41 : FA.eval (.tmp 41) = _ := hD 8 41 (by kernel_rfl)
                have e41 := (eval_tmp FA 41).symm.trans ev41
                replace ev41 := Lib.hid ev41
                have ev35 : FA.eval (.tmp 35) = _ := hD 2 35 (by kernel_rfl)
                have e35 := (eval_tmp FA 35).symm.trans ev35
                replace ev35 := Lib.hid ev35
                first | have ge35 := slot_of e35 | have ge35 := slot_un e35
                clear hO hD
                first | (go_simp; exact hK.out _ _ (Ex.refl _) rfl) | (rcases ge35 with ge35 | ge35 <;> (go_simp; exact hK.out _ _ (Ex.refl _) rfl))
              apply Steps.one (MP.eq _) 11 rfl
              · intro o ho FA x hO hD K hK
                obtain rfl := Option.some.inj ho.symm
                clear ho
                have ev42 : FA.eval (.tmp 42) = _ := hD 9 42 (by kernel_rfl)
                have e42 := (eval_tmp FA 42).symm.trans ev42
                replace ev42 := Lib.hid ev42
                have ev35 : FA.eval (.tmp 35) = _ := hD 2 35 (by kernel_rfl)
                have e35 := (eval_tmp FA 35).symm.trans ev35
                replace ev35 := Lib.hid ev35
                first | have ge35 := slot_of e35 | have ge35 := slot_un e35
                clear hO hD
                first | (go_simp; exact hK.out _ _ (Ex.refl _) rfl) | (rcases ge35 with ge35 | ge35 <;> (go_simp; exact hK.out _ _ (Ex.refl _) rfl))
              apply Steps.one (MP.eq _) 12 rfl
              · intro o ho FA x hO hD K hK
                obtain rfl := Option.some.inj ho.symm
                clear ho
                have e8 := hO 8 (by kernel_rfl)
                simp only [eval_tmp, List.getElem?_toArray, List.getElem?_cons_succ, List.getElem?_cons_zero, Option.getD_some] at e8
                have ev8 := Lib.hid ((eval_tmp FA 8).trans e8)
                have ev43 : FA.eval (.tmp 43) = _ := hD 10 43 (by kernel_rfl)
                have e43 := (eval_tmp FA 43).symm.trans ev43
                replace ev43 := Lib.hid ev43
                first | have ge43 := slot_of e43 | have ge43 := slot_un e43
                clear hO hD
                first | (go_simp; exact hK.out _ _ (Ex.refl _) rfl) | (rcases ge43 with ge43 | ge43 <;> (go_simp; exact hK.out _ _ (Ex.refl _) rfl))
              apply Steps.one (MP.eq _) 13 rfl
              · intro o ho FA x hO hD K hK
                obtain rfl := Option.some.inj ho.symm
                clear ho
                have e11 := hO 11 (by kernel_rfl)
                simp only [eval_tmp, List.getElem?_toArray, List.getElem?_cons_succ, List.getElem?_cons_zero, Option.getD_some] at e11
                have ev11 := Lib.hid ((eval_tmp FA 11).trans e11)
                have ev43 : FA.eval (.tmp 43) = _ := hD 10 43 (by kernel_rfl)
                have e43 := (eval_tmp FA 43).symm.trans ev43
                replace ev43 := Lib.hid ev43
                first | have ge43 := slot_of e43 | have ge43 := slot_un e43
                clear hO hD
                first | (go_simp; exact hK.out _ _ (Ex.refl _) rfl) | (rcases ge43 with ge43 | ge43 <;> (go_simp; exact hK.out _ _ (Ex.refl _) rfl))
              apply Steps.one (MP.eq _) 14 rfl
              · intro o ho FA x hO hD K hK
                obtain rfl := Option.some.inj ho.symm
                clear ho
                have ev45 : FA.eval (.tmp 45) = _ := hD 12 45 (by kernel_rfl)
                have e45 := (eval_tmp FA 45).symm.trans ev45
                replace ev45 := Lib.hid ev45
                have ev43 : FA.eval (.tmp 43) = _ := hD 10 43 (by kernel_rfl)
                have e43 := (eval_tmp FA 43).symm.trans ev43
                replace ev43 := Lib.hid ev43
                first | have ge43 := slot_of e43 | have ge43 := slot_un e43
                clear hO hD
                first | (go_simp; exact hK.out _ _ (Ex.refl _) rfl) | (rcases ge43 with ge43 | ge43 <;> (go_simp; exact hK.out _ _ (Ex.refl _) rfl))
              apply Steps.one (MP.eq _) 15 rfl
              · intro o ho FA x hO hD K hK
                obtain rfl := Option.some.inj ho.symm
                clear ho
                have ev44 : FA.eval (.tmp 44) = _ := hD 11 44 (by kernel_rfl)
                have e44 := (eval_tmp FA 44).symm.trans ev44
                replace ev44 := Lib.hid ev44
                have ev46 : FA.eval (.tmp 46) = _ := hD 13 46 (by kernel_rfl)
                have e46 := (eval_tmp FA 46).symm.trans ev46
                replace ev46 := Lib.hid ev46
                have ev43 : FA.eval (.tmp 43) = _ := hD 10 43 (by kernel_rfl)
                have e43 := (eval_tmp FA 43).symm.trans ev43
                replace ev43 := Lib.hid ev43
                first | have ge43 := slot_of e43 | have ge43 := slot_un e43
                clear hO hD
                first | (go_simp; exact hK.out _ _ (Ex.refl _) rfl) | (rcases ge43 with ge43 | ge43 <;> (go_simp; exact hK.out _ _ (Ex.refl _) rfl))
              apply Steps.one (MP.eq _) 16 rfl
              · intro o ho FA x hO hD K hK
                obtain rfl := Option.some.inj ho.symm
                clear ho
                have ev47 : FA.eval (.tmp 47) = _ := hD 14 47 (by kernel_rfl)
                have e47 := (eval_tmp FA 47).symm.trans ev47
                replace ev47 := Lib.hid ev47
                have ev43 : FA.eval (.tmp 43) = _ := hD 10 43 (by kernel_rfl)
                have e43 := (eval_tmp FA 43).symm.trans ev43
                replace ev43 := Lib.hid ev43
                first | have ge43 := slot_of e43 | have ge43 := slot_un e43
                clear hO hD
                first | (refine wanted_ifG ?_ ?_; (· go_simp); have q9 := (HC.out (plus wr x.bs x.d) (below_plus _ _ _)).1; go_simp; exact hK.out _ _ (Ex.refl _) rfl) | (go_simp; exact hK.out _ _ (Ex.refl _) rfl) | (rcases ge43 with ge43 | ge43 <;> (go_simp; exact hK.out _ _ (Ex.refl _) rfl))
              apply Steps.one (MP.eq _) 17 rfl
              · intro o ho FA x hO hD K hK
                obtain rfl := Option.some.inj ho.symm
                clear ho
                have e10 := hO 10 (by kernel_rfl)
                simp only [eval_tmp, List.getElem?_toArray, List.getElem?_cons_succ, List.getElem?_cons_zero, Option.getD_some] at e10
                have ev10 := Lib.hid ((eval_tmp FA 10).trans e10)
                have ev43 : FA.eval (.tmp 43) = _ := hD 10 43 (by kernel_rfl)
                have e43 := (eval_tmp FA 43).symm.trans ev43
                replace ev43 := Lib.hid ev43
                first | have ge43 := slot_of e43 | have ge43 := slot_un e43
                clear hO hD
                first | (go_simp; exact hK.out _ _ (Ex.refl _) rfl) | (rcases ge43 with ge43 | ge43 <;> (go_simp; exact hK.out _ _ (Ex.refl _) rfl))
              apply Steps.one (MP.eq _) 18 rfl
              · intro o ho FA x hO hD K hK
                obtain rfl := Option.some.inj ho.symm
                clear ho
                have ev48 : FA.eval (.tmp 48) = _ := hD 15 48 (by kernel_rfl)
                have e48 := (eval_tmp FA 48).symm.trans ev48
                replace ev48 := Lib.hid ev48
                have ev49 : FA.eval (.tmp 49) = _ := hD 16 49 (by kernel_rfl)
                have e49 := (eval_tmp FA 49).symm.trans ev49
                replace ev49 := Lib.hid ev49
                have ev43 : FA.eval (.tmp 43) = _ := hD 10 43 (by kernel_rfl)
                have e43 := (eval_tmp FA 43).symm.trans ev43
                replace ev43 := Lib.hid ev43
                first | have ge43 := slot_of e43 | have ge43 := slot_un e43
                clear hO hD
                first | (go_simp; exact hK.out _ _ (Ex.refl _) rfl) | (rcases ge43 with ge43 | ge43 <;> (go_simp; exact hK.out _ _ (Ex.refl _) rfl))
              apply Steps.one (MP.eq _) 19 rfl
              · intro o ho FA x hO hD K hK
                obtain rfl := Option.some.inj ho.symm
                clear ho
                have ev50 : FA.eval (.tmp 50) = _ := hD 17 50 (by kernel_rfl)
                have e50 := (eval_tmp FA 50).symm.trans ev50
                replace ev50 := Lib.hid ev50
                have ev43 : FA.eval (.tmp 43) = _ := hD 10 43 (by kernel_rfl)
                have e43 := (eval_tmp FA 43).symm.trans ev43
                replace ev43 := Lib.hid ev43
                first | have ge43 := slot_of e43 | have ge43 := slot_un e43
                clear hO hD
                first | (go_simp; exact hK.out _ _ (Ex.refl _) rfl) | (rcases ge43 with ge43 | ge43 <;> (go_simp; exact hK.out _ _ (Ex.refl _) rfl))
              apply Steps.one (MP.eq _) 20 rfl
              · intro o ho FA x hO hD K hK
                obtain rfl := Option.some.inj ho.symm
                clear ho
                have e7 := hO 7 (by kernel_rfl)
                simp only [eval_tmp, List.getElem?_toArray, List.getElem?_cons_succ, List.getElem?_cons_zero, Option.getD_some] at e7
                have ev7 := Lib.hid ((eval_tmp FA 7).trans e7)
                have ev51 : FA.eval (.tmp 51) = _ := hD 18 51 (by kernel_rfl)
                have e51 := (eval_tmp FA 51).symm.trans ev51
                replace ev51 := Lib.hid ev51
                first | have ge51 := slot_of e51 | have ge51 := slot_un e51
                clear hO hD
                first | (go_simp; exact hK.out _ _ (Ex.refl _) rfl) | (rcases ge51 with ge51 | ge51 <;> (go_simp; exact hK.out _ _ (Ex.refl _) rfl))
              apply Steps.one (MP.eq _) 21 rfl
              · intro o ho FA x hO hD K hK
                obtain rfl := Option.some.inj ho.symm
                clear ho
                have e11 := hO 11 (by kernel_rfl)
                simp only [eval_tmp, List.getElem?_toArray, List.getElem?_cons_succ, List.getElem?_cons_zero, Option.getD_some] at e11
                have ev11 := Lib.hid ((eval_tmp FA 11).trans e11)
                have ev51 : FA.eval (.tmp 51) = _ := hD 18 51 (by kernel_rfl)
                have e51 := (eval_tmp FA 51).symm.trans ev51
                replace ev51 := Lib.hid ev51
                first | have ge51 := slot_of e51 | have ge51 := slot_un e51
                clear hO hD
                first | (go_simp; exact hK.out _ _ (Ex.refl _) rfl) | (rcases ge51 with ge51 | ge51 <;> (go_simp; exact hK.out _ _ (Ex.refl _) rfl))
              apply Steps.one (MP.eq _) 22 rfl
              · intro o ho FA x hO hD K hK
                obtain rfl := Option.some.inj ho.symm
                clear ho
                have ev53 : FA.eval (.tmp 53) = _ := hD 20 53 (by kernel_rfl)
                have e53 := (eval_tmp FA 53).symm.trans ev53
                replace ev53 := Lib.hid ev53
                have ev51 : FA.eval (.tmp 51) = _ := hD 18 51 (by kernel_rfl)
                have e51 := (eval_tmp FA 51).symm.trans ev51
                replace ev51 := Lib.hid ev51
                first | have ge51 := slot_of e51 | have ge51 := slot_un e51
                clear hO hD
                first | (go_simp; exact hK.out _ _ (Ex.refl _) rfl) | (rcases ge51 with ge51 | ge51 <;> (go_simp; exact hK.out _ _ (Ex.refl _) rfl))
              apply Steps.one (MP.eq _) 23 rfl
              · intro o ho FA x hO hD K hK
                obtain rfl := Option.some.inj ho.symm
                clear ho
                have ev52 : FA.eval (.tmp 52) = _ := hD 19 52 (by kernel_rfl)
                have e52 := (eval_tmp FA 52).symm.trans ev52
                replace ev52 := Lib.hid ev52
                have ev54 : FA.eval (.tmp 54) = _ := hD 21 54 (by kernel_rfl)
                have e54 := (eval_tmp FA 54).symm.trans ev54
                replace ev54 := Lib.hid ev54
                have ev51 : FA.eval (.tmp 51) = _ := hD 18 51 (by kernel_rfl)
                have e51 := (eval_tmp FA 51).symm.trans ev51
                replace ev51 := Lib.hid ev51
                first | have ge51 := slot_of e51 | have ge51 := slot_un e51
                clear hO hD
                first | (go_simp; exact hK.out _ _ (Ex.refl _) rfl) | (rcases ge51 with ge51 | ge51 <;> (go_simp; exact hK.out _ _ (Ex.refl _) rfl))
              apply Steps.one (MP.eq _) 24 rfl
              · intro o ho FA x hO hD K hK
                obtain rfl := Option.some.inj ho.symm
                clear ho
                have ev55 : FA.eval (.tmp 55) = _ := hD 22 55 (by kernel_rfl)
                have e55 := (eval_tmp FA 55).symm.trans ev55
                replace ev55 := Lib.hid ev55
                have ev51 : FA.eval (.tmp 51) = _ := hD 18 51 (by kernel_rfl)
                have e51 := (eval_tmp FA 51).symm.trans ev51
                replace ev51 := Lib.hid ev51
                first | have ge51 := slot_of e51 | have ge51 := slot_un e51
                clear hO hD
                first | (refine wanted_ifG ?_ ?_; (· go_simp); have q9 := (HC.out (plus wr x.bs x.d) (below_plus _ _ _)).2.1; go_simp; exact hK.out _ _ (Ex.refl _) rfl) | (go_simp; exact hK.out _ _ (Ex.refl _) rfl) | (rcases ge51 with ge51 | ge51 <;> (go_simp; exact hK.out _ _ (Ex.refl _) rfl))
              apply Steps.one (MP.eq _) 25 rfl
              · intro o ho FA x hO hD K hK
                obtain rfl := Option.some.inj ho.symm
                clear ho
                have e1 := hO 1 (by kernel_rfl)
                simp only [eval_tmp, List.getElem?_toArray, List.getElem?_cons_succ, List.getElem?_cons_zero, Option.getD_some] at e1
                have ev1 := Lib.hid ((eval_tmp FA 1).trans e1)
                have ev51 : FA.eval (.tmp 51) = _ := hD 18 51 (by kernel_rfl)
                have e51 := (eval_tmp FA 51).symm.trans ev51
                replace ev51 := Lib.hid ev51
                first | have ge51 := slot_of e51 | have ge51 := slot_un e51
                clear hO hD
                first | (go_simp; exact hK.out _ _ (Ex.refl _) rfl) | (rcases ge51 with ge51 | ge51 <;> (go_simp; exact hK.out _ _ (Ex.refl _) rfl))
              apply Steps.one (MP.eq _) 26 rfl
              · intro o ho FA x hO hD K hK
                obtain rfl := Option.some.inj ho.symm
                clear ho
                have e9 := hO 9 (by kernel_rfl)
                simp only [eval_tmp, List.getElem?_toArray, List.getElem?_cons_succ, List.getElem?_cons_zero, Option.getD_some] at e9
                have ev9 := Lib.hid ((eval_tmp FA 9).trans e9)
                have ev51 : FA.eval (.tmp 51) = _ := hD 18 51 (by kernel_rfl)
                have e51 := (eval_tmp FA 51).symm.trans ev51
                replace ev51 := Lib.hid ev51
                first | have ge51 := slot_of e51 | have ge51 := slot_un e51
                clear hO hD
                first | (go_simp; exact hK.out _ _ (Ex.refl _) rfl) | (rcases ge51 with ge51 | ge51 <;> (go_simp; exact hK.out _ _ (Ex.refl _) rfl))
              apply Steps.one (MP.eq _) 27 rfl
              · intro o ho FA x hO hD K hK
                obtain rfl := Option.some.inj ho.symm
                clear ho
                have ev57 : FA.eval (.tmp 57) = _ := hD 24 57 (by kernel_rfl)
                have e57 := (eval_tmp FA 57).symm.trans ev57
                replace ev57 := Lib.hid ev57
                have ev58 : FA.eval (.tmp 58) = _ := hD 25 58 (by kernel_rfl)
                have e58 := (eval_tmp FA 58).symm.trans ev58
                replace ev58 := Lib.hid ev58
                have ev51 : FA.eval (.tmp 51) = _ := hD 18 51 (by kernel_rfl)
                have e51 := (eval_tmp FA 51).symm.trans ev51
                replace ev51 := Lib.hid ev51
                first | have ge51 := slot_of e51 | have ge51 := slot_un e51
                clear hO hD
                first | (go_simp; exact hK.out _ _ (Ex.refl _) rfl) | (rcases ge51 with ge51 | ge51 <;> (go_simp; exact hK.out _ _ (Ex.refl _) rfl))
              apply Steps.one (MP.eq _) 28 rfl
              · intro o ho FA x hO hD K hK
                obtain rfl := Option.some.inj ho.symm
                clear ho
                have ev59 : FA.eval (.tmp 59) = _ := hD 26 59 (by kernel_rfl)
                have e59 := (eval_tmp FA 59).symm.trans ev59
                replace ev59 := Lib.hid ev59
                have ev51 : FA.eval (.tmp 51) = _ := hD 18 51 (by kernel_rfl)
                have e51 := (eval_tmp FA 51).symm.trans ev51
                replace ev51 := Lib.hid ev51
                first | have ge51 := slot_of e51 | have ge51 := slot_un e51
                clear hO hD
                first | (go_simp; exact hK.out _ _ (Ex.refl _) rfl) | (rcases ge51 with ge51 | ge51 <;> (go_simp; exact hK.out _ _ (Ex.refl _) rfl))
              apply Steps.one (MP.eq _) 29 rfl
              · intro o ho FA x hO hD K hK
                obtain rfl := Option.some.inj ho.symm
                clear ho
                have ev60 : FA.eval (.tmp 60) = _ := hD 27 60 (by kernel_rfl)
                have e60 := (eval_tmp FA 60).symm.trans ev60
                replace ev60 := Lib.hid ev60
                have ev51 : FA.eval (.tmp 51) = _ := hD 18 51 (by kernel_rfl)
                have e51 := (eval_tmp FA 51).symm.trans ev51
                replace ev51 := Lib.hid ev51
                first | have ge51 := slot_of e51 | have ge51 := slot_un e51
                clear hO hD
                first | (refine wanted_ifG ?_ ?_; (· go_simp); have q9 := (HC.out (plus wr x.bs x.d) (below_plus _ _ _)).2.2; go_simp; exact hK.out _ _ (Ex.refl _) rfl) | (go_simp; exact hK.out _ _ (Ex.refl _) rfl) | (rcases ge51 with ge51 | ge51 <;> (go_simp; exact hK.out _ _ (Ex.refl _) rfl))
              apply Steps.one (MP.eq _) 30 rfl
              · intro o ho FA x hO hD K hK
                obtain rfl := Option.some.inj ho.symm
                clear ho
                have ev56 : FA.eval (.tmp 56) = _ := hD 23 56 (by kernel_rfl)
                have e56 := (eval_tmp FA 56).symm.trans ev56
                replace ev56 := Lib.hid ev56
                have ev61 : FA.eval (.tmp 61) = _ := hD 28 61 (by kernel_rfl)
                have e61 := (eval_tmp FA 61).symm.trans ev61
                replace ev61 := Lib.hid ev61
                have ev51 : FA.eval (.tmp 51) = _ := hD 18 51 (by kernel_rfl)
                have e51 := (eval_tmp FA 51).symm.trans ev51
                replace ev51 := Lib.hid ev51
                first | have ge51 := slot_of e51 | have ge51 := slot_un e51
                clear hO hD
                first | (go_simp; exact hK.out _ _ (Ex.refl _) rfl) | (rcases ge51 with ge51 | ge51 <;> (go_simp; exact hK.out _ _ (Ex.refl _) rfl))
              apply Steps.one (MP.eq _) 31 rfl
              · intro o ho FA x hO hD K hK
                obtain rfl := Option.some.inj ho.symm
                clear ho
                have ev51 : FA.eval (.tmp 51) = _ := hD 18 51 (by kernel_rfl)
                have e51 := (eval_tmp FA 51).symm.trans ev51
                replace ev51 := Lib.hid ev51
                have ev62 : FA.eval (.tmp 62) = _ := hD 29 62 (by kernel_rfl)
                have e62 := (eval_tmp FA 62).symm.trans ev62
                replace ev62 := Lib.hid ev62
                have ev43 : FA.eval (.tmp 43) = _ := hD 10 43 (by kernel_rfl)
                have e43 := (eval_tmp FA 43).symm.trans ev43
                replace ev43 := Lib.hid ev43
                first | have ge43 := slot_of e43 | have ge43 := slot_un e43
                clear hO hD
                first | (go_simp; exact hK.out _ _ (Ex.refl _) rfl) | (rcases ge43 with ge43 | ge43 <;> (go_simp; exact hK.out _ _ (Ex.refl _) rfl))
              apply Steps.one (MP.eq _) 32 rfl
              · intro o ho FA x hO hD K hK
                obtain rfl := Option.some.inj ho.symm
                clear ho
                have ev43 : FA.eval (.tmp 43) = _ := hD 10 43 (by kernel_rfl)
                have e43 := (eval_tmp FA 43).symm.trans ev43
                replace ev43 := Lib.hid ev43
                have ev63 : FA.eval (.tmp 63) = _ := hD 30 63 (by kernel_rfl)
                have e63 := (eval_tmp FA 63).symm.trans ev63
                replace ev63 := Lib.hid ev63
                have ev35 : FA.eval (.tmp 35) = _ := hD 2 35 (by kernel_rfl)
                have e35 := (eval_tmp FA 35).symm.trans ev35
                replace ev35 := Lib.hid ev35
                first | have ge35 := slot_of e35 | have ge35 := slot_un e35
                clear hO hD
                first | (go_simp; exact hK.out _ _ (Ex.refl _) rfl) | (rcases ge35 with ge35 | ge35 <;> (go_simp; exact hK.out _ _ (Ex.refl _) rfl))
              apply Steps.one (MP.eq _) 33 rfl
              · intro o ho FA x hO hD K hK
                obtain rfl := Option.some.inj ho.symm
                clear ho
                have ev35 : FA.eval (.tmp 35) = _ := hD 2 35 (by kernel_rfl)
                have e35 := (eval_tmp FA 35).symm.trans ev35
                replace ev35 := Lib.hid ev35
                have ev64 : FA.eval (.tmp 64) = _ := hD 31 64 (by kernel_rfl)
                have e64 := (eval_tmp FA 64).symm.trans ev64
                replace ev64 := Lib.hid ev64
                clear hO hD
                go_simp
                exact hK.out _ _ (Ex.refl _) rfl
              refine Steps.fin_ (fun vs x hp => ?_)
              have p0 : vs 0 = _ := hp 0 (by omega)
              have p1 : vs 1 = _ := hp 1 (by omega)
              have p2 : vs 2 = _ := hp 2 (by omega)
              have p3 : vs 3 = _ := hp 3 (by omega)
              have p4 : vs 4 = _ := hp 4 (by omega)
              have p5 : vs 5 = _ := hp 5 (by omega)
              have p6 : vs 6 = _ := hp 6 (by omega)
              have p7 : vs 7 = _ := hp 7 (by omega)
              have p8 : vs 8 = _ := hp 8 (by omega)
              have p9 : vs 9 = _ := hp 9 (by omega)
              have p10 : vs 10 = _ := hp 10 (by omega)
              have p11 : vs 11 = _ := hp 11 (by omega)
              have p12 : vs 12 = _ := hp 12 (by omega)
              have p13 : vs 13 = _ := hp 13 (by omega)
              have p14 : vs 14 = _ := hp 14 (by omega)
              have p15 : vs 15 = _ := hp 15 (by omega)
              have p16 : vs 16 = _ := hp 16 (by omega)
              have p17 : vs 17 = _ := hp 17 (by omega)
              have p18 : vs 18 = _ := hp 18 (by omega)
              have p19 : vs 19 = _ := hp 19 (by omega)
              have p20 : vs 20 = _ := hp 20 (by omega)
              have p21 : vs 21 = _ := hp 21 (by omega)
              have p22 : vs 22 = _ := hp 22 (by omega)
              have p23 : vs 23 = _ := hp 23 (by omega)
              have p24 : vs 24 = _ := hp 24 (by omega)
              have p25 : vs 25 = _ := hp 25 (by omega)
              have p26 : vs 26 = _ := hp 26 (by omega)
              have p27 : vs 27 = _ := hp 27 (by omega)
              have p28 : vs 28 = _ := hp 28 (by omega)
              have p29 : vs 29 = _ := hp 29 (by omega)
              have p30 : vs 30 = _ := hp 30 (by omega)
              have p31 : vs 31 = _ := hp 31 (by omega)
              have p32 : vs 32 = _ := hp 32 (by omega)
              clear hp
              simp only [List.take_succ_cons, List.take_zero, List.drop_succ_cons, List.drop_zero, putAll, Nat.zero_add, Nat.reduceAdd, Act.put, List.setIfInBounds_toArray, List.set_cons_zero, List.set_cons_succ, p0, p1, p2, p3, p4, p5, p6, p7, p8, p9, p10, p11, p12, p13, p14, p15, p16, p17, p18, p19, p20, p21, p22, p23, p24, p25, p26, p27, p28, p29, p30, p31, p32]
              clear p0 p1 p2 p3 p4 p5 p6 p7 p8 p9 p10 p11 p12 p13 p14 p15 p16 p17 p18 p19 p20 p21 p22 p23 p24 p25 p26 p27 p28 p29 p30 p31 p32
              clear vs
              have hE8 := belowP hE9b x.bs x.d
              clear HC
              go_wp2
              exact ⟨⟨k, rfl, by omega, HQ9.out, hE8⟩, by have := HK1.out; simp [intOf]; omega⟩
            · by_cases hB9 : py2 = X
              · have bq : (py2 == X) = true := by simp [hB9]
                by_cases hid9 : (id : Int) < py1
                · rw [if_pos (hah.2 (.inr ⟨hB9.symm, hid9⟩))] at hqx
                  have HQ9 := Lib.hid hqx
                  clear hqx hah hB9
                  go_upto_region 9 with (fail)
                  go_wp2
                  refine wp_relS 33 97 rfl (by kernel_rfl) (by kernel_rfl) ?_
                  apply Steps.one (MP.eq _) 1 rfl
                  · intro o ho FA x hO hD K hK
                    obtain rfl := Option.some.inj ho.symm
                    clear ho
                    have e11 := hO 11 (by kernel_rfl)
                    simp only [eval_tmp, List.getElem?_toArray, List.getElem?_cons_succ, List.getElem?_cons_zero, Option.getD_some] at e11
                    have ev11 := Lib.hid ((eval_tmp FA 11).trans e11)
                    clear hO hD
                    go_simp
                    exact hK.out _ _ (Ex.refl _) rfl
                  apply Steps.one (MP.eq _) 2 rfl
                  · intro o ho FA x hO hD K hK
                    obtain rfl := Option.some.inj ho.symm
                    clear ho
                    have ev33 : FA.eval (.tmp 33) = _ := hD 0 33 (by kernel_rfl)
                    have e33 := (eval_tmp FA 33).symm.trans ev33
                    replace ev33 := Lib.hid ev33
                    clear hO hD
                    go_simp
                    exact hK.out _ _ (Ex.refl _) rfl
                  apply Steps.one (MP.eq _) 3 rfl
                  · intro o ho FA x hO hD K hK
                    obtain rfl := Option.some.inj ho.symm
                    clear ho
                    have ev34 : FA.eval (.tmp 34) = _ := hD 1 34 (by kernel_rfl)
                    have e34 := (eval_tmp FA 34).symm.trans ev34
                    replace ev34 := Lib.hid ev34
                    clear hO hD
                    go_simp
                    exact hK.out _ _ (Ex.refl _) rfl
                  apply Steps.one (MP.eq _) 4 rfl
                  · intro o ho FA x hO hD K hK
                    obtain rfl := Option.some.inj ho.symm
                    clear ho
                    have e8 := hO 8 (by kernel_rfl)
                    simp only [eval_tmp, List.getElem?_toArray, List.getElem?_cons_succ, List.getElem?_cons_zero, Option.getD_some] at e8
                    have ev8 := Lib.hid ((eval_tmp FA 8).trans e8)
                    have ev35 : FA.eval (.tmp 35) = _ := hD 2 35 (by kernel_rfl)
                    have e35 := (eval_tmp FA 35).symm.trans ev35
                    replace ev35 := Lib.hid ev35
                    first | have ge35 := slot_of e35 | have ge35 := slot_un e35
                    clear hO hD
                    first | (go_simp; exact hK.out _ _ (Ex.refl _) rfl) | (rcases ge35 with ge35 | ge35 <;> (go_simp; exact hK.out _ _ (Ex.refl _) rfl))
                  apply Steps.one (MP.eq _) 5 rfl
                  · intro o ho FA x hO hD K hK
                    obtain rfl := Option.some.inj ho.symm
                    clear ho
                    have e11 := hO 11 (by kernel_rfl)
                    simp only [eval_tmp, List.getElem?_toArray, List.getElem?_cons_succ, List.getElem?_cons_zero, Option.getD_some] at e11
                    have ev11 := Lib.hid ((eval_tmp FA 11).trans e11)
                    have ev35 : FA.eval (.tmp 35) = _ := hD 2 35 (by kernel_rfl)
                    have e35 := (eval_tmp FA 35).symm.trans ev35
                    replace ev35 := Lib.hid ev35
                    first | have ge35 := slot_of e35 | have ge35 := slot_un e35
                    clear hO hD
                    first | (go_simp; exact hK.out _ _ (Ex.refl _) rfl) | (rcases ge35 with ge35 | ge35 <;> (go_simp; exact hK.out _ _ (Ex.refl _) rfl))
                  apply Steps.one (MP.eq _) 6 rfl
                  · intro o ho FA x hO hD K hK
                    obtain rfl := Option.some.inj ho.symm
                    clear ho
                    have ev37 : FA.eval (.tmp 37) = _ := hD 4 37 (by kernel_rfl)
                    have e37 := (eval_tmp FA 37).symm.trans ev37
                    replace ev37 := Lib.hid ev37
                    have ev35 : FA.eval (.tmp 35) = _ := hD 2 35 (by kernel_rfl)
                    have e35 := (eval_tmp FA 35).symm.trans ev35
                    replace ev35 := Lib.hid ev35
                    first | have ge35 := slot_of e35 | have ge35 := slot_un e35
                    clear hO hD
                    first | (go_simp; exact hK.out _ _ (Ex.refl _) rfl) | (rcases ge35 with ge35 | ge35 <;> (go_simp; exact hK.out _ _ (Ex.refl _) rfl))
                  apply Steps.one (MP.eq _) 7 rfl
                  · intro o ho FA x hO hD K hK
                    obtain rfl := Option.some.inj ho.symm
                    clear ho
                    have ev36 : FA.eval (.tmp 36) = _ := hD 3 36 (by kernel_rfl)
                    have e36 := (eval_tmp FA 36).symm.trans ev36
                    replace ev36 := Lib.hid ev36
                    have ev38 : FA.eval (.tmp 38) = _ := hD 5 38 (by kernel_rfl)
                    have e38 := (eval_tmp FA 38).symm.trans ev38
                    replace ev38 := Lib.hid ev38
                    have ev35 : FA.eval (.tmp 35) = _ := hD 2 35 (by kernel_rfl)
                    have e35 := (eval_tmp FA 35).symm.trans ev35
                    replace ev35 := Lib.hid ev35
                    first | have ge35 := slot_of e35 | have ge35 := slot_un e35
                    clear hO hD
                    first | (go_simp; exact hK.out _ _ (Ex.refl _) rfl) | (rcases ge35 with ge35 | ge35 <;> (go_simp; exact hK.out _ _ (Ex.refl _) rfl))
                  apply Steps.one (MP.eq _) 8 rfl
                  · intro o ho FA x hO hD K hK
                    obtain rfl := Option.some.inj ho.symm
                    clear ho
                    have ev39 : FA.eval (.tmp 39) = _ := hD 6 39 (by kernel_rfl)
                    have e39 := (eval_tmp FA 39).symm.trans ev39
                    replace ev39 := Lib.hid ev39
                    have ev35 : FA.eval (.tmp 35) = _ := hD 2 35 (by kernel_rfl)
                    have e35 := (eval_tmp FA 35).symm.trans ev35
                    replace ev35 := Lib.hid ev35
                    first | have ge35 := slot_of e35 | have ge35 := slot_un e35
                    clear hO hD
                    first | (refine wanted_ifG ?_ ?_; (· go_simp); have q9 := (HC.out (plus wr x.bs x.d) (below_plus _ _ _)).1; go_simp; exact hK.out _ _ (Ex.refl _) rfl) | (go_simp; exact hK.out _ _ (Ex.refl _) rfl) | (rcases ge35 with ge35 | ge35 <;> (go_simp; exact hK.out _ _ (Ex.refl _) rfl))
                  apply Steps.one (MP.eq _) 9 rfl
                  · intro o ho FA x hO hD K hK
                    obtain rfl := Option.some.inj ho.symm
                    clear ho
                    have e10 := hO 10 (by kernel_rfl)
                    simp only [eval_tmp, List.getElem?_toArray, List.getElem?_cons_succ, List.getElem?_cons_zero, Option.getD_some] at e10
                    have ev10 := Lib.hid ((eval_tmp FA 10).trans e10)
                    have ev35 : FA.eval (.tmp 35) = _ := hD 2 35 (by kernel_rfl)
                    have e35 := (eval_tmp FA 35).symm.trans ev35
                    replace ev35 := Lib.hid ev35
                    first | have ge35 := slot_of e35 | have ge35 := slot_un e35
                    clear hO hD
                    first | (go_simp; exact hK.out _ _ (Ex.refl _) rfl) | (rcases ge35 with ge35 | ge35 <;> (go_simp; exact hK.out _ _ (Ex.refl _) rfl))
                  apply Steps.one (MP.eq _) 10 rfl
                  · intro o ho FA x hO hD K hK
                    obtain rfl := Option.some.inj ho.symm
                    clear ho
                    have ev40 : FA.eval (.tmp 40) = _ := hD 7 40 (by kernel_rfl)
                    have e40 := (eval_tmp FA 40).symm.trans ev40
                    replace ev40 := Lib.hid ev40
                    have ev41 : FA.eval (.tmp 41) = _ := hD 8 41 (by kernel_rfl)
                    have e41 := (eval_tmp FA 41).symm.trans ev41
                    replace ev41 := Lib.hid ev41
                    have ev35 : FA.eval (.tmp 35) = _ := hD 2 35 (by kernel_rfl)
                    have e35 := (eval_tmp FA 35).symm.trans ev35
                    replace ev35 := Lib.hid ev35
                    first | have ge35 := slot_of e35 | have ge35 := slot_un e35
                    clear hO hD
                    first | (go_simp; exact hK.out _ _ (Ex.refl _) rfl) | (rcases ge35 with ge35 | ge35 <;> (go_simp; exact hK.out _ _ (Ex.refl _) rfl))
                  apply Steps.one (MP.eq _) 11 rfl
                  · intro o ho FA x hO hD K hK
                    obtain rfl := Option.some.inj ho.symm
                    clear ho
                    have ev42 : FA.eval (.tmp 42) = _ := hD 9 42 (by kernel_rfl)
                    have e42 := (eval_tmp FA 42).symm.trans ev42
                    replace ev42 := Lib.hid ev42
                    have ev35 : FA.eval (.tmp 35) = _ := hD 2 35 (by kernel_rfl)
                    have e35 := (eval_tmp FA 35).symm.trans ev35
                    replace ev35 := Lib.hid ev35
                    first | have ge35 := slot_of e35 | have ge35 := slot_un e35
                    clear hO hD
                    first | (go_simp; exact hK.out _ _ (Ex.refl _) rfl) | (rcases ge35 with ge35 | ge35 <;> (go_simp; exact hK.out _ _ (Ex.refl _) rfl))
                  apply Steps.one (MP.eq _) 12 rfl
                  · intro o ho FA x hO hD K hK
                    obtain rfl := Option.some.inj ho.symm
                    clear ho
                    have e8 := hO 8 (by kernel_rfl)
                    simp only [eval_tmp, List.getElem?_toArray, List.getElem?_cons_succ, List.getElem?_cons_zero, Option.getD_some] at e8
                    have ev8 := Lib.hid ((eval_tmp FA 8).trans e8)
                    have ev43 : FA.eval (.tmp 43) = _ := hD 10 43 (by kernel_rfl)
                    have e43 := (eval_tmp FA 43).symm.trans ev43
                    replace ev43 := Lib.hid ev43
                    first | have ge43 := slot_of e43 | have ge43 := slot_un e43
                    clear hO hD
                    first | (go_simp; exact hK.out _ _ (Ex.refl _) rfl) | (rcases ge43 with ge43 | ge43 <;> (go_simp; exact hK.out _ _ (Ex.refl _) rfl))
                  apply Steps.one (MP.eq _) 13 rfl
                  · intro o ho FA x hO hD K hK
                    obtain rfl := Option.some.inj ho.symm
                    clear ho
                    have e11 := hO 11 (by kernel_rfl)
                    simp only [eval_tmp, List.getElem?_toArray, List.getElem?_cons_succ, List.getElem?_cons_zero, Option.getD_some] at e11
                    have ev11 := Lib.hid ((eval_tmp FA 11).trans e11)
                    have ev43 : FA.eval (.tmp 43) = _ := hD 10 43 (by kernel_rfl)
                    have e43 := (eval_tmp FA 43).symm.trans ev43
                    replace ev43 := Lib.hid ev43
                    first | have ge43 := slot_of e43 | have ge43 := slot_un e43
                    clear hO hD
                    first | (go_simp; exact hK.out _ _ (Ex.refl _) rfl) | (rcases ge43 with ge43 | ge43 <;> (go_simp; exact hK.out _ _ (Ex.refl _) rfl))
                  apply Steps.one (MP.eq _) 14 rfl
                  · intro o ho FA x hO hD K hK
                    obtain rfl := Option.some.inj ho.symm
                    clear ho
                    have ev45 : FA.eval (.tmp 45) = _ := hD 12 45 (by kernel_rfl)
                    have e45 := (eval_tmp FA 45).symm.trans ev45
                    replace ev45 := Lib.hid ev45
                    have ev43 : FA.eval (.tmp 43) = _ := hD 10 43 (by kernel_rfl)
                    have e43 := (eval_tmp FA 43).symm.trans ev43
                    replace ev43 := Lib.hid ev43
                    first | have ge43 := slot_of e43 | have ge43 := slot_un e43
                    clear hO hD
                    first | (go_simp; exact hK.out _ _ (Ex.refl _) rfl) | (rcases ge43 with ge43 | ge43 <;> (go_simp; exact hK.out _ _ (Ex.refl _) rfl))
                  apply Steps.one (MP.eq _) 15 rfl
                  · intro o ho FA x hO hD K hK
                    obtain rfl := Option.some.inj ho.symm
                    clear ho
                    have ev44 : FA.eval (.tmp 44) = _ := hD 11 44 (by kernel_rfl)
                    have e44 := (eval_tmp FA 44).symm.trans ev44
                    replace ev44 := Lib.hid ev44
                    have ev46 : FA.eval (.tmp 46) = _ := hD 13 46 (by kernel_rfl)
                    have e46 := (eval_tmp FA 46).symm.trans ev46
                    replace ev46 := Lib.hid ev46
                    have ev43 : FA.eval (.tmp 43) = _ := hD 10 43 (by kernel_rfl)
                    have e43 := (eval_tmp FA 43).symm.trans ev43
                    replace ev43 := Lib.hid ev43
                    first | have ge43 := slot_of e43 | have ge43 := slot_un e43
                    clear hO hD
                    first | (go_simp; exact hK.out _ _ (Ex.refl _) rfl) | (rcases ge43 with ge43 | ge43 <;> (go_simp; exact hK.out _ _ (Ex.refl _) rfl))
                  apply Steps.one (MP.eq _) 16 rfl
                  · intro o ho FA x hO hD K hK
                    obtain rfl := Option.some.inj ho.symm
                    clear ho
                    have ev47 : FA.eval (.tmp 47) = _ := hD 14 47 (by kernel_rfl)
                    have e47 := (eval_tmp FA 47).symm.trans ev47
                    replace ev47 := Lib.hid ev47
                    have ev43 : FA.eval (.tmp 43) = _ := hD 10 43 (by kernel_rfl)
                    have e43 := (eval_tmp FA 43).symm.trans ev43
                    replace ev43 := Lib.hid ev43
                    first | have ge43 := slot_of e43 | have ge43 := slot_un e43
                    clear hO hD
                    first | (refine wanted_ifG ?_ ?_; (· go_simp); have q9 := (HC.out (plus wr x.bs x.d) (below_plus _ _ _)).1; go_simp; exact hK.out _ _ (Ex.refl _) rfl) | (go_simp; exact hK.out _ _ (Ex.refl _) rfl) | (rcases ge43 with ge43 | ge43 <;> (go_simp; exact hK.out _ _ (Ex.refl _) rfl))
                  apply Steps.one (MP.eq _) 17 rfl
                  · intro o ho FA x hO hD K hK
                    obtain rfl := Option.some.inj ho.symm
                    clear ho
                    have e10 := hO 10 (by kernel_rfl)
                    simp only [eval_tmp, List.getElem?_toArray, List.getElem?_cons_succ, List.getElem?_cons_zero, Option.getD_some] at e10
                    have ev10 := Lib.hid ((eval_tmp FA 10).trans e10)
                    have ev43 : FA.eval (.tmp 43) = _ := hD 10 43 (by kernel_rfl)
                    have e43 := (eval_tmp FA 43).symm.trans ev43
                    replace ev43 := Lib.hid ev43
                    first | have ge43 := slot_of e43 | have ge43 := slot_un e43
                    clear hO hD
                    first | (go_simp; exact hK.out _ _ (Ex.refl _) rfl) | (rcases ge43 with ge43 | ge43 <;> (go_simp; exact hK.out _ _ (Ex.refl _) rfl))
                  apply Steps.one (MP.eq _) 18 rfl
                  · intro o ho FA x hO hD K hK
                    obtain rfl := Option.some.inj ho.symm
                    clear ho
                    have ev48 : FA.eval (.tmp 48) = _ := hD 15 48 (by kernel_rfl)
                    have e48 := (eval_tmp FA 48).symm.trans ev48
                    replace ev48 := Lib.hid ev48
                    have ev49 : FA.eval (.tmp 49) = _ := hD 16 49 (by kernel_rfl)
                    have e49 := (eval_tmp FA 49).symm.trans ev49
                    replace ev49 := Lib.hid ev49
                    have ev43 : FA.eval (.tmp 43) = _ := hD 10 43 (by kernel_rfl)
                    have e43 := (eval_tmp FA 43).symm.trans ev43
                    replace ev43 := Lib.hid ev43
                    first | have ge43 := slot_of e43 | have ge43 := slot_un e43
                    clear hO hD
                    first | (go_simp; exact hK.out _ _ (Ex.refl _) rfl) | (rcases ge43 with ge43 | ge43 <;> (go_simp; exact hK.out _ _ (Ex.refl _) rfl))
                  apply Steps.one (MP.eq _) 19 rfl
                  · intro o ho FA x hO hD K hK
                    obtain rfl := Option.some.inj ho.symm
                    clear ho
                    have ev50 : FA.eval (.tmp 50) = _ := hD 17 50 (by kernel_rfl)
                    have e50 := (eval_tmp FA 50).symm.trans ev50
                    replace ev50 := Lib.hid ev50
                    have ev43 : FA.eval (.tmp 43) = _ := hD 10 43 (by kernel_rfl)
                    have e43 := (eval_tmp FA 43).symm.trans ev43
                    replace ev43 := Lib.hid ev43
                    first | have ge43 := slot_of e43 | have ge43 := slot_un e43
                    clear hO hD
                    first | (go_simp; exact hK.out _ _ (Ex.refl _) rfl) | (rcases ge43 with ge43 | ge43 <;> (go_simp; exact hK.out _ _ (Ex.refl _) rfl))
                  apply Steps.one (MP.eq _) 20 rfl
                  · intro o ho FA x hO hD K hK
                    obtain rfl := Option.some.inj ho.symm
                    clear ho
                    have e7 := hO 7 (by kernel_rfl)
                    simp only [eval_tmp, List.getElem?_toArray, List.getElem?_cons_succ, List.getElem?_cons_zero, Option.getD_some] at e7
                    have ev7 := Lib.hid ((eval_tmp FA 7).trans e7)
                    have ev51 : FA.eval (.tmp 51) = _ := hD 18 51 (by kernel_rfl)
                    have e51 := (eval_tmp FA 51).symm.trans ev51
                    replace ev51 := Lib.hid ev51
                    first | have ge51 := slot_of e51 | have ge51 := slot_un e51
                    clear hO hD
                    first | (go_simp; exact hK.out _ _ (Ex.refl _) rfl) | (rcases ge51 with ge51 | ge51 <;> (go_simp; exact hK.out _ _ (Ex.refl _) rfl))
                  apply Steps.one (MP.eq _) 21 rfl
                  · intro o ho FA x hO hD K hK
                    obtain rfl := Option.some.inj ho.symm
                    clear ho
                    have e11 := hO 11 (by kernel_rfl)
                    simp only [eval_tmp, List.getElem?_toArray, List.getElem?_cons_succ, List.getElem?_cons_zero, Option.getD_some] at e11
                    have ev11 := Lib.hid ((eval_tmp FA 11).trans e11)
                    have ev51 : FA.eval (.tmp 51) = _ := hD 18 51 (by kernel_rfl)
                    have e51 := (eval_tmp FA 51).symm.trans ev51
                    replace ev51 := Lib.hid ev51
                    first | have ge51 := slot_of e51 | have ge51 := slot_un e51
                    clear hO hD
                    first | (go_simp; exact hK.out _ _ (Ex.refl _) rfl) | (rcases ge51 with ge51 | ge51 <;> (go_simp; exact hK.out _ _ (Ex.refl _) rfl))
                  apply Steps.one (MP.eq _) 22 rfl
                  · intro o ho FA x hO hD K hK
                    obtain rfl := Option.some.inj ho.symm
                    clear ho
                    have ev53 : FA.eval (.tmp 53) = _ := hD 20 53 (by kernel_rfl)
                    have e53 := (eval_tmp FA 53).symm.trans ev53
                    replace ev53 := Lib.hid ev53
                    have ev51 : FA.eval (.tmp 51) = _ := hD 18 51 (by kernel_rfl)
                    have e51 := (eval_tmp FA 51).symm.trans ev51
                    replace ev51 := Lib.hid ev51
                    first | have ge51 := slot_of e51 | have ge51 := slot_un e51
                    clear hO hD
                    first | (go_simp; exact hK.out _ _ (Ex.refl _) rfl) | (rcases ge51 with ge51 | ge51 <;> (go_simp; exact hK.out _ _ (Ex.refl _) rfl))
                  apply Steps.one (MP.eq _) 23 rfl
                  · intro o ho FA x hO hD K hK
                    obtain rfl := Option.some.inj ho.symm
                    clear ho
                    have ev52 : FA.eval (.tmp 52) = _ := hD 19 52 (by kernel_rfl)
                    have e52 := (eval_tmp FA 52).symm.trans ev52
                    replace ev52 := Lib.hid ev52
                    have ev54 : FA.eval (.tmp 54) = _ := hD 21 54 (by kernel_rfl)
                    have e54 := (eval_tmp FA 54).symm.trans ev54
                    replace ev54 := Lib.hid ev54
                    have ev51 : FA.eval (.tmp 51) = _ := hD 18 51 (by kernel_rfl)
                    have e51 := (eval_tmp FA 51).symm.trans ev51
                    replace ev51 := Lib.hid ev51
                    first | have ge51 := slot_of e51 | have ge51 := slot_un e51
                    clear hO hD
                    first | (go_simp; exact hK.out _ _ (Ex.refl _) rfl) | (rcases ge51 with ge51 | ge51 <;> (go_simp; exact hK.out _ _ (Ex.refl _) rfl))
                  apply Steps.one (MP.eq _) 24 rfl
                  · intro o ho FA x hO hD K hK
                    obtain rfl := Option.some.inj ho.symm
                    clear ho
                    have ev55 : FA.eval (.tmp 55) = _ := hD 22 55 (by kernel_rfl)
                    have e55 := (eval_tmp FA 55).symm.trans ev55
                    replace ev55 := Lib.hid ev55
                    have ev51 : FA.eval (.tmp 51) = _ := hD 18 51 (by kernel_rfl)
                    have e51 := (eval_tmp FA 51).symm.trans ev51
                    replace ev51 := Lib.hid ev51
                    first | have ge51 := slot_of e51 | have ge51 := slot_un e51
                    clear hO hD
                    first | (refine wanted_ifG ?_ ?_; (· go_simp); have q9 := (HC.out (plus wr x.bs x.d) (below_plus _ _ _)).2.1; go_simp; exact hK.out _ _ (Ex.refl _) rfl) | (go_simp; exact hK.out _ _ (Ex.refl _) rfl) | (rcases ge51 with ge51 | ge51 <;> (go_simp; exact hK.out _ _ (Ex.refl _) rfl))
                  apply Steps.one (MP.eq _) 25 rfl
                  · intro o ho FA x hO hD K hK
                    obtain rfl := Option.some.inj ho.symm
                    clear ho
                    have e1 := hO 1 (by kernel_rfl)
                    simp only [eval_tmp, List.getElem?_toArray, List.getElem?_cons_succ, List.getElem?_cons_zero, Option.getD_some] at e1
                    have ev1 := Lib.hid ((eval_tmp FA 1).trans e1)
                    have ev51 : FA.eval (.tmp 51) = _ := hD 18 51 (by kernel_rfl)
                    have e51 := (eval_tmp FA 51).symm.trans ev51
                    replace ev51 := Lib.hid ev51
                    first | have ge51 := slot_of e51 | have ge51 := slot_un e51
                    clear hO hD
                    first | (go_simp; exact hK.out _ _ (Ex.refl _) rfl) | (rcases ge51 with ge51 | ge51 <;> (go_simp; exact hK.out _ _ (Ex.refl _) rfl))
                  apply Steps.one (MP.eq _) 26 rfl
                  · intro o ho FA x hO hD K hK
                    obtain rfl := Option.some.inj ho.symm
                    clear ho
                    have e9 := hO 9 (by kernel_rfl)
                    simp only [eval_tmp, List.getElem?_toArray, List.getElem?_cons_succ, List.getElem?_cons_zero, Option.getD_some] at e9
                    have ev9 := Lib.hid ((eval_tmp FA 9).trans e9)
                    have ev51 : FA.eval (.tmp 51) = _ := hD 18 51 (by kernel_rfl)
                    have e51 := (eval_tmp FA 51).symm.trans ev51
                    replace ev51 := Lib.hid ev51
                    first | have ge51 := slot_of e51 | have ge51 := slot_un e51
                    clear hO hD
                    first | (go_simp; exact hK.out _ _ (Ex.refl _) rfl) | (rcases ge51 with ge51 | ge51 <;> (go_simp; exact hK.out _ _ (Ex.refl _) rfl))
                  apply Steps.one (MP.eq _) 27 rfl
                  · intro o ho FA x hO hD K hK
                    obtain rfl := Option.some.inj ho.symm
                    clear ho
                    have ev57 : FA.eval (.tmp 57) = _ := hD 24 57 (by kernel_rfl)
                    have e57 := (eval_tmp FA 57).symm.trans ev57
                    replace ev57 := Lib.hid ev57
                    have ev58 : FA.eval (.tmp 58) = _ := hD 25 58 (by kernel_rfl)
                    have e58 := (eval_tmp FA 58).symm.trans ev58
                    replace ev58 := Lib.hid ev58
                    have ev51 : FA.eval (.tmp 51) = _ := hD 18 51 (by kernel_rfl)
                    have e51 := (eval_tmp FA 51).symm.trans ev51
                    replace ev51 := Lib.hid ev51
                    first | have ge51 := slot_of e51 | have ge51 := slot_un e51
                    clear hO hD
                    first | (go_simp; exact hK.out _ _ (Ex.refl _) rfl) | (rcases ge51 with ge51 | ge51 <;> (go_simp; exact hK.out _ _ (Ex.refl _) rfl))
                  apply Steps.one (MP.eq _) 28 rfl
                  · intro o ho FA x hO hD K hK
                    obtain rfl := Option.some.inj ho.symm
                    clear ho
                    have ev59 : FA.eval (.tmp 59) = _ := hD 26 59 (by kernel_rfl)
                    have e59 := (eval_tmp FA 59).symm.trans ev59
                    replace ev59 := Lib.hid ev59
                    have ev51 : FA.eval (.tmp 51) = _ := hD 18 51 (by kernel_rfl)
                    have e51 := (eval_tmp FA 51).symm.trans ev51
                    replace ev51 := Lib.hid ev51
                    first | have ge51 := slot_of e51 | have ge51 := slot_un e51
                    clear hO hD
                    first | (go_simp; exact hK.out _ _ (Ex.refl _) rfl) | (rcases ge51 with ge51 | ge51 <;> (go_simp; exact hK.out _ _ (Ex.refl _) rfl))
                  apply Steps.one (MP.eq _) 29 rfl
                  · intro o ho FA x hO hD K hK
                    obtain rfl := Option.some.inj ho.symm
                    clear ho
                    have ev60 : FA.eval (.tmp 60) = _ := hD 27 60 (by kernel_rfl)
                    have e60 := (eval_tmp FA 60).symm.trans ev60
                    replace ev60 := Lib.hid ev60
                    have ev51 : FA.eval (.tmp 51) = _ := hD 18 51 (by kernel_rfl)
                    have e51 := (eval_tmp FA 51).symm.trans ev51
                    replace ev51 := Lib.hid ev51
                    first | have ge51 := slot_of e51 | have ge51 := slot_un e51
                    clear hO hD
                    first | (refine wanted_ifG ?_ ?_; (· go_simp); have q9 := (HC.out (plus wr x.bs x.d) (below_plus _ _ _)).2.2; go_simp; exact hK.out _ _ (Ex.refl _) rfl) | (go_simp; exact hK.out _ _ (Ex.refl _) rfl) | (rcases ge51 with ge51 | ge51 <;> (go_simp; exact hK.out _ _ (Ex.refl _) rfl))
                  apply Steps.one (MP.eq _) 30 rfl
                  · intro o ho FA x hO hD K hK
                    obtain rfl := Option.some.inj ho.symm
                    clear ho
                    have ev56 : FA.eval (.tmp 56) = _ := hD 23 56 (by kernel_rfl)
                    have e56 := (eval_tmp FA 56).symm.trans ev56
                    replace ev56 := Lib.hid ev56
                    have ev61 : FA.eval (.tmp 61) = _ := hD 28 61 (by kernel_rfl)
                    have e61 := (eval_tmp FA 61).symm.trans ev61
                    replace ev61 := Lib.hid ev61
                    have ev51 : FA.eval (.tmp 51) = _ := hD 18 51 (by kernel_rfl)
                    have e51 := (eval_tmp FA 51).symm.trans ev51
                    replace ev51 := Lib.hid ev51
                    first | have ge51 := slot_of e51 | have ge51 := slot_un e51
                    clear hO hD
                    first | (go_simp; exact hK.out _ _ (Ex.refl _) rfl) | (rcases ge51 with ge51 | ge51 <;> (go_simp; exact hK.out _ _ (Ex.refl _) rfl))
                  apply Steps.one (MP.eq _) 31 rfl
                  · intro o ho FA x hO hD K hK
                    obtain rfl := Option.some.inj ho.symm
                    clear ho
                    have ev51 : FA.eval (.tmp 51) = _ := hD 18 51 (by kernel_rfl)
                    have e51 := (eval_tmp FA 51).symm.trans ev51
                    replace ev51 := Lib.hid ev51
                    have ev62 : FA.eval (.tmp 62) = _ := hD 29 62 (by kernel_rfl)
                    have e62 := (eval_tmp FA 62).symm.trans ev62
                    replace ev62 := Lib.hid ev62
                    have ev43 : FA.eval (.tmp 43) = _ := hD 10 43 (by kernel_rfl)
                    have e43 := (eval_tmp FA 43).symm.trans ev43
                    replace ev43 := Lib.hid ev43
                    first | have ge43 := slot_of e43 | have ge43 := slot_un e43
                    clear hO hD
                    first | (go_simp; exact hK.out _ _ (Ex.refl _) rfl) | (rcases ge43 with ge43 | ge43 <;> (go_simp; exact hK.out _ _ (Ex.refl _) rfl))
                  apply Steps.one (MP.eq _) 32 rfl
                  · intro o ho FA x hO hD K hK
                    obtain rfl := Option.some.inj ho.symm
                    clear ho
                    have ev43 : FA.eval (.tmp 43) = _ := hD 10 43 (by kernel_rfl)
                    have e43 := (eval_tmp FA 43).symm.trans ev43
                    replace ev43 := Lib.hid ev43
                    have ev63 : FA.eval (.tmp 63) = _ := hD 30 63 (by kernel_rfl)
                    have e63 := (eval_tmp FA 63).symm.trans ev63
                    replace ev63 := Lib.hid ev63
                    have ev35 : FA.eval (.tmp 35) = _ := hD 2 35 (by kernel_rfl)
                    have e35 := (eval_tmp FA 35).symm.trans ev35
                    replace ev35 := Lib.hid ev35
                    first | have ge35 := slot_of e35 | have ge35 := slot_un e35
                    clear hO hD
                    first | (go_simp; exact hK.out _ _ (Ex.refl _) rfl) | (rcases ge35 with ge35 | ge35 <;> (go_simp; exact hK.out _ _ (Ex.refl _) rfl))
                  apply Steps.one (MP.eq _) 33 rfl
                  · intro o ho FA x hO hD K hK
                    obtain rfl := Option.some.inj ho.symm
                    clear ho
                    have ev35 : FA.eval (.tmp 35) = _ := hD 2 35 (by kernel_rfl)
                    have e35 := (eval_tmp FA 35).symm.trans ev35
                    replace ev35 := Lib.hid ev35
                    have ev64 : FA.eval (.tmp 64) = _ := hD 31 64 (by kernel_rfl)
                    have e64 := (eval_tmp FA 64).symm.trans ev64
                    replace ev64 := Lib.hid ev64
                    clear hO hD
                    go_simp
                    exact hK.out _ _ (Ex.refl _) rfl
                  refine Steps.fin_ (fun vs x hp => ?_)
                  have p0 : vs 0 = _ := hp 0 (by omega)
                  have p1 : vs 1 = _ := hp 1 (by omega)
                  have p2 : vs 2 = _ := hp 2 (by omega)
                  have p3 : vs 3 = _ := hp 3 (by omega)
                  have p4 : vs 4 = _ := hp 4 (by omega)
                  have p5 : vs 5 = _ := hp 5 (by omega)
                  have p6 : vs 6 = _ := hp 6 (by omega)
                  have p7 : vs 7 = _ := hp 7 (by omega)
                  have p8 : vs 8 = _ := hp 8 (by omega)
                  have p9 : vs 9 = _ := hp 9 (by omega)
                  have p10 : vs 10 = _ := hp 10 (by omega)
                  have p11 : vs 11 = _ := hp 11 (by omega)
                  have p12 : vs 12 = _ := hp 12 (by omega)
                  have p13 : vs 13 = _ := hp 13 (by omega)
                  have p14 : vs 14 = _ := hp 14 (by omega)
                  have p15 : vs 15 = _ := hp 15 (by omega)
                  have p16 : vs 16 = _ := hp 16 (by omega)
                  have p17 : vs 17 = _ := hp 17 (by omega)
                  have p18 : vs 18 = _ := hp 18 (by omega)
                  have p19 : vs 19 = _ := hp 19 (by omega)
                  have p20 : vs 20 = _ := hp 20 (by omega)
                  have p21 : vs 21 = _ := hp 21 (by omega)
                  have p22 : vs 22 = _ := hp 22 (by omega)
                  have p23 : vs 23 = _ := hp 23 (by omega)
                  have p24 : vs 24 = _ := hp 24 (by omega)
                  have p25 : vs 25 = _ := hp 25 (by omega)
                  have p26 : vs 26 = _ := hp 26 (by omega)
                  have p27 : vs 27 = _ := hp 27 (by omega)
                  have p28 : vs 28 = _ := hp 28 (by omega)
                  have p29 : vs 29 = _ := hp 29 (by omega)
                  have p30 : vs 30 = _ := hp 30 (by omega)
                  have p31 : vs 31 = _ := hp 31 (by omega)
                  have p32 : vs 32 = _ := hp 32 (by omega)
                  clear hp
                  simp only [List.take_succ_cons, List.take_zero, List.drop_succ_cons, List.drop_zero, putAll, Nat.zero_add, Nat.reduceAdd, Act.put, List.setIfInBounds_toArray, List.set_cons_zero, List.set_cons_succ, p0, p1, p2, p3, p4, p5, p6, p7, p8, p9, p10, p11, p12, p13, p14, p15, p16, p17, p18, p19, p20, p21, p22, p23, p24, p25, p26, p27, p28, p29, p30, p31, p32]
                  clear p0 p1 p2 p3 p4 p5 p6 p7 p8 p9 p10 p11 p12 p13 p14 p15 p16 p17 p18 p19 p20 p21 p22 p23 p24 p25 p26 p27 p28 p29 p30 p31 p32
                  clear vs
                  have hE8 := belowP hE9b x.bs x.d
                  clear HC
                  go_wp2
                  exact ⟨⟨k, rfl, by omega, HQ9.out, hE8⟩, by have := HK1.out; simp [intOf]; omega⟩
                · rw [if_neg (fun h => by have h9 := hah.1 h; unfold ltS at h9; simp only [] at h9; omega)] at hqx
                  have HRES := Lib.hid hqx
                  clear hqx hah hB9
                  go_upto_region 9 with (fail)
                  go_wp2
                  refine wp_relS 33 97 rfl (by kernel_rfl) (by kernel_rfl) ?_
                  apply Steps.one (MP.eq _) 1 rfl
                  · intro o ho FA x hO hD K hK
                    obtain rfl := Option.some.inj ho.symm
                    clear ho
                    have e11 := hO 11 (by kernel_rfl)
                    simp only [eval_tmp, List.getElem?_toArray, List.getElem?_cons_succ, List.getElem?_cons_zero, Option.getD_some] at e11
                    have ev11 := Lib.hid ((eval_tmp FA 11).trans e11)
                    clear hO hD
                    go_simp
                    exact hK.out _ _ (Ex.refl _) rfl
                  apply Steps.one (MP.eq _) 2 rfl
                  · intro o ho FA x hO hD K hK
                    obtain rfl := Option.some.inj ho.symm
                    clear ho
                    have ev33 : FA.eval (.tmp 33) = _ := hD 0 33 (by kernel_rfl)
                    have e33 := (eval_tmp FA 33).symm.trans ev33
                    replace ev33 := Lib.hid ev33
                    clear hO hD
                    go_simp
                    exact hK.out _ _ (Ex.refl _) rfl
                  apply Steps.one (MP.eq _) 3 rfl
                  · intro o ho FA x hO hD K hK
                    obtain rfl := Option.some.inj ho.symm
                    clear ho
                    have ev34 : FA.eval (.tmp 34) = _ := hD 1 34 (by kernel_rfl)
                    have e34 := (eval_tmp FA 34).symm.trans ev34
                    replace ev34 := Lib.hid ev34
                    clear hO hD
                    go_simp
                    exact hK.out _ _ (Ex.refl _) rfl
                  apply Steps.one (MP.eq _) 4 rfl
                  · intro o ho FA x hO hD K hK
                    obtain rfl := Option.some.inj ho.symm
                    clear ho
                    have e8 := hO 8 (by kernel_rfl)
                    simp only [eval_tmp, List.getElem?_toArray, List.getElem?_cons_succ, List.getElem?_cons_zero, Option.getD_some] at e8
                    have ev8 := Lib.hid ((eval_tmp FA 8).trans e8)
                    have ev35 : FA.eval (.tmp 35) = _ := hD 2 35 (by kernel_rfl)
                    have e35 := (eval_tmp FA 35).symm.trans ev35
                    replace ev35 := Lib.hid ev35
                    first | have ge35 := slot_of e35 | have ge35 := slot_un e35
                    clear hO hD
                    first | (go_simp; exact hK.out _ _ (Ex.refl _) rfl) | (rcases ge35 with ge35 | ge35 <;> (go_simp; exact hK.out _ _ (Ex.refl _) rfl))
                  apply Steps.one (MP.eq _) 5 rfl
                  · intro o ho FA x hO hD K hK
                    obtain rfl := Option.some.inj ho.symm
                    clear ho
                    have e11 := hO 11 (by kernel_rfl)
                    simp only [eval_tmp, List.getElem?_toArray, List.getElem?_cons_succ, List.getElem?_cons_zero, Option.getD_some] at e11
                    have ev11 := Lib.hid ((eval_tmp FA 11).trans e11)
                    have ev35 : FA.eval (.tmp 35) = _ := hD 2 35 (by kernel_rfl)
                    have e35 := (eval_tmp FA 35).symm.trans ev35
                    replace ev35 := Lib.hid ev35
                    first | have ge35 := slot_of e35 | have ge35 := slot_un e35
                    clear hO hD
                    first | (go_simp; exact hK.out _ _ (Ex.refl _) rfl) | (rcases ge35 with ge35 | ge35 <;> (go_simp; exact hK.out _ _ (Ex.refl _) rfl))
                  apply Steps.one (MP.eq _) 6 rfl
                  · intro o ho FA x hO hD K hK
                    obtain rfl := Option.some.inj ho.symm
                    clear ho
                    have ev37 : FA.eval (.tmp 37) = _ := hD 4 37 (by kernel_rfl)
                    have e37 := (eval_tmp FA 37).symm.trans ev37
                    replace ev37 := Lib.hid ev37
                    have ev35 : FA.eval (.tmp 35) = _ := hD 2 35 (by kernel_rfl)
                    have e35 := (eval_tmp FA 35).symm.trans ev35
                    replace ev35 := Lib.hid ev35
                    first | have ge35 := slot_of e35 | have ge35 := slot_un e35
                    clear hO hD
                    first | (go_simp; exact hK.out _ _ (Ex.refl _) rfl) | (rcases ge35 with ge35 | ge35 <;> (go_simp; exact hK.out _ _ (Ex.refl _) rfl))
                  apply Steps.one (MP.eq _) 7 rfl
                  · intro o ho FA x hO hD K hK
                    obtain rfl := Option.some.inj ho.symm
                    clear ho
                    have ev36 : FA.eval (.tmp 36) = _ := hD 3 36 (by kernel_rfl)
                    have e36 := (eval_tmp FA 36).symm.trans ev36
                    replace ev36 := Lib.hid ev36
                    have ev38 : FA.eval (.tmp 38) = _ := hD 5 38 (by kernel_rfl)
                    have e38 := (eval_tmp FA 38).symm.trans ev38
                    replace ev38 := Lib.hid ev38
                    have ev35 : FA.eval (.tmp 35) = _ := hD 2 35 (by kernel_rfl)
                    have e35 := (eval_tmp FA 35).symm.trans ev35
                    replace ev35 := Lib.hid ev35
                    first | have ge35 := slot_of e35 | have ge35 := slot_un e35
                    clear hO hD
                    first | (go_simp; exact hK.out _ _ (Ex.refl _) rfl) | (rcases ge35 with ge35 | ge35 <;> (go_simp; exact hK.out _ _ (Ex.refl _) rfl))
                  apply Steps.one (MP.eq _) 8 rfl
                  · intro o ho FA x hO hD K hK
                    obtain rfl := Option.some.inj ho.symm
                    clear ho
                    have ev39 : FA.eval (.tmp 39) = _ := hD 6 39 (by kernel_rfl)
                    have e39 := (eval_tmp FA 39).symm.trans ev39
                    replace ev39 := Lib.hid ev39
                    have ev35 : FA.eval (.tmp 35) = _ := hD 2 35 (by kernel_rfl)
                    have e35 := (eval_tmp FA 35).symm.trans ev35
                    replace ev35 := Lib.hid ev35
                    first | have ge35 := slot_of e35 | have ge35 := slot_un e35
                    clear hO hD
                    first | (refine wanted_ifG ?_ ?_; (· go_simp); have q9 := (HC.out (plus wr x.bs x.d) (below_plus _ _ _)).1; go_simp; exact hK.out _ _ (Ex.refl _) rfl) | (go_simp; exact hK.out _ _ (Ex.refl _) rfl) | (rcases ge35 with ge35 | ge35 <;> (go_simp; exact hK.out _ _ (Ex.refl _) rfl))
                  apply Steps.one (MP.eq _) 9 rfl
                  · intro o ho FA x hO hD K hK
                    obtain rfl := Option.some.inj ho.symm
                    clear ho
                    have e10 := hO 10 (by kernel_rfl)
                    simp only [eval_tmp, List.getElem?_toArray, List.getElem?_cons_succ, List.getElem?_cons_zero, Option.getD_some] at e10
                    have ev10 := Lib.hid ((eval_tmp FA 10).trans e10)
                    have ev35 : FA.eval (.tmp 35) = _ := hD 2 35 (by kernel_rfl)
                    have e35 := (eval_tmp FA 35).symm.trans ev35
                    replace ev35 := Lib.hid ev35
                    first | have ge35 := slot_of e35 | have ge35 := slot_un e35
                    clear hO hD
                    first | (go_simp; exact hK.out _ _ (Ex.refl _) rfl) | (rcases ge35 with ge35 | ge35 <;> (go_simp; exact hK.out _ _ (Ex.refl _) rfl))
                  apply Steps.one (MP.eq _) 10 rfl
                  · intro o ho FA x hO hD K hK
                    obtain rfl := Option.some.inj ho.symm
                    clear ho
                    have ev40 : FA.eval (.tmp 40) = _ := hD 7 40 (by kernel_rfl)
                    have e40 := (eval_tmp FA 40).symm.trans ev40
                    replace ev40 := Lib.hid ev40
                    have ev41 : FA.eval (.tmp 41) = _ := hD 8 41 (by kernel_rfl)
                    have e41 := (eval_tmp FA 41).symm.trans ev41
                    replace ev41 := Lib.hid ev41
                    have ev35 : FA.eval (.tmp 35) = _ := hD 2 35 (by kernel_rfl)
                    have e35 := (eval_tmp FA 35).symm.trans ev35
                    replace ev35 := Lib.hid ev35
                    first | have ge35 := slot_of e35 | have ge35 := slot_un e35
                    clear hO hD
                    first | (go_simp; exact hK.out _ _ (Ex.refl _) rfl) | (rcases ge35 with ge35 | ge35 <;> (go_simp; exact hK.out _ _ (Ex.refl _) rfl))
                  apply Steps.one (MP.eq _) 11 rfl
                  · intro o ho FA x hO hD K hK
                    obtain rfl := Option.some.inj ho.symm
                    clear ho
                    have ev42 : FA.eval (.tmp 42) = _ := hD 9 42 (by kernel_rfl)
                    have e42 := (eval_tmp FA 42).symm.trans ev42
                    replace ev42 := Lib.hid ev42
                    have ev35 : FA.eval (.tmp 35) = _ := hD 2 35 (by kernel_rfl)
                    have e35 := (eval_tmp FA 35).symm.trans ev35
                    replace ev35 := Lib.hid ev35
                    first | have ge35 := slot_of e35 | have ge35 := slot_un e35
                    clear hO hD
                    first | (go_simp; exact hK.out _ _ (Ex.refl _) rfl) | (rcases ge35 with ge35 | ge35 <;> (go_simp; exact hK.out _ _ (Ex.refl _) rfl))
                  apply Steps.one (MP.eq _) 12 rfl
                  · intro o ho FA x hO hD K hK
                    obtain rfl := Option.some.inj ho.symm
                    clear ho
                    have e8 := hO 8 (by kernel_rfl)
                    simp only [eval_tmp, List.getElem?_toArray, List.getElem?_cons_succ, List.getElem?_cons_zero, Option.getD_some] at e8
                    have ev8 := Lib.hid ((eval_tmp FA 8).trans e8)
                    have ev43 : FA.eval (.tmp 43) = _ := hD 10 43 (by kernel_rfl)
                    have e43 := (eval_tmp FA 43).symm.trans ev43
                    replace ev43 := Lib.hid ev43
                    first | have ge43 := slot_of e43 | have ge43 := slot_un e43
                    clear hO hD
                    first | (go_simp; exact hK.out _ _ (Ex.refl _) rfl) | (rcases ge43 with ge43 | ge43 <;> (go_simp; exact hK.out _ _ (Ex.refl _) rfl))
                  apply Steps.one (MP.eq _) 13 rfl
                  · intro o ho FA x hO hD K hK
                    obtain rfl := Option.some.inj ho.symm
                    clear ho
                    have e11 := hO 11 (by kernel_rfl)
                    simp only [eval_tmp, List.getElem?_toArray, List.getElem?_cons_succ, List.getElem?_cons_zero, Option.getD_some] at e11
                    have ev11 := Lib.hid ((eval_tmp FA 11).trans e11)
                    have ev43 : FA.eval (.tmp 43) = _ := hD 10 43 (by kernel_rfl)
                    have e43 := (eval_tmp FA 43).symm.trans ev43
                    replace ev43 := Lib.hid ev43
                    first | have ge43 := slot_of e43 | have ge43 := slot_un e43
                    clear hO hD
                    first | (go_simp; exact hK.out _ _ (Ex.refl _) rfl) | (rcases ge43 with ge43 | ge43 <;> (go_simp; exact hK.out _ _ (Ex.refl _) rfl))
                  apply Steps.one (MP.eq _) 14 rfl
                  · intro o ho FA x hO hD K hK
                    obtain rfl := Option.some.inj ho.symm
                    clear ho
                    have ev45 : FA.eval (.tmp 45) = _ := hD 12 45 (by kernel_rfl)
                    have e45 := (eval_tmp FA 45).symm.trans ev45
                    replace ev45 := Lib.hid ev45
                    have ev43 : FA.eval (.tmp 43) = _ := hD 10 43 (by kernel_rfl)
                    have e43 := (eval_tmp FA 43).symm.trans ev43
                    replace ev43 := Lib.hid ev43
                    first | have ge43 := slot_of e43 | have ge43 := slot_un e43
                    clear hO hD
                    first | (go_simp; exact hK.out _ _ (Ex.refl _) rfl) | (rcases ge43 with ge43 | ge43 <;> (go_simp; exact hK.out _ _ (Ex.refl _) rfl))
                  apply Steps.one (MP.eq _) 15 rfl
                  · intro o ho FA x hO hD K hK
                    obtain rfl := Option.some.inj ho.symm
                    clear ho
                    have ev44 : FA.eval (.tmp 44) = _ := hD 11 44 (by kernel_rfl)
                    have e44 := (eval_tmp FA 44).symm.trans ev44
                    replace ev44 := Lib.hid ev44
                    have ev46 : FA.eval (.tmp 46) = _ := hD 13 46 (by kernel_rfl)
                    have e46 := (eval_tmp FA 46).symm.trans ev46
                    replace ev46 := Lib.hid ev46
                    have ev43 : FA.eval (.tmp 43) = _ := hD 10 43 (by kernel_rfl)
                    have e43 := (eval_tmp FA 43).symm.trans ev43
                    replace ev43 := Lib.hid ev43
                    first | have ge43 := slot_of e43 | have ge43 := slot_un e43
                    clear hO hD
                    first | (go_simp; exact hK.out _ _ (Ex.refl _) rfl) | (rcases ge43 with ge43 | ge43 <;> (go_simp; exact hK.out _ _ (Ex.refl _) rfl))
                  apply Steps.one (MP.eq _) 16 rfl
                  · intro o ho FA x hO hD K hK
                    obtain rfl := Option.some.inj ho.symm
                    clear ho
                    have ev47 : FA.eval (.tmp 47) = _ := hD 14 47 (by kernel_rfl)
                    have e47 := (eval_tmp FA 47).symm.trans ev47
                    replace ev47 := Lib.hid ev47
                    have ev43 : FA.eval (.tmp 43) = _ := hD 10 43 (by kernel_rfl)
                    have e43 := (eval_tmp FA 43).symm.trans ev43
                    replace ev43 := Lib.hid ev43
                    first | have ge43 := slot_of e43 | have ge43 := slot_un e43
                    clear hO hD
                    first | (refine wanted_ifG ?_ ?_; (· go_simp); have q9 := (HC.out (plus wr x.bs x.d) (below_plus _ _ _)).1; go_simp; exact hK.out _ _ (Ex.refl _) rfl) | (go_simp; exact hK.out _ _ (Ex.refl _) rfl) | (rcases ge43 with ge43 | ge43 <;> (go_simp; exact hK.out _ _ (Ex.refl _) rfl))
                  apply Steps.one (MP.eq _) 17 rfl
                  · intro o ho FA x hO hD K hK
                    obtain rfl := Option.some.inj ho.symm
                    clear ho
                    have e10 := hO 10 (by kernel_rfl)
                    simp only [eval_tmp, List.getElem?_toArray, List.getElem?_cons_succ, List.getElem?_cons_zero, Option.getD_some] at e10
                    have ev10 := Lib.hid ((eval_tmp FA 10).trans e10)
                    have ev43 : FA.eval (.tmp 43) = _ := hD 10 43 (by kernel_rfl)
                    have e43 := (eval_tmp FA 43).symm.trans ev43
                    replace ev43 := Lib.hid ev43
                    first | have ge43 := slot_of e43 | have ge43 := slot_un e43
                    clear hO hD
                    first | (go_simp; exact hK.out _ _ (Ex.refl _) rfl) | (rcases ge43 with ge43 | ge43 <;> (go_simp; exact hK.out _ _ (Ex.refl _) rfl))
                  apply Steps.one (MP.eq _) 18 rfl
                  · intro o ho FA x hO hD K hK
                    obtain rfl := Option.some.inj ho.symm
                    clear ho
                    have ev48 : FA.eval (.tmp 48) = _ := hD 15 48 (by kernel_rfl)
                    have e48 := (eval_tmp FA 48).symm.trans ev48
                    replace ev48 := Lib.hid ev48
                    have ev49 : FA.eval (.tmp 49) = _ := hD 16 49 (by kernel_rfl)
                    have e49 := (eval_tmp FA 49).symm.trans ev49
                    replace ev49 := Lib.hid ev49
                    have ev43 : FA.eval (.tmp 43) = _ := hD 10 43 (by kernel_rfl)
                    have e43 := (eval_tmp FA 43).symm.trans ev43
                    replace ev43 := Lib.hid ev43
                    first | have ge43 := slot_of e43 | have ge43 := slot_un e43
                    clear hO hD
                    first | (go_simp; exact hK.out _ _ (Ex.refl _) rfl) | (rcases ge43 with ge43 | ge43 <;> (go_simp; exact hK.out _ _ (Ex.refl _) rfl))
                  apply Steps.one (MP.eq _) 19 rfl
                  · intro o ho FA x hO hD K hK
                    obtain rfl := Option.some.inj ho.symm
                    clear ho
                    have ev50 : FA.eval (.tmp 50) = _ := hD 17 50 (by kernel_rfl)
                    have e50 := (eval_tmp FA 50).symm.trans ev50
                    replace ev50 := Lib.hid ev50
                    have ev43 : FA.eval (.tmp 43) = _ := hD 10 43 (by kernel_rfl)
                    have e43 := (eval_tmp FA 43).symm.trans ev43
                    replace ev43 := Lib.hid ev43
                    first | have ge43 := slot_of e43 | have ge43 := slot_un e43
                    clear hO hD
                    first | (go_simp; exact hK.out _ _ (Ex.refl _) rfl) | (rcases ge43 with ge43 | ge43 <;> (go_simp; exact hK.out _ _ (Ex.refl _) rfl))
                  apply Steps.one (MP.eq _) 20 rfl
                  · intro o ho FA x hO hD K hK
                    obtain rfl := Option.some.inj ho.symm
                    clear ho
                    have e7 := hO 7 (by kernel_rfl)
                    simp only [eval_tmp, List.getElem?_toArray, List.getElem?_cons_succ, List.getElem?_cons_zero, Option.getD_some] at e7
                    have ev7 := Lib.hid ((eval_tmp FA 7).trans e7)
                    have ev51 : FA.eval (.tmp 51) = _ := hD 18 51 (by kernel_rfl)
                    have e51 := (eval_tmp FA 51).symm.trans ev51
                    replace ev51 := Lib.hid ev51
                    first | have ge51 := slot_of e51 | have ge51 := slot_un e51
                    clear hO hD
                    first | (go_simp; exact hK.out _ _ (Ex.refl _) rfl) | (rcases ge51 with ge51 | ge51 <;> (go_simp; exact hK.out _ _ (Ex.refl _) rfl))
                  apply Steps.one (MP.eq _) 21 rfl
                  · intro o ho FA x hO hD K hK
                    obtain rfl := Option.some.inj ho.symm
                    clear ho
                    have e11 := hO 11 (by kernel_rfl)
                    simp only [eval_tmp, List.getElem?_toArray, List.getElem?_cons_succ, List.getElem?_cons_zero, Option.getD_some] at e11
                    have ev11 := Lib.hid ((eval_tmp FA 11).trans e11)
                    have ev51 : FA.eval (.tmp 51) = _ := hD 18 51 (by kernel_rfl)
                    have e51 := (eval_tmp FA 51).symm.trans ev51
                    replace ev51 := Lib.hid ev51
                    first | have ge51 := slot_of e51 | have ge51 := slot_un e51
                    clear hO hD
                    first | (go_simp; exact hK.out _ _ (Ex.refl _) rfl) | (rcases ge51 with ge51 | ge51 <;> (go_simp; exact hK.out _ _ (Ex.refl _) rfl))
                  apply Steps.one (MP.eq _) 22 rfl
                  · intro o ho FA x hO hD K hK
                    obtain rfl := Option.some.inj ho.symm
                    clear ho
                    have ev53 : FA.eval (.tmp 53) = _ := hD 20 53 (by kernel_rfl)
                    have e53 := (eval_tmp FA 53).symm.trans ev53
                    replace ev53 := Lib.hid ev53
                    have ev51 : FA.eval (.tmp 51) = _ := hD 18 51 (by kernel_rfl)
                    have e51 := (eval_tmp FA 51).symm.trans ev51
                    replace ev51 := Lib.hid ev51
                    first | have ge51 := slot_of e51 | have ge51 := slot_un e51
                    clear hO hD
                    first | (go_simp; exact hK.out _ _ (Ex.refl _) rfl) | (rcases ge51 with ge51 | ge51 <;> (go_simp; exact hK.out _ _ (Ex.refl _) rfl))
                  apply Steps.one (MP.eq _) 23 rfl
                  · intro o ho FA x hO hD K hK
                    obtain rfl := Option.some.inj ho.symm
                    clear ho
                    have ev52 : FA.eval (.tmp 52) = _ := hD 19 52 (by kernel_rfl)
                    have e52 := (eval_tmp FA 52).symm.trans ev52
                    replace ev52 := Lib.hid ev52
                    have ev54 : FA.eval (.tmp 54) = _ := hD 21 54 (by kernel_rfl)
                    have e54 := (eval_tmp FA 54).symm.trans ev54
                    replace ev54 := Lib.hid ev54
                    have ev51 : FA.eval (.tmp 51) = _ := hD 18 51 (by kernel_rfl)
                    have e51 := (eval_tmp FA 51).symm.trans ev51
                    replace ev51 := Lib.hid ev51
                    first | have ge51 := slot_of e51 | have ge51 := slot_un e51
                    clear hO hD
                    first | (go_simp; exact hK.out _ _ (Ex.refl _) rfl) | (rcases ge51 with ge51 | ge51 <;> (go_simp; exact hK.out _ _ (Ex.refl _) rfl))
                  apply Steps.one (MP.eq _) 24 rfl
                  · intro o ho FA x hO hD K hK
                    obtain rfl := Option.some.inj ho.symm
                    clear ho
                    have ev55 : FA.eval (.tmp 55) = _ := hD 22 55 (by kernel_rfl)
                    have e55 := (eval_tmp FA 55).symm.trans ev55
                    replace ev55 := Lib.hid ev55
                    have ev51 : FA.eval (.tmp 51) = _ := hD 18 51 (by kernel_rfl)
                    have e51 := (eval_tmp FA 51).symm.trans ev51
                    replace ev51 := Lib.hid ev51
                    first | have ge51 := slot_of e51 | have ge51 := slot_un e51
                    clear hO hD
                    first | (refine wanted_ifG ?_ ?_; (· go_simp); have q9 := (HC.out (plus wr x.bs x.d) (below_plus _ _ _)).2.1; go_simp; exact hK.out _ _ (Ex.refl _) rfl) | (go_simp; exact hK.out _ _ (Ex.refl _) rfl) | (rcases ge51 with ge51 | ge51 <;> (go_simp; exact hK.out _ _ (Ex.refl _) rfl))
                  apply Steps.one (MP.eq _) 25 rfl
                  · intro o ho FA x hO hD K hK
                    obtain rfl := Option.some.inj ho.symm
                    clear ho
                    have e1 := hO 1 (by kernel_rfl)
                    simp only [eval_tmp, List.getElem?_toArray, List.getElem?_cons_succ, List.getElem?_cons_zero, Option.getD_some] at e1
                    have ev1 := Lib.hid ((eval_tmp FA 1).trans e1)
                    have ev51 : FA.eval (.tmp 51) = _ := hD 18 51 (by kernel_rfl)
                    have e51 := (eval_tmp FA 51).symm.trans ev51
                    replace ev51 := Lib.hid ev51
                    first | have ge51 := slot_of e51 | have ge51 := slot_un e51
                    clear hO hD
                    first | (go_simp; exact hK.out _ _ (Ex.refl _) rfl) | (rcases ge51 with ge51 | ge51 <;> (go_simp; exact hK.out _ _ (Ex.refl _) rfl))
                  apply Steps.one (MP.eq _) 26 rfl
                  · intro o ho FA x hO hD K hK
                    obtain rfl := Option.some.inj ho.symm
                    clear ho
                    have e9 := hO 9 (by kernel_rfl)
                    simp only [eval_tmp, List.getElem?_toArray, List.getElem?_cons_succ, List.getElem?_cons_zero, Option.getD_some] at e9
                    have ev9 := Lib.hid ((eval_tmp FA 9).trans e9)
                    have ev51 : FA.eval (.tmp 51) = _ := hD 18 51 (by kernel_rfl)
                    have e51 := (eval_tmp FA 51).symm.trans ev51
                    replace ev51 := Lib.hid ev51
                    first | have ge51 := slot_of e51 | have ge51 := slot_un e51
                    clear hO hD
                    first | (go_simp; exact hK.out _ _ (Ex.refl _) rfl) | (rcases ge51 with ge51 | ge51 <;> (go_simp; exact hK.out _ _ (Ex.refl _) rfl))
                  apply Steps.one (MP.eq _) 27 rfl
                  · intro o ho FA x hO hD K hK
                    obtain rfl := Option.some.inj ho.symm
                    clear ho
                    have ev57 : FA.eval (.tmp 57) = _ := hD 24 57 (by kernel_rfl)
                    have e57 := (eval_tmp FA 57).symm.trans ev57
                    replace ev57 := Lib.hid ev57
                    have ev58 : FA.eval (.tmp 58) = _ := hD 25 58 (by kernel_rfl)
                    have e58 := (eval_tmp FA 58).symm.trans ev58
                    replace ev58 := Lib.hid ev58
                    have ev51 : FA.eval (.tmp 51) = _ := hD 18 51 (by kernel_rfl)
                    have e51 := (eval_tmp FA 51).symm.trans ev51
                    replace ev51 := Lib.hid ev51
                    first | have ge51 := slot_of e51 | have ge51 := slot_un e51
                    clear hO hD
                    first | (go_simp; exact hK.out _ _ (Ex.refl _) rfl) | (rcases ge51 with ge51 | ge51 <;> (go_simp; exact hK.out _ _ (Ex.refl _) rfl))
                  apply Steps.one (MP.eq _) 28 rfl
                  · intro o ho FA x hO hD K hK
                    obtain rfl := Option.some.inj ho.symm
                    clear ho
                    have ev59 : FA.eval (.tmp 59) = _ := hD 26 59 (by kernel_rfl)
                    have e59 := (eval_tmp FA 59).symm.trans ev59
                    replace ev59 := Lib.hid ev59
                    have ev51 : FA.eval (.tmp 51) = _ := hD 18 51 (by kernel_rfl)
                    have e51 := (eval_tmp FA 51).symm.trans ev51
                    replace ev51 := Lib.hid ev51
                    first | have ge51 := slot_of e51 | have ge51 := slot_un e51
                    clear hO hD
                    first | (go_simp; exact hK.out _ _ (Ex.refl _) rfl) | (rcases ge51 with ge51 | ge51 <;> (go_simp; exact hK.out _ _ (Ex.refl _) rfl))
                  apply Steps.one (MP.eq _) 29 rfl
                  · intro o ho FA x hO hD K hK
                    obtain rfl := Option.some.inj ho.symm
                    clear ho
                    have ev60 : FA.eval (.tmp 60) = _ := hD 27 60 (by kernel_rfl)
                    have e60 := (eval_tmp FA 60).symm.trans ev60
                    replace ev60 := Lib.hid ev60
                    have ev51 : FA.eval (.tmp 51) = _ := hD 18 51 (by kernel_rfl)
                    have e51 := (eval_tmp FA 51).symm.trans ev51
                    replace ev51 := Lib.hid ev51
                    first | have ge51 := slot_of e51 | have ge51 := slot_un e51
                    clear hO hD
                    first | (refine wanted_ifG ?_ ?_; (· go_simp); have q9 := (HC.out (plus wr x.bs x.d) (below_plus _ _ _)).2.2; go_simp; exact hK.out _ _ (Ex.refl _) rfl) | (go_simp; exact hK.out _ _ (Ex.refl _) rfl) | (rcases ge51 with ge51 | ge51 <;> (go_simp; exact hK.out _ _ (Ex.refl _) rfl))
                  apply Steps.one (MP.eq _) 30 rfl
                  · intro o ho FA x hO hD K hK
                    obtain rfl := Option.some.inj ho.symm
                    clear ho
                    have ev56 : FA.eval (.tmp 56) = _ := hD 23 56 (by kernel_rfl)
                    have e56 := (eval_tmp FA 56).symm.trans ev56
                    replace ev56 := Lib.hid ev56
                    have ev61 : FA.eval (.tmp 61) = _ := hD 28 61 (by kernel_rfl)
                    have e61 := (eval_tmp FA 61).symm.trans ev61
                    replace ev61 := Lib.hid ev61
                    have ev51 : FA.eval (.tmp 51) = _ := hD 18 51 (by kernel_rfl)
                    have e51 := (eval_tmp FA 51).symm.trans ev51
                    replace ev51 := Lib.hid ev51
                    first | have ge51 := slot_of e51 | have ge51 := slot_un e51
                    clear hO hD
                    first | (go_simp; exact hK.out _ _ (Ex.refl _) rfl) | (rcases ge51 with ge51 | ge51 <;> (go_simp; exact hK.out _ _ (Ex.refl _) rfl))
                  apply Steps.one (MP.eq _) 31 rfl
                  · intro o ho FA x hO hD K hK
                    obtain rfl := Option.some.inj ho.symm
                    clear ho
                    have ev51 : FA.eval (.tmp 51) = _ := hD 18 51 (by kernel_rfl)
                    have e51 := (eval_tmp FA 51).symm.trans ev51
                    replace ev51 := Lib.hid ev51
                    have ev62 : FA.eval (.tmp 62) = _ := hD 29 62 (by kernel_rfl)
                    have e62 := (eval_tmp FA 62).symm.trans ev62
                    replace ev62 := Lib.hid ev62
                    have ev43 : FA.eval (.tmp 43) = _ := hD 10 43 (by kernel_rfl)
                    have e43 := (eval_tmp FA 43).symm.trans ev43
                    replace ev43 := Lib.hid ev43
                    first | have ge43 := slot_of e43 | have ge43 := slot_un e43
                    clear hO hD
                    first | (go_simp; exact hK.out _ _ (Ex.refl _) rfl) | (rcases ge43 with ge43 | ge43 <;> (go_simp; exact hK.out _ _ (Ex.refl _) rfl))
                  apply Steps.one (MP.eq _) 32 rfl
                  · intro o ho FA x hO hD K hK
                    obtain rfl := Option.some.inj ho.symm
                    clear ho
                    have ev43 : FA.eval (.tmp 43) = _ := hD 10 43 (by kernel_rfl)
                    have e43 := (eval_tmp FA 43).symm.trans ev43
                    replace ev43 := Lib.hid ev43
                    have ev63 : FA.eval (.tmp 63) = _ := hD 30 63 (by kernel_rfl)
                    have e63 := (eval_tmp FA 63).symm.trans ev63
                    replace ev63 := Lib.hid ev63
                    have ev35 : FA.eval (.tmp 35) = _ := hD 2 35 (by kernel_rfl)
                    have e35 := (eval_tmp FA 35).symm.trans ev35
                    replace ev35 := Lib.hid ev35
                    first | have ge35 := slot_of e35 | have ge35 := slot_un e35
                    clear hO hD
                    first | (go_simp; exact hK.out _ _ (Ex.refl _) rfl) | (rcases ge35 with ge35 | ge35 <;> (go_simp; exact hK.out _ _ (Ex.refl _) rfl))
                  apply Steps.one (MP.eq _) 33 rfl
                  · intro o ho FA x hO hD K hK
                    obtain rfl := Option.some.inj ho.symm
                    clear ho
                    have ev35 : FA.eval (.tmp 35) = _ := hD 2 35 (by kernel_rfl)
                    have e35 := (eval_tmp FA 35).symm.trans ev35
                    replace ev35 := Lib.hid ev35
                    have ev64 : FA.eval (.tmp 64) = _ := hD 31 64 (by kernel_rfl)
                    have e64 := (eval_tmp FA 64).symm.trans ev64
                    replace ev64 := Lib.hid ev64
                    clear hO hD
                    go_simp
                    exact hK.out _ _ (Ex.refl _) rfl
                  refine Steps.fin_ (fun vs x hp => ?_)
                  have p0 : vs 0 = _ := hp 0 (by omega)
                  have p1 : vs 1 = _ := hp 1 (by omega)
                  have p2 : vs 2 = _ := hp 2 (by omega)
                  have p3 : vs 3 = _ := hp 3 (by omega)
                  have p4 : vs 4 = _ := hp 4 (by omega)
                  have p5 : vs 5 = _ := hp 5 (by omega)
                  have p6 : vs 6 = _ := hp 6 (by omega)
                  have p7 : vs 7 = _ := hp 7 (by omega)
                  have p8 : vs 8 = _ := hp 8 (by omega)
                  have p9 : vs 9 = _ := hp 9 (by omega)
                  have p10 : vs 10 = _ := hp 10 (by omega)
                  have p11 : vs 11 = _ := hp 11 (by omega)
                  have p12 : vs 12 = _ := hp 12 (by omega)
                  have p13 : vs 13 = _ := hp 13 (by omega)
                  have p14 : vs 14 = _ := hp 14 (by omega)
                  have p15 : vs 15 = _ := hp 15 (by omega)
                  have p16 : vs 16 = _ := hp 16 (by omega)
                  have p17 : vs 17 = _ := hp 17 (by omega)
                  have p18 : vs 18 = _ := hp 18 (by omega)
                  have p19 : vs 19 = _ := hp 19 (by omega)
                  have p20 : vs 20 = _ := hp 20 (by omega)
                  have p21 : vs 21 = _ := hp 21 (by omega)
                  have p22 : vs 22 = _ := hp 22 (by omega)
                  have p23 : vs 23 = _ := hp 23 (by omega)
                  have p24 : vs 24 = _ := hp 24 (by omega)
                  have p25 : vs 25 = _ := hp 25 (by omega)
                  have p26 : vs 26 = _ := hp 26 (by omega)
                  have p27 : vs 27 = _ := hp 27 (by omega)
                  have p28 : vs 28 = _ := hp 28 (by omega)
                  have p29 : vs 29 = _ := hp 29 (by omega)
                  have p30 : vs 30 = _ := hp 30 (by omega)
                  have p31 : vs 31 = _ := hp 31 (by omega)
                  have p32 : vs 32 = _ := hp 32 (by omega)
                  clear hp
                  simp only [List.take_succ_cons, List.take_zero, List.drop_succ_cons, List.drop_zero, putAll, Nat.zero_add, Nat.reduceAdd, Act.put, List.setIfInBounds_toArray, List.set_cons_zero, List.set_cons_succ, p0, p1, p2, p3, p4, p5, p6, p7, p8, p9, p10, p11, p12, p13, p14, p15, p16, p17, p18, p19, p20, p21, p22, p23, p24, p25, p26, p27, p28, p29, p30, p31, p32]
                  clear p0 p1 p2 p3 p4 p5 p6 p7 p8 p9 p10 p11 p12 p13 p14 p15 p16 p17 p18 p19 p20 p21 p22 p23 p24 p25 p26 p27 p28 p29 p30 p31 p32
                  clear vs
                  have hEW := belowP hE9 x.bs x.d
                  have hVW := belowP hV9 x.bs x.d
                  have hW2 := belowP hE9b x.bs x.d
                  have hOW := hO.later hW2
                  have hZW := hZ.later hW2
                  have hkW := hk2.later hW2
                  clear hE9 hV9 hE9b hW2 HC
                  generalize plus wr x.bs x.d = W at *
                  have hPo : Rs 1 W (some ⟨bO, oO, none⟩ : Option Addr) q c1 (itH Po) := by
                    have h := hOW.take (k := q) (by omega)
                    rw [Nat.mul_one] at h
                    rw [← HPo.out]; simpa [itH, List.map_take] using h
                  have hQo : Rs 1 W (cutA (some ⟨bO, oO, none⟩ : Option Addr) c1 q 1) (n1 - q) (c1 - q) (itH Qo) := by
                    have h := hOW.cut (k := q) (by omega)
                    rw [Nat.mul_one] at h
                    rw [← HQo.out]; simpa [itH, List.map_drop] using h
                  have hPs : Rs 1 W (some ⟨bS, oS, none⟩ : Option Addr) q c2 (usH Ps) := by
                    have h := hZW.take (k := q) (by omega)
                    rw [Nat.mul_one] at h
                    rw [← HPs.out]; simpa [usH, List.map_take] using h
                  have hQs : Rs 1 W (cutA (some ⟨bS, oS, none⟩ : Option Addr) c2 q 1) (n1 - q) (c2 - q) (usH Qs) := by
                    have h := hZW.cut (k := q) (by omega)
                    rw [Nat.mul_one] at h
                    rw [← HQs.out]; simpa [usH, List.map_drop] using h
                  have hcap1 := hOW.2.1
                  have hcap2 := hZW.2.1
                  have iq1 : (q : Int) ≤ (n1 : Int) := by omega
                  have iq2 : (q : Int) ≤ (c1 : Int) := by omega
                  have iq3 : (q : Int) ≤ (c2 : Int) := by omega
                  have iq4 : (n1 : Int) ≤ (c1 : Int) := by omega
                  have iq5 : (n1 : Int) ≤ (c2 : Int) := by omega
                  have HL2 : Hid (Po.length ≤ 12 ∧ Ps.length ≤ 12) := Lib.hid (by rw [← HPo.out, ← HPs.out]; simp; omega)
                  have hblW : bl < W.heap.size := Nat.lt_of_lt_of_le hbl hVW.size
                  have HID := Lib.hid (fun w' (h : Kept (fun b => b < W.heap.size) W w') => show w'.cell? ⟨bl, ol + j * 2, none⟩ = some (.int .i64 (id : Int)) from (World.cell?_of_block (h.block bl hblW hblW)).trans ((HQ2.out W hVW).1))
                  clear hO hZ hk2 hOW hZW
                  go_upto_region 11 with (fail)
                  go_wp2
                  refine wp_own (fun b => b < W.heap.size) 17 0 97 2 (fun i => match i with | i => i) (fun i => match i with | 4 => [0] | 11 => [4] | 15 => [11] | 16 => [15] | _ => []) (fun i => match i with | _ => undef) rfl (by kernel_rfl) (by kernel_rfl) (fun i => match i with | 0 => Own.osr 3 1 W.heap.size ([]) | 1 => Own.eq (.slice (some ⟨bO, oO, none⟩ : Option Addr) n1 c1) | 2 => Own.eq (.int .i64 (q : Int)) | 3 => Own.eq (.slice (some ⟨bO, oO, none⟩ : Option Addr) q c1) | 4 => Own.osr 3 1 W.heap.size ([] ++ itH Po) | 5 => Own.eq (.slice (some ⟨bl, ol, none⟩) nl cl) | 6 => Own.eq (.int .i64 (j : Int)) | 7 => Own.eq (.pointer (some ⟨bl, ol + j * 2, none⟩)) | 8 => Own.eq (.pointer (some ⟨bl, ol + j * 2, none⟩)) | 9 => Own.eq (.int .i64 (id : Int)) | 10 => Own.osr 3 1 W.heap.size ([.int .i64 (id : Int)]) | 11 => Own.osr 3 1 W.heap.size (([] ++ itH Po) ++ [.int .i64 (id : Int)]) | 12 => Own.eq (.slice (some ⟨bO, oO, none⟩ : Option Addr) n1 c1) | 13 => Own.eq (.int .i64 (q : Int)) | 14 => Own.eq (.slice (cutA (some ⟨bO, oO, none⟩ : Option Addr) c1 q 1) (n1 - q) (c1 - q)) | 15 => Own.osr 3 1 W.heap.size ((([] ++ itH Po) ++ [.int .i64 (id : Int)]) ++ itH Qo) | 16 => Own.osr 3 1 W.heap.size ((([] ++ itH Po) ++ [.int .i64 (id : Int)]) ++ itH Qo) | _ => Own.any) (fun b h => h) ?_ ?_ ?_ ?_ ?_
                  · exact fun t ht => absurd ht (by omega)
                  · exact fun t t' ht => absurd ht (by omega)
                  · exact fun t ht => absurd ht (by omega)
                  · intro i hi o ho FA w' vs H K hK
                    match i, hi, ho, H, hK with
                    | 0, _, ho, H, hK => 
                      obtain rfl := Option.some.inj ho.symm
                      clear ho
                      go_simp
                      have ho1 := Os.lit (s := 1) (e := 3) w' (Nat.le_refl _) #[] 0 rfl (Nat.zero_le _)
                      exact hK.out _ _ (chgX (Ex.alloc _ _)) ⟨_, _, _, rfl, ho1.mono H.kept.size⟩ (fun b hb => .inr (ho1.blk b hb).1)
                    | 1, _, ho, H, hK => 
                      obtain rfl := Option.some.inj ho.symm
                      clear ho
                      have ev7 : FA.eval (.tmp 7) = .slice (some ⟨bO, oO, none⟩ : Option Addr) n1 c1 := H.out 7 (by kernel_rfl)
                      have e7 : FA.tmps[7]?.getD undef = .slice (some ⟨bO, oO, none⟩ : Option Addr) n1 c1 := by simpa [Act.eval] using ev7
                      replace ev7 := Lib.hid ev7
                      go_simp
                      exact hK.out _ _ (chgX (Ex.refl _)) rfl (fun _ h => h.elim)
                    | 2, _, ho, H, hK => 
                      obtain rfl := Option.some.inj ho.symm
                      clear ho
                      have ev11 : FA.eval (.tmp 11) = .int .i64 (q : Int) := H.out 11 (by kernel_rfl)
                      have e11 : FA.tmps[11]?.getD undef = .int .i64 (q : Int) := by simpa [Act.eval] using ev11
                      replace ev11 := Lib.hid ev11
                      go_simp
                      exact hK.out _ _ (chgX (Ex.refl _)) rfl (fun _ h => h.elim)
                    | 3, _, ho, H, hK => 
                      obtain rfl := Option.some.inj ho.symm
                      clear ho
                      have ev69 : FA.eval (.tmp 69) = .slice (some ⟨bO, oO, none⟩ : Option Addr) n1 c1 := (H.dep 1 69 (by kernel_rfl)).trans (H.word 1 (by omega) (by kernel_rfl))
                      have e69 : FA.tmps[69]?.getD undef = .slice (some ⟨bO, oO, none⟩ : Option Addr) n1 c1 := by simpa [Act.eval] using ev69
                      replace ev69 := Lib.hid ev69
                      have ev70 : FA.eval (.tmp 70) = .int .i64 (q : Int) := (H.dep 2 70 (by kernel_rfl)).trans (H.word 2 (by omega) (by kernel_rfl))
                      have e70 : FA.tmps[70]?.getD undef = .int .i64 (q : Int) := by simpa [Act.eval] using ev70
                      replace ev70 := Lib.hid ev70
                      go_simp
                      exact hK.out _ _ (chgX (Ex.refl _)) rfl (fun _ h => h.elim)
                    | 4, _, ho, H, hK => 
                      obtain rfl := Option.some.inj ho.symm
                      clear ho
                      have ev68 := H.dep 0 68 (by kernel_rfl)
                      have e68 : FA.tmps[68]?.getD undef = vs 0 := by simpa [Act.eval] using ev68
                      replace ev68 := Lib.hid ev68
                      have ev71 : FA.eval (.tmp 71) = .slice (some ⟨bO, oO, none⟩ : Option Addr) q c1 := (H.dep 3 71 (by kernel_rfl)).trans (H.word 3 (by omega) (by kernel_rfl))
                      have e71 : FA.tmps[71]?.getD undef = .slice (some ⟨bO, oO, none⟩ : Option Addr) q c1 := by simpa [Act.eval] using ev71
                      replace ev71 := Lib.hid ev71
                      obtain ⟨A1, n1, c1, hv1, h1⟩ := H.word 0 (by omega) (by kernel_rfl)
                      have hn1 : n1 ≤ 2000 := by have := h1.rs.1; simp only [List.length_append, List.length_nil, itH_len, List.length_cons] at this; have := HL2.out; (try simp at this); omega
                      refine wanted_if rfl ?_
                      refine own_appS etIH (.tmp 68) (.tmp 71) rfl (ev68.out.trans hv1) h1 ev71.out (hPo.kept H.kept (fun a e h => h)) (itH_one _) (by omega) H.kept.size ?_
                      intro A3 n3 c3 w3 hn3 ho3 hg3 hf3
                      refine hK.out _ _ (Chg.grown hg3 (fun k hk => ⟨0, rfl, by show (vs 0).ownBlock = some k; rw [hv1]; exact hk⟩)) ⟨_, _, _, rfl, ho3⟩ (fun b hb => ?_)
                      rcases hf3 b hb with h | h
                      · exact .inl ⟨0, rfl, by show (vs 0).ownBlock = some b; rw [hv1]; exact h⟩
                      · exact .inr h
                    | 5, _, ho, H, hK => 
                      obtain rfl := Option.some.inj ho.symm
                      clear ho
                      have ev1 : FA.eval (.tmp 1) = .slice (some ⟨bl, ol, none⟩) nl cl := H.out 1 (by kernel_rfl)
                      have e1 : FA.tmps[1]?.getD undef = .slice (some ⟨bl, ol, none⟩) nl cl := by simpa [Act.eval] using ev1
                      replace ev1 := Lib.hid ev1
                      go_simp
                      exact hK.out _ _ (chgX (Ex.refl _)) rfl (fun _ h => h.elim)
                    | 6, _, ho, H, hK => 
                      obtain rfl := Option.some.inj ho.symm
                      clear ho
                      have ev9 : FA.eval (.tmp 9) = .int .i64 (j : Int) := H.out 9 (by kernel_rfl)
                      have e9 : FA.tmps[9]?.getD undef = .int .i64 (j : Int) := by simpa [Act.eval] using ev9
                      replace ev9 := Lib.hid ev9
                      go_simp
                      exact hK.out _ _ (chgX (Ex.refl _)) rfl (fun _ h => h.elim)
                    | 7, _, ho, H, hK => 
                      obtain rfl := Option.some.inj ho.symm
                      clear ho
                      have ev73 : FA.eval (.tmp 73) = .slice (some ⟨bl, ol, none⟩) nl cl := (H.dep 5 73 (by kernel_rfl)).trans (H.word 5 (by omega) (by kernel_rfl))
                      have e73 : FA.tmps[73]?.getD undef = .slice (some ⟨bl, ol, none⟩) nl cl := by simpa [Act.eval] using ev73
                      replace ev73 := Lib.hid ev73
                      have ev74 : FA.eval (.tmp 74) = .int .i64 (j : Int) := (H.dep 6 74 (by kernel_rfl)).trans (H.word 6 (by omega) (by kernel_rfl))
                      have e74 : FA.tmps[74]?.getD undef = .int .i64 (j : Int) := by simpa [Act.eval] using ev74
                      replace ev74 := Lib.hid ev74
                      go_simp
                      exact hK.out _ _ (chgX (Ex.refl _)) rfl (fun _ h => h.elim)
                    | 8, _, ho, H, hK => 
                      obtain rfl := Option.some.inj ho.symm
                      clear ho
                      have ev75 : FA.eval (.tmp 75) = .pointer (some ⟨bl, ol + j * 2, none⟩) := (H.dep 7 75 (by kernel_rfl)).trans (H.word 7 (by omega) (by kernel_rfl))
                      have e75 : FA.tmps[75]?.getD undef = .pointer (some ⟨bl, ol + j * 2, none⟩) := by simpa [Act.eval] using ev75
                      replace ev75 := Lib.hid ev75
                      go_simp
                      exact hK.out _ _ (chgX (Ex.refl _)) rfl (fun _ h => h.elim)
                    | 9, _, ho, H, hK => 
                      obtain rfl := Option.some.inj ho.symm
                      clear ho
                      have ev76 : FA.eval (.tmp 76) = .pointer (some ⟨bl, ol + j * 2, none⟩) := (H.dep 8 76 (by kernel_rfl)).trans (H.word 8 (by omega) (by kernel_rfl))
                      have e76 : FA.tmps[76]?.getD undef = .pointer (some ⟨bl, ol + j * 2, none⟩) := by simpa [Act.eval] using ev76
                      replace ev76 := Lib.hid ev76
                      have q9 := HID.out w' H.kept
                      go_simp
                      exact hK.out _ _ (chgX (Ex.refl _)) rfl (fun _ h => h.elim)
                    | 10, _, ho, H, hK => 
                      obtain rfl := Option.some.inj ho.symm
                      clear ho
                      have ev77 : FA.eval (.tmp 77) = .int .i64 (id : Int) := (H.dep 9 77 (by kernel_rfl)).trans (H.word 9 (by omega) (by kernel_rfl))
                      have e77 : FA.tmps[77]?.getD undef = .int .i64 (id : Int) := by simpa [Act.eval] using ev77
                      replace ev77 := Lib.hid ev77
                      go_simp
                      have ho1 := Os.lit (s := 1) (e := 3) w' (Nat.le_refl _) #[.int .i64 (id : Int)] 1 rfl (by decide)
                      exact hK.out _ _ (chgX (Ex.alloc _ _)) ⟨_, _, _, rfl, ho1.mono H.kept.size⟩ (fun b hb => .inr (ho1.blk b hb).1)
                    | 11, _, ho, H, hK => 
                      obtain rfl := Option.some.inj ho.symm
                      clear ho
                      have ev72 := H.dep 4 72 (by kernel_rfl)
                      have e72 : FA.tmps[72]?.getD undef = vs 4 := by simpa [Act.eval] using ev72
                      replace ev72 := Lib.hid ev72
                      have ev78 := H.dep 10 78 (by kernel_rfl)
                      have e78 : FA.tmps[78]?.getD undef = vs 10 := by simpa [Act.eval] using ev78
                      replace ev78 := Lib.hid ev78
                      obtain ⟨A1, n1, c1, hv1, h1⟩ := H.word 4 (by omega) (by kernel_rfl)
                      obtain ⟨A2, n2, c2, hv2, h2⟩ := H.word 10 (by omega) (by kernel_rfl)
                      have hn1 : n1 ≤ 2000 := by have := h1.rs.1; simp only [List.length_append, List.length_nil, itH_len, List.length_cons] at this; have := HL2.out; (try simp at this); omega
                      have hn2 : n2 ≤ 2000 := by have := h2.rs.1; simp at this; omega
                      refine wanted_if rfl ?_
                      refine own_appS etIH (.tmp 72) (.tmp 78) rfl (ev72.out.trans hv1) h1 (ev78.out.trans hv2) h2.rs (by simp [Value.oneCell']) (by omega) H.kept.size ?_
                      intro A3 n3 c3 w3 hn3 ho3 hg3 hf3
                      refine hK.out _ _ (Chg.grown hg3 (fun k hk => ⟨4, rfl, by show (vs 4).ownBlock = some k; rw [hv1]; exact hk⟩)) ⟨_, _, _, rfl, ho3⟩ (fun b hb => ?_)
                      rcases hf3 b hb with h | h
                      · exact .inl ⟨4, rfl, by show (vs 4).ownBlock = some b; rw [hv1]; exact h⟩
                      · exact .inr h
                    | 12, _, ho, H, hK => 
                      obtain rfl := Option.some.inj ho.symm
                      clear ho
                      have ev7 : FA.eval (.tmp 7) = .slice (some ⟨bO, oO, none⟩ : Option Addr) n1 c1 := H.out 7 (by kernel_rfl)
                      have e7 : FA.tmps[7]?.getD undef = .slice (some ⟨bO, oO, none⟩ : Option Addr) n1 c1 := by simpa [Act.eval] using ev7
                      replace ev7 := Lib.hid ev7
                      go_simp
                      exact hK.out _ _ (chgX (Ex.refl _)) rfl (fun _ h => h.elim)
                    | 13, _, ho, H, hK => 
                      obtain rfl := Option.some.inj ho.symm
                      clear ho
                      have ev11 : FA.eval (.tmp 11) = .int .i64 (q : Int) := H.out 11 (by kernel_rfl)
                      have e11 : FA.tmps[11]?.getD undef = .int .i64 (q : Int) := by simpa [Act.eval] using ev11
                      replace ev11 := Lib.hid ev11
                      go_simp
                      exact hK.out _ _ (chgX (Ex.refl _)) rfl (fun _ h => h.elim)
                    | 14, _, ho, H, hK => 
                      obtain rfl := Option.some.inj ho.symm
                      clear ho
                      have ev80 : FA.eval (.tmp 80) = .slice (some ⟨bO, oO, none⟩ : Option Addr) n1 c1 := (H.dep 12 80 (by kernel_rfl)).trans (H.word 12 (by omega) (by kernel_rfl))
                      have e80 : FA.tmps[80]?.getD undef = .slice (some ⟨bO, oO, none⟩ : Option Addr) n1 c1 := by simpa [Act.eval] using ev80
                      replace ev80 := Lib.hid ev80
                      have ev81 : FA.eval (.tmp 81) = .int .i64 (q : Int) := (H.dep 13 81 (by kernel_rfl)).trans (H.word 13 (by omega) (by kernel_rfl))
                      have e81 : FA.tmps[81]?.getD undef = .int .i64 (q : Int) := by simpa [Act.eval] using ev81
                      replace ev81 := Lib.hid ev81
                      go_simp
                      exact hK.out _ _ (chgX (Ex.refl _)) rfl (fun _ h => h.elim)
                    | 15, _, ho, H, hK => 
                      obtain rfl := Option.some.inj ho.symm
                      clear ho
                      have ev79 := H.dep 11 79 (by kernel_rfl)
                      have e79 : FA.tmps[79]?.getD undef = vs 11 := by simpa [Act.eval] using ev79
                      replace ev79 := Lib.hid ev79
                      have ev82 : FA.eval (.tmp 82) = .slice (cutA (some ⟨bO, oO, none⟩ : Option Addr) c1 q 1) (n1 - q) (c1 - q) := (H.dep 14 82 (by kernel_rfl)).trans (H.word 14 (by omega) (by kernel_rfl))
                      have e82 : FA.tmps[82]?.getD undef = .slice (cutA (some ⟨bO, oO, none⟩ : Option Addr) c1 q 1) (n1 - q) (c1 - q) := by simpa [Act.eval] using ev82
                      replace ev82 := Lib.hid ev82
                      obtain ⟨A1, n1, c1, hv1, h1⟩ := H.word 11 (by omega) (by kernel_rfl)
                      have hn1 : n1 ≤ 2000 := by have := h1.rs.1; simp only [List.length_append, List.length_nil, itH_len, List.length_cons] at this; have := HL2.out; (try simp at this); omega
                      refine wanted_if rfl ?_
                      refine own_appS etIH (.tmp 79) (.tmp 82) rfl (ev79.out.trans hv1) h1 ev82.out (hQo.kept H.kept (fun a e h => h)) (itH_one _) (by omega) H.kept.size ?_
                      intro A3 n3 c3 w3 hn3 ho3 hg3 hf3
                      refine hK.out _ _ (Chg.grown hg3 (fun k hk => ⟨11, rfl, by show (vs 11).ownBlock = some k; rw [hv1]; exact hk⟩)) ⟨_, _, _, rfl, ho3⟩ (fun b hb => ?_)
                      rcases hf3 b hb with h | h
                      · exact .inl ⟨11, rfl, by show (vs 11).ownBlock = some b; rw [hv1]; exact h⟩
                      · exact .inr h
                    | 16, _, ho, H, hK => 
                      obtain rfl := Option.some.inj ho.symm
                      clear ho
                      have ev83 := H.dep 15 83 (by kernel_rfl)
                      have e83 : FA.tmps[83]?.getD undef = vs 15 := by simpa [Act.eval] using ev83
                      replace ev83 := Lib.hid ev83
                      have hw := H.word 15 (by omega) (by kernel_rfl)
                      go_simp
                      exact hK.out _ _ (chgX (Ex.refl _)) hw (fun b hb => .inl ⟨15, rfl, hb⟩)
                    | (k + 17), hi, _, _, _ => exact absurd hi (by omega)
                  intro vs w' hC hV hW hDis hFr
                  have p1 : vs 1 = .slice (some ⟨bO, oO, none⟩ : Option Addr) n1 c1 := hW 1 (by omega) (by kernel_rfl)
                  have p2 : vs 2 = .int .i64 (q : Int) := hW 2 (by omega) (by kernel_rfl)
                  have p3 : vs 3 = .slice (some ⟨bO, oO, none⟩ : Option Addr) q c1 := hW 3 (by omega) (by kernel_rfl)
                  have p5 : vs 5 = .slice (some ⟨bl, ol, none⟩) nl cl := hW 5 (by omega) (by kernel_rfl)
                  have p6 : vs 6 = .int .i64 (j : Int) := hW 6 (by omega) (by kernel_rfl)
                  have p7 : vs 7 = .pointer (some ⟨bl, ol + j * 2, none⟩) := hW 7 (by omega) (by kernel_rfl)
                  have p8 : vs 8 = .pointer (some ⟨bl, ol + j * 2, none⟩) := hW 8 (by omega) (by kernel_rfl)
                  have p9 : vs 9 = .int .i64 (id : Int) := hW 9 (by omega) (by kernel_rfl)
                  have p10 := hW 10 (by omega) (by kernel_rfl)
                  have p12 : vs 12 = .slice (some ⟨bO, oO, none⟩ : Option Addr) n1 c1 := hW 12 (by omega) (by kernel_rfl)
                  have p13 : vs 13 = .int .i64 (q : Int) := hW 13 (by omega) (by kernel_rfl)
                  have p14 : vs 14 = .slice (cutA (some ⟨bO, oO, none⟩ : Option Addr) c1 q 1) (n1 - q) (c1 - q) := hW 14 (by omega) (by kernel_rfl)
                  have p16 := hW 16 (by omega) (by kernel_rfl)
                  clear hW
                  simp only [List.take_succ_cons, List.take_zero, List.drop_succ_cons, List.drop_zero, putAll, Nat.zero_add, Nat.reduceAdd, Act.put, List.setIfInBounds_toArray, List.set_cons_zero, List.set_cons_succ, p1, p2, p3, p5, p6, p7, p8, p9, p12, p13, p14]
                  obtain ⟨A5, n5, c5, hA5, ho5⟩ := p16
                  replace hA5 : vs 16 = .slice A5 n5 c5 := hA5
                  rw [hA5]
                  have hbw := hC.below (B := W.heap.size) (Nat.le_refl _) (fun b hb => hb)
                  have hr5 := ho5.rs
                  replace hPs := hPs.later hbw
                  replace hQs := hQs.later hbw
                  replace hkW := hkW.later hbw
                  replace hEW := hEW.trans (hbw.mono hEW.size)
                  replace hVW := hVW.trans (hbw.mono hVW.size)
                  clear hA5 ho5 hbw hC hV hDis hFr hPo hQo HID hblW
                  generalize w' = Wz at *
                  go_upto_region 12 with (fail)
                  go_wp2
                  refine wp_own (fun b => b < Wz.heap.size) 13 0 97 2 (fun i => match i with | i => i) (fun i => match i with | 4 => [0] | 7 => [4] | 11 => [7] | 12 => [11] | _ => []) (fun i => match i with | _ => undef) rfl (by kernel_rfl) (by kernel_rfl) (fun i => match i with | 0 => Own.osr 27 1 Wz.heap.size ([]) | 1 => Own.eq (.slice (some ⟨bS, oS, none⟩ : Option Addr) n1 c2) | 2 => Own.eq (.int .i64 (q : Int)) | 3 => Own.eq (.slice (some ⟨bS, oS, none⟩ : Option Addr) q c2) | 4 => Own.osr 27 1 Wz.heap.size ([] ++ usH Ps) | 5 => Own.eq (.int .u64 X) | 6 => Own.osr 27 1 Wz.heap.size ([.int .u64 X]) | 7 => Own.osr 27 1 Wz.heap.size (([] ++ usH Ps) ++ [.int .u64 X]) | 8 => Own.eq (.slice (some ⟨bS, oS, none⟩ : Option Addr) n1 c2) | 9 => Own.eq (.int .i64 (q : Int)) | 10 => Own.eq (.slice (cutA (some ⟨bS, oS, none⟩ : Option Addr) c2 q 1) (n1 - q) (c2 - q)) | 11 => Own.osr 27 1 Wz.heap.size ((([] ++ usH Ps) ++ [.int .u64 X]) ++ usH Qs) | 12 => Own.osr 27 1 Wz.heap.size ((([] ++ usH Ps) ++ [.int .u64 X]) ++ usH Qs) | _ => Own.any) (fun b h => h) ?_ ?_ ?_ ?_ ?_
                  · exact fun t ht => absurd ht (by omega)
                  · exact fun t t' ht => absurd ht (by omega)
                  · exact fun t ht => absurd ht (by omega)
                  · intro i hi o ho FA w' vs H K hK
                    match i, hi, ho, H, hK with
                    | 0, _, ho, H, hK => 
                      obtain rfl := Option.some.inj ho.symm
                      clear ho
                      go_simp
                      have ho1 := Os.lit (s := 1) (e := 27) w' (Nat.le_refl _) #[] 0 rfl (Nat.zero_le _)
                      exact hK.out _ _ (chgX (Ex.alloc _ _)) ⟨_, _, _, rfl, ho1.mono H.kept.size⟩ (fun b hb => .inr (ho1.blk b hb).1)
                    | 1, _, ho, H, hK => 
                      obtain rfl := Option.some.inj ho.symm
                      clear ho
                      have ev8 : FA.eval (.tmp 8) = .slice (some ⟨bS, oS, none⟩ : Option Addr) n1 c2 := H.out 8 (by kernel_rfl)
                      have e8 : FA.tmps[8]?.getD undef = .slice (some ⟨bS, oS, none⟩ : Option Addr) n1 c2 := by simpa [Act.eval] using ev8
                      replace ev8 := Lib.hid ev8
                      go_simp
                      exact hK.out _ _ (chgX (Ex.refl _)) rfl (fun _ h => h.elim)
                    | 2, _, ho, H, hK => 
                      obtain rfl := Option.some.inj ho.symm
                      clear ho
                      have ev11 : FA.eval (.tmp 11) = .int .i64 (q : Int) := H.out 11 (by kernel_rfl)
                      have e11 : FA.tmps[11]?.getD undef = .int .i64 (q : Int) := by simpa [Act.eval] using ev11
                      replace ev11 := Lib.hid ev11
                      go_simp
                      exact hK.out _ _ (chgX (Ex.refl _)) rfl (fun _ h => h.elim)
                    | 3, _, ho, H, hK => 
                      obtain rfl := Option.some.inj ho.symm
                      clear ho
                      have ev85 : FA.eval (.tmp 85) = .slice (some ⟨bS, oS, none⟩ : Option Addr) n1 c2 := (H.dep 1 85 (by kernel_rfl)).trans (H.word 1 (by omega) (by kernel_rfl))
                      have e85 : FA.tmps[85]?.getD undef = .slice (some ⟨bS, oS, none⟩ : Option Addr) n1 c2 := by simpa [Act.eval] using ev85
                      replace ev85 := Lib.hid ev85
                      have ev86 : FA.eval (.tmp 86) = .int .i64 (q : Int) := (H.dep 2 86 (by kernel_rfl)).trans (H.word 2 (by omega) (by kernel_rfl))
                      have e86 : FA.tmps[86]?.getD undef = .int .i64 (q : Int) := by simpa [Act.eval] using ev86
                      replace ev86 := Lib.hid ev86
                      go_simp
                      exact hK.out _ _ (chgX (Ex.refl _)) rfl (fun _ h => h.elim)
                    | 4, _, ho, H, hK => 
                      obtain rfl := Option.some.inj ho.symm
                      clear ho
                      have ev84 := H.dep 0 84 (by kernel_rfl)
                      have e84 : FA.tmps[84]?.getD undef = vs 0 := by simpa [Act.eval] using ev84
                      replace ev84 := Lib.hid ev84
                      have ev87 : FA.eval (.tmp 87) = .slice (some ⟨bS, oS, none⟩ : Option Addr) q c2 := (H.dep 3 87 (by kernel_rfl)).trans (H.word 3 (by omega) (by kernel_rfl))
                      have e87 : FA.tmps[87]?.getD undef = .slice (some ⟨bS, oS, none⟩ : Option Addr) q c2 := by simpa [Act.eval] using ev87
                      replace ev87 := Lib.hid ev87
                      obtain ⟨A1, n1, c1, hv1, h1⟩ := H.word 0 (by omega) (by kernel_rfl)
                      have hn1 : n1 ≤ 2000 := by have := h1.rs.1; simp only [List.length_append, List.length_nil, usH_len, List.length_cons] at this; have := HL2.out; (try simp at this); omega
                      refine wanted_if rfl ?_
                      refine own_appS etUH (.tmp 84) (.tmp 87) rfl (ev84.out.trans hv1) h1 ev87.out (hPs.kept H.kept (fun a e h => h)) (usH_one _) (by omega) H.kept.size ?_
                      intro A3 n3 c3 w3 hn3 ho3 hg3 hf3
                      refine hK.out _ _ (Chg.grown hg3 (fun k hk => ⟨0, rfl, by show (vs 0).ownBlock = some k; rw [hv1]; exact hk⟩)) ⟨_, _, _, rfl, ho3⟩ (fun b hb => ?_)
                      rcases hf3 b hb with h | h
                      · exact .inl ⟨0, rfl, by show (vs 0).ownBlock = some b; rw [hv1]; exact h⟩
                      · exact .inr h
                    | 5, _, ho, H, hK => 
                      obtain rfl := Option.some.inj ho.symm
                      clear ho
                      have ev10 : FA.eval (.tmp 10) = .int .u64 X := H.out 10 (by kernel_rfl)
                      have e10 : FA.tmps[10]?.getD undef = .int .u64 X := by simpa [Act.eval] using ev10
                      replace ev10 := Lib.hid ev10
                      go_simp
                      exact hK.out _ _ (chgX (Ex.refl _)) rfl (fun _ h => h.elim)
                    | 6, _, ho, H, hK => 
                      obtain rfl := Option.some.inj ho.symm
                      clear ho
                      have ev89 : FA.eval (.tmp 89) = .int .u64 X := (H.dep 5 89 (by kernel_rfl)).trans (H.word 5 (by omega) (by kernel_rfl))
                      have e89 : FA.tmps[89]?.getD undef = .int .u64 X := by simpa [Act.eval] using ev89
                      replace ev89 := Lib.hid ev89
                      go_simp
                      have ho1 := Os.lit (s := 1) (e := 27) w' (Nat.le_refl _) #[.int .u64 X] 1 rfl (by decide)
                      exact hK.out _ _ (chgX (Ex.alloc _ _)) ⟨_, _, _, rfl, ho1.mono H.kept.size⟩ (fun b hb => .inr (ho1.blk b hb).1)
                    | 7, _, ho, H, hK => 
                      obtain rfl := Option.some.inj ho.symm
                      clear ho
                      have ev88 := H.dep 4 88 (by kernel_rfl)
                      have e88 : FA.tmps[88]?.getD undef = vs 4 := by simpa [Act.eval] using ev88
                      replace ev88 := Lib.hid ev88
                      have ev90 := H.dep 6 90 (by kernel_rfl)
                      have e90 : FA.tmps[90]?.getD undef = vs 6 := by simpa [Act.eval] using ev90
                      replace ev90 := Lib.hid ev90
                      obtain ⟨A1, n1, c1, hv1, h1⟩ := H.word 4 (by omega) (by kernel_rfl)
                      obtain ⟨A2, n2, c2, hv2, h2⟩ := H.word 6 (by omega) (by kernel_rfl)
                      have hn1 : n1 ≤ 2000 := by have := h1.rs.1; simp only [List.length_append, List.length_nil, usH_len, List.length_cons] at this; have := HL2.out; (try simp at this); omega
                      have hn2 : n2 ≤ 2000 := by have := h2.rs.1; simp at this; omega
                      refine wanted_if rfl ?_
                      refine own_appS etUH (.tmp 88) (.tmp 90) rfl (ev88.out.trans hv1) h1 (ev90.out.trans hv2) h2.rs (by simp [Value.oneCell']) (by omega) H.kept.size ?_
                      intro A3 n3 c3 w3 hn3 ho3 hg3 hf3
                      refine hK.out _ _ (Chg.grown hg3 (fun k hk => ⟨4, rfl, by show (vs 4).ownBlock = some k; rw [hv1]; exact hk⟩)) ⟨_, _, _, rfl, ho3⟩ (fun b hb => ?_)
                      rcases hf3 b hb with h | h
                      · exact .inl ⟨4, rfl, by show (vs 4).ownBlock = some b; rw [hv1]; exact h⟩
                      · exact .inr h
                    | 8, _, ho, H, hK => 
                      obtain rfl := Option.some.inj ho.symm
                      clear ho
                      have ev8 : FA.eval (.tmp 8) = .slice (some ⟨bS, oS, none⟩ : Option Addr) n1 c2 := H.out 8 (by kernel_rfl)
                      have e8 : FA.tmps[8]?.getD undef = .slice (some ⟨bS, oS, none⟩ : Option Addr) n1 c2 := by simpa [Act.eval] using ev8
                      replace ev8 := Lib.hid ev8
                      go_simp
                      exact hK.out _ _ (chgX (Ex.refl _)) rfl (fun _ h => h.elim)
                    | 9, _, ho, H, hK => 
                      obtain rfl := Option.some.inj ho.symm
                      clear ho
                      have ev11 : FA.eval (.tmp 11) = .int .i64 (q : Int) := H.out 11 (by kernel_rfl)
                      have e11 : FA.tmps[11]?.getD undef = .int .i64 (q : Int) := by simpa [Act.eval] using ev11
                      replace ev11 := Lib.hid ev11
                      go_simp
                      exact hK.out _ _ (chgX (Ex.refl _)) rfl (fun _ h => h.elim)
                    | 10, _, ho, H, hK => 
                      obtain rfl := Option.some.inj ho.symm
                      clear ho
                      have ev92 : FA.eval (.tmp 92) = .slice (some ⟨bS, oS, none⟩ : Option Addr) n1 c2 := (H.dep 8 92 (by kernel_rfl)).trans (H.word 8 (by omega) (by kernel_rfl))
                      have e92 : FA.tmps[92]?.getD undef = .slice (some ⟨bS, oS, none⟩ : Option Addr) n1 c2 := by simpa [Act.eval] using ev92
                      replace ev92 := Lib.hid ev92
                      have ev93 : FA.eval (.tmp 93) = .int .i64 (q : Int) := (H.dep 9 93 (by kernel_rfl)).trans (H.word 9 (by omega) (by kernel_rfl))
                      have e93 : FA.tmps[93]?.getD undef = .int .i64 (q : Int) := by simpa [Act.eval] using ev93
                      replace ev93 := Lib.hid ev93
                      go_simp
                      exact hK.out _ _ (chgX (Ex.refl _)) rfl (fun _ h => h.elim)
                    | 11, _, ho, H, hK => 
                      obtain rfl := Option.some.inj ho.symm
                      clear ho
                      have ev91 := H.dep 7 91 (by kernel_rfl)
                      have e91 : FA.tmps[91]?.getD undef = vs 7 := by simpa [Act.eval] using ev91
                      replace ev91 := Lib.hid ev91
                      have ev94 : FA.eval (.tmp 94) = .slice (cutA (some ⟨bS, oS, none⟩ : Option Addr) c2 q 1) (n1 - q) (c2 - q) := (H.dep 10 94 (by kernel_rfl)).trans (H.word 10 (by omega) (by kernel_rfl))
                      have e94 : FA.tmps[94]?.getD undef = .slice (cutA (some ⟨bS, oS, none⟩ : Option Addr) c2 q 1) (n1 - q) (c2 - q) := by simpa [Act.eval] using ev94
                      replace ev94 := Lib.hid ev94
                      obtain ⟨A1, n1, c1, hv1, h1⟩ := H.word 7 (by omega) (by kernel_rfl)
                      have hn1 : n1 ≤ 2000 := by have := h1.rs.1; simp only [List.length_append, List.length_nil, usH_len, List.length_cons] at this; have := HL2.out; (try simp at this); omega
                      refine wanted_if rfl ?_
                      refine own_appS etUH (.tmp 91) (.tmp 94) rfl (ev91.out.trans hv1) h1 ev94.out (hQs.kept H.kept (fun a e h => h)) (usH_one _) (by omega) H.kept.size ?_
                      intro A3 n3 c3 w3 hn3 ho3 hg3 hf3
                      refine hK.out _ _ (Chg.grown hg3 (fun k hk => ⟨7, rfl, by show (vs 7).ownBlock = some k; rw [hv1]; exact hk⟩)) ⟨_, _, _, rfl, ho3⟩ (fun b hb => ?_)
                      rcases hf3 b hb with h | h
                      · exact .inl ⟨7, rfl, by show (vs 7).ownBlock = some b; rw [hv1]; exact h⟩
                      · exact .inr h
                    | 12, _, ho, H, hK => 
                      obtain rfl := Option.some.inj ho.symm
                      clear ho
                      have ev95 := H.dep 11 95 (by kernel_rfl)
                      have e95 : FA.tmps[95]?.getD undef = vs 11 := by simpa [Act.eval] using ev95
                      replace ev95 := Lib.hid ev95
                      have hw := H.word 11 (by omega) (by kernel_rfl)
                      go_simp
                      exact hK.out _ _ (chgX (Ex.refl _)) hw (fun b hb => .inl ⟨11, rfl, hb⟩)
                    | (k + 13), hi, _, _, _ => exact absurd hi (by omega)
                  intro vs w' hC hV hW hDis hFr
                  have p1 : vs 1 = .slice (some ⟨bS, oS, none⟩ : Option Addr) n1 c2 := hW 1 (by omega) (by kernel_rfl)
                  have p2 : vs 2 = .int .i64 (q : Int) := hW 2 (by omega) (by kernel_rfl)
                  have p3 : vs 3 = .slice (some ⟨bS, oS, none⟩ : Option Addr) q c2 := hW 3 (by omega) (by kernel_rfl)
                  have p5 : vs 5 = .int .u64 X := hW 5 (by omega) (by kernel_rfl)
                  have p6 := hW 6 (by omega) (by kernel_rfl)
                  have p8 : vs 8 = .slice (some ⟨bS, oS, none⟩ : Option Addr) n1 c2 := hW 8 (by omega) (by kernel_rfl)
                  have p9 : vs 9 = .int .i64 (q : Int) := hW 9 (by omega) (by kernel_rfl)
                  have p10 : vs 10 = .slice (cutA (some ⟨bS, oS, none⟩ : Option Addr) c2 q 1) (n1 - q) (c2 - q) := hW 10 (by omega) (by kernel_rfl)
                  have p12 := hW 12 (by omega) (by kernel_rfl)
                  clear hW
                  simp only [List.take_succ_cons, List.take_zero, List.drop_succ_cons, List.drop_zero, putAll, Nat.zero_add, Nat.reduceAdd, Act.put, List.setIfInBounds_toArray, List.set_cons_zero, List.set_cons_succ, p1, p2, p3, p5, p8, p9, p10]
                  obtain ⟨A6, n6, c6, hA6, ho6⟩ := p12
                  replace hA6 : vs 12 = .slice A6 n6 c6 := hA6
                  rw [hA6]
                  have hbw := hC.below (B := Wz.heap.size) (Nat.le_refl _) (fun b hb => hb)
                  have hr6 := ho6.rs
                  replace hr5 := hr5.later hbw
                  replace hkW := hkW.later hbw
                  replace hEW := hEW.trans (hbw.mono hEW.size)
                  replace hVW := hVW.trans (hbw.mono hVW.size)
                  have hl5 : (([] ++ itH Po) ++ [Value.int .i64 (id : Int)]) ++ itH Qo = itH ((rankL key b (L.take (j + 1))).map (·.1)) := by rw [HN.out, HINS.out, ← HRES.out, ← HPo.out, ← HQo.out]; simp [itH]
                  have hl6 : (([] ++ usH Ps) ++ [Value.int .u64 X]) ++ usH Qs = usH ((rankL key b (L.take (j + 1))).map (·.2)) := by rw [HN.out, HINS.out, ← HRES.out, ← HPs.out, ← HQs.out]; simp [usH]
                  rw [hl5] at hr5
                  rw [hl6] at hr6
                  have hn56 : n5 = n6 := by
                    have h1 := hr5.1
                    have h2 := hr6.1
                    rw [itH_len, List.length_map] at h1
                    rw [usH_len, List.length_map] at h2
                    omega
                  subst hn56
                  have HR5 := Lib.hid hr5
                  have HR6 := Lib.hid hr6
                  clear hA6 ho6 hbw hC hV hDis hFr hPs hQs hr5 hr6 hl5 hl6
                  generalize w' = Wy at *
                  go_wp2
                  exact ⟨⟨j + 1, A5, A6, n5, c5, c6, by go_num, by omega, rfl, rfl, HR5.out, HR6.out, hkW, hEW, hVW⟩, by simp [intOf]; omega⟩
              · have bq : (py2 == X) = false := by simp [hB9]
                rw [if_neg (fun h => by have h9 := hah.1 h; unfold ltS at h9; simp only [] at h9; omega)] at hqx
                have HRES := Lib.hid hqx
                clear hqx hah
                go_upto_region 9 with (fail)
                go_wp2
                refine wp_relS 33 97 rfl (by kernel_rfl) (by kernel_rfl) ?_
                apply Steps.one (MP.eq _) 1 rfl
                · intro o ho FA x hO hD K hK
                  obtain rfl := Option.some.inj ho.symm
                  clear ho
                  have e11 := hO 11 (by kernel_rfl)
                  simp only [eval_tmp, List.getElem?_toArray, List.getElem?_cons_succ, List.getElem?_cons_zero, Option.getD_some] at e11
                  have ev11 := Lib.hid ((eval_tmp FA 11).trans e11)
                  clear hO hD
                  go_simp
                  exact hK.out _ _ (Ex.refl _) rfl
                apply Steps.one (MP.eq _) 2 rfl
                · intro o ho FA x hO hD K hK
                  obtain rfl := Option.some.inj ho.symm
                  clear ho
                  have ev33 : FA.eval (.tmp 33) = _ := hD 0 33 (by kernel_rfl)
                  have e33 := (eval_tmp FA 33).symm.trans ev33
                  replace ev33 := Lib.hid ev33
                  clear hO hD
                  go_simp
                  exact hK.out _ _ (Ex.refl _) rfl
                apply Steps.one (MP.eq _) 3 rfl
                · intro o ho FA x hO hD K hK
                  obtain rfl := Option.some.inj ho.symm
                  clear ho
                  have ev34 : FA.eval (.tmp 34) = _ := hD 1 34 (by kernel_rfl)
                  have e34 := (eval_tmp FA 34).symm.trans ev34
                  replace ev34 := Lib.hid ev34
                  clear hO hD
                  go_simp
                  exact hK.out _ _ (Ex.refl _) rfl
                apply Steps.one (MP.eq _) 4 rfl
                · intro o ho FA x hO hD K hK
                  obtain rfl := Option.some.inj ho.symm
                  clear ho
                  have e8 := hO 8 (by kernel_rfl)
                  simp only [eval_tmp, List.getElem?_toArray, List.getElem?_cons_succ, List.getElem?_cons_zero, Option.getD_some] at e8
                  have ev8 := Lib.hid ((eval_tmp FA 8).trans e8)
                  have ev35 : FA.eval (.tmp 35) = _ := hD 2 35 (by kernel_rfl)
                  have e35 := (eval_tmp FA 35).symm.trans ev35
                  replace ev35 := Lib.hid ev35
                  first | have ge35 := slot_of e35 | have ge35 := slot_un e35
                  clear hO hD
                  first | (go_simp; exact hK.out _ _ (Ex.refl _) rfl) | (rcases ge35 with ge35 | ge35 <;> (go_simp; exact hK.out _ _ (Ex.refl _) rfl))
                apply Steps.one (MP.eq _) 5 rfl
                · intro o ho FA x hO hD K hK
                  obtain rfl := Option.some.inj ho.symm
                  clear ho
                  have e11 := hO 11 (by kernel_rfl)
                  simp only [eval_tmp, List.getElem?_toArray, List.getElem?_cons_succ, List.getElem?_cons_zero, Option.getD_some] at e11
                  have ev11 := Lib.hid ((eval_tmp FA 11).trans e11)
                  have ev35 : FA.eval (.tmp 35) = _ := hD 2 35 (by kernel_rfl)
                  have e35 := (eval_tmp FA 35).symm.trans ev35
                  replace ev35 := Lib.hid ev35
                  first | have ge35 := slot_of e35 | have ge35 := slot_un e35
                  clear hO hD
                  first | (go_simp; exact hK.out _ _ (Ex.refl _) rfl) | (rcases ge35 with ge35 | ge35 <;> (go_simp; exact hK.out _ _ (Ex.refl _) rfl))
                apply Steps.one (MP.eq _) 6 rfl
                · intro o ho FA x hO hD K hK
                  obtain rfl := Option.some.inj ho.symm
                  clear ho
                  have ev37 : FA.eval (.tmp 37) = _ := hD 4 37 (by kernel_rfl)
                  have e37 := (eval_tmp FA 37).symm.trans ev37
                  replace ev37 := Lib.hid ev37
                  have ev35 : FA.eval (.tmp 35) = _ := hD 2 35 (by kernel_rfl)
                  have e35 := (eval_tmp FA 35).symm.trans ev35
                  replace ev35 := Lib.hid ev35
                  first | have ge35 := slot_of e35 | have ge35 := slot_un e35
                  clear hO hD
                  first | (go_simp; exact hK.out _ _ (Ex.refl _) rfl) | (rcases ge35 with ge35 | ge35 <;> (go_simp; exact hK.out _ _ (Ex.refl _) rfl))
                apply Steps.one (MP.eq _) 7 rfl
                · intro o ho FA x hO hD K hK
                  obtain rfl := Option.some.inj ho.symm
                  clear ho
                  have ev36 : FA.eval (.tmp 36) = _ := hD 3 36 (by kernel_rfl)
                  have e36 := (eval_tmp FA 36).symm.trans ev36
                  replace ev36 := Lib.hid ev36
                  have ev38 : FA.eval (.tmp 38) = _ := hD 5 38 (by kernel_rfl)
                  have e38 := (eval_tmp FA 38).symm.trans ev38
                  replace ev38 := Lib.hid ev38
                  have ev35 : FA.eval (.tmp 35) = _ := hD 2 35 (by kernel_rfl)
                  have e35 := (eval_tmp FA 35).symm.trans ev35
                  replace ev35 := Lib.hid ev35
                  first | have ge35 := slot_of e35 | have ge35 := slot_un e35
                  clear hO hD
                  first | (go_simp; exact hK.out _ _ (Ex.refl _) rfl) | (rcases ge35 with ge35 | ge35 <;> (go_simp; exact hK.out _ _ (Ex.refl _) rfl))
                apply Steps.one (MP.eq _) 8 rfl
                · intro o ho FA x hO hD K hK
                  obtain rfl := Option.some.inj ho.symm
                  clear ho
                  have ev39 : FA.eval (.tmp 39) = _ := hD 6 39 (by kernel_rfl)
                  have e39 := (eval_tmp FA 39).symm.trans ev39
                  replace ev39 := Lib.hid ev39
                  have ev35 : FA.eval (.tmp 35) = _ := hD 2 35 (by kernel_rfl)
                  have e35 := (eval_tmp FA 35).symm.trans ev35
                  replace ev35 := Lib.hid ev35
                  first | have ge35 := slot_of e35 | have ge35 := slot_un e35
                  clear hO hD
                  first | (refine wanted_ifG ?_ ?_; (· go_simp); have q9 := (HC.out (plus wr x.bs x.d) (below_plus _ _ _)).1; go_simp; exact hK.out _ _ (Ex.refl _) rfl) | (go_simp; exact hK.out _ _ (Ex.refl _) rfl) | (rcases ge35 with ge35 | ge35 <;> (go_simp; exact hK.out _ _ (Ex.refl _) rfl))
                apply Steps.one (MP.eq _) 9 rfl
                · intro o ho FA x hO hD K hK
                  obtain rfl := Option.some.inj ho.symm
                  clear ho
                  have e10 := hO 10 (by kernel_rfl)
                  simp only [eval_tmp, List.getElem?_toArray, List.getElem?_cons_succ, List.getElem?_cons_zero, Option.getD_some] at e10
                  have ev10 := Lib.hid ((eval_tmp FA 10).trans e10)
                  have ev35 : FA.eval (.tmp 35) = _ := hD 2 35 (by kernel_rfl)
                  have e35 := (eval_tmp FA 35).symm.trans ev35
                  replace ev35 := Lib.hid ev35
                  first | have ge35 := slot_of e35 | have ge35 := slot_un e35
                  clear hO hD
                  first | (go_simp; exact hK.out _ _ (Ex.refl _) rfl) | (rcases ge35 with ge35 | ge35 <;> (go_simp; exact hK.out _ _ (Ex.refl _) rfl))
                apply Steps.one (MP.eq _) 10 rfl
                · intro o ho FA x hO hD K hK
                  obtain rfl := Option.some.inj ho.symm
                  clear ho
                  have ev40 : FA.eval (.tmp 40) = _ := hD 7 40 (by kernel_rfl)
                  have e40 := (eval_tmp FA 40).symm.trans ev40
                  replace ev40 := Lib.hid ev40
                  have ev41 : FA.eval (.tmp 41) = _ := hD 8 41 (by kernel_rfl)
                  have e41 := (eval_tmp FA 41).symm.trans ev41
                  replace ev41 := Lib.hid ev41
                  have ev35 : FA.eval (.tmp 35) = _ := hD 2 35 (by kernel_rfl)
                  have e35 := (eval_tmp FA 35).symm.trans ev35
                  replace ev35 := Lib.hid ev35
                  first | have ge35 := slot_of e35 | have ge35 := slot_un e35
                  clear hO hD
                  first | (go_simp; exact hK.out _ _ (Ex.refl _) rfl) | (rcases ge35 with ge35 | ge35 <;> (go_simp; exact hK.out _ _ (Ex.refl _) rfl))
                apply Steps.one (MP.eq _) 11 rfl
                · intro o ho FA x hO hD K hK
                  obtain rfl := Option.some.inj ho.symm
                  clear ho
                  have ev42 : FA.eval (.tmp 42) = _ := hD 9 42 (by kernel_rfl)
                  have e42 := (eval_tmp FA 42).symm.trans ev42
                  replace ev42 := Lib.hid ev42
                  have ev35 : FA.eval (.tmp 35) = _ := hD 2 35 (by kernel_rfl)
                  have e35 := (eval_tmp FA 35).symm.trans ev35
                  replace ev35 := Lib.hid ev35
                  first | have ge35 := slot_of e35 | have ge35 := slot_un e35
                  clear hO hD
                  first | (go_simp; exact hK.out _ _ (Ex.refl _) rfl) | (rcases ge35 with ge35 | ge35 <;> (go_simp; exact hK.out _ _ (Ex.refl _) rfl))
                apply Steps.one (MP.eq _) 12 rfl
                · intro o ho FA x hO hD K hK
                  obtain rfl := Option.some.inj ho.symm
                  clear ho
                  have e8 := hO 8 (by kernel_rfl)
                  simp only [eval_tmp, List.getElem?_toArray, List.getElem?_cons_succ, List.getElem?_cons_zero, Option.getD_some] at e8
                  have ev8 := Lib.hid ((eval_tmp FA 8).trans e8)
                  have ev43 : FA.eval (.tmp 43) = _ := hD 10 43 (by kernel_rfl)
                  have e43 := (eval_tmp FA 43).symm.trans ev43
                  replace ev43 := Lib.hid ev43
                  first | have ge43 := slot_of e43 | have ge43 := slot_un e43
                  clear hO hD
                  first | (go_simp; exact hK.out _ _ (Ex.refl _) rfl) | (rcases ge43 with ge43 | ge43 <;> (go_simp; exact hK.out _ _ (Ex.refl _) rfl))
                apply Steps.one (MP.eq _) 13 rfl
                · intro o ho FA x hO hD K hK
                  obtain rfl := Option.some.inj ho.symm
                  clear ho
                  have e11 := hO 11 (by kernel_rfl)
                  simp only [eval_tmp, List.getElem?_toArray, List.getElem?_cons_succ, List.getElem?_cons_zero, Option.getD_some] at e11
                  have ev11 := Lib.hid ((eval_tmp FA 11).trans e11)
                  have ev43 : FA.eval (.tmp 43) = _ := hD 10 43 (by kernel_rfl)
                  have e43 := (eval_tmp FA 43).symm.trans ev43
                  replace ev43 := Lib.hid ev43
                  first | have ge43 := slot_of e43 | have ge43 := slot_un e43
                  clear hO hD
                  first | (go_simp; exact hK.out _ _ (Ex.refl _) rfl) | (rcases ge43 with ge43 | ge43 <;> (go_simp; exact hK.out _ _ (Ex.refl _) rfl))
                apply Steps.one (MP.eq _) 14 rfl
                · intro o ho FA x hO hD K hK
                  obtain rfl := Option.some.inj ho.symm
                  clear ho
                  have ev45 : FA.eval (.tmp 45) = _ := hD 12 45 (by kernel_rfl)
                  have e45 := (eval_tmp FA 45).symm.trans ev45
                  replace ev45 := Lib.hid ev45
                  have ev43 : FA.eval (.tmp 43) = _ := hD 10 43 (by kernel_rfl)
                  have e43 := (eval_tmp FA 43).symm.trans ev43
                  replace ev43 := Lib.hid ev43
                  first | have ge43 := slot_of e43 | have ge43 := slot_un e43
                  clear hO hD
                  first | (go_simp; exact hK.out _ _ (Ex.refl _) rfl) | (rcases ge43 with ge43 | ge43 <;> (go_simp; exact hK.out _ _ (Ex.refl _) rfl))
                apply Steps.one (MP.eq _) 15 rfl
                · intro o ho FA x hO hD K hK
                  obtain rfl := Option.some.inj ho.symm
                  clear ho
                  have ev44 : FA.eval (.tmp 44) = _ := hD 11 44 (by kernel_rfl)
                  have e44 := (eval_tmp FA 44).symm.trans ev44
                  replace ev44 := Lib.hid ev44
                  have ev46 : FA.eval (.tmp 46) = _ := hD 13 46 (by kernel_rfl)
                  have e46 := (eval_tmp FA 46).symm.trans ev46
                  replace ev46 := Lib.hid ev46
                  have ev43 : FA.eval (.tmp 43) = _ := hD 10 43 (by kernel_rfl)
                  have e43 := (eval_tmp FA 43).symm.trans ev43
                  replace ev43 := Lib.hid ev43
                  first | have ge43 := slot_of e43 | have ge43 := slot_un e43
                  clear hO hD
                  first | (go_simp; exact hK.out _ _ (Ex.refl _) rfl) | (rcases ge43 with ge43 | ge43 <;> (go_simp; exact hK.out _ _ (Ex.refl _) rfl))
                apply Steps.one (MP.eq _) 16 rfl
                · intro o ho FA x hO hD K hK
                  obtain rfl := Option.some.inj ho.symm
                  clear ho
                  have ev47 : FA.eval (.tmp 47) = _ := hD 14 47 (by kernel_rfl)
                  have e47 := (eval_tmp FA 47).symm.trans ev47
                  replace ev47 := Lib.hid ev47
                  have ev43 : FA.eval (.tmp 43) = _ := hD 10 43 (by kernel_rfl)
                  have e43 := (eval_tmp FA 43).symm.trans ev43
                  replace ev43 := Lib.hid ev43
                  first | have ge43 := slot_of e43 | have ge43 := slot_un e43
                  clear hO hD
                  first | (refine wanted_ifG ?_ ?_; (· go_simp); have q9 := (HC.out (plus wr x.bs x.d) (below_plus _ _ _)).1; go_simp; exact hK.out _ _ (Ex.refl _) rfl) | (go_simp; exact hK.out _ _ (Ex.refl _) rfl) | (rcases ge43 with ge43 | ge43 <;> (go_simp; exact hK.out _ _ (Ex.refl _) rfl))
                apply Steps.one (MP.eq _) 17 rfl
                · intro o ho FA x hO hD K hK
                  obtain rfl := Option.some.inj ho.symm
                  clear ho
                  have e10 := hO 10 (by kernel_rfl)
                  simp only [eval_tmp, List.getElem?_toArray, List.getElem?_cons_succ, List.getElem?_cons_zero, Option.getD_some] at e10
                  have ev10 := Lib.hid ((eval_tmp FA 10).trans e10)
                  have ev43 : FA.eval (.tmp 43) = _ := hD 10 43 (by kernel_rfl)
                  have e43 := (eval_tmp FA 43).symm.trans ev43
                  replace ev43 := Lib.hid ev43
                  first | have ge43 := slot_of e43 | have ge43 := slot_un e43
                  clear hO hD
                  first | (go_simp; exact hK.out _ _ (Ex.refl _) rfl) | (rcases ge43 with ge43 | ge43 <;> (go_simp; exact hK.out _ _ (Ex.refl _) rfl))
                apply Steps.one (MP.eq _) 18 rfl
                · intro o ho FA x hO hD K hK
                  obtain rfl := Option.some.inj ho.symm
                  clear ho
                  have ev48 : FA.eval (.tmp 48) = _ := hD 15 48 (by kernel_rfl)
                  have e48 := (eval_tmp FA 48).symm.trans ev48
                  replace ev48 := Lib.hid ev48
                  have ev49 : FA.eval (.tmp 49) = _ := hD 16 49 (by kernel_rfl)
                  have e49 := (eval_tmp FA 49).symm.trans ev49
                  replace ev49 := Lib.hid ev49
                  have ev43 : FA.eval (.tmp 43) = _ := hD 10 43 (by kernel_rfl)
                  have e43 := (eval_tmp FA 43).symm.trans ev43
                  replace ev43 := Lib.hid ev43
                  first | have ge43 := slot_of e43 | have ge43 := slot_un e43
                  clear hO hD
                  first | (go_simp; exact hK.out _ _ (Ex.refl _) rfl) | (rcases ge43 with ge43 | ge43 <;> (go_simp; exact hK.out _ _ (Ex.refl _) rfl))
                apply Steps.one (MP.eq _) 19 rfl
                · intro o ho FA x hO hD K hK
                  obtain rfl := Option.some.inj ho.symm
                  clear ho
                  have ev50 : FA.eval (.tmp 50) = _ := hD 17 50 (by kernel_rfl)
                  have e50 := (eval_tmp FA 50).symm.trans ev50
                  replace ev50 := Lib.hid ev50
                  have ev43 : FA.eval (.tmp 43) = _ := hD 10 43 (by kernel_rfl)
                  have e43 := (eval_tmp FA 43).symm.trans ev43
                  replace ev43 := Lib.hid ev43
                  first | have ge43 := slot_of e43 | have ge43 := slot_un e43
                  clear hO hD
                  first | (go_simp; exact hK.out _ _ (Ex.refl _) rfl) | (rcases ge43 with ge43 | ge43 <;> (go_simp; exact hK.out _ _ (Ex.refl _) rfl))
                apply Steps.one (MP.eq _) 20 rfl
                · intro o ho FA x hO hD K hK
                  obtain rfl := Option.some.inj ho.symm
                  clear ho
                  have e7 := hO 7 (by kernel_rfl)
                  simp only [eval_tmp, List.getElem?_toArray, List.getElem?_cons_succ, List.getElem?_cons_zero, Option.getD_some] at e7
                  have ev7 := Lib.hid ((eval_tmp FA 7).trans e7)
                  have ev51 : FA.eval (.tmp 51) = _ := hD 18 51 (by kernel_rfl)
                  have e51 := (eval_tmp FA 51).symm.trans ev51
                  replace ev51 := Lib.hid ev51
                  first | have ge51 := slot_of e51 | have ge51 := slot_un e51
                  clear hO hD
                  first | (go_simp; exact hK.out _ _ (Ex.refl _) rfl) | (rcases ge51 with ge51 | ge51 <;> (go_simp; exact hK.out _ _ (Ex.refl _) rfl))
                apply Steps.one (MP.eq _) 21 rfl
                · intro o ho FA x hO hD K hK
                  obtain rfl := Option.some.inj ho.symm
                  clear ho
                  have e11 := hO 11 (by kernel_rfl)
                  simp only [eval_tmp, List.getElem?_toArray, List.getElem?_cons_succ, List.getElem?_cons_zero, Option.getD_some] at e11
                  have ev11 := Lib.hid ((eval_tmp FA 11).trans e11)
                  have ev51 : FA.eval (.tmp 51) = _ := hD 18 51 (by kernel_rfl)
                  have e51 := (eval_tmp FA 51).symm.trans ev51
                  replace ev51 := Lib.hid ev51
                  first | have ge51 := slot_of e51 | have ge51 := slot_un e51
                  clear hO hD
                  first | (go_simp; exact hK.out _ _ (Ex.refl _) rfl) | (rcases ge51 with ge51 | ge51 <;> (go_simp; exact hK.out _ _ (Ex.refl _) rfl))
                apply Steps.one (MP.eq _) 22 rfl
                · intro o ho FA x hO hD K hK
                  obtain rfl := Option.some.inj ho.symm
                  clear ho
                  have ev53 : FA.eval (.tmp 53) = _ := hD 20 53 (by kernel_rfl)
                  have e53 := (eval_tmp FA 53).symm.trans ev53
                  replace ev53 := Lib.hid ev53
                  have ev51 : FA.eval (.tmp 51) = _ := hD 18 51 (by kernel_rfl)
                  have e51 := (eval_tmp FA 51).symm.trans ev51
                  replace ev51 := Lib.hid ev51
                  first | have ge51 := slot_of e51 | have ge51 := slot_un e51
                  clear hO hD
                  first | (go_simp; exact hK.out _ _ (Ex.refl _) rfl) | (rcases ge51 with ge51 | ge51 <;> (go_simp; exact hK.out _ _ (Ex.refl _) rfl))
                apply Steps.one (MP.eq _) 23 rfl
                · intro o ho FA x hO hD K hK
                  obtain rfl := Option.some.inj ho.symm
                  clear ho
                  have ev52 : FA.eval (.tmp 52) = _ := hD 19 52 (by kernel_rfl)
                  have e52 := (eval_tmp FA 52).symm.trans ev52
                  replace ev52 := Lib.hid ev52
                  have ev54 : FA.eval (.tmp 54) = _ := hD 21 54 (by kernel_rfl)
                  have e54 := (eval_tmp FA 54).symm.trans ev54
                  replace ev54 := Lib.hid ev54
                  have ev51 : FA.eval (.tmp 51) = _ := hD 18 51 (by kernel_rfl)
                  have e51 := (eval_tmp FA 51).symm.trans ev51
                  replace ev51 := Lib.hid ev51
                  first | have ge51 := slot_of e51 | have ge51 := slot_un e51
                  clear hO hD
                  first | (go_simp; exact hK.out _ _ (Ex.refl _) rfl) | (rcases ge51 with ge51 | ge51 <;> (go_simp; exact hK.out _ _ (Ex.refl _) rfl))
                apply Steps.one (MP.eq _) 24 rfl
                · intro o ho FA x hO hD K hK
                  obtain rfl := Option.some.inj ho.symm
                  clear ho
                  have ev55 : FA.eval (.tmp 55) = _ := hD 22 55 (by kernel_rfl)
                  have e55 := (eval_tmp FA 55).symm.trans ev55
                  replace ev55 := Lib.hid ev55
                  have ev51 : FA.eval (.tmp 51) = _ := hD 18 51 (by kernel_rfl)
                  have e51 := (eval_tmp FA 51).symm.trans ev51
                  replace ev51 := Lib.hid ev51
                  first | have ge51 := slot_of e51 | have ge51 := slot_un e51
                  clear hO hD
                  first | (refine wanted_ifG ?_ ?_; (· go_simp); have q9 := (HC.out (plus wr x.bs x.d) (below_plus _ _ _)).2.1; go_simp; exact hK.out _ _ (Ex.refl _) rfl) | (go_simp; exact hK.out _ _ (Ex.refl _) rfl) | (rcases ge51 with ge51 | ge51 <;> (go_simp; exact hK.out _ _ (Ex.refl _) rfl))
                apply Steps.one (MP.eq _) 25 rfl
                · intro o ho FA x hO hD K hK
                  obtain rfl := Option.some.inj ho.symm
                  clear ho
                  have e1 := hO 1 (by kernel_rfl)
                  simp only [eval_tmp, List.getElem?_toArray, List.getElem?_cons_succ, List.getElem?_cons_zero, Option.getD_some] at e1
                  have ev1 := Lib.hid ((eval_tmp FA 1).trans e1)
                  have ev51 : FA.eval (.tmp 51) = _ := hD 18 51 (by kernel_rfl)
                  have e51 := (eval_tmp FA 51).symm.trans ev51
                  replace ev51 := Lib.hid ev51
                  first | have ge51 := slot_of e51 | have ge51 := slot_un e51
                  clear hO hD
                  first | (go_simp; exact hK.out _ _ (Ex.refl _) rfl) | (rcases ge51 with ge51 | ge51 <;> (go_simp; exact hK.out _ _ (Ex.refl _) rfl))
                apply Steps.one (MP.eq _) 26 rfl
                · intro o ho FA x hO hD K hK
                  obtain rfl := Option.some.inj ho.symm
                  clear ho
                  have e9 := hO 9 (by kernel_rfl)
                  simp only [eval_tmp, List.getElem?_toArray, List.getElem?_cons_succ, List.getElem?_cons_zero, Option.getD_some] at e9
                  have ev9 := Lib.hid ((eval_tmp FA 9).trans e9)
                  have ev51 : FA.eval (.tmp 51) = _ := hD 18 51 (by kernel_rfl)
                  have e51 := (eval_tmp FA 51).symm.trans ev51
                  replace ev51 := Lib.hid ev51
                  first | have ge51 := slot_of e51 | have ge51 := slot_un e51
                  clear hO hD
                  first | (go_simp; exact hK.out _ _ (Ex.refl _) rfl) | (rcases ge51 with ge51 | ge51 <;> (go_simp; exact hK.out _ _ (Ex.refl _) rfl))
                apply Steps.one (MP.eq _) 27 rfl
                · intro o ho FA x hO hD K hK
                  obtain rfl := Option.some.inj ho.symm
                  clear ho
                  have ev57 : FA.eval (.tmp 57) = _ := hD 24 57 (by kernel_rfl)
                  have e57 := (eval_tmp FA 57).symm.trans ev57
                  replace ev57 := Lib.hid ev57
                  have ev58 : FA.eval (.tmp 58) = _ := hD 25 58 (by kernel_rfl)
                  have e58 := (eval_tmp FA 58).symm.trans ev58
                  replace ev58 := Lib.hid ev58
                  have ev51 : FA.eval (.tmp 51) = _ := hD 18 51 (by kernel_rfl)
                  have e51 := (eval_tmp FA 51).symm.trans ev51
                  replace ev51 := Lib.hid ev51
                  first | have ge51 := slot_of e51 | have ge51 := slot_un e51
                  clear hO hD
                  first | (go_simp; exact hK.out _ _ (Ex.refl _) rfl) | (rcases ge51 with ge51 | ge51 <;> (go_simp; exact hK.out _ _ (Ex.refl _) rfl))
                apply Steps.one (MP.eq _) 28 rfl
                · intro o ho FA x hO hD K hK
                  obtain rfl := Option.some.inj ho.symm
                  clear ho
                  have ev59 : FA.eval (.tmp 59) = _ := hD 26 59 (by kernel_rfl)
                  have e59 := (eval_tmp FA 59).symm.trans ev59
                  replace ev59 := Lib.hid ev59
                  have ev51 : FA.eval (.tmp 51) = _ := hD 18 51 (by kernel_rfl)
                  have e51 := (eval_tmp FA 51).symm.trans ev51
                  replace ev51 := Lib.hid ev51
                  first | have ge51 := slot_of e51 | have ge51 := slot_un e51
                  clear hO hD
                  first | (go_simp; exact hK.out _ _ (Ex.refl _) rfl) | (rcases ge51 with ge51 | ge51 <;> (go_simp; exact hK.out _ _ (Ex.refl _) rfl))
                apply Steps.one (MP.eq _) 29 rfl
                · intro o ho FA x hO hD K hK
                  obtain rfl := Option.some.inj ho.symm
                  clear ho
                  have ev60 : FA.eval (.tmp 60) = _ := hD 27 60 (by kernel_rfl)
                  have e60 := (eval_tmp FA 60).symm.trans ev60
                  replace ev60 := Lib.hid ev60
                  have ev51 : FA.eval (.tmp 51) = _ := hD 18 51 (by kernel_rfl)
                  have e51 := (eval_tmp FA 51).symm.trans ev51
                  replace ev51 := Lib.hid ev51
                  first | have ge51 := slot_of e51 | have ge51 := slot_un e51
                  clear hO hD
                  first | (refine wanted_ifG ?_ ?_; (· go_simp); have q9 := (HC.out (plus wr x.bs x.d) (below_plus _ _ _)).2.2; go_simp; exact hK.out _ _ (Ex.refl _) rfl) | (go_simp; exact hK.out _ _ (Ex.refl _) rfl) | (rcases ge51 with ge51 | ge51 <;> (go_simp; exact hK.out _ _ (Ex.refl _) rfl))
                apply Steps.one (MP.eq _) 30 rfl
                · intro o ho FA x hO hD K hK
                  obtain rfl := Option.some.inj ho.symm
                  clear ho
                  have ev56 : FA.eval (.tmp 56) = _ := hD 23 56 (by kernel_rfl)
                  have e56 := (eval_tmp FA 56).symm.trans ev56
                  replace ev56 := Lib.hid ev56
                  have ev61 : FA.eval (.tmp 61) = _ := hD 28 61 (by kernel_rfl)
                  have e61 := (eval_tmp FA 61).symm.trans ev61
                  replace ev61 := Lib.hid ev61
                  have ev51 : FA.eval (.tmp 51) = _ := hD 18 51 (by kernel_rfl)
                  have e51 := (eval_tmp FA 51).symm.trans ev51
                  replace ev51 := Lib.hid ev51
                  first | have ge51 := slot_of e51 | have ge51 := slot_un e51
                  clear hO hD
                  first | (go_simp; exact hK.out _ _ (Ex.refl _) rfl) | (rcases ge51 with ge51 | ge51 <;> (go_simp; exact hK.out _ _ (Ex.refl _) rfl))
                apply Steps.one (MP.eq _) 31 rfl
                · intro o ho FA x hO hD K hK
                  obtain rfl := Option.some.inj ho.symm
                  clear ho
                  have ev51 : FA.eval (.tmp 51) = _ := hD 18 51 (by kernel_rfl)
                  have e51 := (eval_tmp FA 51).symm.trans ev51
                  replace ev51 := Lib.hid ev51
                  have ev62 : FA.eval (.tmp 62) = _ := hD 29 62 (by kernel_rfl)
                  have e62 := (eval_tmp FA 62).symm.trans ev62
                  replace ev62 := Lib.hid ev62
                  have ev43 : FA.eval (.tmp 43) = _ := hD 10 43 (by kernel_rfl)
                  have e43 := (eval_tmp FA 43).symm.trans ev43
                  replace ev43 := Lib.hid ev43
                  first | have ge43 := slot_of e43 | have ge43 := slot_un e43
                  clear hO hD
                  first | (go_simp; exact hK.out _ _ (Ex.refl _) rfl) | (rcases ge43 with ge43 | ge43 <;> (go_simp; exact hK.out _ _ (Ex.refl _) rfl))
                apply Steps.one (MP.eq _) 32 rfl
                · intro o ho FA x hO hD K hK
                  obtain rfl := Option.some.inj ho.symm
                  clear ho
                  have ev43 : FA.eval (.tmp 43) = _ := hD 10 43 (by kernel_rfl)
                  have e43 := (eval_tmp FA 43).symm.trans ev43
                  replace ev43 := Lib.hid ev43
                  have ev63 : FA.eval (.tmp 63) = _ := hD 30 63 (by kernel_rfl)
                  have e63 := (eval_tmp FA 63).symm.trans ev63
                  replace ev63 := Lib.hid ev63
                  have ev35 : FA.eval (.tmp 35) = _ := hD 2 35 (by kernel_rfl)
                  have e35 := (eval_tmp FA 35).symm.trans ev35
                  replace ev35 := Lib.hid ev35
                  first | have ge35 := slot_of e35 | have ge35 := slot_un e35
                  clear hO hD
                  first | (go_simp; exact hK.out _ _ (Ex.refl _) rfl) | (rcases ge35 with ge35 | ge35 <;> (go_simp; exact hK.out _ _ (Ex.refl _) rfl))
                apply Steps.one (MP.eq _) 33 rfl
                · intro o ho FA x hO hD K hK
                  obtain rfl := Option.some.inj ho.symm
                  clear ho
                  have ev35 : FA.eval (.tmp 35) = _ := hD 2 35 (by kernel_rfl)
                  have e35 := (eval_tmp FA 35).symm.trans ev35
                  replace ev35 := Lib.hid ev35
                  have ev64 : FA.eval (.tmp 64) = _ := hD 31 64 (by kernel_rfl)
                  have e64 := (eval_tmp FA 64).symm.trans ev64
                  replace ev64 := Lib.hid ev64
                  clear hO hD
                  go_simp
                  exact hK.out _ _ (Ex.refl _) rfl
                refine Steps.fin_ (fun vs x hp => ?_)
                have p0 : vs 0 = _ := hp 0 (by omega)
                have p1 : vs 1 = _ := hp 1 (by omega)
                have p2 : vs 2 = _ := hp 2 (by omega)
                have p3 : vs 3 = _ := hp 3 (by omega)
                have p4 : vs 4 = _ := hp 4 (by omega)
                have p5 : vs 5 = _ := hp 5 (by omega)
                have p6 : vs 6 = _ := hp 6 (by omega)
                have p7 : vs 7 = _ := hp 7 (by omega)
                have p8 : vs 8 = _ := hp 8 (by omega)
                have p9 : vs 9 = _ := hp 9 (by omega)
                have p10 : vs 10 = _ := hp 10 (by omega)
                have p11 : vs 11 = _ := hp 11 (by omega)
                have p12 : vs 12 = _ := hp 12 (by omega)
                have p13 : vs 13 = _ := hp 13 (by omega)
                have p14 : vs 14 = _ := hp 14 (by omega)
                have p15 : vs 15 = _ := hp 15 (by omega)
                have p16 : vs 16 = _ := hp 16 (by omega)
                have p17 : vs 17 = _ := hp 17 (by omega)
                have p18 : vs 18 = _ := hp 18 (by omega)
                have p19 : vs 19 = _ := hp 19 (by omega)
                have p20 : vs 20 = _ := hp 20 (by omega)
                have p21 : vs 21 = _ := hp 21 (by omega)
                have p22 : vs 22 = _ := hp 22 (by omega)
                have p23 : vs 23 = _ := hp 23 (by omega)
                have p24 : vs 24 = _ := hp 24 (by omega)
                have p25 : vs 25 = _ := hp 25 (by omega)
                have p26 : vs 26 = _ := hp 26 (by omega)
                have p27 : vs 27 = _ := hp 27 (by omega)
                have p28 : vs 28 = _ := hp 28 (by omega)
                have p29 : vs 29 = _ := hp 29 (by omega)
                have p30 : vs 30 = _ := hp 30 (by omega)
                have p31 : vs 31 = _ := hp 31 (by omega)
                have p32 : vs 32 = _ := hp 32 (by omega)
                clear hp
                simp only [List.take_succ_cons, List.take_zero, List.drop_succ_cons, List.drop_zero, putAll, Nat.zero_add, Nat.reduceAdd, Act.put, List.setIfInBounds_toArray, List.set_cons_zero, List.set_cons_succ, p0, p1, p2, p3, p4, p5, p6, p7, p8, p9, p10, p11, p12, p13, p14, p15, p16, p17, p18, p19, p20, p21, p22, p23, p24, p25, p26, p27, p28, p29, p30, p31, p32]
                clear p0 p1 p2 p3 p4 p5 p6 p7 p8 p9 p10 p11 p12 p13 p14 p15 p16 p17 p18 p19 p20 p21 p22 p23 p24 p25 p26 p27 p28 p29 p30 p31 p32
                clear vs
                have hEW := belowP hE9 x.bs x.d
                have hVW := belowP hV9 x.bs x.d
                have hW2 := belowP hE9b x.bs x.d
                have hOW := hO.later hW2
                have hZW := hZ.later hW2
                have hkW := hk2.later hW2
                clear hE9 hV9 hE9b hW2 HC
                generalize plus wr x.bs x.d = W at *
                have hPo : Rs 1 W (some ⟨bO, oO, none⟩ : Option Addr) q c1 (itH Po) := by
                  have h := hOW.take (k := q) (by omega)
                  rw [Nat.mul_one] at h
                  rw [← HPo.out]; simpa [itH, List.map_take] using h
                have hQo : Rs 1 W (cutA (some ⟨bO, oO, none⟩ : Option Addr) c1 q 1) (n1 - q) (c1 - q) (itH Qo) := by
                  have h := hOW.cut (k := q) (by omega)
                  rw [Nat.mul_one] at h
                  rw [← HQo.out]; simpa [itH, List.map_drop] using h
                have hPs : Rs 1 W (some ⟨bS, oS, none⟩ : Option Addr) q c2 (usH Ps) := by
                  have h := hZW.take (k := q) (by omega)
                  rw [Nat.mul_one] at h
                  rw [← HPs.out]; simpa [usH, List.map_take] using h
                have hQs : Rs 1 W (cutA (some ⟨bS, oS, none⟩ : Option Addr) c2 q 1) (n1 - q) (c2 - q) (usH Qs) := by
                  have h := hZW.cut (k := q) (by omega)
                  rw [Nat.mul_one] at h
                  rw [← HQs.out]; simpa [usH, List.map_drop] using h
                have hcap1 := hOW.2.1
                have hcap2 := hZW.2.1
                have iq1 : (q : Int) ≤ (n1 : Int) := by omega
                have iq2 : (q : Int) ≤ (c1 : Int) := by omega
                have iq3 : (q : Int) ≤ (c2 : Int) := by omega
                have iq4 : (n1 : Int) ≤ (c1 : Int) := by omega
                have iq5 : (n1 : Int) ≤ (c2 : Int) := by omega
                have HL2 : Hid (Po.length ≤ 12 ∧ Ps.length ≤ 12) := Lib.hid (by rw [← HPo.out, ← HPs.out]; simp; omega)
                have hblW : bl < W.heap.size := Nat.lt_of_lt_of_le hbl hVW.size
                have HID := Lib.hid (fun w' (h : Kept (fun b => b < W.heap.size) W w') => show w'.cell? ⟨bl, ol + j * 2, none⟩ = some (.int .i64 (id : Int)) from (World.cell?_of_block (h.block bl hblW hblW)).trans ((HQ2.out W hVW).1))
                clear hO hZ hk2 hOW hZW
                go_upto_region 11 with (fail)
                go_wp2
                refine wp_own (fun b => b < W.heap.size) 17 0 97 2 (fun i => match i with | i => i) (fun i => match i with | 4 => [0] | 11 => [4] | 15 => [11] | 16 => [15] | _ => []) (fun i => match i with | _ => undef) rfl (by kernel_rfl) (by kernel_rfl) (fun i => match i with | 0 => Own.osr 3 1 W.heap.size ([]) | 1 => Own.eq (.slice (some ⟨bO, oO, none⟩ : Option Addr) n1 c1) | 2 => Own.eq (.int .i64 (q : Int)) | 3 => Own.eq (.slice (some ⟨bO, oO, none⟩ : Option Addr) q c1) | 4 => Own.osr 3 1 W.heap.size ([] ++ itH Po) | 5 => Own.eq (.slice (some ⟨bl, ol, none⟩) nl cl) | 6 => Own.eq (.int .i64 (j : Int)) | 7 => Own.eq (.pointer (some ⟨bl, ol + j * 2, none⟩)) | 8 => Own.eq (.pointer (some ⟨bl, ol + j * 2, none⟩)) | 9 => Own.eq (.int .i64 (id : Int)) | 10 => Own.osr 3 1 W.heap.size ([.int .i64 (id : Int)]) | 11 => Own.osr 3 1 W.heap.size (([] ++ itH Po) ++ [.int .i64 (id : Int)]) | 12 => Own.eq (.slice (some ⟨bO, oO, none⟩ : Option Addr) n1 c1) | 13 => Own.eq (.int .i64 (q : Int)) | 14 => Own.eq (.slice (cutA (some ⟨bO, oO, none⟩ : Option Addr) c1 q 1) (n1 - q) (c1 - q)) | 15 => Own.osr 3 1 W.heap.size ((([] ++ itH Po) ++ [.int .i64 (id : Int)]) ++ itH Qo) | 16 => Own.osr 3 1 W.heap.size ((([] ++ itH Po) ++ [.int .i64 (id : Int)]) ++ itH Qo) | _ => Own.any) (fun b h => h) ?_ ?_ ?_ ?_ ?_
                · exact fun t ht => absurd ht (by omega)
                · exact fun t t' ht => absurd ht (by omega)
                · exact fun t ht => absurd ht (by omega)
                · intro i hi o ho FA w' vs H K hK
                  match i, hi, ho, H, hK with
                  | 0, _, ho, H, hK => 
                    obtain rfl := Option.some.inj ho.symm
                    clear ho
                    go_simp
                    have ho1 := Os.lit (s := 1) (e := 3) w' (Nat.le_refl _) #[] 0 rfl (Nat.zero_le _)
                    exact hK.out _ _ (chgX (Ex.alloc _ _)) ⟨_, _, _, rfl, ho1.mono H.kept.size⟩ (fun b hb => .inr (ho1.blk b hb).1)
                  | 1, _, ho, H, hK => 
                    obtain rfl := Option.some.inj ho.symm
                    clear ho
                    have ev7 : FA.eval (.tmp 7) = .slice (some ⟨bO, oO, none⟩ : Option Addr) n1 c1 := H.out 7 (by kernel_rfl)
                    have e7 : FA.tmps[7]?.getD undef = .slice (some ⟨bO, oO, none⟩ : Option Addr) n1 c1 := by simpa [Act.eval] using ev7
                    replace ev7 := Lib.hid ev7
                    go_simp
                    exact hK.out _ _ (chgX (Ex.refl _)) rfl (fun _ h => h.elim)
                  | 2, _, ho, H, hK => 
                    obtain rfl := Option.some.inj ho.symm
                    clear ho
                    have ev11 : FA.eval (.tmp 11) = .int .i64 (q : Int) := H.out 11 (by kernel_rfl)
                    have e11 : FA.tmps[11]?.getD undef = .int .i64 (q : Int) := by simpa [Act.eval] using ev11
                    replace ev11 := Lib.hid ev11
                    go_simp
                    exact hK.out _ _ (chgX (Ex.refl _)) rfl (fun _ h => h.elim)
                  | 3, _, ho, H, hK => 
                    obtain rfl := Option.some.inj ho.symm
                    clear ho
                    have ev69 : FA.eval (.tmp 69) = .slice (some ⟨bO, oO, none⟩ : Option Addr) n1 c1 := (H.dep 1 69 (by kernel_rfl)).trans (H.word 1 (by omega) (by kernel_rfl))
                    have e69 : FA.tmps[69]?.getD undef = .slice (some ⟨bO, oO, none⟩ : Option Addr) n1 c1 := by simpa [Act.eval] using ev69
                    replace ev69 := Lib.hid ev69
                    have ev70 : FA.eval (.tmp 70) = .int .i64 (q : Int) := (H.dep 2 70 (by kernel_rfl)).trans (H.word 2 (by omega) (by kernel_rfl))
                    have e70 : FA.tmps[70]?.getD undef = .int .i64 (q : Int) := by simpa [Act.eval] using ev70
                    replace ev70 := Lib.hid ev70
                    go_simp
                    exact hK.out _ _ (chgX (Ex.refl _)) rfl (fun _ h => h.elim)
                  | 4, _, ho, H, hK => 
                    obtain rfl := Option.some.inj ho.symm
                    clear ho
                    have ev68 := H.dep 0 68 (by kernel_rfl)
                    have e68 : FA.tmps[68]?.getD undef = vs 0 := by simpa [Act.eval] using ev68
                    replace ev68 := Lib.hid ev68
                    have ev71 : FA.eval (.tmp 71) = .slice (some ⟨bO, oO, none⟩ : Option Addr) q c1 := (H.dep 3 71 (by kernel_rfl)).trans (H.word 3 (by omega) (by kernel_rfl))
                    have e71 : FA.tmps[71]?.getD undef = .slice (some ⟨bO, oO, none⟩ : Option Addr) q c1 := by simpa [Act.eval] using ev71
                    replace ev71 := Lib.hid ev71
                    obtain ⟨A1, n1, c1, hv1, h1⟩ := H.word 0 (by omega) (by kernel_rfl)
                    have hn1 : n1 ≤ 2000 := by have := h1.rs.1; simp only [List.length_append, List.length_nil, itH_len, List.length_cons] at this; have := HL2.out; (try simp at this); omega
                    refine wanted_if rfl ?_
                    refine own_appS etIH (.tmp 68) (.tmp 71) rfl (ev68.out.trans hv1) h1 ev71.out (hPo.kept H.kept (fun a e h => h)) (itH_one _) (by omega) H.kept.size ?_
                    intro A3 n3 c3 w3 hn3 ho3 hg3 hf3
                    refine hK.out _ _ (Chg.grown hg3 (fun k hk => ⟨0, rfl, by show (vs 0).ownBlock = some k; rw [hv1]; exact hk⟩)) ⟨_, _, _, rfl, ho3⟩ (fun b hb => ?_)
                    rcases hf3 b hb with h | h
                    · exact .inl ⟨0, rfl, by show (vs 0).ownBlock = some b; rw [hv1]; exact h⟩
                    · exact .inr h
                  | 5, _, ho, H, hK => 
                    obtain rfl := Option.some.inj ho.symm
                    clear ho
                    have ev1 : FA.eval (.tmp 1) = .slice (some ⟨bl, ol, none⟩) nl cl := H.out 1 (by kernel_rfl)
                    have e1 : FA.tmps[1]?.getD undef = .slice (some ⟨bl, ol, none⟩) nl cl := by simpa [Act.eval] using ev1
                    replace ev1 := Lib.hid ev1
                    go_simp
                    exact hK.out _ _ (chgX (Ex.refl _)) rfl (fun _ h => h.elim)
                  | 6, _, ho, H, hK => 
                    obtain rfl := Option.some.inj ho.symm
                    clear ho
                    have ev9 : FA.eval (.tmp 9) = .int .i64 (j : Int) := H.out 9 (by kernel_rfl)
                    have e9 : FA.tmps[9]?.getD undef = .int .i64 (j : Int) := by simpa [Act.eval] using ev9
                    replace ev9 := Lib.hid ev9
                    go_simp
                    exact hK.out _ _ (chgX (Ex.refl _)) rfl (fun _ h => h.elim)
                  | 7, _, ho, H, hK => 
                    obtain rfl := Option.some.inj ho.symm
                    clear ho
                    have ev73 : FA.eval (.tmp 73) = .slice (some ⟨bl, ol, none⟩) nl cl := (H.dep 5 73 (by kernel_rfl)).trans (H.word 5 (by omega) (by kernel_rfl))
                    have e73 : FA.tmps[73]?.getD undef = .slice (some ⟨bl, ol, none⟩) nl cl := by simpa [Act.eval] using ev73
                    replace ev73 := Lib.hid ev73
                    have ev74 : FA.eval (.tmp 74) = .int .i64 (j : Int) := (H.dep 6 74 (by kernel_rfl)).trans (H.word 6 (by omega) (by kernel_rfl))
                    have e74 : FA.tmps[74]?.getD undef = .int .i64 (j : Int) := by simpa [Act.eval] using ev74
                    replace ev74 := Lib.hid ev74
                    go_simp
                    exact hK.out _ _ (chgX (Ex.refl _)) rfl (fun _ h => h.elim)
                  | 8, _, ho, H, hK => 
                    obtain rfl := Option.some.inj ho.symm
                    clear ho
                    have ev75 : FA.eval (.tmp 75) = .pointer (some ⟨bl, ol + j * 2, none⟩) := (H.dep 7 75 (by kernel_rfl)).trans (H.word 7 (by omega) (by kernel_rfl))
                    have e75 : FA.tmps[75]?.getD undef = .pointer (some ⟨bl, ol + j * 2, none⟩) := by simpa [Act.eval] using ev75
                    replace ev75 := Lib.hid ev75
                    go_simp
                    exact hK.out _ _ (chgX (Ex.refl _)) rfl (fun _ h => h.elim)
                  | 9, _, ho, H, hK => 
                    obtain rfl := Option.some.inj ho.symm
                    clear ho
                    have ev76 : FA.eval (.tmp 76) = .pointer (some ⟨bl, ol + j * 2, none⟩) := (H.dep 8 76 (by kernel_rfl)).trans (H.word 8 (by omega) (by kernel_rfl))
                    have e76 : FA.tmps[76]?.getD undef = .pointer (some ⟨bl, ol + j * 2, none⟩) := by simpa [Act.eval] using ev76
                    replace ev76 := Lib.hid ev76
                    have q9 := HID.out w' H.kept
                    go_simp
                    exact hK.out _ _ (chgX (Ex.refl _)) rfl (fun _ h => h.elim)
                  | 10, _, ho, H, hK => 
                    obtain rfl := Option.some.inj ho.symm
                    clear ho
                    have ev77 : FA.eval (.tmp 77) = .int .i64 (id : Int) := (H.dep 9 77 (by kernel_rfl)).trans (H.word 9 (by omega) (by kernel_rfl))
                    have e77 : FA.tmps[77]?.getD undef = .int .i64 (id : Int) := by simpa [Act.eval] using ev77
                    replace ev77 := Lib.hid ev77
                    go_simp
                    have ho1 := Os.lit (s := 1) (e := 3) w' (Nat.le_refl _) #[.int .i64 (id : Int)] 1 rfl (by decide)
                    exact hK.out _ _ (chgX (Ex.alloc _ _)) ⟨_, _, _, rfl, ho1.mono H.kept.size⟩ (fun b hb => .inr (ho1.blk b hb).1)
                  | 11, _, ho, H, hK => 
                    obtain rfl := Option.some.inj ho.symm
                    clear ho
                    have ev72 := H.dep 4 72 (by kernel_rfl)
                    have e72 : FA.tmps[72]?.getD undef = vs 4 := by simpa [Act.eval] using ev72
                    replace ev72 := Lib.hid ev72
                    have ev78 := H.dep 10 78 (by kernel_rfl)
                    have e78 : FA.tmps[78]?.getD undef = vs 10 := by simpa [Act.eval] using ev78
                    replace ev78 := Lib.hid ev78
                    obtain ⟨A1, n1, c1, hv1, h1⟩ := H.word 4 (by omega) (by kernel_rfl)
                    obtain ⟨A2, n2, c2, hv2, h2⟩ := H.word 10 (by omega) (by kernel_rfl)
                    have hn1 : n1 ≤ 2000 := by have := h1.rs.1; simp only [List.length_append, List.length_nil, itH_len, List.length_cons] at this; have := HL2.out; (try simp at this); omega
                    have hn2 : n2 ≤ 2000 := by have := h2.rs.1; simp at this; omega
                    refine wanted_if rfl ?_
                    refine own_appS etIH (.tmp 72) (.tmp 78) rfl (ev72.out.trans hv1) h1 (ev78.out.trans hv2) h2.rs (by simp [Value.oneCell']) (by omega) H.kept.size ?_
                    intro A3 n3 c3 w3 hn3 ho3 hg3 hf3
                    refine hK.out _ _ (Chg.grown hg3 (fun k hk => ⟨4, rfl, by show (vs 4).ownBlock = some k; rw [hv1]; exact hk⟩)) ⟨_, _, _, rfl, ho3⟩ (fun b hb => ?_)
                    rcases hf3 b hb with h | h
                    · exact .inl ⟨4, rfl, by show (vs 4).ownBlock = some b; rw [hv1]; exact h⟩
                    · exact .inr h
                  | 12, _, ho, H, hK => 
                    obtain rfl := Option.some.inj ho.symm
                    clear ho
                    have ev7 : FA.eval (.tmp 7) = .slice (some ⟨bO, oO, none⟩ : Option Addr) n1 c1 := H.out 7 (by kernel_rfl)
                    have e7 : FA.tmps[7]?.getD undef = .slice (some ⟨bO, oO, none⟩ : Option Addr) n1 c1 := by simpa [Act.eval] using ev7
                    replace ev7 := Lib.hid ev7
                    go_simp
                    exact hK.out _ _ (chgX (Ex.refl _)) rfl (fun _ h => h.elim)
                  | 13, _, ho, H, hK => 
                    obtain rfl := Option.some.inj ho.symm
                    clear ho
                    have ev11 : FA.eval (.tmp 11) = .int .i64 (q : Int) := H.out 11 (by kernel_rfl)
                    have e11 : FA.tmps[11]?.getD undef = .int .i64 (q : Int) := by simpa [Act.eval] using ev11
                    replace ev11 := Lib.hid ev11
                    go_simp
                    exact hK.out _ _ (chgX (Ex.refl _)) rfl (fun _ h => h.elim)
                  | 14, _, ho, H, hK => 
                    obtain rfl := Option.some.inj ho.symm
                    clear ho
                    have ev80 : FA.eval (.tmp 80) = .slice (some ⟨bO, oO, none⟩ : Option Addr) n1 c1 := (H.dep 12 80 (by kernel_rfl)).trans (H.word 12 (by omega) (by kernel_rfl))
                    have e80 : FA.tmps[80]?.getD undef = .slice (some ⟨bO, oO, none⟩ : Option Addr) n1 c1 := by simpa [Act.eval] using ev80
                    replace ev80 := Lib.hid ev80
                    have ev81 : FA.eval (.tmp 81) = .int .i64 (q : Int) := (H.dep 13 81 (by kernel_rfl)).trans (H.word 13 (by omega) (by kernel_rfl))
                    have e81 : FA.tmps[81]?.getD undef = .int .i64 (q : Int) := by simpa [Act.eval] using ev81
                    replace ev81 := Lib.hid ev81
                    go_simp
                    exact hK.out _ _ (chgX (Ex.refl _)) rfl (fun _ h => h.elim)
                  | 15, _, ho, H, hK => 
                    obtain rfl := Option.some.inj ho.symm
                    clear ho
                    have ev79 := H.dep 11 79 (by kernel_rfl)
                    have e79 : FA.tmps[79]?.getD undef = vs 11 := by simpa [Act.eval] using ev79
                    replace ev79 := Lib.hid ev79
                    have ev82 : FA.eval (.tmp 82) = .slice (cutA (some ⟨bO, oO, none⟩ : Option Addr) c1 q 1) (n1 - q) (c1 - q) := (H.dep 14 82 (by kernel_rfl)).trans (H.word 14 (by omega) (by kernel_rfl))
                    have e82 : FA.tmps[82]?.getD undef = .slice (cutA (some ⟨bO, oO, none⟩ : Option Addr) c1 q 1) (n1 - q) (c1 - q) := by simpa [Act.eval] using ev82
                    replace ev82 := Lib.hid ev82
                    obtain ⟨A1, n1, c1, hv1, h1⟩ := H.word 11 (by omega) (by kernel_rfl)
                    have hn1 : n1 ≤ 2000 := by have := h1.rs.1; simp only [List.length_append, List.length_nil, itH_len, List.length_cons] at this; have := HL2.out; (try simp at this); omega
                    refine wanted_if rfl ?_
                    refine own_appS etIH (.tmp 79) (.tmp 82) rfl (ev79.out.trans hv1) h1 ev82.out (hQo.kept H.kept (fun a e h => h)) (itH_one _) (by omega) H.kept.size ?_
                    intro A3 n3 c3 w3 hn3 ho3 hg3 hf3
                    refine hK.out _ _ (Chg.grown hg3 (fun k hk => ⟨11, rfl, by show (vs 11).ownBlock = some k; rw [hv1]; exact hk⟩)) ⟨_, _, _, rfl, ho3⟩ (fun b hb => ?_)
                    rcases hf3 b hb with h | h
                    · exact .inl ⟨11, rfl, by show (vs 11).ownBlock = some b; rw [hv1]; exact h⟩
                    · exact .inr h
                  | 16, _, ho, H, hK => 
                    obtain rfl := Option.some.inj ho.symm
                    clear ho
                    have ev83 := H.dep 15 83 (by kernel_rfl)
                    have e83 : FA.tmps[83]?.getD undef = vs 15 := by simpa [Act.eval] using ev83
                    replace ev83 := Lib.hid ev83
                    have hw := H.word 15 (by omega) (by kernel_rfl)
                    go_simp
                    exact hK.out _ _ (chgX (Ex.refl _)) hw (fun b hb => .inl ⟨15, rfl, hb⟩)
                  | (k + 17), hi, _, _, _ => exact absurd hi (by omega)
                intro vs w' hC hV hW hDis hFr
                have p1 : vs 1 = .slice (some ⟨bO, oO, none⟩ : Option Addr) n1 c1 := hW 1 (by omega) (by kernel_rfl)
                have p2 : vs 2 = .int .i64 (q : Int) := hW 2 (by omega) (by kernel_rfl)
                have p3 : vs 3 = .slice (some ⟨bO, oO, none⟩ : Option Addr) q c1 := hW 3 (by omega) (by kernel_rfl)
                have p5 : vs 5 = .slice (some ⟨bl, ol, none⟩) nl cl := hW 5 (by omega) (by kernel_rfl)
                have p6 : vs 6 = .int .i64 (j : Int) := hW 6 (by omega) (by kernel_rfl)
                have p7 : vs 7 = .pointer (some ⟨bl, ol + j * 2, none⟩) := hW 7 (by omega) (by kernel_rfl)
                have p8 : vs 8 = .pointer (some ⟨bl, ol + j * 2, none⟩) := hW 8 (by omega) (by kernel_rfl)
                have p9 : vs 9 = .int .i64 (id : Int) := hW 9 (by omega) (by kernel_rfl)
                have p10 := hW 10 (by omega) (by kernel_rfl)
                have p12 : vs 12 = .slice (some ⟨bO, oO, none⟩ : Option Addr) n1 c1 := hW 12 (by omega) (by kernel_rfl)
                have p13 : vs 13 = .int .i64 (q : Int) := hW 13 (by omega) (by kernel_rfl)
                have p14 : vs 14 = .slice (cutA (some ⟨bO, oO, none⟩ : Option Addr) c1 q 1) (n1 - q) (c1 - q) := hW 14 (by omega) (by kernel_rfl)
                have p16 := hW 16 (by omega) (by kernel_rfl)
                clear hW
                simp only [List.take_succ_cons, List.take_zero, List.drop_succ_cons, List.drop_zero, putAll, Nat.zero_add, Nat.reduceAdd, Act.put, List.setIfInBounds_toArray, List.set_cons_zero, List.set_cons_succ, p1, p2, p3, p5, p6, p7, p8, p9, p12, p13, p14]
                obtain ⟨A5, n5, c5, hA5, ho5⟩ := p16
                replace hA5 : vs 16 = .slice A5 n5 c5 := hA5
                rw [hA5]
                have hbw := hC.below (B := W.heap.size) (Nat.le_refl _) (fun b hb => hb)
                have hr5 := ho5.rs
                replace hPs := hPs.later hbw
                replace hQs := hQs.later hbw
                replace hkW := hkW.later hbw
                replace hEW := hEW.trans (hbw.mono hEW.size)
                replace hVW := hVW.trans (hbw.mono hVW.size)
                clear hA5 ho5 hbw hC hV hDis hFr hPo hQo HID hblW
                generalize w' = Wz at *
                go_upto_region 12 with (fail)
                go_wp2
                refine wp_own (fun b => b < Wz.heap.size) 13 0 97 2 (fun i => match i with | i => i) (fun i => match i with | 4 => [0] | 7 => [4] | 11 => [7] | 12 => [11] | _ => []) (fun i => match i with | _ => undef) rfl (by kernel_rfl) (by kernel_rfl) (fun i => match i with | 0 => Own.osr 27 1 Wz.heap.size ([]) | 1 => Own.eq (.slice (some ⟨bS, oS, none⟩ : Option Addr) n1 c2) | 2 => Own.eq (.int .i64 (q : Int)) | 3 => Own.eq (.slice (some ⟨bS, oS, none⟩ : Option Addr) q c2) | 4 => Own.osr 27 1 Wz.heap.size ([] ++ usH Ps) | 5 => Own.eq (.int .u64 X) | 6 => Own.osr 27 1 Wz.heap.size ([.int .u64 X]) | 7 => Own.osr 27 1 Wz.heap.size (([] ++ usH Ps) ++ [.int .u64 X]) | 8 => Own.eq (.slice (some ⟨bS, oS, none⟩ : Option Addr) n1 c2) | 9 => Own.eq (.int .i64 (q : Int)) | 10 => Own.eq (.slice (cutA (some ⟨bS, oS, none⟩ : Option Addr) c2 q 1) (n1 - q) (c2 - q)) | 11 => Own.osr 27 1 Wz.heap.size ((([] ++ usH Ps) ++ [.int .u64 X]) ++ usH Qs) | 12 => Own.osr 27 1 Wz.heap.size ((([] ++ usH Ps) ++ [.int .u64 X]) ++ usH Qs) | _ => Own.any) (fun b h => h) ?_ ?_ ?_ ?_ ?_
                · exact fun t ht => absurd ht (by omega)
                · exact fun t t' ht => absurd ht (by omega)
                · exact fun t ht => absurd ht (by omega)
                · intro i hi o ho FA w' vs H K hK
                  match i, hi, ho, H, hK with
                  | 0, _, ho, H, hK => 
                    obtain rfl := Option.some.inj ho.symm
                    clear ho
                    go_simp
                    have ho1 := Os.lit (s := 1) (e := 27) w' (Nat.le_refl _) #[] 0 rfl (Nat.zero_le _)
                    exact hK.out _ _ (chgX (Ex.alloc _ _)) ⟨_, _, _, rfl, ho1.mono H.kept.size⟩ (fun b hb => .inr (ho1.blk b hb).1)
                  | 1, _, ho, H, hK => 
                    obtain rfl := Option.some.inj ho.symm
                    clear ho
                    have ev8 : FA.eval (.tmp 8) = .slice (some ⟨bS, oS, none⟩ : Option Addr) n1 c2 := H.out 8 (by kernel_rfl)
                    have e8 : FA.tmps[8]?.getD undef = .slice (some ⟨bS, oS, none⟩ : Option Addr) n1 c2 := by simpa [Act.eval] using ev8
                    replace ev8 := Lib.hid ev8
                    go_simp
                    exact hK.out _ _ (chgX (Ex.refl _)) rfl (fun _ h => h.elim)
                  | 2, _, ho, H, hK => 
                    obtain rfl := Option.some.inj ho.symm
                    clear ho
                    have ev11 : FA.eval (.tmp 11) = .int .i64 (q : Int) := H.out 11 (by kernel_rfl)
                    have e11 : FA.tmps[11]?.getD undef = .int .i64 (q : Int) := by simpa [Act.eval] using ev11
                    replace ev11 := Lib.hid ev11
                    go_simp
                    exact hK.out _ _ (chgX (Ex.refl _)) rfl (fun _ h => h.elim)
                  | 3, _, ho, H, hK => 
                    obtain rfl := Option.some.inj ho.symm
                    clear ho
                    have ev85 : FA.eval (.tmp 85) = .slice (some ⟨bS, oS, none⟩ : Option Addr) n1 c2 := (H.dep 1 85 (by kernel_rfl)).trans (H.word 1 (by omega) (by kernel_rfl))
                    have e85 : FA.tmps[85]?.getD undef = .slice (some ⟨bS, oS, none⟩ : Option Addr) n1 c2 := by simpa [Act.eval] using ev85
                    replace ev85 := Lib.hid ev85
                    have ev86 : FA.eval (.tmp 86) = .int .i64 (q : Int) := (H.dep 2 86 (by kernel_rfl)).trans (H.word 2 (by omega) (by kernel_rfl))
                    have e86 : FA.tmps[86]?.getD undef = .int .i64 (q : Int) := by simpa [Act.eval] using ev86
                    replace ev86 := Lib.hid ev86
                    go_simp
                    exact hK.out _ _ (chgX (Ex.refl _)) rfl (fun _ h => h.elim)
                  | 4, _, ho, H, hK => 
                    obtain rfl := Option.some.inj ho.symm
                    clear ho
                    have ev84 := H.dep 0 84 (by kernel_rfl)
                    have e84 : FA.tmps[84]?.getD undef = vs 0 := by simpa [Act.eval] using ev84
                    replace ev84 := Lib.hid ev84
                    have ev87 : FA.eval (.tmp 87) = .slice (some ⟨bS, oS, none⟩ : Option Addr) q c2 := (H.dep 3 87 (by kernel_rfl)).trans (H.word 3 (by omega) (by kernel_rfl))
                    have e87 : FA.tmps[87]?.getD undef = .slice (some ⟨bS, oS, none⟩ : Option Addr) q c2 := by simpa [Act.eval] using ev87
                    replace ev87 := Lib.hid ev87
                    obtain ⟨A1, n1, c1, hv1, h1⟩ := H.word 0 (by omega) (by kernel_rfl)
                    have hn1 : n1 ≤ 2000 := by have := h1.rs.1; simp only [List.length_append, List.length_nil, usH_len, List.length_cons] at this; have := HL2.out; (try simp at this); omega
                    refine wanted_if rfl ?_
                    refine own_appS etUH (.tmp 84) (.tmp 87) rfl (ev84.out.trans hv1) h1 ev87.out (hPs.kept H.kept (fun a e h => h)) (usH_one _) (by omega) H.kept.size ?_
                    intro A3 n3 c3 w3 hn3 ho3 hg3 hf3
                    refine hK.out _ _ (Chg.grown hg3 (fun k hk => ⟨0, rfl, by show (vs 0).ownBlock = some k; rw [hv1]; exact hk⟩)) ⟨_, _, _, rfl, ho3⟩ (fun b hb => ?_)
                    rcases hf3 b hb with h | h
                    · exact .inl ⟨0, rfl, by show (vs 0).ownBlock = some b; rw [hv1]; exact h⟩
                    · exact .inr h
                  | 5, _, ho, H, hK => 
                    obtain rfl := Option.some.inj ho.symm
                    clear ho
                    have ev10 : FA.eval (.tmp 10) = .int .u64 X := H.out 10 (by kernel_rfl)
                    have e10 : FA.tmps[10]?.getD undef = .int .u64 X := by simpa [Act.eval] using ev10
                    replace ev10 := Lib.hid ev10
                    go_simp
                    exact hK.out _ _ (chgX (Ex.refl _)) rfl (fun _ h => h.elim)
                  | 6, _, ho, H, hK => 
                    obtain rfl := Option.some.inj ho.symm
                    clear ho
                    have ev89 : FA.eval (.tmp 89) = .int .u64 X := (H.dep 5 89 (by kernel_rfl)).trans (H.word 5 (by omega) (by kernel_rfl))
                    have e89 : FA.tmps[89]?.getD undef = .int .u64 X := by simpa [Act.eval] using ev89
                    replace ev89 := Lib.hid ev89
                    go_simp
                    have ho1 := Os.lit (s := 1) (e := 27) w' (Nat.le_refl _) #[.int .u64 X] 1 rfl (by decide)
                    exact hK.out _ _ (chgX (Ex.alloc _ _)) ⟨_, _, _, rfl, ho1.mono H.kept.size⟩ (fun b hb => .inr (ho1.blk b hb).1)
                  | 7, _, ho, H, hK => 
                    obtain rfl := Option.some.inj ho.symm
                    clear ho
                    have ev88 := H.dep 4 88 (by kernel_rfl)
                    have e88 : FA.tmps[88]?.getD undef = vs 4 := by simpa [Act.eval] using ev88
                    replace ev88 := Lib.hid ev88
                    have ev90 := H.dep 6 90 (by kernel_rfl)
                    have e90 : FA.tmps[90]?.getD undef = vs 6 := by simpa [Act.eval] using ev90
                    replace ev90 := Lib.hid ev90
                    obtain ⟨A1, n1, c1, hv1, h1⟩ := H.word 4 (by omega) (by kernel_rfl)
                    obtain ⟨A2, n2, c2, hv2, h2⟩ := H.word 6 (by omega) (by kernel_rfl)
                    have hn1 : n1 ≤ 2000 := by have := h1.rs.1; simp only [List.length_append, List.length_nil, usH_len, List.length_cons] at this; have := HL2.out; (try simp at this); omega
                    have hn2 : n2 ≤ 2000 := by have := h2.rs.1; simp at this; omega
                    refine wanted_if rfl ?_
                    refine own_appS etUH (.tmp 88) (.tmp 90) rfl (ev88.out.trans hv1) h1 (ev90.out.trans hv2) h2.rs (by simp [Value.oneCell']) (by omega) H.kept.size ?_
                    intro A3 n3 c3 w3 hn3 ho3 hg3 hf3
                    refine hK.out _ _ (Chg.grown hg3 (fun k hk => ⟨4, rfl, by show (vs 4).ownBlock = some k; rw [hv1]; exact hk⟩)) ⟨_, _, _, rfl, ho3⟩ (fun b hb => ?_)
                    rcases hf3 b hb with h | h
                    · exact .inl ⟨4, rfl, by show (vs 4).ownBlock = some b; rw [hv1]; exact h⟩
                    · exact .inr h
                  | 8, _, ho, H, hK => 
                    obtain rfl := Option.some.inj ho.symm
                    clear ho
                    have ev8 : FA.eval (.tmp 8) = .slice (some ⟨bS, oS, none⟩ : Option Addr) n1 c2 := H.out 8 (by kernel_rfl)
                    have e8 : FA.tmps[8]?.getD undef = .slice (some ⟨bS, oS, none⟩ : Option Addr) n1 c2 := by simpa [Act.eval] using ev8
                    replace ev8 := Lib.hid ev8
                    go_simp
                    exact hK.out _ _ (chgX (Ex.refl _)) rfl (fun _ h => h.elim)
                  | 9, _, ho, H, hK => 
                    obtain rfl := Option.some.inj ho.symm
                    clear ho
                    have ev11 : FA.eval (.tmp 11) = .int .i64 (q : Int) := H.out 11 (by kernel_rfl)
                    have e11 : FA.tmps[11]?.getD undef = .int .i64 (q : Int) := by simpa [Act.eval] using ev11
                    replace ev11 := Lib.hid ev11
                    go_simp
                    exact hK.out _ _ (chgX (Ex.refl _)) rfl (fun _ h => h.elim)
                  | 10, _, ho, H, hK => 
                    obtain rfl := Option.some.inj ho.symm
                    clear ho
                    have ev92 : FA.eval (.tmp 92) = .slice (some ⟨bS, oS, none⟩ : Option Addr) n1 c2 := (H.dep 8 92 (by kernel_rfl)).trans (H.word 8 (by omega) (by kernel_rfl))
                    have e92 : FA.tmps[92]?.getD undef = .slice (some ⟨bS, oS, none⟩ : Option Addr) n1 c2 := by simpa [Act.eval] using ev92
                    replace ev92 := Lib.hid ev92
                    have ev93 : FA.eval (.tmp 93) = .int .i64 (q : Int) := (H.dep 9 93 (by kernel_rfl)).trans (H.word 9 (by omega) (by kernel_rfl))
                    have e93 : FA.tmps[93]?.getD undef = .int .i64 (q : Int) := by simpa [Act.eval] using ev93
                    replace ev93 := Lib.hid ev93
                    go_simp
                    exact hK.out _ _ (chgX (Ex.refl _)) rfl (fun _ h => h.elim)
                  | 11, _, ho, H, hK => 
                    obtain rfl := Option.some.inj ho.symm
                    clear ho
                    have ev91 := H.dep 7 91 (by kernel_rfl)
                    have e91 : FA.tmps[91]?.getD undef = vs 7 := by simpa [Act.eval] using ev91
                    replace ev91 := Lib.hid ev91
                    have ev94 : FA.eval (.tmp 94) = .slice (cutA (some ⟨bS, oS, none⟩ : Option Addr) c2 q 1) (n1 - q) (c2 - q) := (H.dep 10 94 (by kernel_rfl)).trans (H.word 10 (by omega) (by kernel_rfl))
                    have e94 : FA.tmps[94]?.getD undef = .slice (cutA (some ⟨bS, oS, none⟩ : Option Addr) c2 q 1) (n1 - q) (c2 - q) := by simpa [Act.eval] using ev94
                    replace ev94 := Lib.hid ev94
                    obtain ⟨A1, n1, c1, hv1, h1⟩ := H.word 7 (by omega) (by kernel_rfl)
                    have hn1 : n1 ≤ 2000 := by have := h1.rs.1; simp only [List.length_append, List.length_nil, usH_len, List.length_cons] at this; have := HL2.out; (try simp at this); omega
                    refine wanted_if rfl ?_
                    refine own_appS etUH (.tmp 91) (.tmp 94) rfl (ev91.out.trans hv1) h1 ev94.out (hQs.kept H.kept (fun a e h => h)) (usH_one _) (by omega) H.kept.size ?_
                    intro A3 n3 c3 w3 hn3 ho3 hg3 hf3
                    refine hK.out _ _ (Chg.grown hg3 (fun k hk => ⟨7, rfl, by show (vs 7).ownBlock = some k; rw [hv1]; exact hk⟩)) ⟨_, _, _, rfl, ho3⟩ (fun b hb => ?_)
                    rcases hf3 b hb with h | h
                    · exact .inl ⟨7, rfl, by show (vs 7).ownBlock = some b; rw [hv1]; exact h⟩
                    · exact .inr h
                  | 12, _, ho, H, hK => 
                    obtain rfl := Option.some.inj ho.symm
                    clear ho
                    have ev95 := H.dep 11 95 (by kernel_rfl)
                    have e95 : FA.tmps[95]?.getD undef = vs 11 := by simpa [Act.eval] using ev95
                    replace ev95 := Lib.hid ev95
                    have hw := H.word 11 (by omega) (by kernel_rfl)
                    go_simp
                    exact hK.out _ _ (chgX (Ex.refl _)) hw (fun b hb => .inl ⟨11, rfl, hb⟩)
                  | (k + 13), hi, _, _, _ => exact absurd hi (by omega)
                intro vs w' hC hV hW hDis hFr
                have p1 : vs 1 = .slice (some ⟨bS, oS, none⟩ : Option Addr) n1 c2 := hW 1 (by omega) (by kernel_rfl)
                have p2 : vs 2 = .int .i64 (q : Int) := hW 2 (by omega) (by kernel_rfl)
                have p3 : vs 3 = .slice (some ⟨bS, oS, none⟩ : Option Addr) q c2 := hW 3 (by omega) (by kernel_rfl)
                have p5 : vs 5 = .int .u64 X := hW 5 (by omega) (by kernel_rfl)
                have p6 := hW 6 (by omega) (by kernel_rfl)
                have p8 : vs 8 = .slice (some ⟨bS, oS, none⟩ : Option Addr) n1 c2 := hW 8 (by omega) (by kernel_rfl)
                have p9 : vs 9 = .int .i64 (q : Int) := hW 9 (by omega) (by kernel_rfl)
                have p10 : vs 10 = .slice (cutA (some ⟨bS, oS, none⟩ : Option Addr) c2 q 1) (n1 - q) (c2 - q) := hW 10 (by omega) (by kernel_rfl)
                have p12 := hW 12 (by omega) (by kernel_rfl)
                clear hW
                simp only [List.take_succ_cons, List.take_zero, List.drop_succ_cons, List.drop_zero, putAll, Nat.zero_add, Nat.reduceAdd, Act.put, List.setIfInBounds_toArray, List.set_cons_zero, List.set_cons_succ, p1, p2, p3, p5, p8, p9, p10]
                obtain ⟨A6, n6, c6, hA6, ho6⟩ := p12
                replace hA6 : vs 12 = .slice A6 n6 c6 := hA6
                rw [hA6]
                have hbw := hC.below (B := Wz.heap.size) (Nat.le_refl _) (fun b hb => hb)
                have hr6 := ho6.rs
                replace hr5 := hr5.later hbw
                replace hkW := hkW.later hbw
                replace hEW := hEW.trans (hbw.mono hEW.size)
                replace hVW := hVW.trans (hbw.mono hVW.size)
                have hl5 : (([] ++ itH Po) ++ [Value.int .i64 (id : Int)]) ++ itH Qo = itH ((rankL key b (L.take (j + 1))).map (·.1)) := by rw [HN.out, HINS.out, ← HRES.out, ← HPo.out, ← HQo.out]; simp [itH]
                have hl6 : (([] ++ usH Ps) ++ [Value.int .u64 X]) ++ usH Qs = usH ((rankL key b (L.take (j + 1))).map (·.2)) := by rw [HN.out, HINS.out, ← HRES.out, ← HPs.out, ← HQs.out]; simp [usH]
                rw [hl5] at hr5
                rw [hl6] at hr6
                have hn56 : n5 = n6 := by
                  have h1 := hr5.1
                  have h2 := hr6.1
                  rw [itH_len, List.length_map] at h1
                  rw [usH_len, List.length_map] at h2
                  omega
                subst hn56
                have HR5 := Lib.hid hr5
                have HR6 := Lib.hid hr6
                clear hA6 ho6 hbw hC hV hDis hFr hPs hQs hr5 hr6 hl5 hl6
                generalize w' = Wy at *
                go_wp2
                exact ⟨⟨j + 1, A5, A6, n5, c5, c6, by go_num, by omega, rfl, rfl, HR5.out, HR6.out, hkW, hEW, hVW⟩, by simp [intOf]; omega⟩
    · obtain rfl : nl = j := by omega
      have ij : ¬ (nl : Int) < (nl : Int) := by omega
      rw [List.take_of_length_le (by omega)] at hO
      have HO := Lib.hid hO
      clear hO hZ
      go_wp2
      go_ret
      exact RetRs.mk HO.out hE
end Go.Proofs.Ytknoenceccpkhaa

