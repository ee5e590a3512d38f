/- The law SteerReads (chapter 29). -/
import Derived.Test.YtfmkndemkpecpaaSteG
import Derived.Test.YtfmkndemkpecpaaIp4K
namespace Go.Proofs.Ytfmkndemkpecpaa
open Go.RowKit
set_option linter.unusedVariables false
set_option linter.unusedSimpArgs false
attribute [local go_sem ↓] sliced_cut
attribute [local go_sem] cutA_zero

set_option maxRecDepth 100000 in
theorem bytes28 : num (((ip4B 0 28 0 (pl4 false false 0) 9 17 (ip4K 0 28 0 (pl4 false false 0) 9 17 0 0 []) 0 0 [] ++ [0, 7, 0, 9, 0, 8, 0, 0]).drop 0).take 1) = 69 ∧ num (((ip4B 0 28 0 (pl4 false false 0) 9 17 (ip4K 0 28 0 (pl4 false false 0) 9 17 0 0 []) 0 0 [] ++ [0, 7, 0, 9, 0, 8, 0, 0]).drop 6).take 2) = 0 ∧ num (((ip4B 0 28 0 (pl4 false false 0) 9 17 (ip4K 0 28 0 (pl4 false false 0) 9 17 0 0 []) 0 0 [] ++ [0, 7, 0, 9, 0, 8, 0, 0]).drop 9).take 1) = 17 ∧ num (((ip4B 0 28 0 (pl4 false false 0) 9 17 (ip4K 0 28 0 (pl4 false false 0) 9 17 0 0 []) 0 0 [] ++ [0, 7, 0, 9, 0, 8, 0, 0]).drop 20).take 2) = 7 ∧ num (((ip4B 0 28 0 (pl4 false false 0) 9 17 (ip4K 0 28 0 (pl4 false false 0) 9 17 0 0 []) 0 0 [] ++ [0, 7, 0, 9, 0, 8, 0, 0]).drop 22).take 2) = 9 ∧ (ip4B 0 28 0 (pl4 false false 0) 9 17 (ip4K 0 28 0 (pl4 false false 0) 9 17 0 0 []) 0 0 [] ++ [0, 7, 0, 9, 0, 8, 0, 0]).length = 28 := by
  refine ⟨?_, ?_, ?_, ?_, ?_, ?_⟩ <;> decide +kernel
set_option maxHeartbeats 4000000 in
set_option maxRecDepth 100000 in
theorem awake29 (w : World) : Calls Try.prog 12 #[] w (RetV w (.bool true)) := by
  have HP : ∀ A c w, Rb w A 8 c [0, 7, 0, 9, 0, 8, 0, 0] → Calls Try.prog 48 #[.agg #[.int .u8 0, .int .i64 0, .int .u16 0, .bool false, .bool false, .int .i64 0, .int .u8 9, .int .u8 17, .int .u16 0, .bool false, .int .u64 0, .int .u64 0, .bool false, .int .u64 0, .int .u64 0, .slice none 0 0], .slice A 8 c] w (RetBE w (ip4B 0 28 0 (pl4 false false 0) 9 17 (ip4K 0 28 0 (pl4 false false 0) 9 17 0 0 []) 0 0 [] ++ [0, 7, 0, 9, 0, 8, 0, 0]) 0) :=
    fun A c w h => packet4_ok 0 0 0 false false 0 9 17 0 0 0 none 0 0 [] A 8 c [0, 7, 0, 9, 0, 8, 0, 0] w Rb.nil_ h (by decide) (by decide) (by decide) (by decide) (by decide) (by decide) (by decide) (by decide) (by decide) (by decide)
  obtain ⟨e1, e2, e3, e4, e5, hl⟩ := bytes28
  generalize (ip4B 0 28 0 (pl4 false false 0) 9 17 (ip4K 0 28 0 (pl4 false false 0) 9 17 0 0 []) 0 0 [] ++ [0, 7, 0, 9, 0, 8, 0, 0]) = L at *
  have HR : ∀ A c w, Rb w A 28 c L → Calls Try.prog 13 #[.slice A 28 c, .bool false] w (RetV w (.tuple #[.agg (qC false 0 (num ((L.drop 12).take 4)) false 0 (num ((L.drop 16).take 4)) 7 9 17 0 false).toArray, .bool true])) := fun A c w h => by
    refine steRead4_17 A 28 c _ _ _ _ _ _ 7 9 (L.drop 20) w (by rw [List.length_drop]; omega) (by rw [drop_sub]; exact e4) (by rw [drop_sub]; exact e5) (fun w' hb => ?_)
    have := open4_ok A 28 c L w' (h.later hb) (by decide) _ _ _ _ _ e1 e2 e3 rfl rfl (by decide) (by decide) (by decide) (by decide) (by decide)
    exact this
  have HS : ∀ A c w, Rb w A 27 c (L.take 27) → Calls Try.prog 13 #[.slice A 27 c, .bool false] w (RetV w (.tuple #[.agg (qC false 0 0 false 0 0 0 0 0 0 false).toArray, .bool false])) := fun A c w h => by
    refine steRead4_bad A 27 c w (fun w' hb => open4_2 A 27 c (L.take 27) w' (h.later hb) (by decide) 69 ?_ (by decide) (by decide) (.inr (by decide)))
    rw [← e1]
    congr 1
    rw [List.drop_zero, List.drop_zero, List.take_take]
    rfl
  obtain ⟨dq, r1, r2⟩ := rowQ
  replace HP := Lib.hid HP
  replace HR := Lib.hid HR
  replace HS := Lib.hid HS
  replace hl := Lib.hid hl
  clear e1 e2 e3 e4 e5
  generalize num ((L.drop 12).take 4) = sa at *
  generalize num ((L.drop 16).take 4) = da at *
  go_enter Try.func12, Try.ntmps12
  go_wp2_with fail
  refine (HP.out _ _ _ (Rb.litW _ [0, 7, 0, 9, 0, 8, 0, 0] (by simp) rfl (by decide) rfl)).mono ?_
  rintro e w1 ⟨A1, n1, c1, bs1, d1, rfl, rfl, h1⟩
  obtain rfl : n1 = 28 := by rw [← h1.1, hl.out]
  go_wp2_with fail
  refine (HR.out _ _ _ h1).mono ?_
  rintro e w1 ⟨bs2, d2, rfl, rfl⟩
  replace h1 := h1.plus_ bs2 d2
  have zx : 28 ≤ c1 := h1.2.1
  have zi : (27 : Int) ≤ (c1 : Int) := by omega
  go_upto_region 3 with (refine at_op (.store 32 (.tmp 3) (.tmp 16)) rfl ?_; refine wpList_stA (t := 32) 32 (.tmp 3) (.tmp 16) rfl rfl (qC false 0 sa false 0 da 7 9 17 0 false) (qC false 0 0 false 0 0 0 0 0 0 false) rfl (qC_one _ _ _ _ _ _ _ _ _ _ _) rfl rfl ?_ (szQ _ _ _ _ _ _ _ _ _ _ _) ?_; (· refine Bk.newK _ _ _ ?_ rfl; simp [size_plus]); intro W1 hX g1)
  have b7 := below_grown (Below.allocS (Below.refl _ _) _) g1 (by simp [size_plus])
  have be := below_grown (Below.allocS (belowP (belowP (Below.allocS (Below.refl w.heap.size w) _) bs1 d1) bs2 d2) _) g1 (by omega)
  replace h1 := h1.later b7
  clear b7 g1
  generalize w.heap.size + 1 + bs1.length + bs2.length = g3 at *
  have zX := hX.lt
  go_wp2_with fail
  refine (HS.out _ _ _ (h1.take (k := 27) (by omega))).mono ?_
  rintro e w1 ⟨bs3, d3, rfl, rfl⟩
  have y6 := hX.cell 6
  have y7 := hX.cell 7
  replace be := belowP be bs3 d3
  have b8 := below_plus W1 bs3 d3
  replace hX := hX.later b8
  clear b8 y6 y7 h1
  go_upto_region 4 with (refine at_op (.store 32 (.tmp 5) (.tmp 25)) rfl ?_; refine wpList_stA (t := 32) 32 (.tmp 5) (.tmp 25) rfl rfl (qC false 0 0 false 0 0 0 0 0 0 false) (qC false 0 0 false 0 0 0 0 0 0 false) rfl (qC_one _ _ _ _ _ _ _ _ _ _ _) rfl rfl ?_ (szQ _ _ _ _ _ _ _ _ _ _ _) ?_; (· refine Bk.newK _ _ _ ?_ rfl; simp [size_plus]); intro W2 hY g5)
  replace hX := ((hX.alloc _).grown g5 (by simp [size_plus]; omega))
  replace be := below_grown (Below.allocS be _) g5 (by have := be.size; simpa [size_plus] using this)
  have y6 : W2.cell? ⟨g3, 6, none⟩ = some (.int .u16 7) := hX.cell 6
  have y7 : W2.cell? ⟨g3, 7, none⟩ = some (.int .u16 9) := hX.cell 7
  go_wp2
  go_ret
  exact RetV.is_ rfl be
theorem build_q (w : World) (s1 : Bool) (h1 l1 : Nat) (s2 : Bool) (h2 l2 sp dp p st : Nat) (has : Bool) : (Instr.build 32 #[(0, .agg (flC s1 h1 l1 s2 h2 l2 sp dp p).toArray), (1, .int .u32 (st : Int)), (2, .bool has)]).run Try.prog w = .ok (.agg (qC s1 h1 l1 s2 h2 l2 sp dp p st has).toArray) w := by
  unfold flC qC
  go_simp
theorem eq_q (w : World) (s1 : Bool) (h1 l1 : Nat) (s2 : Bool) (h2 l2 sp dp p st : Nat) (has : Bool) : (binOp .eql 32 (.agg (qC s1 h1 l1 s2 h2 l2 sp dp p st has).toArray) (.agg (qC s1 h1 l1 s2 h2 l2 sp dp p st has).toArray)).run Try.prog w = .ok (.bool true) w := by
  unfold qC
  go_simp
attribute [local go_sem ↓] eq_q build_q
set_option maxHeartbeats 4000000 in
set_option maxRecDepth 100000 in
theorem steerReads_walk (w : World) (A : Option Addr) (n c : Nat) (l : List UInt8) (six : Bool) (h : Rb w A n c l) (hc : c ≤ maxLen) : Calls Try.prog 3 #[.slice A n c, .bool six] w fun e w' => e = .returned (.bool true) ∧ Below w.heap.size w w' := by
  have HAW := Lib.hid awake29
  have hcn := h.2.1
  simp only [maxLen] at hc
  by_cases hbig : 3000 < n
  · have d1 : decide (3000 < (n : Int)) = true := by simp only [decide_eq_true_eq]; omega
    go_enter Try.func3, Try.ntmps3
    go_wp2_with (go_at_call 12; refine (HAW.out _).mono ?_; rintro e w1 ⟨bs1, d1, rfl, rfl⟩)
    go_ret
    exact ⟨rfl, below_plus _ _ _⟩
  have d1 : decide (3000 < (n : Int)) = false := by simp only [decide_eq_false_iff_not]; omega
  obtain ⟨s1, h1, l1, s2, h2, l2, sp, dp, p, st, has, ok, HA, HB⟩ : Tells A n c six w := by
    cases six
    · exact tells4 A n c l w h (by omega)
    · exact tells6 A n c l w h (by omega)
  replace HA := Lib.hid HA
  replace HB := Lib.hid HB
  obtain ⟨dq, q1, q2⟩ := rowQ
  obtain ⟨dr, r1, r2⟩ := rowRQ
  obtain ⟨df, f1, f2⟩ := rowFl
  clear hbig
  go_enter Try.func3, Try.ntmps3
  go_wp2_with fail
  refine (HA.out _ (Below.refl _ _)).mono ?_
  rintro e w1 ⟨bs1, ds1, rfl, rfl⟩
  go_upto_region 4 with (refine at_op (.store 32 (.tmp 5) (.tmp 17)) rfl ?_; refine wpList_stA (t := 32) 32 (.tmp 5) (.tmp 17) rfl rfl (qC s1 h1 l1 s2 h2 l2 sp dp p st has) (qC false 0 0 false 0 0 0 0 0 0 false) rfl (qC_one _ _ _ _ _ _ _ _ _ _ _) rfl rfl ?_ (szQ _ _ _ _ _ _ _ _ _ _ _) ?_; (· refine Bk.newK _ _ _ ?_ rfl; simp [size_plus]); intro W1 hX g1)
  have be := below_grown (Below.allocS (below_plus w bs1 ds1) _) g1 (by simp [size_plus])
  clear g1
  generalize w.heap.size + bs1.length = g5 at *
  have zX := hX.lt
  go_wp2_with fail
  refine (HB.out _ be).mono ?_
  rintro e w1 ⟨bs2, ds2, rfl, rfl⟩
  replace be := belowP be bs2 ds2
  replace hX := hX.later (below_plus W1 bs2 ds2)
  go_upto_region 5 with (refine at_op (.store 35 (.tmp 7) (.tmp 23)) rfl ?_; refine wpList_stA (t := 35) 35 (.tmp 7) (.tmp 23) rfl rfl (qC s1 h1 l1 s2 h2 l2 sp dp p st has) (qC false 0 0 false 0 0 0 0 0 0 false) rfl (qC_one _ _ _ _ _ _ _ _ _ _ _) rfl rfl ?_ (szRQ _ _ _ _ _ _ _ _ _ _ _) ?_; (· refine Bk.newK _ _ _ ?_ rfl; simp [size_plus]); intro W2 hY g7)
  replace hX := ((hX.alloc _).grown g7 (by simp [size_plus]; omega))
  replace be := below_grown (Below.allocS be _) g7 (by have := be.size; simpa [size_plus] using this)
  clear g7
  generalize W1.heap.size + bs2.length = g7 at *
  have y9 : W2.cell? ⟨g7, 9, none⟩ = some (.int .u32 (st : Int)) := hY.cell 9
  have y10 : W2.cell? ⟨g7, 10, none⟩ = some (.bool has) := hY.cell 10
  cases ok
  · refine wp_region_lit ?_
    refine wpList_ldA (t := 32) 32 (.tmp 5) rfl rfl (qC s1 h1 l1 s2 h2 l2 sp dp p st has) rfl (hX) (whole_ _) q1 q2 (szQ _ _ _ _ _ _ _ _ _ _ _) ?_
    simp only [Act.put, List.setIfInBounds_toArray, List.set_cons_zero, List.set_cons_succ]
    refine wpList_plain rfl (fun K hK => ?_)
    go_simp
    with_reducible refine hK _ _ ?_
    clear hK K
    refine wpList_ldA (t := 35) (cs := qC s1 h1 l1 s2 h2 l2 sp dp p st has) 29 (.tmp 26) rfl rfl (flC s1 h1 l1 s2 h2 l2 sp dp p) rfl (hY) rfl f1 f2 (szFl _ _ _ _ _ _ _ _ _) ?_
    simp only [Act.put, List.setIfInBounds_toArray, List.set_cons_zero, List.set_cons_succ]
    refine wpList_plain rfl (fun K hK => ?_)
    go_simp
    with_reducible refine hK _ _ ?_
    clear hK K
    refine wpList_ld1 (t := 35) (cs := qC s1 h1 l1 s2 h2 l2 sp dp p st has) 30 (.tmp 28) rfl (by rfl) rfl (hY) rfl Try.underlying30 rfl ?_
    simp only [Act.put, List.setIfInBounds_toArray, List.set_cons_zero, List.set_cons_succ]
    refine wpList_plain rfl (fun K hK => ?_)
    go_simp
    with_reducible refine hK _ _ ?_
    clear hK K
    refine wpList_ld1 (t := 35) (cs := qC s1 h1 l1 s2 h2 l2 sp dp p st has) 4 (.tmp 30) rfl (by rfl) rfl (hY) rfl Try.underlying4 rfl ?_
    simp only [Act.put, List.setIfInBounds_toArray, List.set_cons_zero, List.set_cons_succ]
    simp only [flC, qC]
    refine wpList_plain rfl (fun K hK => ?_)
    go_simp
    with_reducible refine hK _ _ ?_
    clear hK K
    have hq : (.agg (qC s1 h1 l1 s2 h2 l2 sp dp p st has).toArray : Value) = .agg #[.bool s1, .int .u64 (h1 : Int), .int .u64 (l1 : Int), .bool s2, .int .u64 (h2 : Int), .int .u64 (l2 : Int), .int .u16 (sp : Int), .int .u16 (dp : Int), .int .u8 (p : Int), .int .u32 (st : Int), .bool has] := rfl
    rw [← hq]
    clear hq
    refine wpList_plain rfl (fun K hK => ?_)
    go_simp
    with_reducible refine hK _ _ ?_
    clear hK K
    refine wpList_plain rfl (fun K hK => ?_)
    go_simp
    with_reducible refine hK _ _ ?_
    clear hK K
    refine wpList_step (fun K hK => ?_)
    go_simp
    with_reducible refine hK _ _ ?_
    clear hK K
    refine wpList_step (fun K hK => ?_)
    go_simp
    with_reducible refine hK _ _ ?_
    clear hK K
    refine wpList_step (fun K hK => ?_)
    go_simp
    with_reducible refine hK _ _ ?_
    clear hK K
    refine wpList_plain rfl (fun K hK => ?_)
    go_simp
    with_reducible refine hK _ _ ?_
    clear hK K
    refine wpList_plain rfl (fun K hK => ?_)
    go_simp
    with_reducible refine hK _ _ ?_
    clear hK K
    go_wp2_with (go_at_call 12; refine (HAW.out _).mono ?_; rintro e w1 ⟨bs3, ds3, rfl, rfl⟩)
    go_ret
    exact ⟨rfl, belowP be _ _⟩
  · refine wp_region_lit ?_
    refine wpList_ldA (t := 32) 32 (.tmp 5) rfl rfl (qC s1 h1 l1 s2 h2 l2 sp dp p st has) rfl (hX) (whole_ _) q1 q2 (szQ _ _ _ _ _ _ _ _ _ _ _) ?_
    simp only [Act.put, List.setIfInBounds_toArray, List.set_cons_zero, List.set_cons_succ]
    refine wpList_plain rfl (fun K hK => ?_)
    go_simp
    with_reducible refine hK _ _ ?_
    clear hK K
    refine wpList_ldA (t := 35) (cs := qC s1 h1 l1 s2 h2 l2 sp dp p st has) 29 (.tmp 26) rfl rfl (flC s1 h1 l1 s2 h2 l2 sp dp p) rfl (hY) rfl f1 f2 (szFl _ _ _ _ _ _ _ _ _) ?_
    simp only [Act.put, List.setIfInBounds_toArray, List.set_cons_zero, List.set_cons_succ]
    refine wpList_plain rfl (fun K hK => ?_)
    go_simp
    with_reducible refine hK _ _ ?_
    clear hK K
    refine wpList_ld1 (t := 35) (cs := qC s1 h1 l1 s2 h2 l2 sp dp p st has) 30 (.tmp 28) rfl (by rfl) rfl (hY) rfl Try.underlying30 rfl ?_
    simp only [Act.put, List.setIfInBounds_toArray, List.set_cons_zero, List.set_cons_succ]
    refine wpList_plain rfl (fun K hK => ?_)
    go_simp
    with_reducible refine hK _ _ ?_
    clear hK K
    refine wpList_ld1 (t := 35) (cs := qC s1 h1 l1 s2 h2 l2 sp dp p st has) 4 (.tmp 30) rfl (by rfl) rfl (hY) rfl Try.underlying4 rfl ?_
    simp only [Act.put, List.setIfInBounds_toArray, List.set_cons_zero, List.set_cons_succ]
    simp only [flC, qC]
    refine wpList_plain rfl (fun K hK => ?_)
    go_simp
    with_reducible refine hK _ _ ?_
    clear hK K
    have hq : (.agg (qC s1 h1 l1 s2 h2 l2 sp dp p st has).toArray : Value) = .agg #[.bool s1, .int .u64 (h1 : Int), .int .u64 (l1 : Int), .bool s2, .int .u64 (h2 : Int), .int .u64 (l2 : Int), .int .u16 (sp : Int), .int .u16 (dp : Int), .int .u8 (p : Int), .int .u32 (st : Int), .bool has] := rfl
    rw [← hq]
    clear hq
    refine wpList_plain rfl (fun K hK => ?_)
    go_simp
    with_reducible refine hK _ _ ?_
    clear hK K
    refine wpList_plain rfl (fun K hK => ?_)
    go_simp
    with_reducible refine hK _ _ ?_
    clear hK K
    refine wpList_step (fun K hK => ?_)
    go_simp
    with_reducible refine hK _ _ ?_
    clear hK K
    refine wpList_step (fun K hK => ?_)
    go_simp
    with_reducible refine hK _ _ ?_
    clear hK K
    refine wpList_step (fun K hK => ?_)
    go_simp
    with_reducible refine hK _ _ ?_
    clear hK K
    refine wpList_plain rfl (fun K hK => ?_)
    go_simp
    with_reducible refine hK _ _ ?_
    clear hK K
    refine wpList_plain rfl (fun K hK => ?_)
    go_simp
    with_reducible refine hK _ _ ?_
    clear hK K
    go_wp2_with (go_at_call 12; refine (HAW.out _).mono ?_; rintro e w1 ⟨bs3, ds3, rfl, rfl⟩)
    go_ret
    exact ⟨rfl, belowP be _ _⟩
theorem steerReads_row (w : World) (A : Option Addr) (c : Nat) (l : List UInt8) (hl : l.length ≤ c) (hc : c ≤ maxLen) (hr : Rd w w.heap.size A (bcs l)) (six : Bool) : Calls Try.prog 3 #[.slice A l.length c, .bool six] w fun e w' => e = .returned (.bool true) ∧ Below w.heap.size w w' :=
  steerReads_walk w A l.length c l six ⟨rfl, hl, hr⟩ hc
end Go.Proofs.Ytfmkndemkpecpaa
