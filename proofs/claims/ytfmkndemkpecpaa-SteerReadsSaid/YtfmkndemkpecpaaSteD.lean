/- steer.Read of what tells something (chapter 29). -/
import Derived.Test.YtfmkndemkpecpaaSteC
namespace Go.Proofs.Ytfmkndemkpecpaa
open Go.RowKit
set_option linter.unusedVariables false
set_option linter.unusedSimpArgs false
attribute [local go_sem ↓] sliced_cut
attribute [local go_sem] cutA_zero

/-- a reader, where a cell that holds no byte was written into another block -/
theorem Rdr.farN {w w' : World} {r g : Nat} {l : List UInt8} {bad : Bool} (h : Rdr w r l bad) (hg : w.grownBy w' (some g)) (hne : g ≠ r) (fr : ∀ A n c l, Rb w A n c l → Rb w' A n c l) : Rdr w' r l bad := by
  have hlt := h.lt
  obtain ⟨A, n, c, h1, h2, h3, h4⟩ := h
  refine ⟨A, n, c, h1.grown hg (by simp; exact hne), h2, h3, ?_⟩
  have hb := fr A n c l ⟨h2, h3, h4.more (Nat.le_of_lt hlt)⟩
  rcases hb.2.2 with h5 | ⟨b, off, hA, _, hc⟩
  · exact .inl h5
  · rcases h4 with h6 | ⟨b', off', hA', hb', _⟩
    · exact .inl h6
    · rw [hA] at hA'
      injection hA' with hA'
      injection hA' with e1 e2
      subst e1
      exact .inr ⟨b, off, hA, hb', hc⟩
set_option maxHeartbeats 4000000 in
set_option maxRecDepth 100000 in
theorem steRead4_17 (A : Option Addr) (n c : Nat) (s1 : Bool) (h1 l1 : Nat) (s2 : Bool) (h2 l2 sp dp : Nat) (L : List UInt8) (w : World) (h8L : 8 ≤ L.length) (hsp : num ((L.drop 0).take 2) = sp) (hdp : num ((L.drop 2).take 2) = dp)  (HO : ∀ w', Below w.heap.size w w' → Calls Try.prog 49 #[.slice A n c] w' (RetOp w' s1 h1 l1 s2 h2 l2 17 L)) : Calls Try.prog 13 #[.slice A n c, .bool false] w (RetV w (.tuple #[.agg (qC s1 h1 l1 s2 h2 l2 sp dp 17 0 false).toArray, .bool true])) := by
  obtain ⟨du, u1, u2⟩ := rowFl
  obtain ⟨dq, q1, q2⟩ := rowQ
  have b4 : Bk (w.alloc (.cells #[.bool false, .int .u64 0, .int .u64 0, .bool false, .int .u64 0, .int .u64 0, .int .u16 0, .int .u16 0, .int .u8 0, .int .u32 0, .bool false] 32)) w.heap.size 32 (qC false 0 0 false 0 0 0 0 0 0 false) := Bk.new w 32 #[.bool false, .int .u64 0, .int .u64 0, .bool false, .int .u64 0, .int .u64 0, .int .u16 0, .int .u16 0, .int .u8 0, .int .u32 0, .bool false]
  have be : Below w.heap.size w (w.alloc (.cells #[.bool false, .int .u64 0, .int .u64 0, .bool false, .int .u64 0, .int .u64 0, .int .u16 0, .int .u16 0, .int .u8 0, .int .u32 0, .bool false] 32)) := Below.allocS (Below.refl _ _) _
  replace HO := Lib.hid HO
  go_enter Try.func13, Try.ntmps13
  go_upto_region 1 with (fail)
  generalize w.alloc (.cells #[.bool false, .int .u64 0, .int .u64 0, .bool false, .int .u64 0, .int .u64 0, .int .u16 0, .int .u16 0, .int .u8 0, .int .u32 0, .bool false] 32) = V at *
  go_wp2_with fail
  refine (HO.out _ be).mono ?_
  rintro e w1 ⟨A1, m1, k1, bs1, d1, rfl, rfl, hL⟩
  go_upto_region 5 with (refine at_op (.store 29 (.tmp 7) (.tmp 17)) rfl ?_; refine wpList_stA (t := 29) 29 (.tmp 7) (.tmp 17) rfl rfl (flC s1 h1 l1 s2 h2 l2 0 0 17) (flC false 0 0 false 0 0 0 0 0) rfl (flC_one _ _ _ _ _ _ _ _ _) rfl rfl ?_ (szFl _ _ _ _ _ _ _ _ _) ?_; (· refine Bk.newK _ _ _ ?_ rfl; simp [size_plus]); intro W7 hF gr7)
  have zV := be.size
  have z4 := b4.lt
  have b7 := below_grown (Below.allocS (below_plus V bs1 d1) _) gr7 (by omega)
  replace be := be.trans (b7.mono zV)
  replace b4 := b4.later b7
  have zF0 : w.heap.size < V.heap.size + bs1.length := by omega
  replace hL := hL.later (below_grown (Below.allocS (Below.refl _ _) _) gr7 (by simp [size_plus]))
  clear b7 gr7
  generalize V.heap.size + bs1.length = g7 at *
  obtain rfl : L.length = m1 := hL.1
  obtain ⟨bL, oL, rfl, hbL, -⟩ := hL.2.2.at_ (by rw [bcs_length]; omega)
  have hcL := hL.2.1
  have j1 : (8 : Int) ≤ (k1 : Int) := by omega
  have j2 : (8 : Int) ≤ (L.length : Int) := by omega
  have h8 : Rb W7 (some ⟨bL, oL, none⟩) 8 k1 (L.take 8) := hL.take (by omega)
  have yp : W7.cell? ⟨g7, 8, none⟩ = some (.int .u8 (17 : Int)) := hF.cell 8
  have zF := hF.lt
  go_wp2_with fail
  refine (readK _ _ _ _ W7 h8 (by decide)).mono ?_
  rintro e w1 ⟨r, bs2, d2, rfl, rfl, hr2, hR⟩
  have zb2 := be.size
  replace b4 := b4.later (below_plus _ bs2 d2)
  replace hF := hF.later (below_plus _ bs2 d2)
  replace hL := hL.plus_ bs2 d2
  replace be := belowP be bs2 d2
  have hrL : ∀ a, some (⟨bL, oL, none⟩ : Addr) = some a → a.block ≠ r := fun a ha => by injection ha with ha; subst ha; show bL ≠ r; omega
  have hr4 : w.heap.size < r := by omega
  have hr7 : g7 ≠ r := by omega
  generalize plus W7 bs2 d2 = W8 at *
  have l8 : (L.take 8).length = 8 := by rw [List.length_take]; omega
  have x0 : Hid (num (((L.take 8).drop 0).take 2) = sp) := Lib.hid (by rw [num_in L 8 0 2 (by decide)]; exact hsp)
  have x1 : Hid (num (((L.take 8).drop 2).take 2) = dp) := Lib.hid (by rw [num_in L 8 2 2 (by decide)]; exact hdp)
  clear yp zF h8 hr2 hbL
  go_wp2_with fail
  refine (wordG W8 r (L.take 8) 0 sp hR (by omega) (by omega) x0.out).mono ?_
  rintro e W9 ⟨rfl, hR1, hg1⟩
  replace b4 := b4.grown hg1 (by simp; omega)
  replace hF := hF.grown hg1 (by simp; omega)
  replace hL := hL.grownO hg1 hrL
  replace be := below_grown be hg1 (by omega)
  clear hg1 hR
  have zF := hF.lt
  go_upto_region 9 with (refine at_op (.store 27 (.tmp 38) (.tmp 37)) rfl ?_; refine wpList_st1R 27 (.tmp 38) (.tmp 37) rfl rfl rfl rfl hF rfl (by intro x h; cases h) rfl (by kernel_rfl) ?_; intro W10 hF2 gr2 fr2)
  replace b4 := b4.grown gr2 (by simp; omega)
  replace hR1 := hR1.farN gr2 hr7 fr2
  replace hL := fr2 _ _ _ _ hL
  replace be := below_grown be gr2 (by omega)
  clear hF gr2 fr2 zF
  go_wp2_with fail
  refine (wordG W10 r (L.take 8) 2 dp hR1 (by omega) (by omega) x1.out).mono ?_
  rintro e W11 ⟨rfl, hR2, hg1⟩
  replace b4 := b4.grown hg1 (by simp; omega)
  replace hF2 := hF2.grown hg1 (by simp; omega)
  replace hL := hL.grownO hg1 hrL
  replace be := below_grown be hg1 (by omega)
  clear hg1 hR1
  go_upto_region 10 with (refine at_op (.store 27 (.tmp 41) (.tmp 40)) rfl ?_; refine wpList_st1R 27 (.tmp 41) (.tmp 40) rfl rfl rfl rfl hF2 rfl (by intro x h; cases h) rfl (by kernel_rfl) ?_; intro W12 hF3 gr3 fr3)
  replace b4 := b4.grown gr3 (by simp; omega)
  replace hL := fr3 _ _ _ _ hL
  replace be := below_grown be gr3 (by omega)
  clear hF2 gr3 fr3 hR2
  replace hF3 : Bk W12 g7 29 ([.bool s1, .int .u64 (h1 : Int), .int .u64 (l1 : Int), .bool s2, .int .u64 (h2 : Int), .int .u64 (l2 : Int), .int .u16 (sp : Int), .int .u16 (dp : Int), .int .u8 (17 : Int)]) := hF3
  have z4' := b4.lt
  go_upto_region 11 with (first
    | (refine at_op (.load 29 (.tmp 7)) rfl ?_; refine wpList_ldA (t := 29) 29 (.tmp 7) rfl rfl ([.bool s1, .int .u64 (h1 : Int), .int .u64 (l1 : Int), .bool s2, .int .u64 (h2 : Int), .int .u64 (l2 : Int), .int .u16 (sp : Int), .int .u16 (dp : Int), .int .u8 (17 : Int)]) rfl (hF3) (whole_ _) u1 u2 (szFl s1 h1 l1 s2 h2 l2 sp dp 17) ?_)
    | (refine at_op (.store 32 (.tmp 11) (.tmp 43)) rfl ?_; refine wpList_stA (t := 32) 32 (.tmp 11) (.tmp 43) rfl rfl (qC s1 h1 l1 s2 h2 l2 sp dp 17 0 false) (qC false 0 0 false 0 0 0 0 0 0 false) rfl (qC_one _ _ _ _ _ _ _ _ _ _ _) rfl rfl ?_ (szQ _ _ _ _ _ _ _ _ _ _ _) ?_; (· refine Bk.newK _ _ _ ?_ rfl; simp [size_plus]); intro W13 hQ gr13))
  have z12 := be.size
  have b13 := below_grown (Below.allocS (Below.refl _ _) _) gr13 (Nat.le_refl _)
  replace be := be.trans (b13.mono z12)
  replace b4 := b4.later b13
  replace hF3 := hF3.later b13
  replace hL := hL.later b13
  clear b13 gr13
  generalize W12.heap.size = g11 at *
  have yp : W13.cell? ⟨g7, 8, none⟩ = some (.int .u8 (17 : Int)) := hF3.cell 8
  have zF := hF3.lt
  go_wp2_with (first | (refine at_op (.load 32 (.tmp 11)) rfl ?_; refine wpList_ldA (t := 32) 32 (.tmp 11) rfl rfl (qC s1 h1 l1 s2 h2 l2 sp dp 17 0 false) rfl (hQ) (whole_ _) q1 q2 (szQ _ _ _ _ _ _ _ _ _ _ _) ?_) | (refine at_op (.store 32 (.tmp 4) (.tmp 54)) rfl ?_; refine wpList_stA (t := 32) 32 (.tmp 4) (.tmp 54) rfl rfl (qC s1 h1 l1 s2 h2 l2 sp dp 17 0 false) (qC false 0 0 false 0 0 0 0 0 0 false) rfl (qC_one _ _ _ _ _ _ _ _ _ _ _) rfl rfl b4 (szQ _ _ _ _ _ _ _ _ _ _ _) ?_; intro W9 h9 g9))
  refine bodyPost_agg2 Try.results13 rfl rfl h9.range q1 q2 (szQ _ _ _ _ _ _ _ _ _ _ _) rfl (RetV.mk ?_)
  exact below_grown be g9 (by omega)
set_option maxHeartbeats 4000000 in
set_option maxRecDepth 100000 in
theorem steRead4_6 (A : Option Addr) (n c : Nat) (s1 : Bool) (h1 l1 : Nat) (s2 : Bool) (h2 l2 sp dp : Nat) (L : List UInt8) (w : World) (h8L : 8 ≤ L.length) (hsp : num ((L.drop 0).take 2) = sp) (hdp : num ((L.drop 2).take 2) = dp) (v : Nat) (has : Bool) (HST : ∀ w' A n c, Rb w' A n c L → Calls Try.prog 53 #[.slice A n c] w' (RetV w' (.tuple #[.int .u32 (v : Int), .bool has]))) (HO : ∀ w', Below w.heap.size w w' → Calls Try.prog 49 #[.slice A n c] w' (RetOp w' s1 h1 l1 s2 h2 l2 6 L)) : Calls Try.prog 13 #[.slice A n c, .bool false] w (RetV w (.tuple #[.agg (qC s1 h1 l1 s2 h2 l2 sp dp 6 v has).toArray, .bool true])) := by
  replace HST := Lib.hid HST
  obtain ⟨du, u1, u2⟩ := rowFl
  obtain ⟨dq, q1, q2⟩ := rowQ
  have b4 : Bk (w.alloc (.cells #[.bool false, .int .u64 0, .int .u64 0, .bool false, .int .u64 0, .int .u64 0, .int .u16 0, .int .u16 0, .int .u8 0, .int .u32 0, .bool false] 32)) w.heap.size 32 (qC false 0 0 false 0 0 0 0 0 0 false) := Bk.new w 32 #[.bool false, .int .u64 0, .int .u64 0, .bool false, .int .u64 0, .int .u64 0, .int .u16 0, .int .u16 0, .int .u8 0, .int .u32 0, .bool false]
  have be : Below w.heap.size w (w.alloc (.cells #[.bool false, .int .u64 0, .int .u64 0, .bool false, .int .u64 0, .int .u64 0, .int .u16 0, .int .u16 0, .int .u8 0, .int .u32 0, .bool false] 32)) := Below.allocS (Below.refl _ _) _
  replace HO := Lib.hid HO
  go_enter Try.func13, Try.ntmps13
  go_upto_region 1 with (fail)
  generalize w.alloc (.cells #[.bool false, .int .u64 0, .int .u64 0, .bool false, .int .u64 0, .int .u64 0, .int .u16 0, .int .u16 0, .int .u8 0, .int .u32 0, .bool false] 32) = V at *
  go_wp2_with fail
  refine (HO.out _ be).mono ?_
  rintro e w1 ⟨A1, m1, k1, bs1, d1, rfl, rfl, hL⟩
  go_upto_region 5 with (refine at_op (.store 29 (.tmp 7) (.tmp 17)) rfl ?_; refine wpList_stA (t := 29) 29 (.tmp 7) (.tmp 17) rfl rfl (flC s1 h1 l1 s2 h2 l2 0 0 6) (flC false 0 0 false 0 0 0 0 0) rfl (flC_one _ _ _ _ _ _ _ _ _) rfl rfl ?_ (szFl _ _ _ _ _ _ _ _ _) ?_; (· refine Bk.newK _ _ _ ?_ rfl; simp [size_plus]); intro W7 hF gr7)
  have zV := be.size
  have z4 := b4.lt
  have b7 := below_grown (Below.allocS (below_plus V bs1 d1) _) gr7 (by omega)
  replace be := be.trans (b7.mono zV)
  replace b4 := b4.later b7
  have zF0 : w.heap.size < V.heap.size + bs1.length := by omega
  replace hL := hL.later (below_grown (Below.allocS (Below.refl _ _) _) gr7 (by simp [size_plus]))
  clear b7 gr7
  generalize V.heap.size + bs1.length = g7 at *
  obtain rfl : L.length = m1 := hL.1
  obtain ⟨bL, oL, rfl, hbL, -⟩ := hL.2.2.at_ (by rw [bcs_length]; omega)
  have hcL := hL.2.1
  have j1 : (8 : Int) ≤ (k1 : Int) := by omega
  have j2 : (8 : Int) ≤ (L.length : Int) := by omega
  have h8 : Rb W7 (some ⟨bL, oL, none⟩) 8 k1 (L.take 8) := hL.take (by omega)
  have yp : W7.cell? ⟨g7, 8, none⟩ = some (.int .u8 (6 : Int)) := hF.cell 8
  have zF := hF.lt
  go_wp2_with fail
  refine (readK _ _ _ _ W7 h8 (by decide)).mono ?_
  rintro e w1 ⟨r, bs2, d2, rfl, rfl, hr2, hR⟩
  have zb2 := be.size
  replace b4 := b4.later (below_plus _ bs2 d2)
  replace hF := hF.later (below_plus _ bs2 d2)
  replace hL := hL.plus_ bs2 d2
  replace be := belowP be bs2 d2
  have hrL : ∀ a, some (⟨bL, oL, none⟩ : Addr) = some a → a.block ≠ r := fun a ha => by injection ha with ha; subst ha; show bL ≠ r; omega
  have hr4 : w.heap.size < r := by omega
  have hr7 : g7 ≠ r := by omega
  generalize plus W7 bs2 d2 = W8 at *
  have l8 : (L.take 8).length = 8 := by rw [List.length_take]; omega
  have x0 : Hid (num (((L.take 8).drop 0).take 2) = sp) := Lib.hid (by rw [num_in L 8 0 2 (by decide)]; exact hsp)
  have x1 : Hid (num (((L.take 8).drop 2).take 2) = dp) := Lib.hid (by rw [num_in L 8 2 2 (by decide)]; exact hdp)
  clear yp zF h8 hr2 hbL
  go_wp2_with fail
  refine (wordG W8 r (L.take 8) 0 sp hR (by omega) (by omega) x0.out).mono ?_
  rintro e W9 ⟨rfl, hR1, hg1⟩
  replace b4 := b4.grown hg1 (by simp; omega)
  replace hF := hF.grown hg1 (by simp; omega)
  replace hL := hL.grownO hg1 hrL
  replace be := below_grown be hg1 (by omega)
  clear hg1 hR
  have zF := hF.lt
  go_upto_region 9 with (refine at_op (.store 27 (.tmp 38) (.tmp 37)) rfl ?_; refine wpList_st1R 27 (.tmp 38) (.tmp 37) rfl rfl rfl rfl hF rfl (by intro x h; cases h) rfl (by kernel_rfl) ?_; intro W10 hF2 gr2 fr2)
  replace b4 := b4.grown gr2 (by simp; omega)
  replace hR1 := hR1.farN gr2 hr7 fr2
  replace hL := fr2 _ _ _ _ hL
  replace be := below_grown be gr2 (by omega)
  clear hF gr2 fr2 zF
  go_wp2_with fail
  refine (wordG W10 r (L.take 8) 2 dp hR1 (by omega) (by omega) x1.out).mono ?_
  rintro e W11 ⟨rfl, hR2, hg1⟩
  replace b4 := b4.grown hg1 (by simp; omega)
  replace hF2 := hF2.grown hg1 (by simp; omega)
  replace hL := hL.grownO hg1 hrL
  replace be := below_grown be hg1 (by omega)
  clear hg1 hR1
  go_upto_region 10 with (refine at_op (.store 27 (.tmp 41) (.tmp 40)) rfl ?_; refine wpList_st1R 27 (.tmp 41) (.tmp 40) rfl rfl rfl rfl hF2 rfl (by intro x h; cases h) rfl (by kernel_rfl) ?_; intro W12 hF3 gr3 fr3)
  replace b4 := b4.grown gr3 (by simp; omega)
  replace hL := fr3 _ _ _ _ hL
  replace be := below_grown be gr3 (by omega)
  clear hF2 gr3 fr3 hR2
  replace hF3 : Bk W12 g7 29 ([.bool s1, .int .u64 (h1 : Int), .int .u64 (l1 : Int), .bool s2, .int .u64 (h2 : Int), .int .u64 (l2 : Int), .int .u16 (sp : Int), .int .u16 (dp : Int), .int .u8 (6 : Int)]) := hF3
  have z4' := b4.lt
  go_upto_region 11 with (first
    | (refine at_op (.load 29 (.tmp 7)) rfl ?_; refine wpList_ldA (t := 29) 29 (.tmp 7) rfl rfl ([.bool s1, .int .u64 (h1 : Int), .int .u64 (l1 : Int), .bool s2, .int .u64 (h2 : Int), .int .u64 (l2 : Int), .int .u16 (sp : Int), .int .u16 (dp : Int), .int .u8 (6 : Int)]) rfl (hF3) (whole_ _) u1 u2 (szFl s1 h1 l1 s2 h2 l2 sp dp 6) ?_)
    | (refine at_op (.store 32 (.tmp 11) (.tmp 43)) rfl ?_; refine wpList_stA (t := 32) 32 (.tmp 11) (.tmp 43) rfl rfl (qC s1 h1 l1 s2 h2 l2 sp dp 6 0 false) (qC false 0 0 false 0 0 0 0 0 0 false) rfl (qC_one _ _ _ _ _ _ _ _ _ _ _) rfl rfl ?_ (szQ _ _ _ _ _ _ _ _ _ _ _) ?_; (· refine Bk.newK _ _ _ ?_ rfl; simp [size_plus]); intro W13 hQ gr13))
  have z12 := be.size
  have b13 := below_grown (Below.allocS (Below.refl _ _) _) gr13 (Nat.le_refl _)
  replace be := be.trans (b13.mono z12)
  replace b4 := b4.later b13
  replace hF3 := hF3.later b13
  replace hL := hL.later b13
  clear b13 gr13
  generalize W12.heap.size = g11 at *
  have yp : W13.cell? ⟨g7, 8, none⟩ = some (.int .u8 (6 : Int)) := hF3.cell 8
  have zF := hF3.lt
  have h11 : w.heap.size < g11 := by omega
  go_wp2_with fail
  refine (HST.out _ _ _ _ hL).mono ?_
  rintro e w1 ⟨bs5, d5, rfl, rfl⟩
  replace b4 := b4.later (below_plus _ bs5 d5)
  replace hQ := hQ.later (below_plus _ bs5 d5)
  replace be := belowP be bs5 d5
  clear hL yp zF hF3
  generalize plus W13 bs5 d5 = W14 at *
  go_upto_region 13 with (first
    | (refine at_op (.store 30 (.tmp 52) (.tmp 50)) rfl ?_; refine wpList_st1R 30 (.tmp 52) (.tmp 50) rfl rfl rfl rfl hQ rfl (by intro x h; cases h) rfl (by kernel_rfl) ?_; intro W15 hQ2 gr5 fr5)
    | (refine at_op (.store 4 (.tmp 53) (.tmp 51)) rfl ?_; refine wpList_st1R 4 (.tmp 53) (.tmp 51) rfl rfl rfl rfl hQ2 rfl (by intro x h; cases h) rfl (by kernel_rfl) ?_; intro W16 hQ3 gr6 fr6))
  replace b4 := (b4.grown gr5 (by simp; omega)).grown gr6 (by simp; omega)
  replace be := below_grown (below_grown be gr5 (by omega)) gr6 (by omega)
  replace hQ : Bk W16 g11 32 (qC s1 h1 l1 s2 h2 l2 sp dp 6 v has) := hQ3
  clear gr5 gr6 fr5 fr6 hQ2 hQ3
  go_wp2_with (first | (refine at_op (.load 32 (.tmp 11)) rfl ?_; refine wpList_ldA (t := 32) 32 (.tmp 11) rfl rfl (qC s1 h1 l1 s2 h2 l2 sp dp 6 v has) rfl (hQ) (whole_ _) q1 q2 (szQ _ _ _ _ _ _ _ _ _ _ _) ?_) | (refine at_op (.store 32 (.tmp 4) (.tmp 54)) rfl ?_; refine wpList_stA (t := 32) 32 (.tmp 4) (.tmp 54) rfl rfl (qC s1 h1 l1 s2 h2 l2 sp dp 6 v has) (qC false 0 0 false 0 0 0 0 0 0 false) rfl (qC_one _ _ _ _ _ _ _ _ _ _ _) rfl rfl b4 (szQ _ _ _ _ _ _ _ _ _ _ _) ?_; intro W9 h9 g9))
  refine bodyPost_agg2 Try.results13 rfl rfl h9.range q1 q2 (szQ _ _ _ _ _ _ _ _ _ _ _) rfl (RetV.mk ?_)
  exact below_grown be g9 (by omega)
set_option maxHeartbeats 4000000 in
set_option maxRecDepth 100000 in
theorem steRead6_17 (A : Option Addr) (n c : Nat) (s1 : Bool) (h1 l1 : Nat) (s2 : Bool) (h2 l2 sp dp : Nat) (L : List UInt8) (w : World) (h8L : 8 ≤ L.length) (hsp : num ((L.drop 0).take 2) = sp) (hdp : num ((L.drop 2).take 2) = dp)  (HO : ∀ w', Below w.heap.size w w' → Calls Try.prog 50 #[.slice A n c] w' (RetOp w' s1 h1 l1 s2 h2 l2 17 L)) : Calls Try.prog 13 #[.slice A n c, .bool true] w (RetV w (.tuple #[.agg (qC s1 h1 l1 s2 h2 l2 sp dp 17 0 false).toArray, .bool true])) := by
  obtain ⟨du, u1, u2⟩ := rowFl
  obtain ⟨dq, q1, q2⟩ := rowQ
  have b4 : Bk (w.alloc (.cells #[.bool false, .int .u64 0, .int .u64 0, .bool false, .int .u64 0, .int .u64 0, .int .u16 0, .int .u16 0, .int .u8 0, .int .u32 0, .bool false] 32)) w.heap.size 32 (qC false 0 0 false 0 0 0 0 0 0 false) := Bk.new w 32 #[.bool false, .int .u64 0, .int .u64 0, .bool false, .int .u64 0, .int .u64 0, .int .u16 0, .int .u16 0, .int .u8 0, .int .u32 0, .bool false]
  have be : Below w.heap.size w (w.alloc (.cells #[.bool false, .int .u64 0, .int .u64 0, .bool false, .int .u64 0, .int .u64 0, .int .u16 0, .int .u16 0, .int .u8 0, .int .u32 0, .bool false] 32)) := Below.allocS (Below.refl _ _) _
  replace HO := Lib.hid HO
  go_enter Try.func13, Try.ntmps13
  go_upto_region 1 with (fail)
  generalize w.alloc (.cells #[.bool false, .int .u64 0, .int .u64 0, .bool false, .int .u64 0, .int .u64 0, .int .u16 0, .int .u16 0, .int .u8 0, .int .u32 0, .bool false] 32) = V at *
  go_wp2_with fail
  refine (HO.out _ be).mono ?_
  rintro e w1 ⟨A1, m1, k1, bs1, d1, rfl, rfl, hL⟩
  go_upto_region 5 with (refine at_op (.store 29 (.tmp 7) (.tmp 17)) rfl ?_; refine wpList_stA (t := 29) 29 (.tmp 7) (.tmp 17) rfl rfl (flC s1 h1 l1 s2 h2 l2 0 0 17) (flC false 0 0 false 0 0 0 0 0) rfl (flC_one _ _ _ _ _ _ _ _ _) rfl rfl ?_ (szFl _ _ _ _ _ _ _ _ _) ?_; (· refine Bk.newK _ _ _ ?_ rfl; simp [size_plus]); intro W7 hF gr7)
  have zV := be.size
  have z4 := b4.lt
  have b7 := below_grown (Below.allocS (below_plus V bs1 d1) _) gr7 (by omega)
  replace be := be.trans (b7.mono zV)
  replace b4 := b4.later b7
  have zF0 : w.heap.size < V.heap.size + bs1.length := by omega
  replace hL := hL.later (below_grown (Below.allocS (Below.refl _ _) _) gr7 (by simp [size_plus]))
  clear b7 gr7
  generalize V.heap.size + bs1.length = g7 at *
  obtain rfl : L.length = m1 := hL.1
  obtain ⟨bL, oL, rfl, hbL, -⟩ := hL.2.2.at_ (by rw [bcs_length]; omega)
  have hcL := hL.2.1
  have j1 : (8 : Int) ≤ (k1 : Int) := by omega
  have j2 : (8 : Int) ≤ (L.length : Int) := by omega
  have h8 : Rb W7 (some ⟨bL, oL, none⟩) 8 k1 (L.take 8) := hL.take (by omega)
  have yp : W7.cell? ⟨g7, 8, none⟩ = some (.int .u8 (17 : Int)) := hF.cell 8
  have zF := hF.lt
  go_wp2_with fail
  refine (readK _ _ _ _ W7 h8 (by decide)).mono ?_
  rintro e w1 ⟨r, bs2, d2, rfl, rfl, hr2, hR⟩
  have zb2 := be.size
  replace b4 := b4.later (below_plus _ bs2 d2)
  replace hF := hF.later (below_plus _ bs2 d2)
  replace hL := hL.plus_ bs2 d2
  replace be := belowP be bs2 d2
  have hrL : ∀ a, some (⟨bL, oL, none⟩ : Addr) = some a → a.block ≠ r := fun a ha => by injection ha with ha; subst ha; show bL ≠ r; omega
  have hr4 : w.heap.size < r := by omega
  have hr7 : g7 ≠ r := by omega
  generalize plus W7 bs2 d2 = W8 at *
  have l8 : (L.take 8).length = 8 := by rw [List.length_take]; omega
  have x0 : Hid (num (((L.take 8).drop 0).take 2) = sp) := Lib.hid (by rw [num_in L 8 0 2 (by decide)]; exact hsp)
  have x1 : Hid (num (((L.take 8).drop 2).take 2) = dp) := Lib.hid (by rw [num_in L 8 2 2 (by decide)]; exact hdp)
  clear yp zF h8 hr2 hbL
  go_wp2_with fail
  refine (wordG W8 r (L.take 8) 0 sp hR (by omega) (by omega) x0.out).mono ?_
  rintro e W9 ⟨rfl, hR1, hg1⟩
  replace b4 := b4.grown hg1 (by simp; omega)
  replace hF := hF.grown hg1 (by simp; omega)
  replace hL := hL.grownO hg1 hrL
  replace be := below_grown be hg1 (by omega)
  clear hg1 hR
  have zF := hF.lt
  go_upto_region 9 with (refine at_op (.store 27 (.tmp 38) (.tmp 37)) rfl ?_; refine wpList_st1R 27 (.tmp 38) (.tmp 37) rfl rfl rfl rfl hF rfl (by intro x h; cases h) rfl (by kernel_rfl) ?_; intro W10 hF2 gr2 fr2)
  replace b4 := b4.grown gr2 (by simp; omega)
  replace hR1 := hR1.farN gr2 hr7 fr2
  replace hL := fr2 _ _ _ _ hL
  replace be := below_grown be gr2 (by omega)
  clear hF gr2 fr2 zF
  go_wp2_with fail
  refine (wordG W10 r (L.take 8) 2 dp hR1 (by omega) (by omega) x1.out).mono ?_
  rintro e W11 ⟨rfl, hR2, hg1⟩
  replace b4 := b4.grown hg1 (by simp; omega)
  replace hF2 := hF2.grown hg1 (by simp; omega)
  replace hL := hL.grownO hg1 hrL
  replace be := below_grown be hg1 (by omega)
  clear hg1 hR1
  go_upto_region 10 with (refine at_op (.store 27 (.tmp 41) (.tmp 40)) rfl ?_; refine wpList_st1R 27 (.tmp 41) (.tmp 40) rfl rfl rfl rfl hF2 rfl (by intro x h; cases h) rfl (by kernel_rfl) ?_; intro W12 hF3 gr3 fr3)
  replace b4 := b4.grown gr3 (by simp; omega)
  replace hL := fr3 _ _ _ _ hL
  replace be := below_grown be gr3 (by omega)
  clear hF2 gr3 fr3 hR2
  replace hF3 : Bk W12 g7 29 ([.bool s1, .int .u64 (h1 : Int), .int .u64 (l1 : Int), .bool s2, .int .u64 (h2 : Int), .int .u64 (l2 : Int), .int .u16 (sp : Int), .int .u16 (dp : Int), .int .u8 (17 : Int)]) := hF3
  have z4' := b4.lt
  go_upto_region 11 with (first
    | (refine at_op (.load 29 (.tmp 7)) rfl ?_; refine wpList_ldA (t := 29) 29 (.tmp 7) rfl rfl ([.bool s1, .int .u64 (h1 : Int), .int .u64 (l1 : Int), .bool s2, .int .u64 (h2 : Int), .int .u64 (l2 : Int), .int .u16 (sp : Int), .int .u16 (dp : Int), .int .u8 (17 : Int)]) rfl (hF3) (whole_ _) u1 u2 (szFl s1 h1 l1 s2 h2 l2 sp dp 17) ?_)
    | (refine at_op (.store 32 (.tmp 11) (.tmp 43)) rfl ?_; refine wpList_stA (t := 32) 32 (.tmp 11) (.tmp 43) rfl rfl (qC s1 h1 l1 s2 h2 l2 sp dp 17 0 false) (qC false 0 0 false 0 0 0 0 0 0 false) rfl (qC_one _ _ _ _ _ _ _ _ _ _ _) rfl rfl ?_ (szQ _ _ _ _ _ _ _ _ _ _ _) ?_; (· refine Bk.newK _ _ _ ?_ rfl; simp [size_plus]); intro W13 hQ gr13))
  have z12 := be.size
  have b13 := below_grown (Below.allocS (Below.refl _ _) _) gr13 (Nat.le_refl _)
  replace be := be.trans (b13.mono z12)
  replace b4 := b4.later b13
  replace hF3 := hF3.later b13
  replace hL := hL.later b13
  clear b13 gr13
  generalize W12.heap.size = g11 at *
  have yp : W13.cell? ⟨g7, 8, none⟩ = some (.int .u8 (17 : Int)) := hF3.cell 8
  have zF := hF3.lt
  go_wp2_with (first | (refine at_op (.load 32 (.tmp 11)) rfl ?_; refine wpList_ldA (t := 32) 32 (.tmp 11) rfl rfl (qC s1 h1 l1 s2 h2 l2 sp dp 17 0 false) rfl (hQ) (whole_ _) q1 q2 (szQ _ _ _ _ _ _ _ _ _ _ _) ?_) | (refine at_op (.store 32 (.tmp 4) (.tmp 54)) rfl ?_; refine wpList_stA (t := 32) 32 (.tmp 4) (.tmp 54) rfl rfl (qC s1 h1 l1 s2 h2 l2 sp dp 17 0 false) (qC false 0 0 false 0 0 0 0 0 0 false) rfl (qC_one _ _ _ _ _ _ _ _ _ _ _) rfl rfl b4 (szQ _ _ _ _ _ _ _ _ _ _ _) ?_; intro W9 h9 g9))
  refine bodyPost_agg2 Try.results13 rfl rfl h9.range q1 q2 (szQ _ _ _ _ _ _ _ _ _ _ _) rfl (RetV.mk ?_)
  exact below_grown be g9 (by omega)
set_option maxHeartbeats 4000000 in
set_option maxRecDepth 100000 in
theorem steRead6_6 (A : Option Addr) (n c : Nat) (s1 : Bool) (h1 l1 : Nat) (s2 : Bool) (h2 l2 sp dp : Nat) (L : List UInt8) (w : World) (h8L : 8 ≤ L.length) (hsp : num ((L.drop 0).take 2) = sp) (hdp : num ((L.drop 2).take 2) = dp) (v : Nat) (has : Bool) (HST : ∀ w' A n c, Rb w' A n c L → Calls Try.prog 53 #[.slice A n c] w' (RetV w' (.tuple #[.int .u32 (v : Int), .bool has]))) (HO : ∀ w', Below w.heap.size w w' → Calls Try.prog 50 #[.slice A n c] w' (RetOp w' s1 h1 l1 s2 h2 l2 6 L)) : Calls Try.prog 13 #[.slice A n c, .bool true] w (RetV w (.tuple #[.agg (qC s1 h1 l1 s2 h2 l2 sp dp 6 v has).toArray, .bool true])) := by
  replace HST := Lib.hid HST
  obtain ⟨du, u1, u2⟩ := rowFl
  obtain ⟨dq, q1, q2⟩ := rowQ
  have b4 : Bk (w.alloc (.cells #[.bool false, .int .u64 0, .int .u64 0, .bool false, .int .u64 0, .int .u64 0, .int .u16 0, .int .u16 0, .int .u8 0, .int .u32 0, .bool false] 32)) w.heap.size 32 (qC false 0 0 false 0 0 0 0 0 0 false) := Bk.new w 32 #[.bool false, .int .u64 0, .int .u64 0, .bool false, .int .u64 0, .int .u64 0, .int .u16 0, .int .u16 0, .int .u8 0, .int .u32 0, .bool false]
  have be : Below w.heap.size w (w.alloc (.cells #[.bool false, .int .u64 0, .int .u64 0, .bool false, .int .u64 0, .int .u64 0, .int .u16 0, .int .u16 0, .int .u8 0, .int .u32 0, .bool false] 32)) := Below.allocS (Below.refl _ _) _
  replace HO := Lib.hid HO
  go_enter Try.func13, Try.ntmps13
  go_upto_region 1 with (fail)
  generalize w.alloc (.cells #[.bool false, .int .u64 0, .int .u64 0, .bool false, .int .u64 0, .int .u64 0, .int .u16 0, .int .u16 0, .int .u8 0, .int .u32 0, .bool false] 32) = V at *
  go_wp2_with fail
  refine (HO.out _ be).mono ?_
  rintro e w1 ⟨A1, m1, k1, bs1, d1, rfl, rfl, hL⟩
  go_upto_region 5 with (refine at_op (.store 29 (.tmp 7) (.tmp 17)) rfl ?_; refine wpList_stA (t := 29) 29 (.tmp 7) (.tmp 17) rfl rfl (flC s1 h1 l1 s2 h2 l2 0 0 6) (flC false 0 0 false 0 0 0 0 0) rfl (flC_one _ _ _ _ _ _ _ _ _) rfl rfl ?_ (szFl _ _ _ _ _ _ _ _ _) ?_; (· refine Bk.newK _ _ _ ?_ rfl; simp [size_plus]); intro W7 hF gr7)
  have zV := be.size
  have z4 := b4.lt
  have b7 := below_grown (Below.allocS (below_plus V bs1 d1) _) gr7 (by omega)
  replace be := be.trans (b7.mono zV)
  replace b4 := b4.later b7
  have zF0 : w.heap.size < V.heap.size + bs1.length := by omega
  replace hL := hL.later (below_grown (Below.allocS (Below.refl _ _) _) gr7 (by simp [size_plus]))
  clear b7 gr7
  generalize V.heap.size + bs1.length = g7 at *
  obtain rfl : L.length = m1 := hL.1
  obtain ⟨bL, oL, rfl, hbL, -⟩ := hL.2.2.at_ (by rw [bcs_length]; omega)
  have hcL := hL.2.1
  have j1 : (8 : Int) ≤ (k1 : Int) := by omega
  have j2 : (8 : Int) ≤ (L.length : Int) := by omega
  have h8 : Rb W7 (some ⟨bL, oL, none⟩) 8 k1 (L.take 8) := hL.take (by omega)
  have yp : W7.cell? ⟨g7, 8, none⟩ = some (.int .u8 (6 : Int)) := hF.cell 8
  have zF := hF.lt
  go_wp2_with fail
  refine (readK _ _ _ _ W7 h8 (by decide)).mono ?_
  rintro e w1 ⟨r, bs2, d2, rfl, rfl, hr2, hR⟩
  have zb2 := be.size
  replace b4 := b4.later (below_plus _ bs2 d2)
  replace hF := hF.later (below_plus _ bs2 d2)
  replace hL := hL.plus_ bs2 d2
  replace be := belowP be bs2 d2
  have hrL : ∀ a, some (⟨bL, oL, none⟩ : Addr) = some a → a.block ≠ r := fun a ha => by injection ha with ha; subst ha; show bL ≠ r; omega
  have hr4 : w.heap.size < r := by omega
  have hr7 : g7 ≠ r := by omega
  generalize plus W7 bs2 d2 = W8 at *
  have l8 : (L.take 8).length = 8 := by rw [List.length_take]; omega
  have x0 : Hid (num (((L.take 8).drop 0).take 2) = sp) := Lib.hid (by rw [num_in L 8 0 2 (by decide)]; exact hsp)
  have x1 : Hid (num (((L.take 8).drop 2).take 2) = dp) := Lib.hid (by rw [num_in L 8 2 2 (by decide)]; exact hdp)
  clear yp zF h8 hr2 hbL
  go_wp2_with fail
  refine (wordG W8 r (L.take 8) 0 sp hR (by omega) (by omega) x0.out).mono ?_
  rintro e W9 ⟨rfl, hR1, hg1⟩
  replace b4 := b4.grown hg1 (by simp; omega)
  replace hF := hF.grown hg1 (by simp; omega)
  replace hL := hL.grownO hg1 hrL
  replace be := below_grown be hg1 (by omega)
  clear hg1 hR
  have zF := hF.lt
  go_upto_region 9 with (refine at_op (.store 27 (.tmp 38) (.tmp 37)) rfl ?_; refine wpList_st1R 27 (.tmp 38) (.tmp 37) rfl rfl rfl rfl hF rfl (by intro x h; cases h) rfl (by kernel_rfl) ?_; intro W10 hF2 gr2 fr2)
  replace b4 := b4.grown gr2 (by simp; omega)
  replace hR1 := hR1.farN gr2 hr7 fr2
  replace hL := fr2 _ _ _ _ hL
  replace be := below_grown be gr2 (by omega)
  clear hF gr2 fr2 zF
  go_wp2_with fail
  refine (wordG W10 r (L.take 8) 2 dp hR1 (by omega) (by omega) x1.out).mono ?_
  rintro e W11 ⟨rfl, hR2, hg1⟩
  replace b4 := b4.grown hg1 (by simp; omega)
  replace hF2 := hF2.grown hg1 (by simp; omega)
  replace hL := hL.grownO hg1 hrL
  replace be := below_grown be hg1 (by omega)
  clear hg1 hR1
  go_upto_region 10 with (refine at_op (.store 27 (.tmp 41) (.tmp 40)) rfl ?_; refine wpList_st1R 27 (.tmp 41) (.tmp 40) rfl rfl rfl rfl hF2 rfl (by intro x h; cases h) rfl (by kernel_rfl) ?_; intro W12 hF3 gr3 fr3)
  replace b4 := b4.grown gr3 (by simp; omega)
  replace hL := fr3 _ _ _ _ hL
  replace be := below_grown be gr3 (by omega)
  clear hF2 gr3 fr3 hR2
  replace hF3 : Bk W12 g7 29 ([.bool s1, .int .u64 (h1 : Int), .int .u64 (l1 : Int), .bool s2, .int .u64 (h2 : Int), .int .u64 (l2 : Int), .int .u16 (sp : Int), .int .u16 (dp : Int), .int .u8 (6 : Int)]) := hF3
  have z4' := b4.lt
  go_upto_region 11 with (first
    | (refine at_op (.load 29 (.tmp 7)) rfl ?_; refine wpList_ldA (t := 29) 29 (.tmp 7) rfl rfl ([.bool s1, .int .u64 (h1 : Int), .int .u64 (l1 : Int), .bool s2, .int .u64 (h2 : Int), .int .u64 (l2 : Int), .int .u16 (sp : Int), .int .u16 (dp : Int), .int .u8 (6 : Int)]) rfl (hF3) (whole_ _) u1 u2 (szFl s1 h1 l1 s2 h2 l2 sp dp 6) ?_)
    | (refine at_op (.store 32 (.tmp 11) (.tmp 43)) rfl ?_; refine wpList_stA (t := 32) 32 (.tmp 11) (.tmp 43) rfl rfl (qC s1 h1 l1 s2 h2 l2 sp dp 6 0 false) (qC false 0 0 false 0 0 0 0 0 0 false) rfl (qC_one _ _ _ _ _ _ _ _ _ _ _) rfl rfl ?_ (szQ _ _ _ _ _ _ _ _ _ _ _) ?_; (· refine Bk.newK _ _ _ ?_ rfl; simp [size_plus]); intro W13 hQ gr13))
  have z12 := be.size
  have b13 := below_grown (Below.allocS (Below.refl _ _) _) gr13 (Nat.le_refl _)
  replace be := be.trans (b13.mono z12)
  replace b4 := b4.later b13
  replace hF3 := hF3.later b13
  replace hL := hL.later b13
  clear b13 gr13
  generalize W12.heap.size = g11 at *
  have yp : W13.cell? ⟨g7, 8, none⟩ = some (.int .u8 (6 : Int)) := hF3.cell 8
  have zF := hF3.lt
  have h11 : w.heap.size < g11 := by omega
  go_wp2_with fail
  refine (HST.out _ _ _ _ hL).mono ?_
  rintro e w1 ⟨bs5, d5, rfl, rfl⟩
  replace b4 := b4.later (below_plus _ bs5 d5)
  replace hQ := hQ.later (below_plus _ bs5 d5)
  replace be := belowP be bs5 d5
  clear hL yp zF hF3
  generalize plus W13 bs5 d5 = W14 at *
  go_upto_region 13 with (first
    | (refine at_op (.store 30 (.tmp 52) (.tmp 50)) rfl ?_; refine wpList_st1R 30 (.tmp 52) (.tmp 50) rfl rfl rfl rfl hQ rfl (by intro x h; cases h) rfl (by kernel_rfl) ?_; intro W15 hQ2 gr5 fr5)
    | (refine at_op (.store 4 (.tmp 53) (.tmp 51)) rfl ?_; refine wpList_st1R 4 (.tmp 53) (.tmp 51) rfl rfl rfl rfl hQ2 rfl (by intro x h; cases h) rfl (by kernel_rfl) ?_; intro W16 hQ3 gr6 fr6))
  replace b4 := (b4.grown gr5 (by simp; omega)).grown gr6 (by simp; omega)
  replace be := below_grown (below_grown be gr5 (by omega)) gr6 (by omega)
  replace hQ : Bk W16 g11 32 (qC s1 h1 l1 s2 h2 l2 sp dp 6 v has) := hQ3
  clear gr5 gr6 fr5 fr6 hQ2 hQ3
  go_wp2_with (first | (refine at_op (.load 32 (.tmp 11)) rfl ?_; refine wpList_ldA (t := 32) 32 (.tmp 11) rfl rfl (qC s1 h1 l1 s2 h2 l2 sp dp 6 v has) rfl (hQ) (whole_ _) q1 q2 (szQ _ _ _ _ _ _ _ _ _ _ _) ?_) | (refine at_op (.store 32 (.tmp 4) (.tmp 54)) rfl ?_; refine wpList_stA (t := 32) 32 (.tmp 4) (.tmp 54) rfl rfl (qC s1 h1 l1 s2 h2 l2 sp dp 6 v has) (qC false 0 0 false 0 0 0 0 0 0 false) rfl (qC_one _ _ _ _ _ _ _ _ _ _ _) rfl rfl b4 (szQ _ _ _ _ _ _ _ _ _ _ _) ?_; intro W9 h9 g9))
  refine bodyPost_agg2 Try.results13 rfl rfl h9.range q1 q2 (szQ _ _ _ _ _ _ _ _ _ _ _) rfl (RetV.mk ?_)
  exact below_grown be g9 (by omega)
end Go.Proofs.Ytfmkndemkpecpaa
