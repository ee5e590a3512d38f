/- The law CidLeases (chapter 13). -/
import Derived.Test.YtldecdeiibfekaaCidN
import Derived.Test.YtldecdeiibfekaaCidP
import Derived.Deep.CutBlock
namespace Go.Proofs.Ytldecdeiibfekaa
open Go.RowKit
set_option linter.unusedVariables false
set_option linter.unusedSimpArgs false
attribute [local go_sem ↓] sliced_cut
attribute [local go_sem] cutA_zero

def strV (t : List UInt8) : Value := .string ⟨t.toArray⟩
/-- IDs of one lease, of numbers below y -/
def Apart (key : List UInt8) (n : Nat) (v s : Int) (y : Nat) (S : List (List UInt8)) : Prop := ∀ t ∈ S, ∃ u, u < y ∧ u < 1099511627776 ∧ t = cidB key n v.toNat s.toNat u
theorem Apart.nil (key : List UInt8) (n : Nat) (v s : Int) (y : Nat) : Apart key n v s y [] := fun _ h => by cases h
theorem cidB_inj {key : List UInt8} {n v s u u' : Nat} (h1 : u < 1099511627776) (h2 : u' < 1099511627776) (h : cidB key n v s u = cidB key n v s u') : u = u' := by
  have e : (cidB key n v s u).take 5 = (cidB key n v s u').take 5 := by rw [h]
  unfold cidB at e
  rw [List.append_assoc, List.append_assoc, List.take_left' (dig_length 5 u), List.take_left' (dig_length 5 u')] at e
  rw [← numDig u 5 (by omega), ← numDig u' 5 (by omega), e]
theorem Apart.ne {key : List UInt8} {n : Nat} {v s : Int} {y : Nat} {S : List (List UInt8)} (h : Apart key n v s y S) (hy : y < 1099511627776) : ∀ t ∈ S, t ≠ cidB key n v.toNat s.toNat y := fun t ht e => by
  obtain ⟨u, h1, h2, h3⟩ := h t ht
  have := cidB_inj h2 hy (h3.symm.trans e)
  omega
theorem Apart.cons {key : List UInt8} {n : Nat} {v s : Int} {y : Nat} {S : List (List UInt8)} (h : Apart key n v s y S) (hy : y < 1099511627776) : Apart key n v s (y + 1) (S ++ [cidB key n v.toNat s.toNat y]) := fun t ht => by
  rcases List.mem_append.1 ht with ht | ht
  · obtain ⟨u, h1, h2, h3⟩ := h t ht
    exact ⟨u, by omega, h2, h3⟩
  · rw [List.mem_singleton] at ht
    exact ⟨y, by omega, hy, ht⟩
theorem owns_later {w w' : World} {base : Nat} {e : TypeId} {sz : Nat} {v : Value} {n : Nat} {xs : List Value} (h : w.ownsRow base e sz v n xs) (hb : Below w.heap.size w w') : w'.ownsRow base e sz v n xs := by
  refine h.kept (grownBy_of_below hb) ?_
  cases hk : v.ownBlock with
  | none => exact .inl rfl
  | some k => exact .inr (by simp)
theorem takeYesI (key : List UInt8) (hk : K16 key) (n a b : Nat) (v s : Int) (w : World) (hn : n < 18446744073709551616) (ha : a < 1099511627776) (hb : b < 18446744073709551616) (h0 : b - a ≠ 0) (k1 : 0 ≤ v) (k2 : v < 8) (k3 : 0 ≤ s) (k4 : s < 4096) : Calls Try.prog 40 #[.agg (leC a b).toArray, .agg (ringC key n).toArray, .agg (plI v s).toArray] w (RetTk w (cidB key n v.toNat s.toNat a) (a + 1) b) := by
  obtain ⟨v, rfl⟩ := Int.eq_ofNat_of_zero_le k1
  obtain ⟨s, rfl⟩ := Int.eq_ofNat_of_zero_le k3
  exact takeYes key hk n a b v s w hn ha hb h0 (by omega) (by omega)
theorem refMakeI (key : List UInt8) (hk : K16 key) (n : Nat) (v s : Int) (u : Nat) (w : World) (hn : n < 18446744073709551616) (k1 : 0 ≤ v) (k2 : v < 8) (k3 : 0 ≤ s) (k4 : s < 4096) (hu : u < 1099511627776) : Calls Try.prog 34 #[.agg (ringC key n).toArray, .int .i64 v, .int .i64 s, .int .u64 (u : Int)] w (RetB w (cidB key n v.toNat s.toNat u)) := by
  obtain ⟨v, rfl⟩ := Int.eq_ofNat_of_zero_le k1
  obtain ⟨s, rfl⟩ := Int.eq_ofNat_of_zero_le k3
  exact refMake key hk n v s u w hn (by omega) (by omega) hu
theorem refLeft (a b : Nat) (w : World) (ha : a < 18446744073709551616) (hb : b < 18446744073709551616) : Calls Try.prog 37 #[.int .u64 (a : Int), .int .u64 (b : Int)] w (RetV w (.int .u64 ((b - a : Nat) : Int))) := by
  by_cases h : b ≤ a
  · go_enter Try.func37, Try.ntmps37
    go_wp2
    go_ret
    exact RetV.is_ (by simp; omega) (Below.refl _ _)
  · go_enter Try.func37, Try.ntmps37
    go_wp2
    go_ret
    exact RetV.is_ (by simp; omega) (Below.refl _ _)
theorem eq_leC (w : World) (a b : Nat) : (binOp .eql 67 (.agg (leC a b).toArray) (.agg (leC a b).toArray)).run Try.prog w = .ok (.bool true) w := by
  unfold leC
  go_simp
theorem ne_leC (w : World) (a b : Nat) : (binOp .neq 67 (.agg (leC a b).toArray) (.agg (leC a b).toArray)).run Try.prog w = .ok (.bool false) w := by
  unfold leC
  go_simp
theorem bd_leC (w : World) (a b : Nat) : (Instr.build 67 #[(0, .int .u64 (a : Int)), (1, .int .u64 (b : Int))]).run Try.prog w = .ok (.agg (leC a b).toArray) w := by
  unfold leC
  go_simp
theorem ne_lit (w : World) (a b : Int) : (binOp .neq 67 (.agg #[.int .u64 a, .int .u64 b]) (.agg #[.int .u64 a, .int .u64 b])).run Try.prog w = .ok (.bool false) w := by
  go_simp
theorem ne_leC0 (w : World) : (binOp .neq 67 (.agg (leC 0 0).toArray) (.agg #[.int .u64 0, .int .u64 0])).run Try.prog w = .ok (.bool false) w := by
  unfold leC
  go_simp
attribute [local go_sem ↓] ne_leC0 ne_lit eq_leC ne_leC run_buildLe0 bd_leC
set_option maxHeartbeats 4000000 in
set_option maxRecDepth 100000 in
theorem cidLeases_yes (w : World) (key : List UInt8) (hk : K16 key) (n : Nat) (hn : n < 18446744073709551616) (a b : Nat) (ha : a < 18446744073709551616) (hb : b < 18446744073709551616) (v s : Int) (k : Nat) (hk' : k < 18446744073709551616) (hm : k ≤ b - a) :
    Calls Try.prog 5 #[.agg (ringC key n).toArray, .agg (leC a b).toArray, .agg (plI v s).toArray, .int .u64 (k : Int)] w fun e w' => e = .returned (.bool true) ∧ Below w.heap.size w w' := by
  have qr := ringC_16 key hk n
  obtain ⟨da, a1, a2, a3⟩ := row16
  obtain ⟨dr, r1, r2, r3⟩ : ∃ d, Try.prog.underlying 51 = some d ∧ d.isRow = true ∧ (Try.prog.info? 51).map (·.size) = some 17 := ⟨_, Try.underlying51, rfl, by kernel_rfl⟩
  have r4 : (Try.prog.info? 51).map (·.size) = some (ringC key n).length := by rw [ringC_length key hk n]; exact r3
  obtain ⟨dq, vr1, vr2, vr3⟩ := rowRing
  obtain ⟨dp, yp1, yp2⟩ := rowPl
  obtain ⟨dl, ul1, ul2⟩ := rowLe
  have hR : Bk (((w.alloc (.cells (ringC key n).toArray 51)).alloc (.cells (leC a b).toArray 67)).alloc (.cells (plI v s).toArray 53)) w.heap.size 51 (ringC key n) := ((Bk.new w 51 (ringC key n).toArray).alloc _).alloc _
  have hL : Bk (((w.alloc (.cells (ringC key n).toArray 51)).alloc (.cells (leC a b).toArray 67)).alloc (.cells (plI v s).toArray 53)) (w.heap.size + 1) 67 (leC a b) := (Bk.newK _ _ _ (by simp) rfl).alloc _
  have hP : Bk (((w.alloc (.cells (ringC key n).toArray 51)).alloc (.cells (leC a b).toArray 67)).alloc (.cells (plI v s).toArray 53)) (w.heap.size + 1 + 1) 53 (plI v s) := Bk.newK _ _ _ (by simp) rfl
  have be : Below w.heap.size w (((w.alloc (.cells (ringC key n).toArray 51)).alloc (.cells (leC a b).toArray 67)).alloc (.cells (plI v s).toArray 53)) := Below.allocS (Below.allocS (Below.allocS (Below.refl _ _) _) _) _
  have HAW := Lib.hid cidAwake
  have HLF := Lib.hid (fun w => leLeft a b w ha hb)
  have HRL := Lib.hid (fun w => refLeft a b w ha hb)
  obtain ⟨m, hmk⟩ : ∃ m, m = a + k := ⟨_, rfl⟩
  have HCT := Lib.hid (fun w => leCut_yes a b k m w ha hb hm hmk (by omega))
  have hkm : (a : Int) + (k : Int) = (m : Int) := by omega
  have hml : m < 18446744073709551616 := by omega
  clear hmk
  generalize b - a = lf0 at *
  go_enter Try.func5, Try.ntmps5
  go_upto_region 1 with (fail)
  generalize ((w.alloc (.cells (ringC key n).toArray 51)).alloc (.cells (leC a b).toArray 67)).alloc (.cells (plI v s).toArray 53) = W at *
  have qn : W.cell? ⟨w.heap.size, 16, none⟩ = some (.int .u64 (n : Int)) := by rw [hR.cell]; exact qr
  have q0 : W.cell? ⟨w.heap.size + 1, 0, none⟩ = some (.int .u64 (a : Int)) := hL.cell 0
  have q1 : W.cell? ⟨w.heap.size + 1, 1, none⟩ = some (.int .u64 (b : Int)) := hL.cell 1
  have q2 : W.cell? ⟨w.heap.size + 1 + 1, 0, none⟩ = some (.int .i64 v) := hP.cell 0
  have q3 : W.cell? ⟨w.heap.size + 1 + 1, 1, none⟩ = some (.int .i64 s) := hP.cell 1
  have z0 := hP.lt
  have zl := hL.lt
  have zr := hR.lt
  go_upto_region 2 with (first
    | (refine at_op (.load 49 (.tmp 21)) rfl ?_; refine wpList_ldA (t := 51) 49 (.tmp 21) rfl rfl (bcs key) rfl (hR) (ringC_key key n) a1 a2 (szArr key hk) ?_)
    | (go_at_call 30; refine (ringNew_any key hk n _).mono ?_; rintro e w1 ⟨bs1, d1, rfl, rfl⟩)
    | (refine at_op (.store 56 (.tmp 9) (.tmp 25)) rfl ?_; refine wpList_stA (t := 56) 56 (.tmp 9) (.tmp 25) rfl rfl (ringC key n) ring0 (by rw [ringC_length key hk]; rfl) (ringC_one key n) rfl rfl ?_ (szRing key hk n) ?_; (· refine Bk.newK _ _ _ ?_ rfl; simp [size_plus]); intro W2 hX hgr))
  have bx := below_grown (Below.allocS (below_plus W bs1 d1) (.cells (ring0).toArray 56)) hgr (by omega)
  have zb := be.size
  replace hR := hR.later bx
  replace hL := hL.later bx
  replace hP := hP.later bx
  replace be := be.trans (bx.mono zb)
  have hgx : w.heap.size + 1 + 1 < W.heap.size + bs1.length := by omega
  generalize W.heap.size + bs1.length = gx at *
  clear hgr bx zb qn q0 q1 q2 q3 z0 zl zr W
  have qn : W2.cell? ⟨w.heap.size, 16, none⟩ = some (.int .u64 (n : Int)) := by rw [hR.cell]; exact qr
  have q0 : W2.cell? ⟨w.heap.size + 1, 0, none⟩ = some (.int .u64 (a : Int)) := hL.cell 0
  have q1 : W2.cell? ⟨w.heap.size + 1, 1, none⟩ = some (.int .u64 (b : Int)) := hL.cell 1
  have q2 : W2.cell? ⟨w.heap.size + 1 + 1, 0, none⟩ = some (.int .i64 v) := hP.cell 0
  have q3 : W2.cell? ⟨w.heap.size + 1 + 1, 1, none⟩ = some (.int .i64 s) := hP.cell 1
  have z0 := hP.lt
  have zl := hL.lt
  have zr := hR.lt
  go_upto_region 4 with (first
    | (refine at_op (.load 67 (.tmp 5)) rfl ?_; refine wpList_ldA (t := 67) 67 (.tmp 5) rfl rfl (leC a b) rfl (by with_reducible repeat (first | exact hL | refine Bk.later ?_ (below_plus _ _ _) | refine Bk.alloc ?_ _)) (whole_ _) ul1 ul2 (szLe _ _) ?_)
    | (go_at_call 37; refine (HRL.out _).mono ?_; rintro e w1 ⟨bs2, d2, rfl, rfl⟩)
    | (go_at_call 38; refine (HCT.out _).mono ?_; rintro e w1 ⟨bs3, d3, rfl, rfl⟩)
    | (refine at_op (.store 67 (.tmp 11) (.tmp 35)) rfl ?_; refine wpList_stA (t := 67) 67 (.tmp 11) (.tmp 35) rfl rfl (leC a m) (leC 0 0) rfl (leC_one _ _) rfl rfl (?_) (szLe _ _) ?_; (· refine (Bk.newK _ _ _ ?_ rfl).alloc _; simp [size_plus]); intro W3 hC1 hgr)
    | (refine at_op (.store 67 (.tmp 12) (.tmp 36)) rfl ?_; refine wpList_stA (t := 67) 67 (.tmp 12) (.tmp 36) rfl rfl (leC m b) (leC 0 0) rfl (leC_one _ _) rfl rfl (?_) (szLe _ _) ?_; (· refine Bk.grown (Bk.newK _ _ _ ?_ rfl) hgr ?_ <;> simp [size_plus]); intro W4 hC2 hgr2))
  have b3 := below_grown (Below.allocS (Below.allocS (belowP (below_plus W2 bs2 d2) bs3 d3) (.cells #[.int .u64 0, .int .u64 0] 67)) (.cells #[.int .u64 0, .int .u64 0] 67)) hgr (by omega)
  have b4 := below_grown b3 hgr2 (by omega)
  have zb := be.size
  replace hR := hR.later b4
  replace hL := hL.later b4
  replace hP := hP.later b4
  replace hX := hX.later b4
  replace hC1 := hC1.grown hgr2 (by simp)
  replace be := be.trans (b4.mono zb)
  generalize W2.heap.size + bs2.length + bs3.length + 1 = g12 at *
  generalize W2.heap.size + bs2.length + bs3.length = g11 at *
  clear hgr hgr2 b3 b4 zb qn q0 q1 q2 q3 z0 zl zr
  have qn : W4.cell? ⟨w.heap.size, 16, none⟩ = some (.int .u64 (n : Int)) := by rw [hR.cell]; exact qr
  have q0 : W4.cell? ⟨w.heap.size + 1, 0, none⟩ = some (.int .u64 (a : Int)) := hL.cell 0
  have q1 : W4.cell? ⟨w.heap.size + 1, 1, none⟩ = some (.int .u64 (b : Int)) := hL.cell 1
  have q2 : W4.cell? ⟨w.heap.size + 1 + 1, 0, none⟩ = some (.int .i64 v) := hP.cell 0
  have q3 : W4.cell? ⟨w.heap.size + 1 + 1, 1, none⟩ = some (.int .i64 s) := hP.cell 1
  have z0 := hP.lt
  have zl := hL.lt
  have zr := hR.lt
  have zc1 := hC1.lt
  have hC1l : Bk W4 g11 67 ([.int .u64 (a : Int), .int .u64 (m : Int)]) := hC1
  have hC2l : Bk W4 g12 67 ([.int .u64 (m : Int), .int .u64 (b : Int)]) := hC2
  have zc2 := hC2.lt
  go_upto_block 0 with (first
    | go_skip
    | (refine at_op (.load 67 (.tmp 5)) rfl ?_; refine wpList_ldG (t := 67) 67 (.tmp 5) rfl rfl (leC a b) rfl (by with_reducible repeat (first | exact hL | refine Bk.later ?_ (below_plus _ _ _) | refine Bk.alloc ?_ _)) (whole_ _) ul1 ul2 (szLe _ _) ?_)
    | (refine at_op (.load 67 (.tmp 11)) rfl ?_; refine wpList_ldG (t := 67) 67 (.tmp 11) rfl rfl ([.int .u64 (a : Int), .int .u64 (m : Int)]) rfl (by with_reducible repeat (first | exact hC1l | refine Bk.later ?_ (below_plus _ _ _) | refine Bk.alloc ?_ _)) (whole_ _) ul1 ul2 (szLe 0 0) ?_)
    | (refine at_op (.load 67 (.tmp 12)) rfl ?_; refine wpList_ldG (t := 67) 67 (.tmp 12) rfl rfl ([.int .u64 (m : Int), .int .u64 (b : Int)]) rfl (by with_reducible repeat (first | exact hC2l | refine Bk.later ?_ (below_plus _ _ _) | refine Bk.alloc ?_ _)) (whole_ _) ul1 ul2 (szLe 0 0) ?_)
    | (go_at_call 39; refine (HLF.out _).mono ?_; rintro e w1 ⟨bs4, d4, rfl, rfl⟩))
  replace hR := hR.later (below_plus _ bs4 d4)
  replace hL := hL.later (below_plus _ bs4 d4)
  replace hP := hP.later (below_plus _ bs4 d4)
  replace hX := hX.later (below_plus _ bs4 d4)
  replace be := belowP be bs4 d4
  clear qn q0 q1 q2 q3 z0 zl zr zc1 zc2 hC1 hC2 hC1l hC2l HLF HRL HCT hkm hml hm
  generalize plus W4 bs4 d4 = W5 at *
  have zB := be.size
  have zX := hX.lt
  have zP := hP.lt
  generalize hB0 : W5.heap.size = B0 at *
  replace hB0 := Lib.hid hB0
  go_wp2
  go_loopw [14, 15] (fun ids i W' => ∃ (j y : Nat) (S : List (List UInt8)) (A : Option Addr) (m c : Nat), j ≤ 4 ∧ i = .int .i64 j ∧ ids = .slice A m c ∧ W'.ownsRow B0 9 1 (.slice A m c) m (S.map strV) ∧ m = j ∧ y < 18446744073709551616 ∧ Apart key n v s y S ∧ B0 ≤ W'.heap.size ∧ Bk W' w.heap.size 51 (ringC key n) ∧ Bk W' (w.heap.size + 1) 67 (leC y b) ∧ Bk W' (w.heap.size + 1 + 1) 53 (plI v s) ∧ Bk W' gx 56 (ringC key n) ∧ Below w.heap.size w W') (fun _ i _ => 4 - (intOf i).toNat)
  case atStart => exact ⟨0, a, [], none, 0, 0, by omega, rfl, rfl, World.ownsRow_nil _ _ _ 1, rfl, ha, Apart.nil _ _ _ _ _, Nat.le_of_eq hB0.out.symm, hR, hL, hP, hX, be⟩
  case round =>
    clear hR hL hP hX be
    obtain ⟨j, y, S, A, m, c, hj, rfl, rfl, ho, hmj, hy, hap, hBw, hR, hL, hP, hX, be⟩ := hrel
    have HMJ := Lib.hid hmj
    clear hmj
    by_cases h4 : j = 4
    · subst h4
      go_wp2_with (go_at_call 33; refine (HAW.out _).mono ?_; rintro e w1 ⟨bs6, d6, rfl, rfl⟩)
      go_ret
      exact ⟨rfl, belowP be _ _⟩
    · have hj4 : j < 4 := by omega
      clear h4
      have qn : wr.cell? ⟨w.heap.size, 16, none⟩ = some (.int .u64 (n : Int)) := by rw [hR.cell]; exact qr
      have HL := Lib.hid (fun w => leLeft y b w hy hb)
      by_cases hlf : b - y = 0
      · have HT := Lib.hid (fun w => takeNone key hk n y b v s w hy hb hlf)
        have HL0 : ∀ w, Calls Try.prog 39 #[.agg (leC y b).toArray] w (RetV w (.int .u64 0)) := fun w => by
          have h := leLeft y b w hy hb
          rw [hlf] at h
          exact h
        clear HL hlf
        have HL := Lib.hid HL0
        clear HL0
        go_upto_region 13 with (first
          | (refine at_op (.load 67 (.tmp 5)) rfl ?_; refine wpList_ldA (t := 67) 67 (.tmp 5) rfl rfl (leC y b) rfl (by with_reducible repeat (first | exact hL | refine Bk.later ?_ (below_plus _ _ _) | refine Bk.alloc ?_ _)) (whole_ _) ul1 ul2 (szLe _ _) ?_)
          | (refine at_op (.load 56 (.tmp 9)) rfl ?_; refine wpList_ldA (t := 56) 56 (.tmp 9) rfl rfl (ringC key n) rfl (by with_reducible repeat (first | exact hX | refine Bk.later ?_ (below_plus _ _ _) | refine Bk.alloc ?_ _)) (ringC_whole key n) vr1 vr2 (szRing key hk n) ?_)
          | (refine at_op (.load 53 (.tmp 6)) rfl ?_; refine wpList_ldA (t := 53) 53 (.tmp 6) rfl rfl (plI v s) rfl (by with_reducible repeat (first | exact hP | refine Bk.later ?_ (below_plus _ _ _) | refine Bk.alloc ?_ _)) (whole_ _) yp1 yp2 (szPlI _ _) ?_)
          | (go_at_call 40; refine (HT.out _).mono ?_; rintro e w1 ⟨bs3, d3, rfl, rfl⟩)
          | (refine at_op (.store 67 (.tmp 17) (.tmp 102)) rfl ?_; refine wpList_stA (t := 67) 67 (.tmp 17) (.tmp 102) rfl rfl (leC y b) (leC 0 0) rfl (leC_one _ _) rfl rfl (?_) (szLe _ _) ?_; (· refine Bk.newK _ _ _ ?_ rfl; simp [size_plus]); intro W6 hM hgr))
        have bb := below_grown (Below.allocS (below_plus wr bs3 d3) (.cells #[.int .u64 0, .int .u64 0] 67)) hgr (by omega)
        have b6 := below_grown (Below.allocS (Below.refl _ (plus wr bs3 d3)) (.cells #[.int .u64 0, .int .u64 0] 67)) hgr (by simp [size_plus])
        have zb := be.size
        have hg17 : wr.heap.size ≤ wr.heap.size + bs3.length := by omega
        replace hR := hR.later bb
        replace hL := hL.later bb
        replace hP := hP.later bb
        replace hX := hX.later bb
        replace be := be.trans (bb.mono zb)
        generalize wr.heap.size + bs3.length = g17 at *
        clear hgr bb b6 qn
        go_wp2_with (first
          | (refine at_op (.binOp .eql 27 (.tmp 105) (.const (.int .u64 0)) 27) rfl ?_; refine wpList_plain rfl (fun K hK => ?_); go_simp; with_reducible refine hK _ _ ?_; clear hK K; refine at_op (.move (.tmp 106)) rfl ?_; refine wpList_plain rfl (fun K hK => ?_); go_simp; with_reducible refine hK _ _ ?_; clear hK K; with_reducible refine wpList_skip (o := ⟨_, _, _, _, _, some _⟩) (by with_unfolding_all rfl) ?_; simp only [Act.put, List.setIfInBounds_toArray, List.set_cons_zero, List.set_cons_succ]; with_reducible refine wpList_skip (o := ⟨_, _, _, _, _, some _⟩) (by with_unfolding_all rfl) ?_; simp only [Act.put, List.setIfInBounds_toArray, List.set_cons_zero, List.set_cons_succ]; with_reducible refine wpList_skip (o := ⟨_, _, _, _, _, some _⟩) (by with_unfolding_all rfl) ?_; simp only [Act.put, List.setIfInBounds_toArray, List.set_cons_zero, List.set_cons_succ]; with_reducible refine wpList_skip (o := ⟨_, _, _, _, _, some _⟩) (by with_unfolding_all rfl) ?_; simp only [Act.put, List.setIfInBounds_toArray, List.set_cons_zero, List.set_cons_succ]; with_reducible refine wpList_skip (o := ⟨_, _, _, _, _, some _⟩) (by with_unfolding_all rfl) ?_; simp only [Act.put, List.setIfInBounds_toArray, List.set_cons_zero, List.set_cons_succ]; with_reducible refine wpList_skip (o := ⟨_, _, _, _, _, some _⟩) (by with_unfolding_all rfl) ?_; simp only [Act.put, List.setIfInBounds_toArray, List.set_cons_zero, List.set_cons_succ]; with_reducible refine wpList_skip (o := ⟨_, _, _, _, _, some _⟩) (by with_unfolding_all rfl) ?_; simp only [Act.put, List.setIfInBounds_toArray, List.set_cons_zero, List.set_cons_succ]; with_reducible refine wpList_skip (o := ⟨_, _, _, _, _, some _⟩) (by with_unfolding_all rfl) ?_; simp only [Act.put, List.setIfInBounds_toArray, List.set_cons_zero, List.set_cons_succ]; refine at_op (.pick (.tmp 107) (.const (.bool true)) (.tmp 115)) rfl ?_; refine wpList_plain rfl (fun K hK => ?_); go_simp; with_reducible refine hK _ _ ?_; clear hK K)
          | (with_reducible refine wpList_skip (o := ⟨_, _, _, _, _, some _⟩) (by with_unfolding_all rfl) ?_; simp only [Act.put, List.setIfInBounds_toArray, List.set_cons_zero, List.set_cons_succ])
          | (refine at_op (.load 67 (.tmp 5)) rfl ?_; refine wpList_ldG (t := 67) 67 (.tmp 5) rfl rfl (leC y b) rfl (by with_reducible repeat (first | exact hL | refine Bk.later ?_ (below_plus _ _ _) | refine Bk.alloc ?_ _)) (whole_ _) ul1 ul2 (szLe _ _) ?_)
          | (refine at_op (.load 67 (.tmp 17)) rfl ?_; refine wpList_ldG (t := 67) 67 (.tmp 17) rfl rfl (leC y b) rfl (by with_reducible repeat (first | exact hM | refine Bk.later ?_ (below_plus _ _ _) | refine Bk.alloc ?_ _)) (whole_ _) ul1 ul2 (szLe _ _) ?_)
          | (go_at_call 39; refine (HL.out _).mono ?_; rintro e w1 ⟨bs4, d4, rfl, rfl⟩)
          | (go_at_call 32; refine (HRT.out _).mono ?_; rintro e w1 ⟨bs5, d5, rfl, rfl⟩)
          | (go_at_call 33; refine (HAW.out _).mono ?_; rintro e w1 ⟨bs6, d6, rfl, rfl⟩))
        go_ret
        refine ⟨rfl, ?_⟩
        repeat (first | exact be | refine belowP ?_ _ _)
      · have t1 : (((b - y : Nat) : Int) == 0) = false := by rw [beq_eq_false_iff_ne]; omega
        have HRT := Lib.hid (fun w => refCidRight v s y w)
        cases hok : (plB v s && decide (y < 1099511627776))
        · have HT := Lib.hid (fun w => takeArg key hk n y b v s w hy hb hlf hok)
          rw [hok] at HRT
          clear hlf hok
          generalize b - y = lf at *
          go_upto_region 13 with (first
            | (refine at_op (.load 67 (.tmp 5)) rfl ?_; refine wpList_ldA (t := 67) 67 (.tmp 5) rfl rfl (leC y b) rfl (by with_reducible repeat (first | exact hL | refine Bk.later ?_ (below_plus _ _ _) | refine Bk.alloc ?_ _)) (whole_ _) ul1 ul2 (szLe _ _) ?_)
            | (refine at_op (.load 56 (.tmp 9)) rfl ?_; refine wpList_ldA (t := 56) 56 (.tmp 9) rfl rfl (ringC key n) rfl (by with_reducible repeat (first | exact hX | refine Bk.later ?_ (below_plus _ _ _) | refine Bk.alloc ?_ _)) (ringC_whole key n) vr1 vr2 (szRing key hk n) ?_)
            | (refine at_op (.load 53 (.tmp 6)) rfl ?_; refine wpList_ldA (t := 53) 53 (.tmp 6) rfl rfl (plI v s) rfl (by with_reducible repeat (first | exact hP | refine Bk.later ?_ (below_plus _ _ _) | refine Bk.alloc ?_ _)) (whole_ _) yp1 yp2 (szPlI _ _) ?_)
            | (go_at_call 40; refine (HT.out _).mono ?_; rintro e w1 ⟨bs3, d3, rfl, rfl⟩)
            | (refine at_op (.store 67 (.tmp 17) (.tmp 102)) rfl ?_; refine wpList_stA (t := 67) 67 (.tmp 17) (.tmp 102) rfl rfl (leC y b) (leC 0 0) rfl (leC_one _ _) rfl rfl (?_) (szLe _ _) ?_; (· refine Bk.newK _ _ _ ?_ rfl; simp [size_plus]); intro W6 hM hgr))
          have bb := below_grown (Below.allocS (below_plus wr bs3 d3) (.cells #[.int .u64 0, .int .u64 0] 67)) hgr (by omega)
          have b6 := below_grown (Below.allocS (Below.refl _ (plus wr bs3 d3)) (.cells #[.int .u64 0, .int .u64 0] 67)) hgr (by simp [size_plus])
          have zb := be.size
          have hg17 : wr.heap.size ≤ wr.heap.size + bs3.length := by omega
          replace hR := hR.later bb
          replace hL := hL.later bb
          replace hP := hP.later bb
          replace hX := hX.later bb
          replace be := be.trans (bb.mono zb)
          generalize wr.heap.size + bs3.length = g17 at *
          clear hgr bb b6 qn
          have qn : W6.cell? ⟨w.heap.size, 16, none⟩ = some (.int .u64 (n : Int)) := by rw [hR.cell]; exact qr
          have q0 : W6.cell? ⟨w.heap.size + 1, 0, none⟩ = some (.int .u64 (y : Int)) := hL.cell 0
          have q1 : W6.cell? ⟨w.heap.size + 1, 1, none⟩ = some (.int .u64 (b : Int)) := hL.cell 1
          have q2 : W6.cell? ⟨w.heap.size + 1 + 1, 0, none⟩ = some (.int .i64 v) := hP.cell 0
          have q3 : W6.cell? ⟨w.heap.size + 1 + 1, 1, none⟩ = some (.int .i64 s) := hP.cell 1
          have z0 := hP.lt
          have zl := hL.lt
          have zr := hR.lt
          go_wp2_with (first
            | (refine wpList_skip (o := ⟨_, _, _, _, _, some _⟩) (by rfl) ?_; simp only [Act.put, List.setIfInBounds_toArray, List.set_cons_zero, List.set_cons_succ])
            | (refine at_op (.load 67 (.tmp 5)) rfl ?_; refine wpList_ldG (t := 67) 67 (.tmp 5) rfl rfl (leC y b) rfl (by with_reducible repeat (first | exact hL | refine Bk.later ?_ (below_plus _ _ _) | refine Bk.alloc ?_ _)) (whole_ _) ul1 ul2 (szLe _ _) ?_)
            | (refine at_op (.load 67 (.tmp 17)) rfl ?_; refine wpList_ldG (t := 67) 67 (.tmp 17) rfl rfl (leC y b) rfl (by with_reducible repeat (first | exact hM | refine Bk.later ?_ (below_plus _ _ _) | refine Bk.alloc ?_ _)) (whole_ _) ul1 ul2 (szLe _ _) ?_)
            | (go_at_call 39; refine (HL.out _).mono ?_; rintro e w1 ⟨bs4, d4, rfl, rfl⟩)
            | (go_at_call 32; refine (HRT.out _).mono ?_; rintro e w1 ⟨bs5, d5, rfl, rfl⟩)
            | (go_at_call 33; refine (HAW.out _).mono ?_; rintro e w1 ⟨bs6, d6, rfl, rfl⟩))
          go_ret
          refine ⟨rfl, ?_⟩
          repeat (first | exact be | refine belowP ?_ _ _)
        · rw [hok] at HRT
          simp only [plB, Bool.and_eq_true, decide_eq_true_eq] at hok
          obtain ⟨⟨k1, k2, k3, k4⟩, k5⟩ := hok
          have HT := Lib.hid (fun w => takeYesI key hk n y b v s w hn k5 hb hlf k1 k2 k3 k4)
          have HRM := Lib.hid (fun w => refMakeI key hk n v s y w hn k1 k2 k3 k4 k5)
          have HAP := Lib.hid (Apart.ne hap k5)
          have HAN := Lib.hid (Apart.cons hap k5)
          clear hlf k1 k2 k3 k4
          generalize b - y = lf at *
          generalize cidB key n v.toNat s.toNat y = Bx at *
          go_upto_region 13 with (first
            | (refine at_op (.load 67 (.tmp 5)) rfl ?_; refine wpList_ldA (t := 67) 67 (.tmp 5) rfl rfl (leC y b) rfl (by with_reducible repeat (first | exact hL | refine Bk.later ?_ (below_plus _ _ _) | refine Bk.alloc ?_ _)) (whole_ _) ul1 ul2 (szLe _ _) ?_)
            | (refine at_op (.load 56 (.tmp 9)) rfl ?_; refine wpList_ldA (t := 56) 56 (.tmp 9) rfl rfl (ringC key n) rfl (by with_reducible repeat (first | exact hX | refine Bk.later ?_ (below_plus _ _ _) | refine Bk.alloc ?_ _)) (ringC_whole key n) vr1 vr2 (szRing key hk n) ?_)
            | (refine at_op (.load 53 (.tmp 6)) rfl ?_; refine wpList_ldA (t := 53) 53 (.tmp 6) rfl rfl (plI v s) rfl (by with_reducible repeat (first | exact hP | refine Bk.later ?_ (below_plus _ _ _) | refine Bk.alloc ?_ _)) (whole_ _) yp1 yp2 (szPlI _ _) ?_)
            | (go_at_call 40; refine (HT.out _).mono ?_; rintro e w1 ⟨A9, n9, c9, bs3, d3, rfl, rfl, h9⟩)
            | (refine at_op (.store 67 (.tmp 17) (.tmp 102)) rfl ?_; refine wpList_stA (t := 67) 67 (.tmp 17) (.tmp 102) rfl rfl (leC (y + 1) b) (leC 0 0) rfl (leC_one _ _) rfl rfl (?_) (szLe _ _) ?_; (· refine Bk.newK _ _ _ ?_ rfl; simp [size_plus]); intro W6 hM hgr))
          have bb := below_grown (Below.allocS (below_plus wr bs3 d3) (.cells #[.int .u64 0, .int .u64 0] 67)) hgr (by omega)
          have b6 := below_grown (Below.allocS (Below.refl _ (plus wr bs3 d3)) (.cells #[.int .u64 0, .int .u64 0] 67)) hgr (by simp [size_plus])
          have zb := be.size
          have hg17 : wr.heap.size ≤ wr.heap.size + bs3.length := by omega
          replace hR := hR.later bb
          replace hL := hL.later bb
          replace hP := hP.later bb
          replace hX := hX.later bb
          replace be := be.trans (bb.mono zb)
          generalize wr.heap.size + bs3.length = g17 at *
          replace h9 := h9.later b6
          have hk17 : ∀ k, (Value.slice A m c).ownBlock = some k → k < g17 := fun k hk => Nat.lt_of_lt_of_le (ho.lt k hk).2 hg17
          replace ho := owns_later ho bb
          replace hBw := Nat.le_trans hBw bb.size
          clear hgr bb b6 qn
          have qn : W6.cell? ⟨w.heap.size, 16, none⟩ = some (.int .u64 (n : Int)) := by rw [hR.cell]; exact qr
          have q0 : W6.cell? ⟨w.heap.size + 1, 0, none⟩ = some (.int .u64 (y : Int)) := hL.cell 0
          have q1 : W6.cell? ⟨w.heap.size + 1, 1, none⟩ = some (.int .u64 (b : Int)) := hL.cell 1
          have q2 : W6.cell? ⟨w.heap.size + 1 + 1, 0, none⟩ = some (.int .i64 v) := hP.cell 0
          have q3 : W6.cell? ⟨w.heap.size + 1 + 1, 1, none⟩ = some (.int .i64 s) := hP.cell 1
          have z0 := hP.lt
          have zl := hL.lt
          have zr := hR.lt
          go_upto_region 18 with (first
            | go_skip
            | (refine at_op (.load 67 (.tmp 5)) rfl ?_; refine wpList_ldG (t := 67) 67 (.tmp 5) rfl rfl (leC y b) rfl (by with_reducible repeat (first | exact hL | refine Bk.later ?_ (below_plus _ _ _) | refine Bk.alloc ?_ _)) (whole_ _) ul1 ul2 (szLe _ _) ?_)
            | (go_at_call 39; refine (HL.out _).mono ?_; rintro e w1 ⟨bs4, d4, rfl, rfl⟩)
            | (go_at_call 32; refine (HRT.out _).mono ?_; rintro e w1 ⟨bs5, d5, rfl, rfl⟩))
          have b7 := belowP (below_plus W6 bs4 d4) bs5 d5
          replace hR := hR.later b7
          replace hL := hL.later b7
          replace hP := hP.later b7
          replace hX := hX.later b7
          replace hM := hM.later b7
          replace h9 := h9.later b7
          replace ho := owns_later ho b7
          replace hBw := Nat.le_trans hBw b7.size
          replace be := be.trans ((b7).mono be.size)
          generalize plus (plus W6 bs4 d4) bs5 d5 = W7 at *
          clear b7 qn q0 q1 q2 q3 z0 zl zr
          go_wp2
          refine wp_rel 26 182 rfl (by kernel_rfl) (by kernel_rfl) (fun i => match i with | 0 => MP.eq (.int .i64 0) | 1 => MP.eq (.bool false) | 2 => MP.eq (.bool false) | 3 => MP.eq (.slice A9 n9 c9) | 4 => MP.eq (.string ⟨Bx.toArray⟩) | 5 => MP.eq (.agg (ringC key n).toArray) | 6 => MP.eq (.pointer (some ⟨w.heap.size + 1 + 1, 0, none⟩)) | 7 => MP.eq (.int .i64 v) | 8 => MP.eq (.pointer (some ⟨w.heap.size + 1 + 1, 1, none⟩)) | 9 => MP.eq (.int .i64 s) | 10 => MP.eq (.pointer (some ⟨w.heap.size + 1, 0, none⟩)) | 11 => MP.eq (.int .u64 (y : Int)) | 12 => MP.rb Bx | 13 => MP.eq (.string ⟨Bx.toArray⟩) | 14 => MP.eq (.bool false) | 15 => MP.eq (.bool false) | 16 => MP.eq (.bool false) | 17 => MP.eq (.agg (leC (y + 1) b).toArray) | 18 => MP.eq (.pointer (some ⟨w.heap.size + 1, 0, none⟩)) | 19 => MP.eq (.int .u64 (y : Int)) | 20 => MP.eq (.int .u64 ((y + 1 : Nat) : Int)) | 21 => MP.eq (.pointer (some ⟨w.heap.size + 1, 1, none⟩)) | 22 => MP.eq (.int .u64 (b : Int)) | 23 => MP.eq (.agg (leC (y + 1) b).toArray) | 24 => MP.eq (.bool false) | 25 => MP.eq (.bool false) | _ => MP.any) ?_ ?_
          · intro i hi o ho FA x hO hD K hK
            match i, hi, ho, hO, hD, hK with
            | 0, _, ho, hO, hD, hK => 
              obtain rfl := Option.some.inj ho.symm
              clear ho
              have ev18 : FA.eval (.tmp 18) = .int .i64 0 := hO 18 (by kernel_rfl)
              have e18 : FA.tmps[18]?.getD undef = .int .i64 0 := by simpa [Act.eval] using ev18
              replace ev18 := Lib.hid ev18
              clear hO hD
              go_simp
              exact hK.out _ _ (Ex.refl _) rfl
            | 1, _, ho, hO, hD, hK => 
              obtain rfl := Option.some.inj ho.symm
              clear ho
              have ev136 : FA.eval (.tmp 136) = .int .i64 0 := hD 0 136 (by kernel_rfl)
              have e136 : FA.tmps[136]?.getD undef = .int .i64 0 := by simpa [Act.eval] using ev136
              replace ev136 := Lib.hid ev136
              clear hO hD
              go_simp
              exact hK.out _ _ (Ex.refl _) rfl
            | 2, _, ho, hO, hD, hK => 
              obtain rfl := Option.some.inj ho.symm
              clear ho
              have ev137 : FA.eval (.tmp 137) = .bool false := hD 1 137 (by kernel_rfl)
              have e137 : FA.tmps[137]?.getD undef = .bool false := by simpa [Act.eval] using ev137
              replace ev137 := Lib.hid ev137
              clear hO hD
              go_simp
              exact hK.out _ _ (Ex.refl _) rfl
            | 3, _, ho, hO, hD, hK => 
              obtain rfl := Option.some.inj ho.symm
              clear ho
              have ev16 : FA.eval (.tmp 16) = .slice A9 n9 c9 := hO 16 (by kernel_rfl)
              have e16 : FA.tmps[16]?.getD undef = .slice A9 n9 c9 := by simpa [Act.eval] using ev16
              replace ev16 := Lib.hid ev16
              have ev138 : FA.eval (.tmp 138) = .bool false := hD 2 138 (by kernel_rfl)
              have e138 : FA.tmps[138]?.getD undef = .bool false := by simpa [Act.eval] using ev138
              replace ev138 := Lib.hid ev138
              have ge138 := slot_of e138
              clear hO hD
              go_simp
              exact hK.out _ _ (Ex.refl _) rfl
            | 4, _, ho, hO, hD, hK => 
              obtain rfl := Option.some.inj ho.symm
              clear ho
              have ev139 : FA.eval (.tmp 139) = .slice A9 n9 c9 := hD 3 139 (by kernel_rfl)
              have e139 : FA.tmps[139]?.getD undef = .slice A9 n9 c9 := by simpa [Act.eval] using ev139
              replace ev139 := Lib.hid ev139
              have ev138 : FA.eval (.tmp 138) = .bool false := hD 2 138 (by kernel_rfl)
              have e138 : FA.tmps[138]?.getD undef = .bool false := by simpa [Act.eval] using ev138
              replace ev138 := Lib.hid ev138
              have ge138 := slot_of e138
              clear hO hD
              have es := run_str bt Try.underlying9 (h9.plus_ x.bs x.d)
              go_simp
              exact hK.out _ _ (Ex.refl _) rfl
            | 5, _, ho, hO, hD, hK => 
              obtain rfl := Option.some.inj ho.symm
              clear ho
              have ev4 : FA.eval (.tmp 4) = .pointer (some ⟨w.heap.size, 0, none⟩) := hO 4 (by kernel_rfl)
              have e4 : FA.tmps[4]?.getD undef = .pointer (some ⟨w.heap.size, 0, none⟩) := by simpa [Act.eval] using ev4
              replace ev4 := Lib.hid ev4
              have ev138 : FA.eval (.tmp 138) = .bool false := hD 2 138 (by kernel_rfl)
              have e138 : FA.tmps[138]?.getD undef = .bool false := by simpa [Act.eval] using ev138
              replace ev138 := Lib.hid ev138
              have ge138 := slot_of e138
              clear hO hD
              refine wanted_ifG (by go_simp) ?_
              refine wp_load_mid 51 (.tmp 4) rfl w.heap.size 0 ev4.out (ringC key n) _ (Bk.range (hR.later (below_plus _ _ _))) r1 r2 r4 ?_
              exact hK.out _ _ (Ex.refl _) rfl
            | 6, _, ho, hO, hD, hK => 
              obtain rfl := Option.some.inj ho.symm
              clear ho
              have ev6 : FA.eval (.tmp 6) = .pointer (some ⟨w.heap.size + 1 + 1, 0, none⟩) := hO 6 (by kernel_rfl)
              have e6 : FA.tmps[6]?.getD undef = .pointer (some ⟨w.heap.size + 1 + 1, 0, none⟩) := by simpa [Act.eval] using ev6
              replace ev6 := Lib.hid ev6
              have ev138 : FA.eval (.tmp 138) = .bool false := hD 2 138 (by kernel_rfl)
              have e138 : FA.tmps[138]?.getD undef = .bool false := by simpa [Act.eval] using ev138
              replace ev138 := Lib.hid ev138
              have ge138 := slot_of e138
              clear hO hD
              go_simp
              exact hK.out _ _ (Ex.refl _) rfl
            | 7, _, ho, hO, hD, hK => 
              obtain rfl := Option.some.inj ho.symm
              clear ho
              have ev142 : FA.eval (.tmp 142) = .pointer (some ⟨w.heap.size + 1 + 1, 0, none⟩) := hD 6 142 (by kernel_rfl)
              have e142 : FA.tmps[142]?.getD undef = .pointer (some ⟨w.heap.size + 1 + 1, 0, none⟩) := by simpa [Act.eval] using ev142
              replace ev142 := Lib.hid ev142
              have ev138 : FA.eval (.tmp 138) = .bool false := hD 2 138 (by kernel_rfl)
              have e138 : FA.tmps[138]?.getD undef = .bool false := by simpa [Act.eval] using ev138
              replace ev138 := Lib.hid ev138
              have ge138 := slot_of e138
              clear hO hD
              have cc : (plus W7 x.bs x.d).cell? ⟨w.heap.size + 1 + 1, 0, none⟩ = some (.int .i64 v) := (hP.later (below_plus _ _ _)).cell 0
              go_simp
              exact hK.out _ _ (Ex.refl _) rfl
            | 8, _, ho, hO, hD, hK => 
              obtain rfl := Option.some.inj ho.symm
              clear ho
              have ev6 : FA.eval (.tmp 6) = .pointer (some ⟨w.heap.size + 1 + 1, 0, none⟩) := hO 6 (by kernel_rfl)
              have e6 : FA.tmps[6]?.getD undef = .pointer (some ⟨w.heap.size + 1 + 1, 0, none⟩) := by simpa [Act.eval] using ev6
              replace ev6 := Lib.hid ev6
              have ev138 : FA.eval (.tmp 138) = .bool false := hD 2 138 (by kernel_rfl)
              have e138 : FA.tmps[138]?.getD undef = .bool false := by simpa [Act.eval] using ev138
              replace ev138 := Lib.hid ev138
              have ge138 := slot_of e138
              clear hO hD
              go_simp
              exact hK.out _ _ (Ex.refl _) rfl
            | 9, _, ho, hO, hD, hK => 
              obtain rfl := Option.some.inj ho.symm
              clear ho
              have ev144 : FA.eval (.tmp 144) = .pointer (some ⟨w.heap.size + 1 + 1, 1, none⟩) := hD 8 144 (by kernel_rfl)
              have e144 : FA.tmps[144]?.getD undef = .pointer (some ⟨w.heap.size + 1 + 1, 1, none⟩) := by simpa [Act.eval] using ev144
              replace ev144 := Lib.hid ev144
              have ev138 : FA.eval (.tmp 138) = .bool false := hD 2 138 (by kernel_rfl)
              have e138 : FA.tmps[138]?.getD undef = .bool false := by simpa [Act.eval] using ev138
              replace ev138 := Lib.hid ev138
              have ge138 := slot_of e138
              clear hO hD
              have cc : (plus W7 x.bs x.d).cell? ⟨w.heap.size + 1 + 1, 1, none⟩ = some (.int .i64 s) := (hP.later (below_plus _ _ _)).cell 1
              go_simp
              exact hK.out _ _ (Ex.refl _) rfl
            | 10, _, ho, hO, hD, hK => 
              obtain rfl := Option.some.inj ho.symm
              clear ho
              have ev5 : FA.eval (.tmp 5) = .pointer (some ⟨w.heap.size + 1, 0, none⟩) := hO 5 (by kernel_rfl)
              have e5 : FA.tmps[5]?.getD undef = .pointer (some ⟨w.heap.size + 1, 0, none⟩) := by simpa [Act.eval] using ev5
              replace ev5 := Lib.hid ev5
              have ev138 : FA.eval (.tmp 138) = .bool false := hD 2 138 (by kernel_rfl)
              have e138 : FA.tmps[138]?.getD undef = .bool false := by simpa [Act.eval] using ev138
              replace ev138 := Lib.hid ev138
              have ge138 := slot_of e138
              clear hO hD
              go_simp
              exact hK.out _ _ (Ex.refl _) rfl
            | 11, _, ho, hO, hD, hK => 
              obtain rfl := Option.some.inj ho.symm
              clear ho
              have ev146 : FA.eval (.tmp 146) = .pointer (some ⟨w.heap.size + 1, 0, none⟩) := hD 10 146 (by kernel_rfl)
              have e146 : FA.tmps[146]?.getD undef = .pointer (some ⟨w.heap.size + 1, 0, none⟩) := by simpa [Act.eval] using ev146
              replace ev146 := Lib.hid ev146
              have ev138 : FA.eval (.tmp 138) = .bool false := hD 2 138 (by kernel_rfl)
              have e138 : FA.tmps[138]?.getD undef = .bool false := by simpa [Act.eval] using ev138
              replace ev138 := Lib.hid ev138
              have ge138 := slot_of e138
              clear hO hD
              have cc : (plus W7 x.bs x.d).cell? ⟨w.heap.size + 1, 0, none⟩ = some (.int .u64 (y : Int)) := (hL.later (below_plus _ _ _)).cell 0
              go_simp
              exact hK.out _ _ (Ex.refl _) rfl
            | 12, _, ho, hO, hD, hK => 
              obtain rfl := Option.some.inj ho.symm
              clear ho
              have ev141 : FA.eval (.tmp 141) = .agg (ringC key n).toArray := hD 5 141 (by kernel_rfl)
              have e141 : FA.tmps[141]?.getD undef = .agg (ringC key n).toArray := by simpa [Act.eval] using ev141
              replace ev141 := Lib.hid ev141
              have ev143 : FA.eval (.tmp 143) = .int .i64 v := hD 7 143 (by kernel_rfl)
              have e143 : FA.tmps[143]?.getD undef = .int .i64 v := by simpa [Act.eval] using ev143
              replace ev143 := Lib.hid ev143
              have ev145 : FA.eval (.tmp 145) = .int .i64 s := hD 9 145 (by kernel_rfl)
              have e145 : FA.tmps[145]?.getD undef = .int .i64 s := by simpa [Act.eval] using ev145
              replace ev145 := Lib.hid ev145
              have ev147 : FA.eval (.tmp 147) = .int .u64 (y : Int) := hD 11 147 (by kernel_rfl)
              have e147 : FA.tmps[147]?.getD undef = .int .u64 (y : Int) := by simpa [Act.eval] using ev147
              replace ev147 := Lib.hid ev147
              have ev138 : FA.eval (.tmp 138) = .bool false := hD 2 138 (by kernel_rfl)
              have e138 : FA.tmps[138]?.getD undef = .bool false := by simpa [Act.eval] using ev138
              replace ev138 := Lib.hid ev138
              have ge138 := slot_of e138
              clear hO hD
              go_simp
              refine (HRM.out _).mono ?_
              rintro e w1 ⟨A3, n3, c3, bs2, d2, rfl, rfl, ho2⟩
              exact hK.out _ _ (Ex.plus_ _ _ _) ⟨_, _, _, rfl, ho2.rb⟩
            | 13, _, ho, hO, hD, hK => 
              obtain rfl := Option.some.inj ho.symm
              clear ho
              have f148 := hD 12 148 (by kernel_rfl)
              generalize eu148 : FA.eval (.tmp 148) = u148 at f148
              have e148 : FA.tmps[148]?.getD undef = u148 := by rw [← eu148]; simp [Act.eval]
              have ev148 := Lib.hid eu148
              clear eu148
              have ev138 : FA.eval (.tmp 138) = .bool false := hD 2 138 (by kernel_rfl)
              have e138 : FA.tmps[138]?.getD undef = .bool false := by simpa [Act.eval] using ev138
              replace ev138 := Lib.hid ev138
              have ge138 := slot_of e138
              clear hO hD
              obtain ⟨A1, n1, c1, rfl, hr1⟩ := f148
              have es := run_str bt Try.underlying9 hr1
              go_simp
              exact hK.out _ _ (Ex.refl _) rfl
            | 14, _, ho, hO, hD, hK => 
              obtain rfl := Option.some.inj ho.symm
              clear ho
              have ev140 : FA.eval (.tmp 140) = .string ⟨Bx.toArray⟩ := hD 4 140 (by kernel_rfl)
              have e140 : FA.tmps[140]?.getD undef = .string ⟨Bx.toArray⟩ := by simpa [Act.eval] using ev140
              replace ev140 := Lib.hid ev140
              have ev149 : FA.eval (.tmp 149) = .string ⟨Bx.toArray⟩ := hD 13 149 (by kernel_rfl)
              have e149 : FA.tmps[149]?.getD undef = .string ⟨Bx.toArray⟩ := by simpa [Act.eval] using ev149
              replace ev149 := Lib.hid ev149
              have ev138 : FA.eval (.tmp 138) = .bool false := hD 2 138 (by kernel_rfl)
              have e138 : FA.tmps[138]?.getD undef = .bool false := by simpa [Act.eval] using ev138
              replace ev138 := Lib.hid ev138
              have ge138 := slot_of e138
              clear hO hD
              go_simp
              exact hK.out _ _ (Ex.refl _) rfl
            | 15, _, ho, hO, hD, hK => 
              obtain rfl := Option.some.inj ho.symm
              clear ho
              have ev138 : FA.eval (.tmp 138) = .bool false := hD 2 138 (by kernel_rfl)
              have e138 : FA.tmps[138]?.getD undef = .bool false := by simpa [Act.eval] using ev138
              replace ev138 := Lib.hid ev138
              have ev150 : FA.eval (.tmp 150) = .bool false := hD 14 150 (by kernel_rfl)
              have e150 : FA.tmps[150]?.getD undef = .bool false := by simpa [Act.eval] using ev150
              replace ev150 := Lib.hid ev150
              clear hO hD
              go_simp
              exact hK.out _ _ (Ex.refl _) rfl
            | 16, _, ho, hO, hD, hK => 
              obtain rfl := Option.some.inj ho.symm
              clear ho
              have ev151 : FA.eval (.tmp 151) = .bool false := hD 15 151 (by kernel_rfl)
              have e151 : FA.tmps[151]?.getD undef = .bool false := by simpa [Act.eval] using ev151
              replace ev151 := Lib.hid ev151
              clear hO hD
              go_simp
              exact hK.out _ _ (Ex.refl _) rfl
            | 17, _, ho, hO, hD, hK => 
              obtain rfl := Option.some.inj ho.symm
              clear ho
              have ev17 : FA.eval (.tmp 17) = .pointer (some ⟨g17, 0, none⟩) := hO 17 (by kernel_rfl)
              have e17 : FA.tmps[17]?.getD undef = .pointer (some ⟨g17, 0, none⟩) := by simpa [Act.eval] using ev17
              replace ev17 := Lib.hid ev17
              have ev152 : FA.eval (.tmp 152) = .bool false := hD 16 152 (by kernel_rfl)
              have e152 : FA.tmps[152]?.getD undef = .bool false := by simpa [Act.eval] using ev152
              replace ev152 := Lib.hid ev152
              have ge152 := slot_of e152
              clear hO hD
              refine wanted_ifG (by go_simp) ?_
              refine wp_load_mid 67 (.tmp 17) rfl (g17) 0 ev17.out (leC (y + 1) b) _ (Bk.range (hM.later (below_plus _ _ _))) ul1 ul2 (szLe _ _) ?_
              exact hK.out _ _ (Ex.refl _) rfl
            | 18, _, ho, hO, hD, hK => 
              obtain rfl := Option.some.inj ho.symm
              clear ho
              have ev5 : FA.eval (.tmp 5) = .pointer (some ⟨w.heap.size + 1, 0, none⟩) := hO 5 (by kernel_rfl)
              have e5 : FA.tmps[5]?.getD undef = .pointer (some ⟨w.heap.size + 1, 0, none⟩) := by simpa [Act.eval] using ev5
              replace ev5 := Lib.hid ev5
              have ev152 : FA.eval (.tmp 152) = .bool false := hD 16 152 (by kernel_rfl)
              have e152 : FA.tmps[152]?.getD undef = .bool false := by simpa [Act.eval] using ev152
              replace ev152 := Lib.hid ev152
              have ge152 := slot_of e152
              clear hO hD
              go_simp
              exact hK.out _ _ (Ex.refl _) rfl
            | 19, _, ho, hO, hD, hK => 
              obtain rfl := Option.some.inj ho.symm
              clear ho
              have ev154 : FA.eval (.tmp 154) = .pointer (some ⟨w.heap.size + 1, 0, none⟩) := hD 18 154 (by kernel_rfl)
              have e154 : FA.tmps[154]?.getD undef = .pointer (some ⟨w.heap.size + 1, 0, none⟩) := by simpa [Act.eval] using ev154
              replace ev154 := Lib.hid ev154
              have ev152 : FA.eval (.tmp 152) = .bool false := hD 16 152 (by kernel_rfl)
              have e152 : FA.tmps[152]?.getD undef = .bool false := by simpa [Act.eval] using ev152
              replace ev152 := Lib.hid ev152
              have ge152 := slot_of e152
              clear hO hD
              have cc : (plus W7 x.bs x.d).cell? ⟨w.heap.size + 1, 0, none⟩ = some (.int .u64 (y : Int)) := (hL.later (below_plus _ _ _)).cell 0
              go_simp
              exact hK.out _ _ (Ex.refl _) rfl
            | 20, _, ho, hO, hD, hK => 
              obtain rfl := Option.some.inj ho.symm
              clear ho
              have ev155 : FA.eval (.tmp 155) = .int .u64 (y : Int) := hD 19 155 (by kernel_rfl)
              have e155 : FA.tmps[155]?.getD undef = .int .u64 (y : Int) := by simpa [Act.eval] using ev155
              replace ev155 := Lib.hid ev155
              have ev152 : FA.eval (.tmp 152) = .bool false := hD 16 152 (by kernel_rfl)
              have e152 : FA.tmps[152]?.getD undef = .bool false := by simpa [Act.eval] using ev152
              replace ev152 := Lib.hid ev152
              have ge152 := slot_of e152
              clear hO hD
              have hw : IntKind.u64.wrap ((y : Int) + 1) = ((y + 1 : Nat) : Int) := by rw [IntWalk.u64_in _ (by omega)]; simp
              go_simp
              exact hK.out _ _ (Ex.refl _) rfl
            | 21, _, ho, hO, hD, hK => 
              obtain rfl := Option.some.inj ho.symm
              clear ho
              have ev5 : FA.eval (.tmp 5) = .pointer (some ⟨w.heap.size + 1, 0, none⟩) := hO 5 (by kernel_rfl)
              have e5 : FA.tmps[5]?.getD undef = .pointer (some ⟨w.heap.size + 1, 0, none⟩) := by simpa [Act.eval] using ev5
              replace ev5 := Lib.hid ev5
              have ev152 : FA.eval (.tmp 152) = .bool false := hD 16 152 (by kernel_rfl)
              have e152 : FA.tmps[152]?.getD undef = .bool false := by simpa [Act.eval] using ev152
              replace ev152 := Lib.hid ev152
              have ge152 := slot_of e152
              clear hO hD
              go_simp
              exact hK.out _ _ (Ex.refl _) rfl
            | 22, _, ho, hO, hD, hK => 
              obtain rfl := Option.some.inj ho.symm
              clear ho
              have ev157 : FA.eval (.tmp 157) = .pointer (some ⟨w.heap.size + 1, 1, none⟩) := hD 21 157 (by kernel_rfl)
              have e157 : FA.tmps[157]?.getD undef = .pointer (some ⟨w.heap.size + 1, 1, none⟩) := by simpa [Act.eval] using ev157
              replace ev157 := Lib.hid ev157
              have ev152 : FA.eval (.tmp 152) = .bool false := hD 16 152 (by kernel_rfl)
              have e152 : FA.tmps[152]?.getD undef = .bool false := by simpa [Act.eval] using ev152
              replace ev152 := Lib.hid ev152
              have ge152 := slot_of e152
              clear hO hD
              have cc : (plus W7 x.bs x.d).cell? ⟨w.heap.size + 1, 1, none⟩ = some (.int .u64 (b : Int)) := (hL.later (below_plus _ _ _)).cell 1
              go_simp
              exact hK.out _ _ (Ex.refl _) rfl
            | 23, _, ho, hO, hD, hK => 
              obtain rfl := Option.some.inj ho.symm
              clear ho
              have ev156 : FA.eval (.tmp 156) = .int .u64 ((y + 1 : Nat) : Int) := hD 20 156 (by kernel_rfl)
              have e156 : FA.tmps[156]?.getD undef = .int .u64 ((y + 1 : Nat) : Int) := by simpa [Act.eval] using ev156
              replace ev156 := Lib.hid ev156
              have ev158 : FA.eval (.tmp 158) = .int .u64 (b : Int) := hD 22 158 (by kernel_rfl)
              have e158 : FA.tmps[158]?.getD undef = .int .u64 (b : Int) := by simpa [Act.eval] using ev158
              replace ev158 := Lib.hid ev158
              have ev152 : FA.eval (.tmp 152) = .bool false := hD 16 152 (by kernel_rfl)
              have e152 : FA.tmps[152]?.getD undef = .bool false := by simpa [Act.eval] using ev152
              replace ev152 := Lib.hid ev152
              have ge152 := slot_of e152
              clear hO hD
              go_simp
              exact hK.out _ _ (Ex.refl _) rfl
            | 24, _, ho, hO, hD, hK => 
              obtain rfl := Option.some.inj ho.symm
              clear ho
              have ev153 : FA.eval (.tmp 153) = .agg (leC (y + 1) b).toArray := hD 17 153 (by kernel_rfl)
              have e153 : FA.tmps[153]?.getD undef = .agg (leC (y + 1) b).toArray := by simpa [Act.eval] using ev153
              replace ev153 := Lib.hid ev153
              have ev159 : FA.eval (.tmp 159) = .agg (leC (y + 1) b).toArray := hD 23 159 (by kernel_rfl)
              have e159 : FA.tmps[159]?.getD undef = .agg (leC (y + 1) b).toArray := by simpa [Act.eval] using ev159
              replace ev159 := Lib.hid ev159
              have ev152 : FA.eval (.tmp 152) = .bool false := hD 16 152 (by kernel_rfl)
              have e152 : FA.tmps[152]?.getD undef = .bool false := by simpa [Act.eval] using ev152
              replace ev152 := Lib.hid ev152
              have ge152 := slot_of e152
              clear hO hD
              go_simp
              exact hK.out _ _ (Ex.refl _) rfl
            | 25, _, ho, hO, hD, hK => 
              obtain rfl := Option.some.inj ho.symm
              clear ho
              have ev152 : FA.eval (.tmp 152) = .bool false := hD 16 152 (by kernel_rfl)
              have e152 : FA.tmps[152]?.getD undef = .bool false := by simpa [Act.eval] using ev152
              replace ev152 := Lib.hid ev152
              have ev160 : FA.eval (.tmp 160) = .bool false := hD 24 160 (by kernel_rfl)
              have e160 : FA.tmps[160]?.getD undef = .bool false := by simpa [Act.eval] using ev160
              replace ev160 := Lib.hid ev160
              clear hO hD
              go_simp
              exact hK.out _ _ (Ex.refl _) rfl
            | (k + 26), hi, _, _, _, _ => exact absurd hi (by omega)
          intro vs x hp
          have p0 : vs 0 = .int .i64 0 := hp 0 (by omega)
          have p1 : vs 1 = .bool false := hp 1 (by omega)
          have p2 : vs 2 = .bool false := hp 2 (by omega)
          have p3 : vs 3 = .slice A9 n9 c9 := hp 3 (by omega)
          have p4 : vs 4 = .string ⟨Bx.toArray⟩ := hp 4 (by omega)
          have p5 : vs 5 = .agg (ringC key n).toArray := hp 5 (by omega)
          have p6 : vs 6 = .pointer (some ⟨w.heap.size + 1 + 1, 0, none⟩) := hp 6 (by omega)
          have p7 : vs 7 = .int .i64 v := hp 7 (by omega)
          have p8 : vs 8 = .pointer (some ⟨w.heap.size + 1 + 1, 1, none⟩) := hp 8 (by omega)
          have p9 : vs 9 = .int .i64 s := hp 9 (by omega)
          have p10 : vs 10 = .pointer (some ⟨w.heap.size + 1, 0, none⟩) := hp 10 (by omega)
          have p11 : vs 11 = .int .u64 (y : Int) := hp 11 (by omega)
          have p12 := hp 12 (by omega)
          have p13 : vs 13 = .string ⟨Bx.toArray⟩ := hp 13 (by omega)
          have p14 : vs 14 = .bool false := hp 14 (by omega)
          have p15 : vs 15 = .bool false := hp 15 (by omega)
          have p16 : vs 16 = .bool false := hp 16 (by omega)
          have p17 : vs 17 = .agg (leC (y + 1) b).toArray := hp 17 (by omega)
          have p18 : vs 18 = .pointer (some ⟨w.heap.size + 1, 0, none⟩) := hp 18 (by omega)
          have p19 : vs 19 = .int .u64 (y : Int) := hp 19 (by omega)
          have p20 : vs 20 = .int .u64 ((y + 1 : Nat) : Int) := hp 20 (by omega)
          have p21 : vs 21 = .pointer (some ⟨w.heap.size + 1, 1, none⟩) := hp 21 (by omega)
          have p22 : vs 22 = .int .u64 (b : Int) := hp 22 (by omega)
          have p23 : vs 23 = .agg (leC (y + 1) b).toArray := hp 23 (by omega)
          have p24 : vs 24 = .bool false := hp 24 (by omega)
          have p25 : vs 25 = .bool false := hp 25 (by omega)
          clear hp
          simp only [List.take_succ_cons, List.take_zero, List.drop_succ_cons, List.drop_zero, putAll, Nat.zero_add, Nat.reduceAdd, Act.put, List.setIfInBounds_toArray, List.set_cons_zero, List.set_cons_succ, p0, p1, p2, p3, p4, p5, p6, p7, p8, p9, p10, p11, p13, p14, p15, p16, p17, p18, p19, p20, p21, p22, p23, p24, p25]
          clear p0 p1 p2 p3 p4 p5 p6 p7 p8 p9 p10 p11 p13 p14 p15 p16 p17 p18 p19 p20 p21 p22 p23 p24 p25
          generalize vs 12 = y12 at *
          clear vs
          have b8 := below_plus W7 x.bs x.d
          replace hR := hR.later b8
          replace hL := hL.later b8
          replace hP := hP.later b8
          replace hX := hX.later b8
          replace hM := hM.later b8
          replace h9 := h9.later b8
          replace ho := owns_later ho b8
          replace hBw := Nat.le_trans hBw b8.size
          replace be := be.trans ((b8).mono be.size)
          generalize plus W7 x.bs x.d = W8 at *
          clear b8
          go_upto_block 2 with (fail)
          go_wp2
          have hm4 : m ≤ 4 := by have := HMJ.out; omega
          go_loopw [20] (fun kv W' => ∃ kk : Nat, kk ≤ m ∧ kv = .int .i64 kk ∧ Below W8.heap.size W8 W') (fun kv _ => m - (intOf kv).toNat)
          case atStart => exact ⟨0, by omega, rfl, Below.refl _ _⟩
          case round =>
            obtain ⟨kk, hkk, rfl, hbi⟩ := hrel
            have hoi := owns_later ho hbi
            have hSl : S.length = m := by have := ho.1; simpa using this
            by_cases hkm : kk < m
            · obtain ⟨gi, cap, hv, _, _⟩ := hoi.form (show 0 < m by omega)
              injection hv with e1 e2 e3
              subst e1 e3
              have hks : kk < S.length := by omega
              have hck : ∀ bs d, (plus wr bs d).cell? ⟨gi, kk, none⟩ = some (.string ⟨(S[kk]).toArray⟩) := fun bs d => by
                have := (owns_later hoi (below_plus wr bs d)).cells (g := gi) rfl kk (strV S[kk]) (by simp [hks])
                rw [add_plain, Nat.zero_add] at this
                exact this
              have hne := Lib.hid (HAP.out S[kk] (List.getElem_mem hks))
              replace h9 := h9.later hbi
              replace hSl := Lib.hid hSl
              clear hoi
              go_upto_region 23 with (fail)
              go_wp2
              refine wp_rel 7 182 rfl (by kernel_rfl) (by kernel_rfl) (fun i => match i with | 0 => MP.eq (.slice (some ⟨gi, 0, none⟩) m c) | 1 => MP.eq (.int .i64 (kk : Int)) | 2 => MP.eq (.pointer (some ⟨gi, kk, none⟩)) | 3 => MP.eq (.string ⟨(S[kk]).toArray⟩) | 4 => MP.eq (.slice A9 n9 c9) | 5 => MP.eq (.string ⟨Bx.toArray⟩) | 6 => MP.eq (.bool false) | _ => MP.any) ?_ ?_
              · intro i hi o ho FA x hO hD K hK
                match i, hi, ho, hO, hD, hK with
                | 0, _, ho, hO, hD, hK => 
                  obtain rfl := Option.some.inj ho.symm
                  clear ho
                  have ev14 : FA.eval (.tmp 14) = .slice (some ⟨gi, 0, none⟩) m c := hO 14 (by kernel_rfl)
                  have e14 : FA.tmps[14]?.getD undef = .slice (some ⟨gi, 0, none⟩) m c := by simpa [Act.eval] using ev14
                  replace ev14 := Lib.hid ev14
                  clear hO hD
                  go_simp
                  exact hK.out _ _ (Ex.refl _) rfl
                | 1, _, ho, hO, hD, hK => 
                  obtain rfl := Option.some.inj ho.symm
                  clear ho
                  have ev20 : FA.eval (.tmp 20) = .int .i64 (kk : Int) := hO 20 (by kernel_rfl)
                  have e20 : FA.tmps[20]?.getD undef = .int .i64 (kk : Int) := by simpa [Act.eval] using ev20
                  replace ev20 := Lib.hid ev20
                  clear hO hD
                  go_simp
                  exact hK.out _ _ (Ex.refl _) rfl
                | 2, _, ho, hO, hD, hK => 
                  obtain rfl := Option.some.inj ho.symm
                  clear ho
                  have ev168 : FA.eval (.tmp 168) = .slice (some ⟨gi, 0, none⟩) m c := hD 0 168 (by kernel_rfl)
                  have e168 : FA.tmps[168]?.getD undef = .slice (some ⟨gi, 0, none⟩) m c := by simpa [Act.eval] using ev168
                  replace ev168 := Lib.hid ev168
                  have ev169 : FA.eval (.tmp 169) = .int .i64 (kk : Int) := hD 1 169 (by kernel_rfl)
                  have e169 : FA.tmps[169]?.getD undef = .int .i64 (kk : Int) := by simpa [Act.eval] using ev169
                  replace ev169 := Lib.hid ev169
                  clear hO hD
                  have hkk : kk < m := hkm
                  go_simp
                  exact hK.out _ _ (Ex.refl _) rfl
                | 3, _, ho, hO, hD, hK => 
                  obtain rfl := Option.some.inj ho.symm
                  clear ho
                  have ev170 : FA.eval (.tmp 170) = .pointer (some ⟨gi, kk, none⟩) := hD 2 170 (by kernel_rfl)
                  have e170 : FA.tmps[170]?.getD undef = .pointer (some ⟨gi, kk, none⟩) := by simpa [Act.eval] using ev170
                  replace ev170 := Lib.hid ev170
                  clear hO hD
                  have cc : (plus wr x.bs x.d).cell? ⟨gi, kk, none⟩ = some (.string ⟨(S[kk]).toArray⟩) := hck _ _
                  go_simp
                  exact hK.out _ _ (Ex.refl _) rfl
                | 4, _, ho, hO, hD, hK => 
                  obtain rfl := Option.some.inj ho.symm
                  clear ho
                  have ev16 : FA.eval (.tmp 16) = .slice A9 n9 c9 := hO 16 (by kernel_rfl)
                  have e16 : FA.tmps[16]?.getD undef = .slice A9 n9 c9 := by simpa [Act.eval] using ev16
                  replace ev16 := Lib.hid ev16
                  clear hO hD
                  go_simp
                  exact hK.out _ _ (Ex.refl _) rfl
                | 5, _, ho, hO, hD, hK => 
                  obtain rfl := Option.some.inj ho.symm
                  clear ho
                  have ev172 : FA.eval (.tmp 172) = .slice A9 n9 c9 := hD 4 172 (by kernel_rfl)
                  have e172 : FA.tmps[172]?.getD undef = .slice A9 n9 c9 := by simpa [Act.eval] using ev172
                  replace ev172 := Lib.hid ev172
                  clear hO hD
                  have es := run_str bt Try.underlying9 (h9.plus_ x.bs x.d)
                  go_simp
                  exact hK.out _ _ (Ex.refl _) rfl
                | 6, _, ho, hO, hD, hK => 
                  obtain rfl := Option.some.inj ho.symm
                  clear ho
                  have ev171 : FA.eval (.tmp 171) = .string ⟨(S[kk]).toArray⟩ := hD 3 171 (by kernel_rfl)
                  have e171 : FA.tmps[171]?.getD undef = .string ⟨(S[kk]).toArray⟩ := by simpa [Act.eval] using ev171
                  replace ev171 := Lib.hid ev171
                  have ev173 : FA.eval (.tmp 173) = .string ⟨Bx.toArray⟩ := hD 5 173 (by kernel_rfl)
                  have e173 : FA.tmps[173]?.getD undef = .string ⟨Bx.toArray⟩ := by simpa [Act.eval] using ev173
                  replace ev173 := Lib.hid ev173
                  clear hO hD
                  have hne2 : (S[kk] == Bx) = false := beq_eq_false_iff_ne.2 hne.out
                  go_simp
                  exact hK.out _ _ (Ex.refl _) rfl
                | (k + 7), hi, _, _, _, _ => exact absurd hi (by omega)
              intro vs x hp
              have p0 : vs 0 = .slice (some ⟨gi, 0, none⟩) m c := hp 0 (by omega)
              have p1 : vs 1 = .int .i64 (kk : Int) := hp 1 (by omega)
              have p2 : vs 2 = .pointer (some ⟨gi, kk, none⟩) := hp 2 (by omega)
              have p3 : vs 3 = .string ⟨(S[kk]).toArray⟩ := hp 3 (by omega)
              have p4 : vs 4 = .slice A9 n9 c9 := hp 4 (by omega)
              have p5 : vs 5 = .string ⟨Bx.toArray⟩ := hp 5 (by omega)
              have p6 : vs 6 = .bool false := hp 6 (by omega)
              clear hp
              simp only [List.take_succ_cons, List.take_zero, List.drop_succ_cons, List.drop_zero, putAll, Nat.zero_add, Nat.reduceAdd, Act.put, List.setIfInBounds_toArray, List.set_cons_zero, List.set_cons_succ, p0, p1, p2, p3, p4, p5, p6]
              clear p0 p1 p2 p3 p4 p5 p6
              clear vs
              go_wp2
              go_roundw
              case rel => exact ⟨kk + 1, by omega, by go_num, hbi.trans ((below_plus wr x.bs x.d).mono hbi.size)⟩
              case measure => simp [intOf]; omega
            · obtain rfl : kk = m := by omega
              have hw4 := owns_later ho hbi
              replace hR := hR.later hbi
              replace hL := hL.later hbi
              replace hP := hP.later hbi
              replace hX := hX.later hbi
              replace hM := hM.later hbi
              replace h9 := h9.later hbi
              have zbi := hbi.size
              replace hBw := Nat.le_trans hBw zbi
              replace be := be.trans (hbi.mono be.size)
              have es := run_str bt Try.underlying9 h9
              obtain ⟨ti, hti, hz0, hz1, hz2⟩ := info_parts (show (Try.prog.info? 9).map (fun i => (i.zero, i.size, i.bytes)) = some (some (.string ⟨#[]⟩), 1, 16) by kernel_rfl)
              clear ho hSl
              go_upto_region 26 with (refine at_op (.call { callee := .builtin .append, args := #[.tmp 175, .tmp 178], argTypes := #[72, 72] }) rfl ?_; refine wpList_append_own_at _ rfl (.tmp 175) (.tmp 178) 72 rfl B0 9 ti (.string ⟨#[]⟩) 1 16 Try.underlying72 hti hz0 hz1 hz2 rfl (by decide) (.slice A kk c) kk (S.map strV) rfl (hw4.alloc _) ⟨wr.heap.size, 0, none⟩ 1 1 [strV Bx] rfl rfl (cell_one_new _ _ _) (by intro u hu; simp [strV] at hu; subst hu; rfl) (by simp [maxLen]; omega) (by omega) (by simp; omega) ?_; intro v' w' hown' hgr' hnil' hat')
              have hne0 : ∀ k, (Value.slice A kk c).ownBlock = some k → B0 ≤ k := fun k hk => (hw4.lt k hk).1
              obtain ⟨g', cap', hv', hgB, _⟩ := hown'.form (show 0 < kk + 1 by omega)
              subst hv'
              replace hR := (hR.alloc _).grown hgr' (fun e => by have := hne0 _ e; omega)
              replace hL := (hL.alloc _).grown hgr' (fun e => by have := hne0 _ e; omega)
              replace hP := (hP.alloc _).grown hgr' (fun e => by have := hne0 _ e; omega)
              replace hX := (hX.alloc _).grown hgr' (fun e => by have := hne0 _ e; omega)
              replace hM := (hM.alloc _).grown hgr' (fun e => by have := hk17 _ e; omega)
              replace hBw := Nat.le_trans hBw (Nat.le_trans (Nat.le_succ _) (by have := hgr'.size; simpa using this))
              replace be := (Below.allocS be _).trans (below_of_grown hgr' (by have := be.size; simp; omega) (fun k hk => by have := hne0 _ hk; omega))
              clear hw4 es hgr' h9
              go_wp2_with (first
                | (refine at_op (.load 67 (.tmp 17)) rfl ?_; refine wpList_ldA (t := 67) 67 (.tmp 17) rfl rfl (leC (y + 1) b) rfl (by with_reducible repeat (first | exact hM | refine Bk.later ?_ (below_plus _ _ _) | refine Bk.alloc ?_ _)) (whole_ _) ul1 ul2 (szLe _ _) ?_)
                | (refine at_op (.store 67 (.tmp 5) (.tmp 180)) rfl ?_; refine wpList_stA (t := 67) 67 (.tmp 5) (.tmp 180) rfl rfl (leC (y + 1) b) (leC y b) rfl (leC_one _ _) rfl rfl (hL) (szLe _ _) ?_; intro W11 hL11 hg11))
              go_roundw
              case rel =>
                refine ⟨j + 1, y + 1, S ++ [Bx], some ⟨g', 0, none⟩, kk + 1, cap', by omega, by go_num, rfl, ?_, by have := HMJ.out; omega, by omega, HAN.out, Nat.le_trans hBw hg11.size, hR.grown hg11 (by simp), hL11, hP.grown hg11 (by simp), hX.grown hg11 (by simp; omega), below_grown be hg11 (by omega)⟩
                rw [List.map_append]
                exact hown'.kept hg11 (.inr (by simp [Value.ownBlock]; omega))
              case measure => simp [intOf]; omega
set_option maxHeartbeats 4000000 in
set_option maxRecDepth 100000 in
theorem cidLeases_no (w : World) (key : List UInt8) (hk : K16 key) (n : Nat) (hn : n < 18446744073709551616) (a b : Nat) (ha : a < 18446744073709551616) (hb : b < 18446744073709551616) (v s : Int) (k : Nat) (hk' : k < 18446744073709551616) (hm : b - a < k) :
    Calls Try.prog 5 #[.agg (ringC key n).toArray, .agg (leC a b).toArray, .agg (plI v s).toArray, .int .u64 (k : Int)] w fun e w' => e = .returned (.bool true) ∧ Below w.heap.size w w' := by
  have qr := ringC_16 key hk n
  obtain ⟨da, a1, a2, a3⟩ := row16
  obtain ⟨dr, r1, r2, r3⟩ : ∃ d, Try.prog.underlying 51 = some d ∧ d.isRow = true ∧ (Try.prog.info? 51).map (·.size) = some 17 := ⟨_, Try.underlying51, rfl, by kernel_rfl⟩
  have r4 : (Try.prog.info? 51).map (·.size) = some (ringC key n).length := by rw [ringC_length key hk n]; exact r3
  obtain ⟨dq, vr1, vr2, vr3⟩ := rowRing
  obtain ⟨dp, yp1, yp2⟩ := rowPl
  obtain ⟨dl, ul1, ul2⟩ := rowLe
  have hR : Bk (((w.alloc (.cells (ringC key n).toArray 51)).alloc (.cells (leC a b).toArray 67)).alloc (.cells (plI v s).toArray 53)) w.heap.size 51 (ringC key n) := ((Bk.new w 51 (ringC key n).toArray).alloc _).alloc _
  have hL : Bk (((w.alloc (.cells (ringC key n).toArray 51)).alloc (.cells (leC a b).toArray 67)).alloc (.cells (plI v s).toArray 53)) (w.heap.size + 1) 67 (leC a b) := (Bk.newK _ _ _ (by simp) rfl).alloc _
  have hP : Bk (((w.alloc (.cells (ringC key n).toArray 51)).alloc (.cells (leC a b).toArray 67)).alloc (.cells (plI v s).toArray 53)) (w.heap.size + 1 + 1) 53 (plI v s) := Bk.newK _ _ _ (by simp) rfl
  have be : Below w.heap.size w (((w.alloc (.cells (ringC key n).toArray 51)).alloc (.cells (leC a b).toArray 67)).alloc (.cells (plI v s).toArray 53)) := Below.allocS (Below.allocS (Below.allocS (Below.refl _ _) _) _) _
  have HAW := Lib.hid cidAwake
  have HLF := Lib.hid (fun w => leLeft a b w ha hb)
  have HRL := Lib.hid (fun w => refLeft a b w ha hb)
  obtain ⟨m, hmk⟩ : ∃ m, m = a + k := ⟨_, rfl⟩
  have HCT := Lib.hid (fun w => leCut_no a b k w ha hb hm)
  have hkm : (a : Int) + (k : Int) = (m : Int) := by omega
  clear hmk
  generalize b - a = lf0 at *
  go_enter Try.func5, Try.ntmps5
  go_upto_region 1 with (fail)
  generalize ((w.alloc (.cells (ringC key n).toArray 51)).alloc (.cells (leC a b).toArray 67)).alloc (.cells (plI v s).toArray 53) = W at *
  have qn : W.cell? ⟨w.heap.size, 16, none⟩ = some (.int .u64 (n : Int)) := by rw [hR.cell]; exact qr
  have q0 : W.cell? ⟨w.heap.size + 1, 0, none⟩ = some (.int .u64 (a : Int)) := hL.cell 0
  have q1 : W.cell? ⟨w.heap.size + 1, 1, none⟩ = some (.int .u64 (b : Int)) := hL.cell 1
  have q2 : W.cell? ⟨w.heap.size + 1 + 1, 0, none⟩ = some (.int .i64 v) := hP.cell 0
  have q3 : W.cell? ⟨w.heap.size + 1 + 1, 1, none⟩ = some (.int .i64 s) := hP.cell 1
  have z0 := hP.lt
  have zl := hL.lt
  have zr := hR.lt
  go_upto_region 2 with (first
    | (refine at_op (.load 49 (.tmp 21)) rfl ?_; refine wpList_ldA (t := 51) 49 (.tmp 21) rfl rfl (bcs key) rfl (hR) (ringC_key key n) a1 a2 (szArr key hk) ?_)
    | (go_at_call 30; refine (ringNew_any key hk n _).mono ?_; rintro e w1 ⟨bs1, d1, rfl, rfl⟩)
    | (refine at_op (.store 56 (.tmp 9) (.tmp 25)) rfl ?_; refine wpList_stA (t := 56) 56 (.tmp 9) (.tmp 25) rfl rfl (ringC key n) ring0 (by rw [ringC_length key hk]; rfl) (ringC_one key n) rfl rfl ?_ (szRing key hk n) ?_; (· refine Bk.newK _ _ _ ?_ rfl; simp [size_plus]); intro W2 hX hgr))
  have bx := below_grown (Below.allocS (below_plus W bs1 d1) (.cells (ring0).toArray 56)) hgr (by omega)
  have zb := be.size
  replace hR := hR.later bx
  replace hL := hL.later bx
  replace hP := hP.later bx
  replace be := be.trans (bx.mono zb)
  have hgx : w.heap.size + 1 + 1 < W.heap.size + bs1.length := by omega
  generalize W.heap.size + bs1.length = gx at *
  clear hgr bx zb qn q0 q1 q2 q3 z0 zl zr W
  have qn : W2.cell? ⟨w.heap.size, 16, none⟩ = some (.int .u64 (n : Int)) := by rw [hR.cell]; exact qr
  have q0 : W2.cell? ⟨w.heap.size + 1, 0, none⟩ = some (.int .u64 (a : Int)) := hL.cell 0
  have q1 : W2.cell? ⟨w.heap.size + 1, 1, none⟩ = some (.int .u64 (b : Int)) := hL.cell 1
  have q2 : W2.cell? ⟨w.heap.size + 1 + 1, 0, none⟩ = some (.int .i64 v) := hP.cell 0
  have q3 : W2.cell? ⟨w.heap.size + 1 + 1, 1, none⟩ = some (.int .i64 s) := hP.cell 1
  have z0 := hP.lt
  have zl := hL.lt
  have zr := hR.lt
  go_upto_region 4 with (first
    | (refine at_op (.load 67 (.tmp 5)) rfl ?_; refine wpList_ldA (t := 67) 67 (.tmp 5) rfl rfl (leC a b) rfl (by with_reducible repeat (first | exact hL | refine Bk.later ?_ (below_plus _ _ _) | refine Bk.alloc ?_ _)) (whole_ _) ul1 ul2 (szLe _ _) ?_)
    | (go_at_call 37; refine (HRL.out _).mono ?_; rintro e w1 ⟨bs2, d2, rfl, rfl⟩)
    | (go_at_call 38; refine (HCT.out _).mono ?_; rintro e w1 ⟨bs3, d3, rfl, rfl⟩)
    | (refine at_op (.store 67 (.tmp 11) (.tmp 35)) rfl ?_; refine wpList_stA (t := 67) 67 (.tmp 11) (.tmp 35) rfl rfl (leC 0 0) (leC 0 0) rfl (leC_one _ _) rfl rfl (?_) (szLe _ _) ?_; (· refine (Bk.newK _ _ _ ?_ rfl).alloc _; simp [size_plus]); intro W3 hC1 hgr)
    | (refine at_op (.store 67 (.tmp 12) (.tmp 36)) rfl ?_; refine wpList_stA (t := 67) 67 (.tmp 12) (.tmp 36) rfl rfl (leC a b) (leC 0 0) rfl (leC_one _ _) rfl rfl (?_) (szLe _ _) ?_; (· refine Bk.grown (Bk.newK _ _ _ ?_ rfl) hgr ?_ <;> simp [size_plus]); intro W4 hC2 hgr2))
  have b3 := below_grown (Below.allocS (Below.allocS (belowP (below_plus W2 bs2 d2) bs3 d3) (.cells #[.int .u64 0, .int .u64 0] 67)) (.cells #[.int .u64 0, .int .u64 0] 67)) hgr (by omega)
  have b4 := below_grown b3 hgr2 (by omega)
  have zb := be.size
  replace hR := hR.later b4
  replace hL := hL.later b4
  replace hP := hP.later b4
  replace hX := hX.later b4
  replace hC1 := hC1.grown hgr2 (by simp)
  replace be := be.trans (b4.mono zb)
  generalize W2.heap.size + bs2.length + bs3.length + 1 = g12 at *
  generalize W2.heap.size + bs2.length + bs3.length = g11 at *
  clear hgr hgr2 b3 b4 zb qn q0 q1 q2 q3 z0 zl zr
  have qn : W4.cell? ⟨w.heap.size, 16, none⟩ = some (.int .u64 (n : Int)) := by rw [hR.cell]; exact qr
  have q0 : W4.cell? ⟨w.heap.size + 1, 0, none⟩ = some (.int .u64 (a : Int)) := hL.cell 0
  have q1 : W4.cell? ⟨w.heap.size + 1, 1, none⟩ = some (.int .u64 (b : Int)) := hL.cell 1
  have q2 : W4.cell? ⟨w.heap.size + 1 + 1, 0, none⟩ = some (.int .i64 v) := hP.cell 0
  have q3 : W4.cell? ⟨w.heap.size + 1 + 1, 1, none⟩ = some (.int .i64 s) := hP.cell 1
  have z0 := hP.lt
  have zl := hL.lt
  have zr := hR.lt
  have zc1 := hC1.lt
  have hC1l : Bk W4 g11 67 (leC 0 0) := hC1
  have hC2l : Bk W4 g12 67 (leC a b) := hC2
  have zc2 := hC2.lt
  go_upto_block 0 with (first
    | go_skip
    | (refine at_op (.load 67 (.tmp 5)) rfl ?_; refine wpList_ldG (t := 67) 67 (.tmp 5) rfl rfl (leC a b) rfl (by with_reducible repeat (first | exact hL | refine Bk.later ?_ (below_plus _ _ _) | refine Bk.alloc ?_ _)) (whole_ _) ul1 ul2 (szLe _ _) ?_)
    | (refine at_op (.load 67 (.tmp 11)) rfl ?_; refine wpList_ldG (t := 67) 67 (.tmp 11) rfl rfl (leC 0 0) rfl (by with_reducible repeat (first | exact hC1l | refine Bk.later ?_ (below_plus _ _ _) | refine Bk.alloc ?_ _)) (whole_ _) ul1 ul2 (szLe 0 0) ?_)
    | (refine at_op (.load 67 (.tmp 12)) rfl ?_; refine wpList_ldG (t := 67) 67 (.tmp 12) rfl rfl (leC a b) rfl (by with_reducible repeat (first | exact hC2l | refine Bk.later ?_ (below_plus _ _ _) | refine Bk.alloc ?_ _)) (whole_ _) ul1 ul2 (szLe 0 0) ?_)
    | (go_at_call 39; refine (HLF.out _).mono ?_; rintro e w1 ⟨bs4, d4, rfl, rfl⟩))
  replace hR := hR.later (below_plus _ bs4 d4)
  replace hL := hL.later (below_plus _ bs4 d4)
  replace hP := hP.later (below_plus _ bs4 d4)
  replace hX := hX.later (below_plus _ bs4 d4)
  replace be := belowP be bs4 d4
  clear qn q0 q1 q2 q3 z0 zl zr zc1 zc2 hC1 hC2 hC1l hC2l HLF HRL HCT hkm hm
  generalize plus W4 bs4 d4 = W5 at *
  have zB := be.size
  have zX := hX.lt
  have zP := hP.lt
  generalize hB0 : W5.heap.size = B0 at *
  replace hB0 := Lib.hid hB0
  go_wp2
  go_loopw [14, 15] (fun ids i W' => ∃ (j y : Nat) (S : List (List UInt8)) (A : Option Addr) (m c : Nat), j ≤ 4 ∧ i = .int .i64 j ∧ ids = .slice A m c ∧ W'.ownsRow B0 9 1 (.slice A m c) m (S.map strV) ∧ m = j ∧ y < 18446744073709551616 ∧ Apart key n v s y S ∧ B0 ≤ W'.heap.size ∧ Bk W' w.heap.size 51 (ringC key n) ∧ Bk W' (w.heap.size + 1) 67 (leC y b) ∧ Bk W' (w.heap.size + 1 + 1) 53 (plI v s) ∧ Bk W' gx 56 (ringC key n) ∧ Below w.heap.size w W') (fun _ i _ => 4 - (intOf i).toNat)
  case atStart => exact ⟨0, a, [], none, 0, 0, by omega, rfl, rfl, World.ownsRow_nil _ _ _ 1, rfl, ha, Apart.nil _ _ _ _ _, Nat.le_of_eq hB0.out.symm, hR, hL, hP, hX, be⟩
  case round =>
    clear hR hL hP hX be
    obtain ⟨j, y, S, A, m, c, hj, rfl, rfl, ho, hmj, hy, hap, hBw, hR, hL, hP, hX, be⟩ := hrel
    have HMJ := Lib.hid hmj
    clear hmj
    by_cases h4 : j = 4
    · subst h4
      go_wp2_with (go_at_call 33; refine (HAW.out _).mono ?_; rintro e w1 ⟨bs6, d6, rfl, rfl⟩)
      go_ret
      exact ⟨rfl, belowP be _ _⟩
    · have hj4 : j < 4 := by omega
      clear h4
      have qn : wr.cell? ⟨w.heap.size, 16, none⟩ = some (.int .u64 (n : Int)) := by rw [hR.cell]; exact qr
      have HL := Lib.hid (fun w => leLeft y b w hy hb)
      by_cases hlf : b - y = 0
      · have HT := Lib.hid (fun w => takeNone key hk n y b v s w hy hb hlf)
        have HL0 : ∀ w, Calls Try.prog 39 #[.agg (leC y b).toArray] w (RetV w (.int .u64 0)) := fun w => by
          have h := leLeft y b w hy hb
          rw [hlf] at h
          exact h
        clear HL hlf
        have HL := Lib.hid HL0
        clear HL0
        go_upto_region 13 with (first
          | (refine at_op (.load 67 (.tmp 5)) rfl ?_; refine wpList_ldA (t := 67) 67 (.tmp 5) rfl rfl (leC y b) rfl (by with_reducible repeat (first | exact hL | refine Bk.later ?_ (below_plus _ _ _) | refine Bk.alloc ?_ _)) (whole_ _) ul1 ul2 (szLe _ _) ?_)
          | (refine at_op (.load 56 (.tmp 9)) rfl ?_; refine wpList_ldA (t := 56) 56 (.tmp 9) rfl rfl (ringC key n) rfl (by with_reducible repeat (first | exact hX | refine Bk.later ?_ (below_plus _ _ _) | refine Bk.alloc ?_ _)) (ringC_whole key n) vr1 vr2 (szRing key hk n) ?_)
          | (refine at_op (.load 53 (.tmp 6)) rfl ?_; refine wpList_ldA (t := 53) 53 (.tmp 6) rfl rfl (plI v s) rfl (by with_reducible repeat (first | exact hP | refine Bk.later ?_ (below_plus _ _ _) | refine Bk.alloc ?_ _)) (whole_ _) yp1 yp2 (szPlI _ _) ?_)
          | (go_at_call 40; refine (HT.out _).mono ?_; rintro e w1 ⟨bs3, d3, rfl, rfl⟩)
          | (refine at_op (.store 67 (.tmp 17) (.tmp 102)) rfl ?_; refine wpList_stA (t := 67) 67 (.tmp 17) (.tmp 102) rfl rfl (leC y b) (leC 0 0) rfl (leC_one _ _) rfl rfl (?_) (szLe _ _) ?_; (· refine Bk.newK _ _ _ ?_ rfl; simp [size_plus]); intro W6 hM hgr))
        have bb := below_grown (Below.allocS (below_plus wr bs3 d3) (.cells #[.int .u64 0, .int .u64 0] 67)) hgr (by omega)
        have b6 := below_grown (Below.allocS (Below.refl _ (plus wr bs3 d3)) (.cells #[.int .u64 0, .int .u64 0] 67)) hgr (by simp [size_plus])
        have zb := be.size
        have hg17 : wr.heap.size ≤ wr.heap.size + bs3.length := by omega
        replace hR := hR.later bb
        replace hL := hL.later bb
        replace hP := hP.later bb
        replace hX := hX.later bb
        replace be := be.trans (bb.mono zb)
        generalize wr.heap.size + bs3.length = g17 at *
        clear hgr bb b6 qn
        go_wp2_with (first
          | (refine at_op (.binOp .eql 27 (.tmp 105) (.const (.int .u64 0)) 27) rfl ?_; refine wpList_plain rfl (fun K hK => ?_); go_simp; with_reducible refine hK _ _ ?_; clear hK K; refine at_op (.move (.tmp 106)) rfl ?_; refine wpList_plain rfl (fun K hK => ?_); go_simp; with_reducible refine hK _ _ ?_; clear hK K; with_reducible refine wpList_skip (o := ⟨_, _, _, _, _, some _⟩) (by with_unfolding_all rfl) ?_; simp only [Act.put, List.setIfInBounds_toArray, List.set_cons_zero, List.set_cons_succ]; with_reducible refine wpList_skip (o := ⟨_, _, _, _, _, some _⟩) (by with_unfolding_all rfl) ?_; simp only [Act.put, List.setIfInBounds_toArray, List.set_cons_zero, List.set_cons_succ]; with_reducible refine wpList_skip (o := ⟨_, _, _, _, _, some _⟩) (by with_unfolding_all rfl) ?_; simp only [Act.put, List.setIfInBounds_toArray, List.set_cons_zero, List.set_cons_succ]; with_reducible refine wpList_skip (o := ⟨_, _, _, _, _, some _⟩) (by with_unfolding_all rfl) ?_; simp only [Act.put, List.setIfInBounds_toArray, List.set_cons_zero, List.set_cons_succ]; with_reducible refine wpList_skip (o := ⟨_, _, _, _, _, some _⟩) (by with_unfolding_all rfl) ?_; simp only [Act.put, List.setIfInBounds_toArray, List.set_cons_zero, List.set_cons_succ]; with_reducible refine wpList_skip (o := ⟨_, _, _, _, _, some _⟩) (by with_unfolding_all rfl) ?_; simp only [Act.put, List.setIfInBounds_toArray, List.set_cons_zero, List.set_cons_succ]; with_reducible refine wpList_skip (o := ⟨_, _, _, _, _, some _⟩) (by with_unfolding_all rfl) ?_; simp only [Act.put, List.setIfInBounds_toArray, List.set_cons_zero, List.set_cons_succ]; with_reducible refine wpList_skip (o := ⟨_, _, _, _, _, some _⟩) (by with_unfolding_all rfl) ?_; simp only [Act.put, List.setIfInBounds_toArray, List.set_cons_zero, List.set_cons_succ]; refine at_op (.pick (.tmp 107) (.const (.bool true)) (.tmp 115)) rfl ?_; refine wpList_plain rfl (fun K hK => ?_); go_simp; with_reducible refine hK _ _ ?_; clear hK K)
          | (with_reducible refine wpList_skip (o := ⟨_, _, _, _, _, some _⟩) (by with_unfolding_all rfl) ?_; simp only [Act.put, List.setIfInBounds_toArray, List.set_cons_zero, List.set_cons_succ])
          | (refine at_op (.load 67 (.tmp 5)) rfl ?_; refine wpList_ldG (t := 67) 67 (.tmp 5) rfl rfl (leC y b) rfl (by with_reducible repeat (first | exact hL | refine Bk.later ?_ (below_plus _ _ _) | refine Bk.alloc ?_ _)) (whole_ _) ul1 ul2 (szLe _ _) ?_)
          | (refine at_op (.load 67 (.tmp 17)) rfl ?_; refine wpList_ldG (t := 67) 67 (.tmp 17) rfl rfl (leC y b) rfl (by with_reducible repeat (first | exact hM | refine Bk.later ?_ (below_plus _ _ _) | refine Bk.alloc ?_ _)) (whole_ _) ul1 ul2 (szLe _ _) ?_)
          | (go_at_call 39; refine (HL.out _).mono ?_; rintro e w1 ⟨bs4, d4, rfl, rfl⟩)
          | (go_at_call 32; refine (HRT.out _).mono ?_; rintro e w1 ⟨bs5, d5, rfl, rfl⟩)
          | (go_at_call 33; refine (HAW.out _).mono ?_; rintro e w1 ⟨bs6, d6, rfl, rfl⟩))
        go_ret
        refine ⟨rfl, ?_⟩
        repeat (first | exact be | refine belowP ?_ _ _)
      · have t1 : (((b - y : Nat) : Int) == 0) = false := by rw [beq_eq_false_iff_ne]; omega
        have HRT := Lib.hid (fun w => refCidRight v s y w)
        cases hok : (plB v s && decide (y < 1099511627776))
        · have HT := Lib.hid (fun w => takeArg key hk n y b v s w hy hb hlf hok)
          rw [hok] at HRT
          clear hlf hok
          generalize b - y = lf at *
          go_upto_region 13 with (first
            | (refine at_op (.load 67 (.tmp 5)) rfl ?_; refine wpList_ldA (t := 67) 67 (.tmp 5) rfl rfl (leC y b) rfl (by with_reducible repeat (first | exact hL | refine Bk.later ?_ (below_plus _ _ _) | refine Bk.alloc ?_ _)) (whole_ _) ul1 ul2 (szLe _ _) ?_)
            | (refine at_op (.load 56 (.tmp 9)) rfl ?_; refine wpList_ldA (t := 56) 56 (.tmp 9) rfl rfl (ringC key n) rfl (by with_reducible repeat (first | exact hX | refine Bk.later ?_ (below_plus _ _ _) | refine Bk.alloc ?_ _)) (ringC_whole key n) vr1 vr2 (szRing key hk n) ?_)
            | (refine at_op (.load 53 (.tmp 6)) rfl ?_; refine wpList_ldA (t := 53) 53 (.tmp 6) rfl rfl (plI v s) rfl (by with_reducible repeat (first | exact hP | refine Bk.later ?_ (below_plus _ _ _) | refine Bk.alloc ?_ _)) (whole_ _) yp1 yp2 (szPlI _ _) ?_)
            | (go_at_call 40; refine (HT.out _).mono ?_; rintro e w1 ⟨bs3, d3, rfl, rfl⟩)
            | (refine at_op (.store 67 (.tmp 17) (.tmp 102)) rfl ?_; refine wpList_stA (t := 67) 67 (.tmp 17) (.tmp 102) rfl rfl (leC y b) (leC 0 0) rfl (leC_one _ _) rfl rfl (?_) (szLe _ _) ?_; (· refine Bk.newK _ _ _ ?_ rfl; simp [size_plus]); intro W6 hM hgr))
          have bb := below_grown (Below.allocS (below_plus wr bs3 d3) (.cells #[.int .u64 0, .int .u64 0] 67)) hgr (by omega)
          have b6 := below_grown (Below.allocS (Below.refl _ (plus wr bs3 d3)) (.cells #[.int .u64 0, .int .u64 0] 67)) hgr (by simp [size_plus])
          have zb := be.size
          have hg17 : wr.heap.size ≤ wr.heap.size + bs3.length := by omega
          replace hR := hR.later bb
          replace hL := hL.later bb
          replace hP := hP.later bb
          replace hX := hX.later bb
          replace be := be.trans (bb.mono zb)
          generalize wr.heap.size + bs3.length = g17 at *
          clear hgr bb b6 qn
          have qn : W6.cell? ⟨w.heap.size, 16, none⟩ = some (.int .u64 (n : Int)) := by rw [hR.cell]; exact qr
          have q0 : W6.cell? ⟨w.heap.size + 1, 0, none⟩ = some (.int .u64 (y : Int)) := hL.cell 0
          have q1 : W6.cell? ⟨w.heap.size + 1, 1, none⟩ = some (.int .u64 (b : Int)) := hL.cell 1
          have q2 : W6.cell? ⟨w.heap.size + 1 + 1, 0, none⟩ = some (.int .i64 v) := hP.cell 0
          have q3 : W6.cell? ⟨w.heap.size + 1 + 1, 1, none⟩ = some (.int .i64 s) := hP.cell 1
          have z0 := hP.lt
          have zl := hL.lt
          have zr := hR.lt
          go_wp2_with (first
            | (refine wpList_skip (o := ⟨_, _, _, _, _, some _⟩) (by rfl) ?_; simp only [Act.put, List.setIfInBounds_toArray, List.set_cons_zero, List.set_cons_succ])
            | (refine at_op (.load 67 (.tmp 5)) rfl ?_; refine wpList_ldG (t := 67) 67 (.tmp 5) rfl rfl (leC y b) rfl (by with_reducible repeat (first | exact hL | refine Bk.later ?_ (below_plus _ _ _) | refine Bk.alloc ?_ _)) (whole_ _) ul1 ul2 (szLe _ _) ?_)
            | (refine at_op (.load 67 (.tmp 17)) rfl ?_; refine wpList_ldG (t := 67) 67 (.tmp 17) rfl rfl (leC y b) rfl (by with_reducible repeat (first | exact hM | refine Bk.later ?_ (below_plus _ _ _) | refine Bk.alloc ?_ _)) (whole_ _) ul1 ul2 (szLe _ _) ?_)
            | (go_at_call 39; refine (HL.out _).mono ?_; rintro e w1 ⟨bs4, d4, rfl, rfl⟩)
            | (go_at_call 32; refine (HRT.out _).mono ?_; rintro e w1 ⟨bs5, d5, rfl, rfl⟩)
            | (go_at_call 33; refine (HAW.out _).mono ?_; rintro e w1 ⟨bs6, d6, rfl, rfl⟩))
          go_ret
          refine ⟨rfl, ?_⟩
          repeat (first | exact be | refine belowP ?_ _ _)
        · rw [hok] at HRT
          simp only [plB, Bool.and_eq_true, decide_eq_true_eq] at hok
          obtain ⟨⟨k1, k2, k3, k4⟩, k5⟩ := hok
          have HT := Lib.hid (fun w => takeYesI key hk n y b v s w hn k5 hb hlf k1 k2 k3 k4)
          have HRM := Lib.hid (fun w => refMakeI key hk n v s y w hn k1 k2 k3 k4 k5)
          have HAP := Lib.hid (Apart.ne hap k5)
          have HAN := Lib.hid (Apart.cons hap k5)
          clear hlf k1 k2 k3 k4
          generalize b - y = lf at *
          generalize cidB key n v.toNat s.toNat y = Bx at *
          go_upto_region 13 with (first
            | (refine at_op (.load 67 (.tmp 5)) rfl ?_; refine wpList_ldA (t := 67) 67 (.tmp 5) rfl rfl (leC y b) rfl (by with_reducible repeat (first | exact hL | refine Bk.later ?_ (below_plus _ _ _) | refine Bk.alloc ?_ _)) (whole_ _) ul1 ul2 (szLe _ _) ?_)
            | (refine at_op (.load 56 (.tmp 9)) rfl ?_; refine wpList_ldA (t := 56) 56 (.tmp 9) rfl rfl (ringC key n) rfl (by with_reducible repeat (first | exact hX | refine Bk.later ?_ (below_plus _ _ _) | refine Bk.alloc ?_ _)) (ringC_whole key n) vr1 vr2 (szRing key hk n) ?_)
            | (refine at_op (.load 53 (.tmp 6)) rfl ?_; refine wpList_ldA (t := 53) 53 (.tmp 6) rfl rfl (plI v s) rfl (by with_reducible repeat (first | exact hP | refine Bk.later ?_ (below_plus _ _ _) | refine Bk.alloc ?_ _)) (whole_ _) yp1 yp2 (szPlI _ _) ?_)
            | (go_at_call 40; refine (HT.out _).mono ?_; rintro e w1 ⟨A9, n9, c9, bs3, d3, rfl, rfl, h9⟩)
            | (refine at_op (.store 67 (.tmp 17) (.tmp 102)) rfl ?_; refine wpList_stA (t := 67) 67 (.tmp 17) (.tmp 102) rfl rfl (leC (y + 1) b) (leC 0 0) rfl (leC_one _ _) rfl rfl (?_) (szLe _ _) ?_; (· refine Bk.newK _ _ _ ?_ rfl; simp [size_plus]); intro W6 hM hgr))
          have bb := below_grown (Below.allocS (below_plus wr bs3 d3) (.cells #[.int .u64 0, .int .u64 0] 67)) hgr (by omega)
          have b6 := below_grown (Below.allocS (Below.refl _ (plus wr bs3 d3)) (.cells #[.int .u64 0, .int .u64 0] 67)) hgr (by simp [size_plus])
          have zb := be.size
          have hg17 : wr.heap.size ≤ wr.heap.size + bs3.length := by omega
          replace hR := hR.later bb
          replace hL := hL.later bb
          replace hP := hP.later bb
          replace hX := hX.later bb
          replace be := be.trans (bb.mono zb)
          generalize wr.heap.size + bs3.length = g17 at *
          replace h9 := h9.later b6
          have hk17 : ∀ k, (Value.slice A m c).ownBlock = some k → k < g17 := fun k hk => Nat.lt_of_lt_of_le (ho.lt k hk).2 hg17
          replace ho := owns_later ho bb
          replace hBw := Nat.le_trans hBw bb.size
          clear hgr bb b6 qn
          have qn : W6.cell? ⟨w.heap.size, 16, none⟩ = some (.int .u64 (n : Int)) := by rw [hR.cell]; exact qr
          have q0 : W6.cell? ⟨w.heap.size + 1, 0, none⟩ = some (.int .u64 (y : Int)) := hL.cell 0
          have q1 : W6.cell? ⟨w.heap.size + 1, 1, none⟩ = some (.int .u64 (b : Int)) := hL.cell 1
          have q2 : W6.cell? ⟨w.heap.size + 1 + 1, 0, none⟩ = some (.int .i64 v) := hP.cell 0
          have q3 : W6.cell? ⟨w.heap.size + 1 + 1, 1, none⟩ = some (.int .i64 s) := hP.cell 1
          have z0 := hP.lt
          have zl := hL.lt
          have zr := hR.lt
          go_upto_region 18 with (first
            | go_skip
            | (refine at_op (.load 67 (.tmp 5)) rfl ?_; refine wpList_ldG (t := 67) 67 (.tmp 5) rfl rfl (leC y b) rfl (by with_reducible repeat (first | exact hL | refine Bk.later ?_ (below_plus _ _ _) | refine Bk.alloc ?_ _)) (whole_ _) ul1 ul2 (szLe _ _) ?_)
            | (go_at_call 39; refine (HL.out _).mono ?_; rintro e w1 ⟨bs4, d4, rfl, rfl⟩)
            | (go_at_call 32; refine (HRT.out _).mono ?_; rintro e w1 ⟨bs5, d5, rfl, rfl⟩))
          have b7 := belowP (below_plus W6 bs4 d4) bs5 d5
          replace hR := hR.later b7
          replace hL := hL.later b7
          replace hP := hP.later b7
          replace hX := hX.later b7
          replace hM := hM.later b7
          replace h9 := h9.later b7
          replace ho := owns_later ho b7
          replace hBw := Nat.le_trans hBw b7.size
          replace be := be.trans ((b7).mono be.size)
          generalize plus (plus W6 bs4 d4) bs5 d5 = W7 at *
          clear b7 qn q0 q1 q2 q3 z0 zl zr
          go_wp2
          refine wp_rel 26 182 rfl (by kernel_rfl) (by kernel_rfl) (fun i => match i with | 0 => MP.eq (.int .i64 0) | 1 => MP.eq (.bool false) | 2 => MP.eq (.bool false) | 3 => MP.eq (.slice A9 n9 c9) | 4 => MP.eq (.string ⟨Bx.toArray⟩) | 5 => MP.eq (.agg (ringC key n).toArray) | 6 => MP.eq (.pointer (some ⟨w.heap.size + 1 + 1, 0, none⟩)) | 7 => MP.eq (.int .i64 v) | 8 => MP.eq (.pointer (some ⟨w.heap.size + 1 + 1, 1, none⟩)) | 9 => MP.eq (.int .i64 s) | 10 => MP.eq (.pointer (some ⟨w.heap.size + 1, 0, none⟩)) | 11 => MP.eq (.int .u64 (y : Int)) | 12 => MP.rb Bx | 13 => MP.eq (.string ⟨Bx.toArray⟩) | 14 => MP.eq (.bool false) | 15 => MP.eq (.bool false) | 16 => MP.eq (.bool false) | 17 => MP.eq (.agg (leC (y + 1) b).toArray) | 18 => MP.eq (.pointer (some ⟨w.heap.size + 1, 0, none⟩)) | 19 => MP.eq (.int .u64 (y : Int)) | 20 => MP.eq (.int .u64 ((y + 1 : Nat) : Int)) | 21 => MP.eq (.pointer (some ⟨w.heap.size + 1, 1, none⟩)) | 22 => MP.eq (.int .u64 (b : Int)) | 23 => MP.eq (.agg (leC (y + 1) b).toArray) | 24 => MP.eq (.bool false) | 25 => MP.eq (.bool false) | _ => MP.any) ?_ ?_
          · intro i hi o ho FA x hO hD K hK
            match i, hi, ho, hO, hD, hK with
            | 0, _, ho, hO, hD, hK => 
              obtain rfl := Option.some.inj ho.symm
              clear ho
              have ev18 : FA.eval (.tmp 18) = .int .i64 0 := hO 18 (by kernel_rfl)
              have e18 : FA.tmps[18]?.getD undef = .int .i64 0 := by simpa [Act.eval] using ev18
              replace ev18 := Lib.hid ev18
              clear hO hD
              go_simp
              exact hK.out _ _ (Ex.refl _) rfl
            | 1, _, ho, hO, hD, hK => 
              obtain rfl := Option.some.inj ho.symm
              clear ho
              have ev136 : FA.eval (.tmp 136) = .int .i64 0 := hD 0 136 (by kernel_rfl)
              have e136 : FA.tmps[136]?.getD undef = .int .i64 0 := by simpa [Act.eval] using ev136
              replace ev136 := Lib.hid ev136
              clear hO hD
              go_simp
              exact hK.out _ _ (Ex.refl _) rfl
            | 2, _, ho, hO, hD, hK => 
              obtain rfl := Option.some.inj ho.symm
              clear ho
              have ev137 : FA.eval (.tmp 137) = .bool false := hD 1 137 (by kernel_rfl)
              have e137 : FA.tmps[137]?.getD undef = .bool false := by simpa [Act.eval] using ev137
              replace ev137 := Lib.hid ev137
              clear hO hD
              go_simp
              exact hK.out _ _ (Ex.refl _) rfl
            | 3, _, ho, hO, hD, hK => 
              obtain rfl := Option.some.inj ho.symm
              clear ho
              have ev16 : FA.eval (.tmp 16) = .slice A9 n9 c9 := hO 16 (by kernel_rfl)
              have e16 : FA.tmps[16]?.getD undef = .slice A9 n9 c9 := by simpa [Act.eval] using ev16
              replace ev16 := Lib.hid ev16
              have ev138 : FA.eval (.tmp 138) = .bool false := hD 2 138 (by kernel_rfl)
              have e138 : FA.tmps[138]?.getD undef = .bool false := by simpa [Act.eval] using ev138
              replace ev138 := Lib.hid ev138
              have ge138 := slot_of e138
              clear hO hD
              go_simp
              exact hK.out _ _ (Ex.refl _) rfl
            | 4, _, ho, hO, hD, hK => 
              obtain rfl := Option.some.inj ho.symm
              clear ho
              have ev139 : FA.eval (.tmp 139) = .slice A9 n9 c9 := hD 3 139 (by kernel_rfl)
              have e139 : FA.tmps[139]?.getD undef = .slice A9 n9 c9 := by simpa [Act.eval] using ev139
              replace ev139 := Lib.hid ev139
              have ev138 : FA.eval (.tmp 138) = .bool false := hD 2 138 (by kernel_rfl)
              have e138 : FA.tmps[138]?.getD undef = .bool false := by simpa [Act.eval] using ev138
              replace ev138 := Lib.hid ev138
              have ge138 := slot_of e138
              clear hO hD
              have es := run_str bt Try.underlying9 (h9.plus_ x.bs x.d)
              go_simp
              exact hK.out _ _ (Ex.refl _) rfl
            | 5, _, ho, hO, hD, hK => 
              obtain rfl := Option.some.inj ho.symm
              clear ho
              have ev4 : FA.eval (.tmp 4) = .pointer (some ⟨w.heap.size, 0, none⟩) := hO 4 (by kernel_rfl)
              have e4 : FA.tmps[4]?.getD undef = .pointer (some ⟨w.heap.size, 0, none⟩) := by simpa [Act.eval] using ev4
              replace ev4 := Lib.hid ev4
              have ev138 : FA.eval (.tmp 138) = .bool false := hD 2 138 (by kernel_rfl)
              have e138 : FA.tmps[138]?.getD undef = .bool false := by simpa [Act.eval] using ev138
              replace ev138 := Lib.hid ev138
              have ge138 := slot_of e138
              clear hO hD
              refine wanted_ifG (by go_simp) ?_
              refine wp_load_mid 51 (.tmp 4) rfl w.heap.size 0 ev4.out (ringC key n) _ (Bk.range (hR.later (below_plus _ _ _))) r1 r2 r4 ?_
              exact hK.out _ _ (Ex.refl _) rfl
            | 6, _, ho, hO, hD, hK => 
              obtain rfl := Option.some.inj ho.symm
              clear ho
              have ev6 : FA.eval (.tmp 6) = .pointer (some ⟨w.heap.size + 1 + 1, 0, none⟩) := hO 6 (by kernel_rfl)
              have e6 : FA.tmps[6]?.getD undef = .pointer (some ⟨w.heap.size + 1 + 1, 0, none⟩) := by simpa [Act.eval] using ev6
              replace ev6 := Lib.hid ev6
              have ev138 : FA.eval (.tmp 138) = .bool false := hD 2 138 (by kernel_rfl)
              have e138 : FA.tmps[138]?.getD undef = .bool false := by simpa [Act.eval] using ev138
              replace ev138 := Lib.hid ev138
              have ge138 := slot_of e138
              clear hO hD
              go_simp
              exact hK.out _ _ (Ex.refl _) rfl
            | 7, _, ho, hO, hD, hK => 
              obtain rfl := Option.some.inj ho.symm
              clear ho
              have ev142 : FA.eval (.tmp 142) = .pointer (some ⟨w.heap.size + 1 + 1, 0, none⟩) := hD 6 142 (by kernel_rfl)
              have e142 : FA.tmps[142]?.getD undef = .pointer (some ⟨w.heap.size + 1 + 1, 0, none⟩) := by simpa [Act.eval] using ev142
              replace ev142 := Lib.hid ev142
              have ev138 : FA.eval (.tmp 138) = .bool false := hD 2 138 (by kernel_rfl)
              have e138 : FA.tmps[138]?.getD undef = .bool false := by simpa [Act.eval] using ev138
              replace ev138 := Lib.hid ev138
              have ge138 := slot_of e138
              clear hO hD
              have cc : (plus W7 x.bs x.d).cell? ⟨w.heap.size + 1 + 1, 0, none⟩ = some (.int .i64 v) := (hP.later (below_plus _ _ _)).cell 0
              go_simp
              exact hK.out _ _ (Ex.refl _) rfl
            | 8, _, ho, hO, hD, hK => 
              obtain rfl := Option.some.inj ho.symm
              clear ho
              have ev6 : FA.eval (.tmp 6) = .pointer (some ⟨w.heap.size + 1 + 1, 0, none⟩) := hO 6 (by kernel_rfl)
              have e6 : FA.tmps[6]?.getD undef = .pointer (some ⟨w.heap.size + 1 + 1, 0, none⟩) := by simpa [Act.eval] using ev6
              replace ev6 := Lib.hid ev6
              have ev138 : FA.eval (.tmp 138) = .bool false := hD 2 138 (by kernel_rfl)
              have e138 : FA.tmps[138]?.getD undef = .bool false := by simpa [Act.eval] using ev138
              replace ev138 := Lib.hid ev138
              have ge138 := slot_of e138
              clear hO hD
              go_simp
              exact hK.out _ _ (Ex.refl _) rfl
            | 9, _, ho, hO, hD, hK => 
              obtain rfl := Option.some.inj ho.symm
              clear ho
              have ev144 : FA.eval (.tmp 144) = .pointer (some ⟨w.heap.size + 1 + 1, 1, none⟩) := hD 8 144 (by kernel_rfl)
              have e144 : FA.tmps[144]?.getD undef = .pointer (some ⟨w.heap.size + 1 + 1, 1, none⟩) := by simpa [Act.eval] using ev144
              replace ev144 := Lib.hid ev144
              have ev138 : FA.eval (.tmp 138) = .bool false := hD 2 138 (by kernel_rfl)
              have e138 : FA.tmps[138]?.getD undef = .bool false := by simpa [Act.eval] using ev138
              replace ev138 := Lib.hid ev138
              have ge138 := slot_of e138
              clear hO hD
              have cc : (plus W7 x.bs x.d).cell? ⟨w.heap.size + 1 + 1, 1, none⟩ = some (.int .i64 s) := (hP.later (below_plus _ _ _)).cell 1
              go_simp
              exact hK.out _ _ (Ex.refl _) rfl
            | 10, _, ho, hO, hD, hK => 
              obtain rfl := Option.some.inj ho.symm
              clear ho
              have ev5 : FA.eval (.tmp 5) = .pointer (some ⟨w.heap.size + 1, 0, none⟩) := hO 5 (by kernel_rfl)
              have e5 : FA.tmps[5]?.getD undef = .pointer (some ⟨w.heap.size + 1, 0, none⟩) := by simpa [Act.eval] using ev5
              replace ev5 := Lib.hid ev5
              have ev138 : FA.eval (.tmp 138) = .bool false := hD 2 138 (by kernel_rfl)
              have e138 : FA.tmps[138]?.getD undef = .bool false := by simpa [Act.eval] using ev138
              replace ev138 := Lib.hid ev138
              have ge138 := slot_of e138
              clear hO hD
              go_simp
              exact hK.out _ _ (Ex.refl _) rfl
            | 11, _, ho, hO, hD, hK => 
              obtain rfl := Option.some.inj ho.symm
              clear ho
              have ev146 : FA.eval (.tmp 146) = .pointer (some ⟨w.heap.size + 1, 0, none⟩) := hD 10 146 (by kernel_rfl)
              have e146 : FA.tmps[146]?.getD undef = .pointer (some ⟨w.heap.size + 1, 0, none⟩) := by simpa [Act.eval] using ev146
              replace ev146 := Lib.hid ev146
              have ev138 : FA.eval (.tmp 138) = .bool false := hD 2 138 (by kernel_rfl)
              have e138 : FA.tmps[138]?.getD undef = .bool false := by simpa [Act.eval] using ev138
              replace ev138 := Lib.hid ev138
              have ge138 := slot_of e138
              clear hO hD
              have cc : (plus W7 x.bs x.d).cell? ⟨w.heap.size + 1, 0, none⟩ = some (.int .u64 (y : Int)) := (hL.later (below_plus _ _ _)).cell 0
              go_simp
              exact hK.out _ _ (Ex.refl _) rfl
            | 12, _, ho, hO, hD, hK => 
              obtain rfl := Option.some.inj ho.symm
              clear ho
              have ev141 : FA.eval (.tmp 141) = .agg (ringC key n).toArray := hD 5 141 (by kernel_rfl)
              have e141 : FA.tmps[141]?.getD undef = .agg (ringC key n).toArray := by simpa [Act.eval] using ev141
              replace ev141 := Lib.hid ev141
              have ev143 : FA.eval (.tmp 143) = .int .i64 v := hD 7 143 (by kernel_rfl)
              have e143 : FA.tmps[143]?.getD undef = .int .i64 v := by simpa [Act.eval] using ev143
              replace ev143 := Lib.hid ev143
              have ev145 : FA.eval (.tmp 145) = .int .i64 s := hD 9 145 (by kernel_rfl)
              have e145 : FA.tmps[145]?.getD undef = .int .i64 s := by simpa [Act.eval] using ev145
              replace ev145 := Lib.hid ev145
              have ev147 : FA.eval (.tmp 147) = .int .u64 (y : Int) := hD 11 147 (by kernel_rfl)
              have e147 : FA.tmps[147]?.getD undef = .int .u64 (y : Int) := by simpa [Act.eval] using ev147
              replace ev147 := Lib.hid ev147
              have ev138 : FA.eval (.tmp 138) = .bool false := hD 2 138 (by kernel_rfl)
              have e138 : FA.tmps[138]?.getD undef = .bool false := by simpa [Act.eval] using ev138
              replace ev138 := Lib.hid ev138
              have ge138 := slot_of e138
              clear hO hD
              go_simp
              refine (HRM.out _).mono ?_
              rintro e w1 ⟨A3, n3, c3, bs2, d2, rfl, rfl, ho2⟩
              exact hK.out _ _ (Ex.plus_ _ _ _) ⟨_, _, _, rfl, ho2.rb⟩
            | 13, _, ho, hO, hD, hK => 
              obtain rfl := Option.some.inj ho.symm
              clear ho
              have f148 := hD 12 148 (by kernel_rfl)
              generalize eu148 : FA.eval (.tmp 148) = u148 at f148
              have e148 : FA.tmps[148]?.getD undef = u148 := by rw [← eu148]; simp [Act.eval]
              have ev148 := Lib.hid eu148
              clear eu148
              have ev138 : FA.eval (.tmp 138) = .bool false := hD 2 138 (by kernel_rfl)
              have e138 : FA.tmps[138]?.getD undef = .bool false := by simpa [Act.eval] using ev138
              replace ev138 := Lib.hid ev138
              have ge138 := slot_of e138
              clear hO hD
              obtain ⟨A1, n1, c1, rfl, hr1⟩ := f148
              have es := run_str bt Try.underlying9 hr1
              go_simp
              exact hK.out _ _ (Ex.refl _) rfl
            | 14, _, ho, hO, hD, hK => 
              obtain rfl := Option.some.inj ho.symm
              clear ho
              have ev140 : FA.eval (.tmp 140) = .string ⟨Bx.toArray⟩ := hD 4 140 (by kernel_rfl)
              have e140 : FA.tmps[140]?.getD undef = .string ⟨Bx.toArray⟩ := by simpa [Act.eval] using ev140
              replace ev140 := Lib.hid ev140
              have ev149 : FA.eval (.tmp 149) = .string ⟨Bx.toArray⟩ := hD 13 149 (by kernel_rfl)
              have e149 : FA.tmps[149]?.getD undef = .string ⟨Bx.toArray⟩ := by simpa [Act.eval] using ev149
              replace ev149 := Lib.hid ev149
              have ev138 : FA.eval (.tmp 138) = .bool false := hD 2 138 (by kernel_rfl)
              have e138 : FA.tmps[138]?.getD undef = .bool false := by simpa [Act.eval] using ev138
              replace ev138 := Lib.hid ev138
              have ge138 := slot_of e138
              clear hO hD
              go_simp
              exact hK.out _ _ (Ex.refl _) rfl
            | 15, _, ho, hO, hD, hK => 
              obtain rfl := Option.some.inj ho.symm
              clear ho
              have ev138 : FA.eval (.tmp 138) = .bool false := hD 2 138 (by kernel_rfl)
              have e138 : FA.tmps[138]?.getD undef = .bool false := by simpa [Act.eval] using ev138
              replace ev138 := Lib.hid ev138
              have ev150 : FA.eval (.tmp 150) = .bool false := hD 14 150 (by kernel_rfl)
              have e150 : FA.tmps[150]?.getD undef = .bool false := by simpa [Act.eval] using ev150
              replace ev150 := Lib.hid ev150
              clear hO hD
              go_simp
              exact hK.out _ _ (Ex.refl _) rfl
            | 16, _, ho, hO, hD, hK => 
              obtain rfl := Option.some.inj ho.symm
              clear ho
              have ev151 : FA.eval (.tmp 151) = .bool false := hD 15 151 (by kernel_rfl)
              have e151 : FA.tmps[151]?.getD undef = .bool false := by simpa [Act.eval] using ev151
              replace ev151 := Lib.hid ev151
              clear hO hD
              go_simp
              exact hK.out _ _ (Ex.refl _) rfl
            | 17, _, ho, hO, hD, hK => 
              obtain rfl := Option.some.inj ho.symm
              clear ho
              have ev17 : FA.eval (.tmp 17) = .pointer (some ⟨g17, 0, none⟩) := hO 17 (by kernel_rfl)
              have e17 : FA.tmps[17]?.getD undef = .pointer (some ⟨g17, 0, none⟩) := by simpa [Act.eval] using ev17
              replace ev17 := Lib.hid ev17
              have ev152 : FA.eval (.tmp 152) = .bool false := hD 16 152 (by kernel_rfl)
              have e152 : FA.tmps[152]?.getD undef = .bool false := by simpa [Act.eval] using ev152
              replace ev152 := Lib.hid ev152
              have ge152 := slot_of e152
              clear hO hD
              refine wanted_ifG (by go_simp) ?_
              refine wp_load_mid 67 (.tmp 17) rfl (g17) 0 ev17.out (leC (y + 1) b) _ (Bk.range (hM.later (below_plus _ _ _))) ul1 ul2 (szLe _ _) ?_
              exact hK.out _ _ (Ex.refl _) rfl
            | 18, _, ho, hO, hD, hK => 
              obtain rfl := Option.some.inj ho.symm
              clear ho
              have ev5 : FA.eval (.tmp 5) = .pointer (some ⟨w.heap.size + 1, 0, none⟩) := hO 5 (by kernel_rfl)
              have e5 : FA.tmps[5]?.getD undef = .pointer (some ⟨w.heap.size + 1, 0, none⟩) := by simpa [Act.eval] using ev5
              replace ev5 := Lib.hid ev5
              have ev152 : FA.eval (.tmp 152) = .bool false := hD 16 152 (by kernel_rfl)
              have e152 : FA.tmps[152]?.getD undef = .bool false := by simpa [Act.eval] using ev152
              replace ev152 := Lib.hid ev152
              have ge152 := slot_of e152
              clear hO hD
              go_simp
              exact hK.out _ _ (Ex.refl _) rfl
            | 19, _, ho, hO, hD, hK => 
              obtain rfl := Option.some.inj ho.symm
              clear ho
              have ev154 : FA.eval (.tmp 154) = .pointer (some ⟨w.heap.size + 1, 0, none⟩) := hD 18 154 (by kernel_rfl)
              have e154 : FA.tmps[154]?.getD undef = .pointer (some ⟨w.heap.size + 1, 0, none⟩) := by simpa [Act.eval] using ev154
              replace ev154 := Lib.hid ev154
              have ev152 : FA.eval (.tmp 152) = .bool false := hD 16 152 (by kernel_rfl)
              have e152 : FA.tmps[152]?.getD undef = .bool false := by simpa [Act.eval] using ev152
              replace ev152 := Lib.hid ev152
              have ge152 := slot_of e152
              clear hO hD
              have cc : (plus W7 x.bs x.d).cell? ⟨w.heap.size + 1, 0, none⟩ = some (.int .u64 (y : Int)) := (hL.later (below_plus _ _ _)).cell 0
              go_simp
              exact hK.out _ _ (Ex.refl _) rfl
            | 20, _, ho, hO, hD, hK => 
              obtain rfl := Option.some.inj ho.symm
              clear ho
              have ev155 : FA.eval (.tmp 155) = .int .u64 (y : Int) := hD 19 155 (by kernel_rfl)
              have e155 : FA.tmps[155]?.getD undef = .int .u64 (y : Int) := by simpa [Act.eval] using ev155
              replace ev155 := Lib.hid ev155
              have ev152 : FA.eval (.tmp 152) = .bool false := hD 16 152 (by kernel_rfl)
              have e152 : FA.tmps[152]?.getD undef = .bool false := by simpa [Act.eval] using ev152
              replace ev152 := Lib.hid ev152
              have ge152 := slot_of e152
              clear hO hD
              have hw : IntKind.u64.wrap ((y : Int) + 1) = ((y + 1 : Nat) : Int) := by rw [IntWalk.u64_in _ (by omega)]; simp
              go_simp
              exact hK.out _ _ (Ex.refl _) rfl
            | 21, _, ho, hO, hD, hK => 
              obtain rfl := Option.some.inj ho.symm
              clear ho
              have ev5 : FA.eval (.tmp 5) = .pointer (some ⟨w.heap.size + 1, 0, none⟩) := hO 5 (by kernel_rfl)
              have e5 : FA.tmps[5]?.getD undef = .pointer (some ⟨w.heap.size + 1, 0, none⟩) := by simpa [Act.eval] using ev5
              replace ev5 := Lib.hid ev5
              have ev152 : FA.eval (.tmp 152) = .bool false := hD 16 152 (by kernel_rfl)
              have e152 : FA.tmps[152]?.getD undef = .bool false := by simpa [Act.eval] using ev152
              replace ev152 := Lib.hid ev152
              have ge152 := slot_of e152
              clear hO hD
              go_simp
              exact hK.out _ _ (Ex.refl _) rfl
            | 22, _, ho, hO, hD, hK => 
              obtain rfl := Option.some.inj ho.symm
              clear ho
              have ev157 : FA.eval (.tmp 157) = .pointer (some ⟨w.heap.size + 1, 1, none⟩) := hD 21 157 (by kernel_rfl)
              have e157 : FA.tmps[157]?.getD undef = .pointer (some ⟨w.heap.size + 1, 1, none⟩) := by simpa [Act.eval] using ev157
              replace ev157 := Lib.hid ev157
              have ev152 : FA.eval (.tmp 152) = .bool false := hD 16 152 (by kernel_rfl)
              have e152 : FA.tmps[152]?.getD undef = .bool false := by simpa [Act.eval] using ev152
              replace ev152 := Lib.hid ev152
              have ge152 := slot_of e152
              clear hO hD
              have cc : (plus W7 x.bs x.d).cell? ⟨w.heap.size + 1, 1, none⟩ = some (.int .u64 (b : Int)) := (hL.later (below_plus _ _ _)).cell 1
              go_simp
              exact hK.out _ _ (Ex.refl _) rfl
            | 23, _, ho, hO, hD, hK => 
              obtain rfl := Option.some.inj ho.symm
              clear ho
              have ev156 : FA.eval (.tmp 156) = .int .u64 ((y + 1 : Nat) : Int) := hD 20 156 (by kernel_rfl)
              have e156 : FA.tmps[156]?.getD undef = .int .u64 ((y + 1 : Nat) : Int) := by simpa [Act.eval] using ev156
              replace ev156 := Lib.hid ev156
              have ev158 : FA.eval (.tmp 158) = .int .u64 (b : Int) := hD 22 158 (by kernel_rfl)
              have e158 : FA.tmps[158]?.getD undef = .int .u64 (b : Int) := by simpa [Act.eval] using ev158
              replace ev158 := Lib.hid ev158
              have ev152 : FA.eval (.tmp 152) = .bool false := hD 16 152 (by kernel_rfl)
              have e152 : FA.tmps[152]?.getD undef = .bool false := by simpa [Act.eval] using ev152
              replace ev152 := Lib.hid ev152
              have ge152 := slot_of e152
              clear hO hD
              go_simp
              exact hK.out _ _ (Ex.refl _) rfl
            | 24, _, ho, hO, hD, hK => 
              obtain rfl := Option.some.inj ho.symm
              clear ho
              have ev153 : FA.eval (.tmp 153) = .agg (leC (y + 1) b).toArray := hD 17 153 (by kernel_rfl)
              have e153 : FA.tmps[153]?.getD undef = .agg (leC (y + 1) b).toArray := by simpa [Act.eval] using ev153
              replace ev153 := Lib.hid ev153
              have ev159 : FA.eval (.tmp 159) = .agg (leC (y + 1) b).toArray := hD 23 159 (by kernel_rfl)
              have e159 : FA.tmps[159]?.getD undef = .agg (leC (y + 1) b).toArray := by simpa [Act.eval] using ev159
              replace ev159 := Lib.hid ev159
              have ev152 : FA.eval (.tmp 152) = .bool false := hD 16 152 (by kernel_rfl)
              have e152 : FA.tmps[152]?.getD undef = .bool false := by simpa [Act.eval] using ev152
              replace ev152 := Lib.hid ev152
              have ge152 := slot_of e152
              clear hO hD
              go_simp
              exact hK.out _ _ (Ex.refl _) rfl
            | 25, _, ho, hO, hD, hK => 
              obtain rfl := Option.some.inj ho.symm
              clear ho
              have ev152 : FA.eval (.tmp 152) = .bool false := hD 16 152 (by kernel_rfl)
              have e152 : FA.tmps[152]?.getD undef = .bool false := by simpa [Act.eval] using ev152
              replace ev152 := Lib.hid ev152
              have ev160 : FA.eval (.tmp 160) = .bool false := hD 24 160 (by kernel_rfl)
              have e160 : FA.tmps[160]?.getD undef = .bool false := by simpa [Act.eval] using ev160
              replace ev160 := Lib.hid ev160
              clear hO hD
              go_simp
              exact hK.out _ _ (Ex.refl _) rfl
            | (k + 26), hi, _, _, _, _ => exact absurd hi (by omega)
          intro vs x hp
          have p0 : vs 0 = .int .i64 0 := hp 0 (by omega)
          have p1 : vs 1 = .bool false := hp 1 (by omega)
          have p2 : vs 2 = .bool false := hp 2 (by omega)
          have p3 : vs 3 = .slice A9 n9 c9 := hp 3 (by omega)
          have p4 : vs 4 = .string ⟨Bx.toArray⟩ := hp 4 (by omega)
          have p5 : vs 5 = .agg (ringC key n).toArray := hp 5 (by omega)
          have p6 : vs 6 = .pointer (some ⟨w.heap.size + 1 + 1, 0, none⟩) := hp 6 (by omega)
          have p7 : vs 7 = .int .i64 v := hp 7 (by omega)
          have p8 : vs 8 = .pointer (some ⟨w.heap.size + 1 + 1, 1, none⟩) := hp 8 (by omega)
          have p9 : vs 9 = .int .i64 s := hp 9 (by omega)
          have p10 : vs 10 = .pointer (some ⟨w.heap.size + 1, 0, none⟩) := hp 10 (by omega)
          have p11 : vs 11 = .int .u64 (y : Int) := hp 11 (by omega)
          have p12 := hp 12 (by omega)
          have p13 : vs 13 = .string ⟨Bx.toArray⟩ := hp 13 (by omega)
          have p14 : vs 14 = .bool false := hp 14 (by omega)
          have p15 : vs 15 = .bool false := hp 15 (by omega)
          have p16 : vs 16 = .bool false := hp 16 (by omega)
          have p17 : vs 17 = .agg (leC (y + 1) b).toArray := hp 17 (by omega)
          have p18 : vs 18 = .pointer (some ⟨w.heap.size + 1, 0, none⟩) := hp 18 (by omega)
          have p19 : vs 19 = .int .u64 (y : Int) := hp 19 (by omega)
          have p20 : vs 20 = .int .u64 ((y + 1 : Nat) : Int) := hp 20 (by omega)
          have p21 : vs 21 = .pointer (some ⟨w.heap.size + 1, 1, none⟩) := hp 21 (by omega)
          have p22 : vs 22 = .int .u64 (b : Int) := hp 22 (by omega)
          have p23 : vs 23 = .agg (leC (y + 1) b).toArray := hp 23 (by omega)
          have p24 : vs 24 = .bool false := hp 24 (by omega)
          have p25 : vs 25 = .bool false := hp 25 (by omega)
          clear hp
          simp only [List.take_succ_cons, List.take_zero, List.drop_succ_cons, List.drop_zero, putAll, Nat.zero_add, Nat.reduceAdd, Act.put, List.setIfInBounds_toArray, List.set_cons_zero, List.set_cons_succ, p0, p1, p2, p3, p4, p5, p6, p7, p8, p9, p10, p11, p13, p14, p15, p16, p17, p18, p19, p20, p21, p22, p23, p24, p25]
          clear p0 p1 p2 p3 p4 p5 p6 p7 p8 p9 p10 p11 p13 p14 p15 p16 p17 p18 p19 p20 p21 p22 p23 p24 p25
          generalize vs 12 = y12 at *
          clear vs
          have b8 := below_plus W7 x.bs x.d
          replace hR := hR.later b8
          replace hL := hL.later b8
          replace hP := hP.later b8
          replace hX := hX.later b8
          replace hM := hM.later b8
          replace h9 := h9.later b8
          replace ho := owns_later ho b8
          replace hBw := Nat.le_trans hBw b8.size
          replace be := be.trans ((b8).mono be.size)
          generalize plus W7 x.bs x.d = W8 at *
          clear b8
          go_upto_block 2 with (fail)
          go_wp2
          have hm4 : m ≤ 4 := by have := HMJ.out; omega
          go_loopw [20] (fun kv W' => ∃ kk : Nat, kk ≤ m ∧ kv = .int .i64 kk ∧ Below W8.heap.size W8 W') (fun kv _ => m - (intOf kv).toNat)
          case atStart => exact ⟨0, by omega, rfl, Below.refl _ _⟩
          case round =>
            obtain ⟨kk, hkk, rfl, hbi⟩ := hrel
            have hoi := owns_later ho hbi
            have hSl : S.length = m := by have := ho.1; simpa using this
            by_cases hkm : kk < m
            · obtain ⟨gi, cap, hv, _, _⟩ := hoi.form (show 0 < m by omega)
              injection hv with e1 e2 e3
              subst e1 e3
              have hks : kk < S.length := by omega
              have hck : ∀ bs d, (plus wr bs d).cell? ⟨gi, kk, none⟩ = some (.string ⟨(S[kk]).toArray⟩) := fun bs d => by
                have := (owns_later hoi (below_plus wr bs d)).cells (g := gi) rfl kk (strV S[kk]) (by simp [hks])
                rw [add_plain, Nat.zero_add] at this
                exact this
              have hne := Lib.hid (HAP.out S[kk] (List.getElem_mem hks))
              replace h9 := h9.later hbi
              replace hSl := Lib.hid hSl
              clear hoi
              go_upto_region 23 with (fail)
              go_wp2
              refine wp_rel 7 182 rfl (by kernel_rfl) (by kernel_rfl) (fun i => match i with | 0 => MP.eq (.slice (some ⟨gi, 0, none⟩) m c) | 1 => MP.eq (.int .i64 (kk : Int)) | 2 => MP.eq (.pointer (some ⟨gi, kk, none⟩)) | 3 => MP.eq (.string ⟨(S[kk]).toArray⟩) | 4 => MP.eq (.slice A9 n9 c9) | 5 => MP.eq (.string ⟨Bx.toArray⟩) | 6 => MP.eq (.bool false) | _ => MP.any) ?_ ?_
              · intro i hi o ho FA x hO hD K hK
                match i, hi, ho, hO, hD, hK with
                | 0, _, ho, hO, hD, hK => 
                  obtain rfl := Option.some.inj ho.symm
                  clear ho
                  have ev14 : FA.eval (.tmp 14) = .slice (some ⟨gi, 0, none⟩) m c := hO 14 (by kernel_rfl)
                  have e14 : FA.tmps[14]?.getD undef = .slice (some ⟨gi, 0, none⟩) m c := by simpa [Act.eval] using ev14
                  replace ev14 := Lib.hid ev14
                  clear hO hD
                  go_simp
                  exact hK.out _ _ (Ex.refl _) rfl
                | 1, _, ho, hO, hD, hK => 
                  obtain rfl := Option.some.inj ho.symm
                  clear ho
                  have ev20 : FA.eval (.tmp 20) = .int .i64 (kk : Int) := hO 20 (by kernel_rfl)
                  have e20 : FA.tmps[20]?.getD undef = .int .i64 (kk : Int) := by simpa [Act.eval] using ev20
                  replace ev20 := Lib.hid ev20
                  clear hO hD
                  go_simp
                  exact hK.out _ _ (Ex.refl _) rfl
                | 2, _, ho, hO, hD, hK => 
                  obtain rfl := Option.some.inj ho.symm
                  clear ho
                  have ev168 : FA.eval (.tmp 168) = .slice (some ⟨gi, 0, none⟩) m c := hD 0 168 (by kernel_rfl)
                  have e168 : FA.tmps[168]?.getD undef = .slice (some ⟨gi, 0, none⟩) m c := by simpa [Act.eval] using ev168
                  replace ev168 := Lib.hid ev168
                  have ev169 : FA.eval (.tmp 169) = .int .i64 (kk : Int) := hD 1 169 (by kernel_rfl)
                  have e169 : FA.tmps[169]?.getD undef = .int .i64 (kk : Int) := by simpa [Act.eval] using ev169
                  replace ev169 := Lib.hid ev169
                  clear hO hD
                  have hkk : kk < m := hkm
                  go_simp
                  exact hK.out _ _ (Ex.refl _) rfl
                | 3, _, ho, hO, hD, hK => 
                  obtain rfl := Option.some.inj ho.symm
                  clear ho
                  have ev170 : FA.eval (.tmp 170) = .pointer (some ⟨gi, kk, none⟩) := hD 2 170 (by kernel_rfl)
                  have e170 : FA.tmps[170]?.getD undef = .pointer (some ⟨gi, kk, none⟩) := by simpa [Act.eval] using ev170
                  replace ev170 := Lib.hid ev170
                  clear hO hD
                  have cc : (plus wr x.bs x.d).cell? ⟨gi, kk, none⟩ = some (.string ⟨(S[kk]).toArray⟩) := hck _ _
                  go_simp
                  exact hK.out _ _ (Ex.refl _) rfl
                | 4, _, ho, hO, hD, hK => 
                  obtain rfl := Option.some.inj ho.symm
                  clear ho
                  have ev16 : FA.eval (.tmp 16) = .slice A9 n9 c9 := hO 16 (by kernel_rfl)
                  have e16 : FA.tmps[16]?.getD undef = .slice A9 n9 c9 := by simpa [Act.eval] using ev16
                  replace ev16 := Lib.hid ev16
                  clear hO hD
                  go_simp
                  exact hK.out _ _ (Ex.refl _) rfl
                | 5, _, ho, hO, hD, hK => 
                  obtain rfl := Option.some.inj ho.symm
                  clear ho
                  have ev172 : FA.eval (.tmp 172) = .slice A9 n9 c9 := hD 4 172 (by kernel_rfl)
                  have e172 : FA.tmps[172]?.getD undef = .slice A9 n9 c9 := by simpa [Act.eval] using ev172
                  replace ev172 := Lib.hid ev172
                  clear hO hD
                  have es := run_str bt Try.underlying9 (h9.plus_ x.bs x.d)
                  go_simp
                  exact hK.out _ _ (Ex.refl _) rfl
                | 6, _, ho, hO, hD, hK => 
                  obtain rfl := Option.some.inj ho.symm
                  clear ho
                  have ev171 : FA.eval (.tmp 171) = .string ⟨(S[kk]).toArray⟩ := hD 3 171 (by kernel_rfl)
                  have e171 : FA.tmps[171]?.getD undef = .string ⟨(S[kk]).toArray⟩ := by simpa [Act.eval] using ev171
                  replace ev171 := Lib.hid ev171
                  have ev173 : FA.eval (.tmp 173) = .string ⟨Bx.toArray⟩ := hD 5 173 (by kernel_rfl)
                  have e173 : FA.tmps[173]?.getD undef = .string ⟨Bx.toArray⟩ := by simpa [Act.eval] using ev173
                  replace ev173 := Lib.hid ev173
                  clear hO hD
                  have hne2 : (S[kk] == Bx) = false := beq_eq_false_iff_ne.2 hne.out
                  go_simp
                  exact hK.out _ _ (Ex.refl _) rfl
                | (k + 7), hi, _, _, _, _ => exact absurd hi (by omega)
              intro vs x hp
              have p0 : vs 0 = .slice (some ⟨gi, 0, none⟩) m c := hp 0 (by omega)
              have p1 : vs 1 = .int .i64 (kk : Int) := hp 1 (by omega)
              have p2 : vs 2 = .pointer (some ⟨gi, kk, none⟩) := hp 2 (by omega)
              have p3 : vs 3 = .string ⟨(S[kk]).toArray⟩ := hp 3 (by omega)
              have p4 : vs 4 = .slice A9 n9 c9 := hp 4 (by omega)
              have p5 : vs 5 = .string ⟨Bx.toArray⟩ := hp 5 (by omega)
              have p6 : vs 6 = .bool false := hp 6 (by omega)
              clear hp
              simp only [List.take_succ_cons, List.take_zero, List.drop_succ_cons, List.drop_zero, putAll, Nat.zero_add, Nat.reduceAdd, Act.put, List.setIfInBounds_toArray, List.set_cons_zero, List.set_cons_succ, p0, p1, p2, p3, p4, p5, p6]
              clear p0 p1 p2 p3 p4 p5 p6
              clear vs
              go_wp2
              go_roundw
              case rel => exact ⟨kk + 1, by omega, by go_num, hbi.trans ((below_plus wr x.bs x.d).mono hbi.size)⟩
              case measure => simp [intOf]; omega
            · obtain rfl : kk = m := by omega
              have hw4 := owns_later ho hbi
              replace hR := hR.later hbi
              replace hL := hL.later hbi
              replace hP := hP.later hbi
              replace hX := hX.later hbi
              replace hM := hM.later hbi
              replace h9 := h9.later hbi
              have zbi := hbi.size
              replace hBw := Nat.le_trans hBw zbi
              replace be := be.trans (hbi.mono be.size)
              have es := run_str bt Try.underlying9 h9
              obtain ⟨ti, hti, hz0, hz1, hz2⟩ := info_parts (show (Try.prog.info? 9).map (fun i => (i.zero, i.size, i.bytes)) = some (some (.string ⟨#[]⟩), 1, 16) by kernel_rfl)
              clear ho hSl
              go_upto_region 26 with (refine at_op (.call { callee := .builtin .append, args := #[.tmp 175, .tmp 178], argTypes := #[72, 72] }) rfl ?_; refine wpList_append_own_at _ rfl (.tmp 175) (.tmp 178) 72 rfl B0 9 ti (.string ⟨#[]⟩) 1 16 Try.underlying72 hti hz0 hz1 hz2 rfl (by decide) (.slice A kk c) kk (S.map strV) rfl (hw4.alloc _) ⟨wr.heap.size, 0, none⟩ 1 1 [strV Bx] rfl rfl (cell_one_new _ _ _) (by intro u hu; simp [strV] at hu; subst hu; rfl) (by simp [maxLen]; omega) (by omega) (by simp; omega) ?_; intro v' w' hown' hgr' hnil' hat')
              have hne0 : ∀ k, (Value.slice A kk c).ownBlock = some k → B0 ≤ k := fun k hk => (hw4.lt k hk).1
              obtain ⟨g', cap', hv', hgB, _⟩ := hown'.form (show 0 < kk + 1 by omega)
              subst hv'
              replace hR := (hR.alloc _).grown hgr' (fun e => by have := hne0 _ e; omega)
              replace hL := (hL.alloc _).grown hgr' (fun e => by have := hne0 _ e; omega)
              replace hP := (hP.alloc _).grown hgr' (fun e => by have := hne0 _ e; omega)
              replace hX := (hX.alloc _).grown hgr' (fun e => by have := hne0 _ e; omega)
              replace hM := (hM.alloc _).grown hgr' (fun e => by have := hk17 _ e; omega)
              replace hBw := Nat.le_trans hBw (Nat.le_trans (Nat.le_succ _) (by have := hgr'.size; simpa using this))
              replace be := (Below.allocS be _).trans (below_of_grown hgr' (by have := be.size; simp; omega) (fun k hk => by have := hne0 _ hk; omega))
              clear hw4 es hgr' h9
              go_wp2_with (first
                | (refine at_op (.load 67 (.tmp 17)) rfl ?_; refine wpList_ldA (t := 67) 67 (.tmp 17) rfl rfl (leC (y + 1) b) rfl (by with_reducible repeat (first | exact hM | refine Bk.later ?_ (below_plus _ _ _) | refine Bk.alloc ?_ _)) (whole_ _) ul1 ul2 (szLe _ _) ?_)
                | (refine at_op (.store 67 (.tmp 5) (.tmp 180)) rfl ?_; refine wpList_stA (t := 67) 67 (.tmp 5) (.tmp 180) rfl rfl (leC (y + 1) b) (leC y b) rfl (leC_one _ _) rfl rfl (hL) (szLe _ _) ?_; intro W11 hL11 hg11))
              go_roundw
              case rel =>
                refine ⟨j + 1, y + 1, S ++ [Bx], some ⟨g', 0, none⟩, kk + 1, cap', by omega, by go_num, rfl, ?_, by have := HMJ.out; omega, by omega, HAN.out, Nat.le_trans hBw hg11.size, hR.grown hg11 (by simp), hL11, hP.grown hg11 (by simp), hX.grown hg11 (by simp; omega), below_grown be hg11 (by omega)⟩
                rw [List.map_append]
                exact hown'.kept hg11 (.inr (by simp [Value.ownBlock]; omega))
              case measure => simp [intOf]; omega
end Go.Proofs.Ytldecdeiibfekaa
