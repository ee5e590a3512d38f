/- The package cid: mask, tag, Read; octet.Equal, (*Reader).Rest. -/
import Derived.Test.YtldecdeiibfekaaCom
import Derived.Test.YtldecdeiibfekaaCook
import Derived.Test.YtldecdeiibfekaaSt
import Derived.Test.YtldecdeiibfekaaRelO
namespace Go.Proofs.Ytldecdeiibfekaa
open Go.RowKit
set_option linter.unusedVariables false
set_option linter.unusedSimpArgs false
attribute [local go_sem ↓] sliced_cut
attribute [local go_sem] cutA_zero

noncomputable def cmskN (key : List UInt8) (once : Nat) : Nat := (sip key ([3] ++ dig once 5)).toNat % 32768
theorem cmskN_lt (key : List UInt8) (once : Nat) : cmskN key once < 32768 := Nat.mod_lt _ (by decide)
noncomputable def ctagB (key : List UInt8) (once wd : Nat) : List UInt8 := dig (sip key ([4] ++ dig once 5 ++ dig wd 2)).toNat 5
set_option maxHeartbeats 1000000 in
set_option maxRecDepth 100000 in
theorem cidMask_any (key : List UInt8) (hk : K16 key) (once : Nat) (w : World) (hu : once < 18446744073709551616) : Calls Try.prog 108 #[.agg (bcs key).toArray, .int .u64 once] w (RetV w (.int .u16 (cmskN key once : Int))) := by
  obtain ⟨dk, u1, u2, u3⟩ := rowKey
  have hb0 : Bk ((w.alloc (.cells (bcs key).toArray 54)).alloc (.cells #[.int .u8 3] 5)) w.heap.size 54 (bcs key) := (Bk.new w 54 (bcs key).toArray).alloc _
  have hr0 : Rb ((w.alloc (.cells (bcs key).toArray 54)).alloc (.cells #[.int .u8 3] 5)) (some ⟨w.heap.size + 1, 0, none⟩) 1 1 [3] := Rb.litW _ [3] (by simp) rfl (by decide) rfl
  have be : Below w.heap.size w ((w.alloc (.cells (bcs key).toArray 54)).alloc (.cells #[.int .u8 3] 5)) := Below.allocS (Below.allocS (Below.refl _ _) _) _
  have hm := cmskN_lt key once
  go_enter Try.func108, Try.ntmps108
  go_wp2_with fail
  refine (put_full _ _ _ [3] once 5 _ hr0 (by omega) (by omega) (by omega) (by omega)).mono ?_
  rintro e w1 ⟨A2, n2, bs2, d2, rfl, rfl, ho2⟩
  have l2 : n2 ≤ 100 := by rw [← ho2.1]; simp [dig_length]
  go_wp2_with (refine at_op (.load 54 (.tmp 2)) rfl ?_; refine wpList_ldA (t := 54) 54 (.tmp 2) rfl rfl (bcs key) rfl (hb0.later (below_plus _ _ _)) (bcs_whole key) u1 u2 (szKey key hk) ?_)
  refine (sum_any key hk _ _ _ _ _ ho2.rb (by omega)).mono ?_
  rintro e w1 ⟨bs3, d3, rfl, rfl⟩
  go_wp2_with fail
  have hs := (sip key ([3] ++ dig once 5)).toNat_lt
  refine (fold_in _ 15 _ hs (by omega) (by omega)).mono ?_
  rintro e w1 ⟨rfl, rfl⟩
  have hq : (sip key ([3] ++ dig once 5)).toNat % 2 ^ 15 = cmskN key once := rfl
  rw [hq]
  clear hq hs
  generalize cmskN key once = M at *
  go_wp2
  go_ret
  exact RetV.mk (belowP (belowP be _ _) _ _)
set_option maxHeartbeats 1000000 in
set_option maxRecDepth 100000 in
theorem cidTag_any (key : List UInt8) (hk : K16 key) (once wd : Nat) (w : World) (hu : once < 18446744073709551616) (hw : wd < 65536) : Calls Try.prog 109 #[.agg (bcs key).toArray, .int .u64 once, .int .u16 wd] w (RetF w (ctagB key once wd)) := by
  obtain ⟨dk, u1, u2, u3⟩ := rowKey
  have hb0 : Bk ((w.alloc (.cells (bcs key).toArray 54)).alloc (.cells #[.int .u8 4] 5)) w.heap.size 54 (bcs key) := (Bk.new w 54 (bcs key).toArray).alloc _
  have hr0 : Rb ((w.alloc (.cells (bcs key).toArray 54)).alloc (.cells #[.int .u8 4] 5)) (some ⟨w.heap.size + 1, 0, none⟩) 1 1 [4] := Rb.litW _ [4] (by simp) rfl (by decide) rfl
  have be : Below w.heap.size w ((w.alloc (.cells (bcs key).toArray 54)).alloc (.cells #[.int .u8 4] 5)) := Below.allocS (Below.allocS (Below.refl _ _) _) _
  go_enter Try.func109, Try.ntmps109
  go_wp2_with fail
  refine (put_full _ _ _ [4] once 5 _ hr0 (by omega) (by omega) (by omega) (by omega)).mono ?_
  rintro e w1 ⟨A2, n2, bs2, d2, rfl, rfl, ho2⟩
  have l2 : n2 ≤ 100 := by rw [← ho2.1]; simp [dig_length]
  go_wp2_with fail
  refine (put_full _ _ _ _ wd 2 _ ho2.rb (by omega) (by omega) (by omega) (by omega)).mono ?_
  rintro e w1 ⟨A3, n3, bs3, d3, rfl, rfl, ho3⟩
  have l3 : n3 ≤ 100 := by rw [← ho3.1]; simp [dig_length]
  go_wp2_with (refine at_op (.load 54 (.tmp 3)) rfl ?_; refine wpList_ldA (t := 54) 54 (.tmp 3) rfl rfl (bcs key) rfl ((hb0.later (below_plus _ _ _)).later (below_plus _ _ _)) (bcs_whole key) u1 u2 (szKey key hk) ?_)
  refine (sum_any key hk _ _ _ _ _ ho3.rb (by omega)).mono ?_
  rintro e w1 ⟨bs4, d4, rfl, rfl⟩
  have hs := (sip key ([4] ++ dig once 5 ++ dig wd 2)).toNat_lt
  go_wp2_with fail
  refine (put_full _ _ _ [] _ 5 _ Rb.nil_ (by omega) hs (by omega) (by omega)).mono ?_
  rintro e w1 ⟨A5, n5, bs5, d5, rfl, rfl, ho5⟩
  go_wp2
  go_ret
  exact RetF.mk (by simpa [ctagB] using ho5.mono (base' := w.heap.size) (by simp [size_plus]; omega)) (belowP (belowP (belowP (belowP be _ _) _ _) _ _) _ _)
theorem bEqual_yes (A : Option Addr) (n c : Nat) (A' : Option Addr) (n' c' : Nat) (l : List UInt8) (w : World) (h1 : Rb w A n c l) (h2 : Rb w A' n' c' l) : Calls Try.prog 163 #[.slice A n c, .slice A' n' c'] w fun e w' => e = .returned (.bool true) ∧ w = w' := by
  have e1 := run_str bt Try.underlying9 h1
  have e2 := run_str bt Try.underlying9 h2
  go_enter Try.func163, Try.ntmps163
  go_wp2
  go_ret
  exact ⟨rfl, rfl⟩
theorem bEqual_no (A : Option Addr) (n c : Nat) (A' : Option Addr) (n' c' : Nat) (l l' : List UInt8) (w : World) (h1 : Rb w A n c l) (h2 : Rb w A' n' c' l') (hne : l ≠ l') : Calls Try.prog 163 #[.slice A n c, .slice A' n' c'] w fun e w' => e = .returned (.bool false) ∧ w = w' := by
  have e1 := run_str bt Try.underlying9 h1
  have e2 := run_str bt Try.underlying9 h2
  go_enter Try.func163, Try.ntmps163
  go_wp2
  go_ret
  exact ⟨by simpa using hne, rfl⟩
theorem oEqual_yes (A : Option Addr) (n c : Nat) (A' : Option Addr) (n' c' : Nat) (l : List UInt8) (w : World) (h1 : Rb w A n c l) (h2 : Rb w A' n' c' l) : Calls Try.prog 115 #[.slice A n c, .slice A' n' c'] w fun e w' => e = .returned (.bool true) ∧ w = w' := by
  go_enter Try.func115, Try.ntmps115
  go_wp2_with (go_at_call 163; refine (bEqual_yes _ _ _ _ _ _ _ _ h1 h2).mono ?_; rintro e w1 ⟨rfl, rfl⟩)
  go_ret
  exact ⟨rfl, rfl⟩
theorem oEqual_no (A : Option Addr) (n c : Nat) (A' : Option Addr) (n' c' : Nat) (l l' : List UInt8) (w : World) (h1 : Rb w A n c l) (h2 : Rb w A' n' c' l') (hne : l ≠ l') : Calls Try.prog 115 #[.slice A n c, .slice A' n' c'] w fun e w' => e = .returned (.bool false) ∧ w = w' := by
  go_enter Try.func115, Try.ntmps115
  go_wp2_with (go_at_call 163; refine (bEqual_no _ _ _ _ _ _ _ _ _ h1 h2 hne).mono ?_; rintro e w1 ⟨rfl, rfl⟩)
  go_ret
  exact ⟨rfl, rfl⟩
theorem run_buildPl0 (w : World) : (Instr.build 53 #[]).run Try.prog w = .ok (.agg (plC 0 0).toArray) w := by kernel_rfl
theorem plC_one (v s : Nat) : ∀ u ∈ plC v s, u.oneCell' = true := by
  intro u hu
  simp [plC] at hu
  rcases hu with rfl | rfl <;> rfl

set_option maxHeartbeats 1000000 in
set_option maxRecDepth 100000 in
theorem cidRead_short (key : List UInt8) (hk : K16 key) (n : Nat) (A : Option Addr) (m c : Nat) (w : World) (hm : m ≠ 12) (hmm : m ≤ 1099511627776) : Calls Try.prog 35 #[.agg (ringC key n).toArray, .slice A m c] w (RetV w (.tuple #[.agg (plC 0 0).toArray, .int .u64 0, .int .i64 20])) := by
  obtain ⟨dk, u1, u2, u3⟩ := rowKey
  obtain ⟨dr, v1, v2, v3⟩ := rowRing
  obtain ⟨dp, y1, y2⟩ := rowPl
  have b0 : Bk ((w.alloc (.cells (ringC key n).toArray 56)).alloc (.cells #[.int .i64 0, .int .i64 0] 53)) w.heap.size 56 (ringC key n) := (Bk.new w 56 (ringC key n).toArray).alloc _
  have b1 : Bk ((w.alloc (.cells (ringC key n).toArray 56)).alloc (.cells #[.int .i64 0, .int .i64 0] 53)) (w.heap.size + 1) 53 (plC 0 0) := Bk.newK _ _ _ (by simp) rfl
  have be : Below w.heap.size w ((w.alloc (.cells (ringC key n).toArray 56)).alloc (.cells #[.int .i64 0, .int .i64 0] 53)) := Below.allocS (Below.allocS (Below.refl _ _) _) _
  have t1 : ((m : Int) != 12) = true := by rw [bne_iff_ne]; omega
  clear hm
  go_enter Try.func35, Try.ntmps35
  go_wp2_with (first
    | (refine at_op (.build 53 #[]) rfl ?_; refine wpList_build 53 [] rfl rfl (.agg (plC 0 0).toArray) ?_ ?_; exact run_buildPl0 _)
    | (refine at_op (.store 53 (.tmp 4) (.tmp 15)) rfl ?_; refine wpList_stA (t := 53) 53 (.tmp 4) (.tmp 15) rfl rfl (plC 0 0) (plC 0 0) rfl (plC_one _ _) rfl rfl (b1) (szPl _ _) ?_; intro w2 hb2 hg2))
  refine bodyPost_agg3 Try.results35 rfl rfl rfl hb2.range y1 y2 (szPl 0 0) rfl (RetV.mk ?_)
  exact below_grown be hg2 (by omega)

set_option maxHeartbeats 2000000 in
set_option maxRecDepth 100000 in
theorem cidRead_none (key : List UInt8) (hk : K16 key) (n : Nat) (A : Option Addr) (c : Nat) (l : List UInt8) (kk : List UInt8) (hkk : K16 kk) (w : World) (h : Rb w A 12 c l) (HAT : ∀ w, Calls Try.prog 105 #[.agg (ringC key n).toArray, .int .i64 ((num ((l.drop 5).take 2) : Int) / 32768)] w (RetV w (.tuple #[.agg (bcs kk).toArray, .bool false]))) : Calls Try.prog 35 #[.agg (ringC key n).toArray, .slice A 12 c] w (RetV w (.tuple #[.agg (plC 0 0).toArray, .int .u64 0, .int .i64 26])) := by
  have hld : (bcs kk).length = (bcs key0).length := by rw [bcs_length, show kk.length = 16 from hkk]; rfl
  obtain ⟨dk, u1, u2, u3⟩ := rowKey
  obtain ⟨dr, v1, v2, v3⟩ := rowRing
  obtain ⟨dp, y1, y2⟩ := rowPl
  have b0 : Bk ((w.alloc (.cells (ringC key n).toArray 56)).alloc (.cells #[.int .i64 0, .int .i64 0] 53)) w.heap.size 56 (ringC key n) := (Bk.new w 56 (ringC key n).toArray).alloc _
  have b1 : Bk ((w.alloc (.cells (ringC key n).toArray 56)).alloc (.cells #[.int .i64 0, .int .i64 0] 53)) (w.heap.size + 1) 53 (plC 0 0) := Bk.newK _ _ _ (by simp) rfl
  have be : Below w.heap.size w ((w.alloc (.cells (ringC key n).toArray 56)).alloc (.cells #[.int .i64 0, .int .i64 0] 53)) := Below.allocS (Below.allocS (Below.refl _ _) _) _
  have hl12 : l.length = 12 := h.1
  have HR := Lib.hid (fun W (h : Rb W A 12 c l) => readK A 12 c l W h (by omega))
  have hlt0 : num ((l.drop 0).take 5) < 1099511627776 := num_small _ 5 _ (by decide)
  have hlt1 : num ((l.drop 5).take 2) < 65536 := num_small _ 2 _ (by decide)
  generalize ho : num ((l.drop 0).take 5) = once at *
  generalize hw : num ((l.drop 5).take 2) = wd at *
  replace ho := Lib.hid ho
  replace hw := Lib.hid hw
  have hl12' : l.length ≤ 12 := by omega
  have hl12'' : 12 ≤ l.length := by omega
  replace hl12 := Lib.hid hl12
  replace HAT := Lib.hid HAT
  go_enter Try.func35, Try.ntmps35
  go_wp2_with fail
  refine (HR.out _ ((h.alloc _).alloc _)).mono ?_
  rintro e w1 ⟨r, bs1, d1, rfl, rfl, hr1, hR⟩
  replace b0 := b0.later (below_plus _ bs1 d1)
  replace b1 := b1.later (below_plus _ bs1 d1)
  replace be := belowP be bs1 d1
  have hr2 : w.heap.size + 1 < r := by have := hr1; simp at this; omega
  clear hr1
  generalize plus ((w.alloc (.cells (ringC key n).toArray 56)).alloc (.cells #[.int .i64 0, .int .i64 0] 53)) bs1 d1 = W at *
  go_wp2_with fail
  refine (numG W r l 0 once 5 (by omega) hR (by omega) (by omega) ho.out).mono ?_
  rintro e W1 ⟨rfl, hR1, hg1⟩
  replace b0 := b0.grown hg1 (by simp; omega)
  replace b1 := b1.grown hg1 (by simp; omega)
  replace be := below_grown be hg1 (by omega)
  clear hg1 hR
  go_wp2_with fail
  refine (wordG W1 r l 5 wd hR1 (by omega) (by omega) hw.out).mono ?_
  rintro e W2 ⟨rfl, hR2, hg2⟩
  replace b0 := b0.grown hg2 (by simp; omega)
  replace b1 := b1.grown hg2 (by simp; omega)
  replace be := below_grown be hg2 (by omega)
  clear hg2 hR1
  have zr := hR2.lt
  go_upto_region 7 with (first
    | (refine at_op (.load 56 (.tmp 2)) rfl ?_; refine wpList_ldA (t := 56) 56 (.tmp 2) rfl rfl (ringC key n) rfl b0 (ringC_whole key n) v1 v2 (szRing key hk n) ?_)
    | (go_at_call 105; refine (HAT.out _).mono ?_; rintro e w1 ⟨bs3, d3, rfl, rfl⟩)
    | (refine at_op (.store 54 (.tmp 10) (.tmp 28)) rfl ?_; refine wpList_stA (t := 54) 54 (.tmp 10) (.tmp 28) rfl rfl (bcs kk) (bcs key0) hld (bcs_one _) rfl rfl ?_ (szKey _ hkk) ?_; (· refine Bk.newK _ _ _ ?_ rfl; simp [size_plus]); intro W3 hK3 hg3))
  replace b1 := ((b1.later (below_plus _ bs3 d3)).alloc _).grown hg3 (by simp; omega)
  have hR3 : Rdr W3 r (l.drop 7) false := by
    have h1 := (hR2.later (below_plus _ bs3 d3)).later ((Below.refl _ _).alloc (Nat.le_refl _) (.cells (bcs key0).toArray 54))
    exact h1.far_ hg3 (by omega)
  have zb := be.size
  replace be := below_grown (Below.allocS (belowP be bs3 d3) _) hg3 (by omega)
  have hgk : r < W2.heap.size + bs3.length := by omega
  generalize W2.heap.size + bs3.length = gk at *
  clear hg3 b0 zb hR2 zr
  go_wp2
  refine wp_plus (by kernel_rfl) (by kernel_rfl) ?_
  repeat (go_big_quiet_step (fail))
  refine wpQuiet_nil ?_
  rintro _ ⟨x, rfl⟩
  have hbP := b1.later (below_plus _ x.bs x.d)
  have hbE := belowP be x.bs x.d
  go_wp2_with (first
    | (refine at_op (.build 53 #[]) rfl ?_; refine wpList_build 53 [] rfl rfl (.agg (plC 0 0).toArray) ?_ ?_; exact run_buildPl0 _)
    | (refine at_op (.store 53 (.tmp 4) (.tmp 42)) rfl ?_; refine wpList_stA (t := 53) 53 (.tmp 4) (.tmp 42) rfl rfl (plC 0 0) (plC 0 0) rfl (plC_one _ _) rfl rfl (hbP) (szPl _ _) ?_; intro W9 hb9 hg9))
  refine bodyPost_agg3 Try.results35 rfl rfl rfl hb9.range y1 y2 (szPl 0 0) rfl (RetV.mk ?_)
  exact below_grown hbE hg9 (by omega)

set_option maxHeartbeats 2000000 in
set_option maxRecDepth 100000 in
theorem cidRead_bad (key : List UInt8) (hk : K16 key) (n : Nat) (A : Option Addr) (c : Nat) (l : List UInt8) (kk : List UInt8) (hkk : K16 kk) (w : World) (h : Rb w A 12 c l) (hne : l.drop 7 ≠ ctagB kk (num ((l.drop 0).take 5)) (num ((l.drop 5).take 2))) (HAT : ∀ w, Calls Try.prog 105 #[.agg (ringC key n).toArray, .int .i64 ((num ((l.drop 5).take 2) : Int) / 32768)] w (RetV w (.tuple #[.agg (bcs kk).toArray, .bool true]))) : Calls Try.prog 35 #[.agg (ringC key n).toArray, .slice A 12 c] w (RetV w (.tuple #[.agg (plC 0 0).toArray, .int .u64 0, .int .i64 26])) := by
  have hld : (bcs kk).length = (bcs key0).length := by rw [bcs_length, show kk.length = 16 from hkk]; rfl
  obtain ⟨dk, u1, u2, u3⟩ := rowKey
  obtain ⟨dr, v1, v2, v3⟩ := rowRing
  obtain ⟨dp, y1, y2⟩ := rowPl
  have b0 : Bk ((w.alloc (.cells (ringC key n).toArray 56)).alloc (.cells #[.int .i64 0, .int .i64 0] 53)) w.heap.size 56 (ringC key n) := (Bk.new w 56 (ringC key n).toArray).alloc _
  have b1 : Bk ((w.alloc (.cells (ringC key n).toArray 56)).alloc (.cells #[.int .i64 0, .int .i64 0] 53)) (w.heap.size + 1) 53 (plC 0 0) := Bk.newK _ _ _ (by simp) rfl
  have be : Below w.heap.size w ((w.alloc (.cells (ringC key n).toArray 56)).alloc (.cells #[.int .i64 0, .int .i64 0] 53)) := Below.allocS (Below.allocS (Below.refl _ _) _) _
  have hl12 : l.length = 12 := h.1
  have HR := Lib.hid (fun W (h : Rb W A 12 c l) => readK A 12 c l W h (by omega))
  have hlt0 : num ((l.drop 0).take 5) < 1099511627776 := num_small _ 5 _ (by decide)
  have hlt1 : num ((l.drop 5).take 2) < 65536 := num_small _ 2 _ (by decide)
  generalize ho : num ((l.drop 0).take 5) = once at *
  generalize hw : num ((l.drop 5).take 2) = wd at *
  replace ho := Lib.hid ho
  replace hw := Lib.hid hw
  have hl12' : l.length ≤ 12 := by omega
  have hl12'' : 12 ≤ l.length := by omega
  replace hl12 := Lib.hid hl12
  replace HAT := Lib.hid HAT
  go_enter Try.func35, Try.ntmps35
  go_wp2_with fail
  refine (HR.out _ ((h.alloc _).alloc _)).mono ?_
  rintro e w1 ⟨r, bs1, d1, rfl, rfl, hr1, hR⟩
  replace b0 := b0.later (below_plus _ bs1 d1)
  replace b1 := b1.later (below_plus _ bs1 d1)
  replace be := belowP be bs1 d1
  have hr2 : w.heap.size + 1 < r := by have := hr1; simp at this; omega
  clear hr1
  generalize plus ((w.alloc (.cells (ringC key n).toArray 56)).alloc (.cells #[.int .i64 0, .int .i64 0] 53)) bs1 d1 = W at *
  go_wp2_with fail
  refine (numG W r l 0 once 5 (by omega) hR (by omega) (by omega) ho.out).mono ?_
  rintro e W1 ⟨rfl, hR1, hg1⟩
  replace b0 := b0.grown hg1 (by simp; omega)
  replace b1 := b1.grown hg1 (by simp; omega)
  replace be := below_grown be hg1 (by omega)
  clear hg1 hR
  go_wp2_with fail
  refine (wordG W1 r l 5 wd hR1 (by omega) (by omega) hw.out).mono ?_
  rintro e W2 ⟨rfl, hR2, hg2⟩
  replace b0 := b0.grown hg2 (by simp; omega)
  replace b1 := b1.grown hg2 (by simp; omega)
  replace be := below_grown be hg2 (by omega)
  clear hg2 hR1
  have zr := hR2.lt
  go_upto_region 7 with (first
    | (refine at_op (.load 56 (.tmp 2)) rfl ?_; refine wpList_ldA (t := 56) 56 (.tmp 2) rfl rfl (ringC key n) rfl b0 (ringC_whole key n) v1 v2 (szRing key hk n) ?_)
    | (go_at_call 105; refine (HAT.out _).mono ?_; rintro e w1 ⟨bs3, d3, rfl, rfl⟩)
    | (refine at_op (.store 54 (.tmp 10) (.tmp 28)) rfl ?_; refine wpList_stA (t := 54) 54 (.tmp 10) (.tmp 28) rfl rfl (bcs kk) (bcs key0) hld (bcs_one _) rfl rfl ?_ (szKey _ hkk) ?_; (· refine Bk.newK _ _ _ ?_ rfl; simp [size_plus]); intro W3 hK3 hg3))
  replace b1 := ((b1.later (below_plus _ bs3 d3)).alloc _).grown hg3 (by simp; omega)
  have hR3 : Rdr W3 r (l.drop 7) false := by
    have h1 := (hR2.later (below_plus _ bs3 d3)).later ((Below.refl _ _).alloc (Nat.le_refl _) (.cells (bcs key0).toArray 54))
    exact h1.far_ hg3 (by omega)
  have zb := be.size
  replace be := below_grown (Below.allocS (belowP be bs3 d3) _) hg3 (by omega)
  have hgk : r < W2.heap.size + bs3.length := by omega
  generalize W2.heap.size + bs3.length = gk at *
  clear hg3 b0 zb hR2 zr
  have hDb : ∀ b, (fun b => b = r) b → b < W3.heap.size := fun b hb => by subst hb; exact hR3.lt
  go_wp2
  refine wp_st (fun b => b = r) 12 50 2 [4] rfl (by kernel_rfl) (by kernel_rfl) (fun i => match i with | 0 => MC.eq (.bool true) | 1 => MC.eq (.bool false) | 2 => MC.eq (.bool false) | 3 => MC.eq (.pointer (some ⟨r, 0, none⟩)) | 4 => MC.ob W3.heap.size hDb (l.drop 7) | 5 => MC.eq (.agg (bcs kk).toArray) | 6 => MC.eq (.int .u64 (once : Int)) | 7 => MC.eq (.int .u16 (wd : Int)) | 8 => MC.ob W3.heap.size hDb (ctagB kk once wd) | 9 => MC.eq (.bool false) | 10 => MC.eq (.bool true) | 11 => MC.eq (.bool true) | _ => MC.any) (fun k w => Rdr w r (l.drop (7 + 5 * k)) false) ?_ ?_ ?_ ?_ ?_
  · exact fun k w w' h h' => h.later h'.below
  · simpa using hR3
  · intro i hi o ho hq FA w' hC hO hD K hK
    match i, hi, ho, hq, hO, hD, hK with
    | 0, _, ho, hq, hO, hD, hK => 
      obtain rfl := Option.some.inj ho.symm
      clear ho hq
      have ev11 : FA.eval (.tmp 11) = .bool true := hO 11 (by kernel_rfl)
      have e11 : FA.tmps[11]?.getD undef = .bool true := by simpa [Act.eval] using ev11
      replace ev11 := Lib.hid ev11
      clear hO hD
      go_simp
      exact hK.out _ _ (Ex.refl _) rfl
    | 1, _, ho, hq, hO, hD, hK => 
      obtain rfl := Option.some.inj ho.symm
      clear ho hq
      have ev30 : FA.eval (.tmp 30) = .bool true := hD 0 30 (by kernel_rfl)
      have e30 : FA.tmps[30]?.getD undef = .bool true := by simpa [Act.eval] using ev30
      replace ev30 := Lib.hid ev30
      clear hO hD
      go_simp
      exact hK.out _ _ (Ex.refl _) rfl
    | 2, _, ho, hq, hO, hD, hK => 
      obtain rfl := Option.some.inj ho.symm
      clear ho hq
      have ev31 : FA.eval (.tmp 31) = .bool false := hD 1 31 (by kernel_rfl)
      have e31 : FA.tmps[31]?.getD undef = .bool false := by simpa [Act.eval] using ev31
      replace ev31 := Lib.hid ev31
      clear hO hD
      go_simp
      exact hK.out _ _ (Ex.refl _) rfl
    | 3, _, ho, hq, hO, hD, hK => 
      obtain rfl := Option.some.inj ho.symm
      clear ho hq
      have ev7 : FA.eval (.tmp 7) = .pointer (some ⟨r, 0, none⟩) := hO 7 (by kernel_rfl)
      have e7 : FA.tmps[7]?.getD undef = .pointer (some ⟨r, 0, none⟩) := by simpa [Act.eval] using ev7
      replace ev7 := Lib.hid ev7
      have ev32 : FA.eval (.tmp 32) = .bool false := hD 2 32 (by kernel_rfl)
      have e32 : FA.tmps[32]?.getD undef = .bool false := by simpa [Act.eval] using ev32
      replace ev32 := Lib.hid ev32
      have ge32 := slot_of e32
      clear hO hD
      go_simp
      exact hK.out _ _ (Ex.refl _) rfl
    | 4, _, _, hq, _, _, _ => exact absurd hq (by decide)
    | 5, _, ho, hq, hO, hD, hK => 
      obtain rfl := Option.some.inj ho.symm
      clear ho hq
      have ev10 : FA.eval (.tmp 10) = .pointer (some ⟨gk, 0, none⟩) := hO 10 (by kernel_rfl)
      have e10 : FA.tmps[10]?.getD undef = .pointer (some ⟨gk, 0, none⟩) := by simpa [Act.eval] using ev10
      replace ev10 := Lib.hid ev10
      have ev32 : FA.eval (.tmp 32) = .bool false := hD 2 32 (by kernel_rfl)
      have e32 : FA.tmps[32]?.getD undef = .bool false := by simpa [Act.eval] using ev32
      replace ev32 := Lib.hid ev32
      have ge32 := slot_of e32
      clear hO hD
      refine wanted_ifG (by go_simp) ?_
      refine wp_load_mid 54 (.tmp 10) rfl gk 0 ev10.out (bcs kk) dk (Bk.range (hK3.chg hC (by omega))) u1 u2 (szKey _ hkk) ?_
      exact hK.out _ _ (Ex.refl _) rfl
    | 6, _, ho, hq, hO, hD, hK => 
      obtain rfl := Option.some.inj ho.symm
      clear ho hq
      have ev8 : FA.eval (.tmp 8) = .int .u64 (once : Int) := hO 8 (by kernel_rfl)
      have e8 : FA.tmps[8]?.getD undef = .int .u64 (once : Int) := by simpa [Act.eval] using ev8
      replace ev8 := Lib.hid ev8
      have ev32 : FA.eval (.tmp 32) = .bool false := hD 2 32 (by kernel_rfl)
      have e32 : FA.tmps[32]?.getD undef = .bool false := by simpa [Act.eval] using ev32
      replace ev32 := Lib.hid ev32
      have ge32 := slot_of e32
      clear hO hD
      go_simp
      exact hK.out _ _ (Ex.refl _) rfl
    | 7, _, ho, hq, hO, hD, hK => 
      obtain rfl := Option.some.inj ho.symm
      clear ho hq
      have ev9 : FA.eval (.tmp 9) = .int .u16 (wd : Int) := hO 9 (by kernel_rfl)
      have e9 : FA.tmps[9]?.getD undef = .int .u16 (wd : Int) := by simpa [Act.eval] using ev9
      replace ev9 := Lib.hid ev9
      have ev32 : FA.eval (.tmp 32) = .bool false := hD 2 32 (by kernel_rfl)
      have e32 : FA.tmps[32]?.getD undef = .bool false := by simpa [Act.eval] using ev32
      replace ev32 := Lib.hid ev32
      have ge32 := slot_of e32
      clear hO hD
      go_simp
      exact hK.out _ _ (Ex.refl _) rfl
    | 8, _, ho, hq, hO, hD, hK => 
      obtain rfl := Option.some.inj ho.symm
      clear ho hq
      have ev35 : FA.eval (.tmp 35) = .agg (bcs kk).toArray := hD 5 35 (by kernel_rfl)
      have e35 : FA.tmps[35]?.getD undef = .agg (bcs kk).toArray := by simpa [Act.eval] using ev35
      replace ev35 := Lib.hid ev35
      have ev36 : FA.eval (.tmp 36) = .int .u64 (once : Int) := hD 6 36 (by kernel_rfl)
      have e36 : FA.tmps[36]?.getD undef = .int .u64 (once : Int) := by simpa [Act.eval] using ev36
      replace ev36 := Lib.hid ev36
      have ev37 : FA.eval (.tmp 37) = .int .u16 (wd : Int) := hD 7 37 (by kernel_rfl)
      have e37 : FA.tmps[37]?.getD undef = .int .u16 (wd : Int) := by simpa [Act.eval] using ev37
      replace ev37 := Lib.hid ev37
      have ev32 : FA.eval (.tmp 32) = .bool false := hD 2 32 (by kernel_rfl)
      have e32 : FA.tmps[32]?.getD undef = .bool false := by simpa [Act.eval] using ev32
      replace ev32 := Lib.hid ev32
      have ge32 := slot_of e32
      clear hO hD
      go_simp
      refine (cidTag_any kk hkk once wd _ (by omega) hlt1).mono ?_
      rintro e w1 ⟨A4, n4, bs4, d4, rfl, rfl, ho4⟩
      exact hK.out _ _ (Ex.plus_ _ _ _) ⟨_, _, _, rfl, ho4.mono hC.size⟩
    | 9, _, ho, hq, hO, hD, hK => 
      obtain rfl := Option.some.inj ho.symm
      clear ho hq
      have f34 := hD 4 34 (by kernel_rfl)
      generalize eu34 : FA.eval (.tmp 34) = u34 at f34
      have e34 : FA.tmps[34]?.getD undef = u34 := by rw [← eu34]; simp [Act.eval]
      have ev34 := Lib.hid eu34
      clear eu34
      have f38 := hD 8 38 (by kernel_rfl)
      generalize eu38 : FA.eval (.tmp 38) = u38 at f38
      have e38 : FA.tmps[38]?.getD undef = u38 := by rw [← eu38]; simp [Act.eval]
      have ev38 := Lib.hid eu38
      clear eu38
      have ev32 : FA.eval (.tmp 32) = .bool false := hD 2 32 (by kernel_rfl)
      have e32 : FA.tmps[32]?.getD undef = .bool false := by simpa [Act.eval] using ev32
      replace ev32 := Lib.hid ev32
      have ge32 := slot_of e32
      clear hO hD
      obtain ⟨A1, n1, c1, rfl, h1⟩ := f34
      obtain ⟨A2, n2, c2, rfl, h2⟩ := f38
      go_simp
      refine (oEqual_no _ _ _ _ _ _ _ _ _ h1.rb h2.rb hne).mono ?_
      rintro e w1 ⟨rfl, rfl⟩
      exact hK.out _ _ (Ex.refl _) rfl
    | 10, _, ho, hq, hO, hD, hK => 
      obtain rfl := Option.some.inj ho.symm
      clear ho hq
      have ev39 : FA.eval (.tmp 39) = .bool false := hD 9 39 (by kernel_rfl)
      have e39 : FA.tmps[39]?.getD undef = .bool false := by simpa [Act.eval] using ev39
      replace ev39 := Lib.hid ev39
      have ev32 : FA.eval (.tmp 32) = .bool false := hD 2 32 (by kernel_rfl)
      have e32 : FA.tmps[32]?.getD undef = .bool false := by simpa [Act.eval] using ev32
      replace ev32 := Lib.hid ev32
      have ge32 := slot_of e32
      clear hO hD
      go_simp
      exact hK.out _ _ (Ex.refl _) rfl
    | 11, _, ho, hq, hO, hD, hK => 
      obtain rfl := Option.some.inj ho.symm
      clear ho hq
      have ev32 : FA.eval (.tmp 32) = .bool false := hD 2 32 (by kernel_rfl)
      have e32 : FA.tmps[32]?.getD undef = .bool false := by simpa [Act.eval] using ev32
      replace ev32 := Lib.hid ev32
      have ev40 : FA.eval (.tmp 40) = .bool true := hD 10 40 (by kernel_rfl)
      have e40 : FA.tmps[40]?.getD undef = .bool true := by simpa [Act.eval] using ev40
      replace ev40 := Lib.hid ev40
      clear hO hD
      go_simp
      exact hK.out _ _ (Ex.refl _) rfl
    | (k + 12), hi, _, _, _, _, _ => exact absurd hi (by omega)
  · intro k i hk o ho FA w' hC hS hO hD K hK
    match k, hk, hS, hK with
    | 0, hk, hS, hK => 
      obtain rfl : 4 = i := Option.some.inj hk
      obtain rfl := Option.some.inj ho.symm
      clear ho hk
      have ev33 : FA.eval (.tmp 33) = .pointer (some ⟨r, 0, none⟩) := hD 3 33 (by kernel_rfl)
      have e33 : FA.tmps[33]?.getD undef = .pointer (some ⟨r, 0, none⟩) := by simpa [Act.eval] using ev33
      replace ev33 := Lib.hid ev33
      have ev32 : FA.eval (.tmp 32) = .bool false := hD 2 32 (by kernel_rfl)
      have e32 : FA.tmps[32]?.getD undef = .bool false := by simpa [Act.eval] using ev32
      replace ev32 := Lib.hid ev32
      have ge32 := slot_of e32
      clear hO hD
      go_simp
      refine (restG _ r l 7 hS (by omega) (by omega)).mono ?_
      rintro e w1 ⟨A4, n4, c4, rfl, ho4, hR4, hg4⟩
      rw [hl12.out] at hR4
      exact hK.out _ _ (Chg.grown hg4 (fun k hk => by injection hk with hk; exact hk.symm)) hR4 ⟨_, _, _, rfl, ho4.mono hC.size⟩
    | (k + 1), hk, _, _ => simp at hk
  intro vs w' hC hS hp
  have p0 : vs 0 = .bool true := hp 0 (by omega)
  have p1 : vs 1 = .bool false := hp 1 (by omega)
  have p2 : vs 2 = .bool false := hp 2 (by omega)
  have p3 : vs 3 = .pointer (some ⟨r, 0, none⟩) := hp 3 (by omega)
  have p4 := hp 4 (by omega)
  have p5 : vs 5 = .agg (bcs kk).toArray := hp 5 (by omega)
  have p6 : vs 6 = .int .u64 (once : Int) := hp 6 (by omega)
  have p7 : vs 7 = .int .u16 (wd : Int) := hp 7 (by omega)
  have p8 := hp 8 (by omega)
  have p9 : vs 9 = .bool false := hp 9 (by omega)
  have p10 : vs 10 = .bool true := hp 10 (by omega)
  have p11 : vs 11 = .bool true := hp 11 (by omega)
  clear hp
  simp only [List.take_succ_cons, List.take_zero, List.drop_succ_cons, List.drop_zero, putAll, Nat.zero_add, Nat.reduceAdd, Act.put, List.setIfInBounds_toArray, List.set_cons_zero, List.set_cons_succ, p0, p1, p2, p3, p5, p6, p7, p9, p10, p11]
  clear p0 p1 p2 p3 p5 p6 p7 p9 p10 p11
  generalize vs 4 = y4 at *
  generalize vs 8 = y8 at *
  clear vs
  have hbP := b1.chg hC (by omega)
  have hbE := be.trans (hC.below (B := w.heap.size) (fun b hb => by subst hb; omega) be.size)
  go_wp2_with (first
    | (refine at_op (.build 53 #[]) rfl ?_; refine wpList_build 53 [] rfl rfl (.agg (plC 0 0).toArray) ?_ ?_; exact run_buildPl0 _)
    | (refine at_op (.store 53 (.tmp 4) (.tmp 42)) rfl ?_; refine wpList_stA (t := 53) 53 (.tmp 4) (.tmp 42) rfl rfl (plC 0 0) (plC 0 0) rfl (plC_one _ _) rfl rfl (hbP) (szPl _ _) ?_; intro W9 hb9 hg9))
  refine bodyPost_agg3 Try.results35 rfl rfl rfl hb9.range y1 y2 (szPl 0 0) rfl (RetV.mk ?_)
  exact below_grown hbE hg9 (by omega)

set_option maxHeartbeats 2000000 in
set_option maxRecDepth 100000 in
theorem cidRead_ok (key : List UInt8) (hk : K16 key) (n : Nat) (A : Option Addr) (c : Nat) (l : List UInt8) (kk : List UInt8) (hkk : K16 kk) (w : World) (h : Rb w A 12 c l) (hne : l.drop 7 = ctagB kk (num ((l.drop 0).take 5)) (num ((l.drop 5).take 2))) (HAT : ∀ w, Calls Try.prog 105 #[.agg (ringC key n).toArray, .int .i64 ((num ((l.drop 5).take 2) : Int) / 32768)] w (RetV w (.tuple #[.agg (bcs kk).toArray, .bool true]))) : Calls Try.prog 35 #[.agg (ringC key n).toArray, .slice A 12 c] w (RetV w (.tuple #[.agg (plC ((num ((l.drop 5).take 2) ^^^ cmskN kk (num ((l.drop 0).take 5))) % 32768 / 4096) ((num ((l.drop 5).take 2) ^^^ cmskN kk (num ((l.drop 0).take 5))) % 32768 % 4096)).toArray, .int .u64 (num ((l.drop 0).take 5) : Nat), .int .i64 0])) := by
  have hld : (bcs kk).length = (bcs key0).length := by rw [bcs_length, show kk.length = 16 from hkk]; rfl
  obtain ⟨dk, u1, u2, u3⟩ := rowKey
  obtain ⟨dr, v1, v2, v3⟩ := rowRing
  obtain ⟨dp, y1, y2⟩ := rowPl
  have b0 : Bk ((w.alloc (.cells (ringC key n).toArray 56)).alloc (.cells #[.int .i64 0, .int .i64 0] 53)) w.heap.size 56 (ringC key n) := (Bk.new w 56 (ringC key n).toArray).alloc _
  have b1 : Bk ((w.alloc (.cells (ringC key n).toArray 56)).alloc (.cells #[.int .i64 0, .int .i64 0] 53)) (w.heap.size + 1) 53 (plC 0 0) := Bk.newK _ _ _ (by simp) rfl
  have be : Below w.heap.size w ((w.alloc (.cells (ringC key n).toArray 56)).alloc (.cells #[.int .i64 0, .int .i64 0] 53)) := Below.allocS (Below.allocS (Below.refl _ _) _) _
  have hl12 : l.length = 12 := h.1
  have HR := Lib.hid (fun W (h : Rb W A 12 c l) => readK A 12 c l W h (by omega))
  have hlt0 : num ((l.drop 0).take 5) < 1099511627776 := num_small _ 5 _ (by decide)
  have hlt1 : num ((l.drop 5).take 2) < 65536 := num_small _ 2 _ (by decide)
  generalize ho : num ((l.drop 0).take 5) = once at *
  generalize hw : num ((l.drop 5).take 2) = wd at *
  replace ho := Lib.hid ho
  replace hw := Lib.hid hw
  have hl12' : l.length ≤ 12 := by omega
  have hl12'' : 12 ≤ l.length := by omega
  replace hl12 := Lib.hid hl12
  replace hne := Lib.hid hne
  replace HAT := Lib.hid HAT
  go_enter Try.func35, Try.ntmps35
  go_wp2_with fail
  refine (HR.out _ ((h.alloc _).alloc _)).mono ?_
  rintro e w1 ⟨r, bs1, d1, rfl, rfl, hr1, hR⟩
  replace b0 := b0.later (below_plus _ bs1 d1)
  replace b1 := b1.later (below_plus _ bs1 d1)
  replace be := belowP be bs1 d1
  have hr2 : w.heap.size + 1 < r := by have := hr1; simp at this; omega
  clear hr1
  generalize plus ((w.alloc (.cells (ringC key n).toArray 56)).alloc (.cells #[.int .i64 0, .int .i64 0] 53)) bs1 d1 = W at *
  go_wp2_with fail
  refine (numG W r l 0 once 5 (by omega) hR (by omega) (by omega) ho.out).mono ?_
  rintro e W1 ⟨rfl, hR1, hg1⟩
  replace b0 := b0.grown hg1 (by simp; omega)
  replace b1 := b1.grown hg1 (by simp; omega)
  replace be := below_grown be hg1 (by omega)
  clear hg1 hR
  go_wp2_with fail
  refine (wordG W1 r l 5 wd hR1 (by omega) (by omega) hw.out).mono ?_
  rintro e W2 ⟨rfl, hR2, hg2⟩
  replace b0 := b0.grown hg2 (by simp; omega)
  replace b1 := b1.grown hg2 (by simp; omega)
  replace be := below_grown be hg2 (by omega)
  clear hg2 hR1
  have zr := hR2.lt
  go_upto_region 7 with (first
    | (refine at_op (.load 56 (.tmp 2)) rfl ?_; refine wpList_ldA (t := 56) 56 (.tmp 2) rfl rfl (ringC key n) rfl b0 (ringC_whole key n) v1 v2 (szRing key hk n) ?_)
    | (go_at_call 105; refine (HAT.out _).mono ?_; rintro e w1 ⟨bs3, d3, rfl, rfl⟩)
    | (refine at_op (.store 54 (.tmp 10) (.tmp 28)) rfl ?_; refine wpList_stA (t := 54) 54 (.tmp 10) (.tmp 28) rfl rfl (bcs kk) (bcs key0) hld (bcs_one _) rfl rfl ?_ (szKey _ hkk) ?_; (· refine Bk.newK _ _ _ ?_ rfl; simp [size_plus]); intro W3 hK3 hg3))
  replace b1 := ((b1.later (below_plus _ bs3 d3)).alloc _).grown hg3 (by simp; omega)
  have hR3 : Rdr W3 r (l.drop 7) false := by
    have h1 := (hR2.later (below_plus _ bs3 d3)).later ((Below.refl _ _).alloc (Nat.le_refl _) (.cells (bcs key0).toArray 54))
    exact h1.far_ hg3 (by omega)
  have zb := be.size
  replace be := below_grown (Below.allocS (belowP be bs3 d3) _) hg3 (by omega)
  have hgk : r < W2.heap.size + bs3.length := by omega
  generalize W2.heap.size + bs3.length = gk at *
  clear hg3 b0 zb hR2 zr
  have hDb : ∀ b, (fun b => b = r) b → b < W3.heap.size := fun b hb => by subst hb; exact hR3.lt
  go_wp2
  refine wp_st (fun b => b = r) 12 50 2 [4] rfl (by kernel_rfl) (by kernel_rfl) (fun i => match i with | 0 => MC.eq (.bool true) | 1 => MC.eq (.bool false) | 2 => MC.eq (.bool false) | 3 => MC.eq (.pointer (some ⟨r, 0, none⟩)) | 4 => MC.ob W3.heap.size hDb (l.drop 7) | 5 => MC.eq (.agg (bcs kk).toArray) | 6 => MC.eq (.int .u64 (once : Int)) | 7 => MC.eq (.int .u16 (wd : Int)) | 8 => MC.ob W3.heap.size hDb (ctagB kk once wd) | 9 => MC.eq (.bool true) | 10 => MC.eq (.bool false) | 11 => MC.eq (.bool false) | _ => MC.any) (fun k w => Rdr w r (l.drop (7 + 5 * k)) false) ?_ ?_ ?_ ?_ ?_
  · exact fun k w w' h h' => h.later h'.below
  · simpa using hR3
  · intro i hi o ho hq FA w' hC hO hD K hK
    match i, hi, ho, hq, hO, hD, hK with
    | 0, _, ho, hq, hO, hD, hK => 
      obtain rfl := Option.some.inj ho.symm
      clear ho hq
      have ev11 : FA.eval (.tmp 11) = .bool true := hO 11 (by kernel_rfl)
      have e11 : FA.tmps[11]?.getD undef = .bool true := by simpa [Act.eval] using ev11
      replace ev11 := Lib.hid ev11
      clear hO hD
      go_simp
      exact hK.out _ _ (Ex.refl _) rfl
    | 1, _, ho, hq, hO, hD, hK => 
      obtain rfl := Option.some.inj ho.symm
      clear ho hq
      have ev30 : FA.eval (.tmp 30) = .bool true := hD 0 30 (by kernel_rfl)
      have e30 : FA.tmps[30]?.getD undef = .bool true := by simpa [Act.eval] using ev30
      replace ev30 := Lib.hid ev30
      clear hO hD
      go_simp
      exact hK.out _ _ (Ex.refl _) rfl
    | 2, _, ho, hq, hO, hD, hK => 
      obtain rfl := Option.some.inj ho.symm
      clear ho hq
      have ev31 : FA.eval (.tmp 31) = .bool false := hD 1 31 (by kernel_rfl)
      have e31 : FA.tmps[31]?.getD undef = .bool false := by simpa [Act.eval] using ev31
      replace ev31 := Lib.hid ev31
      clear hO hD
      go_simp
      exact hK.out _ _ (Ex.refl _) rfl
    | 3, _, ho, hq, hO, hD, hK => 
      obtain rfl := Option.some.inj ho.symm
      clear ho hq
      have ev7 : FA.eval (.tmp 7) = .pointer (some ⟨r, 0, none⟩) := hO 7 (by kernel_rfl)
      have e7 : FA.tmps[7]?.getD undef = .pointer (some ⟨r, 0, none⟩) := by simpa [Act.eval] using ev7
      replace ev7 := Lib.hid ev7
      have ev32 : FA.eval (.tmp 32) = .bool false := hD 2 32 (by kernel_rfl)
      have e32 : FA.tmps[32]?.getD undef = .bool false := by simpa [Act.eval] using ev32
      replace ev32 := Lib.hid ev32
      have ge32 := slot_of e32
      clear hO hD
      go_simp
      exact hK.out _ _ (Ex.refl _) rfl
    | 4, _, _, hq, _, _, _ => exact absurd hq (by decide)
    | 5, _, ho, hq, hO, hD, hK => 
      obtain rfl := Option.some.inj ho.symm
      clear ho hq
      have ev10 : FA.eval (.tmp 10) = .pointer (some ⟨gk, 0, none⟩) := hO 10 (by kernel_rfl)
      have e10 : FA.tmps[10]?.getD undef = .pointer (some ⟨gk, 0, none⟩) := by simpa [Act.eval] using ev10
      replace ev10 := Lib.hid ev10
      have ev32 : FA.eval (.tmp 32) = .bool false := hD 2 32 (by kernel_rfl)
      have e32 : FA.tmps[32]?.getD undef = .bool false := by simpa [Act.eval] using ev32
      replace ev32 := Lib.hid ev32
      have ge32 := slot_of e32
      clear hO hD
      refine wanted_ifG (by go_simp) ?_
      refine wp_load_mid 54 (.tmp 10) rfl gk 0 ev10.out (bcs kk) dk (Bk.range (hK3.chg hC (by omega))) u1 u2 (szKey _ hkk) ?_
      exact hK.out _ _ (Ex.refl _) rfl
    | 6, _, ho, hq, hO, hD, hK => 
      obtain rfl := Option.some.inj ho.symm
      clear ho hq
      have ev8 : FA.eval (.tmp 8) = .int .u64 (once : Int) := hO 8 (by kernel_rfl)
      have e8 : FA.tmps[8]?.getD undef = .int .u64 (once : Int) := by simpa [Act.eval] using ev8
      replace ev8 := Lib.hid ev8
      have ev32 : FA.eval (.tmp 32) = .bool false := hD 2 32 (by kernel_rfl)
      have e32 : FA.tmps[32]?.getD undef = .bool false := by simpa [Act.eval] using ev32
      replace ev32 := Lib.hid ev32
      have ge32 := slot_of e32
      clear hO hD
      go_simp
      exact hK.out _ _ (Ex.refl _) rfl
    | 7, _, ho, hq, hO, hD, hK => 
      obtain rfl := Option.some.inj ho.symm
      clear ho hq
      have ev9 : FA.eval (.tmp 9) = .int .u16 (wd : Int) := hO 9 (by kernel_rfl)
      have e9 : FA.tmps[9]?.getD undef = .int .u16 (wd : Int) := by simpa [Act.eval] using ev9
      replace ev9 := Lib.hid ev9
      have ev32 : FA.eval (.tmp 32) = .bool false := hD 2 32 (by kernel_rfl)
      have e32 : FA.tmps[32]?.getD undef = .bool false := by simpa [Act.eval] using ev32
      replace ev32 := Lib.hid ev32
      have ge32 := slot_of e32
      clear hO hD
      go_simp
      exact hK.out _ _ (Ex.refl _) rfl
    | 8, _, ho, hq, hO, hD, hK => 
      obtain rfl := Option.some.inj ho.symm
      clear ho hq
      have ev35 : FA.eval (.tmp 35) = .agg (bcs kk).toArray := hD 5 35 (by kernel_rfl)
      have e35 : FA.tmps[35]?.getD undef = .agg (bcs kk).toArray := by simpa [Act.eval] using ev35
      replace ev35 := Lib.hid ev35
      have ev36 : FA.eval (.tmp 36) = .int .u64 (once : Int) := hD 6 36 (by kernel_rfl)
      have e36 : FA.tmps[36]?.getD undef = .int .u64 (once : Int) := by simpa [Act.eval] using ev36
      replace ev36 := Lib.hid ev36
      have ev37 : FA.eval (.tmp 37) = .int .u16 (wd : Int) := hD 7 37 (by kernel_rfl)
      have e37 : FA.tmps[37]?.getD undef = .int .u16 (wd : Int) := by simpa [Act.eval] using ev37
      replace ev37 := Lib.hid ev37
      have ev32 : FA.eval (.tmp 32) = .bool false := hD 2 32 (by kernel_rfl)
      have e32 : FA.tmps[32]?.getD undef = .bool false := by simpa [Act.eval] using ev32
      replace ev32 := Lib.hid ev32
      have ge32 := slot_of e32
      clear hO hD
      go_simp
      refine (cidTag_any kk hkk once wd _ (by omega) hlt1).mono ?_
      rintro e w1 ⟨A4, n4, bs4, d4, rfl, rfl, ho4⟩
      exact hK.out _ _ (Ex.plus_ _ _ _) ⟨_, _, _, rfl, ho4.mono hC.size⟩
    | 9, _, ho, hq, hO, hD, hK => 
      obtain rfl := Option.some.inj ho.symm
      clear ho hq
      have f34 := hD 4 34 (by kernel_rfl)
      generalize eu34 : FA.eval (.tmp 34) = u34 at f34
      have e34 : FA.tmps[34]?.getD undef = u34 := by rw [← eu34]; simp [Act.eval]
      have ev34 := Lib.hid eu34
      clear eu34
      have f38 := hD 8 38 (by kernel_rfl)
      generalize eu38 : FA.eval (.tmp 38) = u38 at f38
      have e38 : FA.tmps[38]?.getD undef = u38 := by rw [← eu38]; simp [Act.eval]
      have ev38 := Lib.hid eu38
      clear eu38
      have ev32 : FA.eval (.tmp 32) = .bool false := hD 2 32 (by kernel_rfl)
      have e32 : FA.tmps[32]?.getD undef = .bool false := by simpa [Act.eval] using ev32
      replace ev32 := Lib.hid ev32
      have ge32 := slot_of e32
      clear hO hD
      obtain ⟨A1, n1, c1, rfl, h1⟩ := f34
      obtain ⟨A2, n2, c2, rfl, h2⟩ := f38
      go_simp
      refine (oEqual_yes _ _ _ _ _ _ _ _ (by rw [← hne.out]; exact h1.rb) h2.rb).mono ?_
      rintro e w1 ⟨rfl, rfl⟩
      exact hK.out _ _ (Ex.refl _) rfl
    | 10, _, ho, hq, hO, hD, hK => 
      obtain rfl := Option.some.inj ho.symm
      clear ho hq
      have ev39 : FA.eval (.tmp 39) = .bool true := hD 9 39 (by kernel_rfl)
      have e39 : FA.tmps[39]?.getD undef = .bool true := by simpa [Act.eval] using ev39
      replace ev39 := Lib.hid ev39
      have ev32 : FA.eval (.tmp 32) = .bool false := hD 2 32 (by kernel_rfl)
      have e32 : FA.tmps[32]?.getD undef = .bool false := by simpa [Act.eval] using ev32
      replace ev32 := Lib.hid ev32
      have ge32 := slot_of e32
      clear hO hD
      go_simp
      exact hK.out _ _ (Ex.refl _) rfl
    | 11, _, ho, hq, hO, hD, hK => 
      obtain rfl := Option.some.inj ho.symm
      clear ho hq
      have ev32 : FA.eval (.tmp 32) = .bool false := hD 2 32 (by kernel_rfl)
      have e32 : FA.tmps[32]?.getD undef = .bool false := by simpa [Act.eval] using ev32
      replace ev32 := Lib.hid ev32
      have ev40 : FA.eval (.tmp 40) = .bool false := hD 10 40 (by kernel_rfl)
      have e40 : FA.tmps[40]?.getD undef = .bool false := by simpa [Act.eval] using ev40
      replace ev40 := Lib.hid ev40
      clear hO hD
      go_simp
      exact hK.out _ _ (Ex.refl _) rfl
    | (k + 12), hi, _, _, _, _, _ => exact absurd hi (by omega)
  · intro k i hk o ho FA w' hC hS hO hD K hK
    match k, hk, hS, hK with
    | 0, hk, hS, hK => 
      obtain rfl : 4 = i := Option.some.inj hk
      obtain rfl := Option.some.inj ho.symm
      clear ho hk
      have ev33 : FA.eval (.tmp 33) = .pointer (some ⟨r, 0, none⟩) := hD 3 33 (by kernel_rfl)
      have e33 : FA.tmps[33]?.getD undef = .pointer (some ⟨r, 0, none⟩) := by simpa [Act.eval] using ev33
      replace ev33 := Lib.hid ev33
      have ev32 : FA.eval (.tmp 32) = .bool false := hD 2 32 (by kernel_rfl)
      have e32 : FA.tmps[32]?.getD undef = .bool false := by simpa [Act.eval] using ev32
      replace ev32 := Lib.hid ev32
      have ge32 := slot_of e32
      clear hO hD
      go_simp
      refine (restG _ r l 7 hS (by omega) (by omega)).mono ?_
      rintro e w1 ⟨A4, n4, c4, rfl, ho4, hR4, hg4⟩
      rw [hl12.out] at hR4
      exact hK.out _ _ (Chg.grown hg4 (fun k hk => by injection hk with hk; exact hk.symm)) hR4 ⟨_, _, _, rfl, ho4.mono hC.size⟩
    | (k + 1), hk, _, _ => simp at hk
  intro vs w' hC hS hp
  have p0 : vs 0 = .bool true := hp 0 (by omega)
  have p1 : vs 1 = .bool false := hp 1 (by omega)
  have p2 : vs 2 = .bool false := hp 2 (by omega)
  have p3 : vs 3 = .pointer (some ⟨r, 0, none⟩) := hp 3 (by omega)
  have p4 := hp 4 (by omega)
  have p5 : vs 5 = .agg (bcs kk).toArray := hp 5 (by omega)
  have p6 : vs 6 = .int .u64 (once : Int) := hp 6 (by omega)
  have p7 : vs 7 = .int .u16 (wd : Int) := hp 7 (by omega)
  have p8 := hp 8 (by omega)
  have p9 : vs 9 = .bool true := hp 9 (by omega)
  have p10 : vs 10 = .bool false := hp 10 (by omega)
  have p11 : vs 11 = .bool false := hp 11 (by omega)
  clear hp
  simp only [List.take_succ_cons, List.take_zero, List.drop_succ_cons, List.drop_zero, putAll, Nat.zero_add, Nat.reduceAdd, Act.put, List.setIfInBounds_toArray, List.set_cons_zero, List.set_cons_succ, p0, p1, p2, p3, p5, p6, p7, p9, p10, p11]
  clear p0 p1 p2 p3 p5 p6 p7 p9 p10 p11
  generalize vs 4 = y4 at *
  generalize vs 8 = y8 at *
  clear vs
  have hbP := b1.chg hC (by omega)
  have hk9 := hK3.chg hC (by omega)
  have hbE := be.trans (hC.below (B := w.heap.size) (fun b hb => by subst hb; omega) be.size)
  have hm := cmskN_lt kk once
  have HX := u16_xor_nat wd (cmskN kk once) hlt1 (by omega)
  have hxl : wd ^^^ cmskN kk once < 2 ^ 16 := Nat.xor_lt_two_pow hlt1 (by omega)
  have HM := Lib.hid (fun w => cidMask_any kk hkk once w (by omega))
  have HO := Lib.hid (fun w => ckOf_any (wd ^^^ cmskN kk once) w hxl)
  generalize (wd ^^^ cmskN kk once) % 32768 / 4096 = V at *
  generalize (wd ^^^ cmskN kk once) % 32768 % 4096 = S at *
  generalize wd ^^^ cmskN kk once = X at *
  generalize cmskN kk once = M at *
  clear hC hS b1 be hR3 p4 p8
  go_wp2_with (first
    | (refine at_op (.load 54 (.tmp 10)) rfl ?_; refine wpList_ldA (t := 54) 54 (.tmp 10) rfl rfl (bcs kk) rfl hk9 (bcs_whole _) u1 u2 (szKey _ hkk) ?_)
    | (go_at_call 108; refine (HM.out _).mono ?_; rintro e w5 ⟨bs5, d5, rfl, rfl⟩)
    | (go_at_call 117; refine (HO.out _).mono ?_; rintro e w6 ⟨bs6, d6, rfl, rfl⟩)
    | (refine at_op (.store 53 (.tmp 4) (.tmp 48)) rfl ?_; refine wpList_stA (t := 53) 53 (.tmp 4) (.tmp 48) rfl rfl (plC V S) (plC 0 0) rfl (plC_one _ _) rfl rfl ((hbP.later (below_plus _ _ _)).later (below_plus _ _ _)) (szPl _ _) ?_; intro W9 hb9 hg9))
  refine bodyPost_agg3 Try.results35 rfl rfl rfl hb9.range y1 y2 (szPl V S) rfl (RetV.mk ?_)
  exact below_grown (belowP (belowP hbE _ _) _ _) hg9 (by omega)
end Go.Proofs.Ytldecdeiibfekaa
