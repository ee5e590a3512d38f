/- The law CookieBack (chapter 12). -/
import Derived.Test.YticlohlpccollaaOpn
namespace Go.Proofs.Yticlohlpccollaa
open Go.RowKit
set_option linter.unusedVariables false
set_option linter.unusedSimpArgs false
attribute [local go_sem ↓] sliced_cut
attribute [local go_sem] cutA_zero

/-- may an address be? -/
def adrR (six : Bool) (ah al : Nat) : Bool := six || (ah == 0 && decide (al ≤ 4294967295))
set_option maxRecDepth 100000 in
theorem refAdrRight (six : Bool) (ah al : Nat) (w : World) (h1 : ah < 18446744073709551616) (h2 : al < 18446744073709551616) : Calls Try.prog 64 #[.agg #[.bool six, .int .u64 ah, .int .u64 al]] w (RetV w (.bool (adrR six ah al))) := by
  cases six
  · by_cases ha : ah = 0
    · subst ha
      go_enter Try.func64, Try.ntmps64
      go_wp2
      go_ret
      exact RetV.is_ (by simp [adrR]; omega) ((Below.refl _ _).alloc (Nat.le_refl _) _)
    · have t1 : ((ah : Int) == 0) = false := by simpa using ha
      have t2 : (ah == 0) = false := by simpa using ha
      go_enter Try.func64, Try.ntmps64
      go_wp2
      go_ret
      exact RetV.is_ (by simp [adrR, t2]) ((Below.refl _ _).alloc (Nat.le_refl _) _)
  · go_enter Try.func64, Try.ntmps64
    go_wp2
    go_ret
    exact RetV.is_ (by simp [adrR]) ((Below.refl _ _).alloc (Nat.le_refl _) _)
def Flw.rt (f : Flw) : Bool := adrR f.s6 f.sh f.sl && adrR f.d6 f.dh f.dl
set_option maxRecDepth 100000 in
theorem ckRight (f : Flw) (hf : f.ok) (w : World) : Calls Try.prog 45 #[.agg f.cells.toArray] w (RetV w (.bool f.rt)) := by
  have H1 := Lib.hid (fun w => refAdrRight f.s6 f.sh f.sl w hf.sh hf.sl)
  have H2 := Lib.hid (fun w => refAdrRight f.d6 f.dh f.dl w hf.dh hf.dl)
  unfold Flw.rt
  generalize adrR f.s6 f.sh f.sl = r1 at *
  generalize adrR f.d6 f.dh f.dl = r2 at *
  unfold Flw.cells
  cases r1
  · go_enter Try.func45, Try.ntmps45
    go_wp2_with (first
      | (go_at_call 64; refine (H1.out _).mono ?_; rintro e w1 ⟨bs1, d1, rfl, rfl⟩))
    go_ret
    exact RetV.is_ (by simp) (belowP ((Below.refl _ _).alloc (Nat.le_refl _) _) _ _)
  · go_enter Try.func45, Try.ntmps45
    go_wp2_with fail
    refine (H1.out _).mono ?_
    rintro e w1 ⟨bs1, d1, rfl, rfl⟩
    go_wp2_with fail
    refine (H2.out _).mono ?_
    rintro e w1 ⟨bs2, d2, rfl, rfl⟩
    go_wp2
    go_ret
    exact RetV.is_ (by simp) (belowP (belowP ((Below.refl _ _).alloc (Nat.le_refl _) _) _ _) _ _)
theorem ckAwake (w : World) : Calls Try.prog 46 #[] w (RetV w (.bool true)) := by
  go_enter Try.func46, Try.ntmps46
  go_wp2
  go_ret
  exact RetV.is_ rfl (Below.refl _ _)
theorem plC_one (v s : Nat) : ∀ u ∈ plC v s, u.oneCell' = true := by
  intro u hu
  simp [plC] at hu
  rcases hu with rfl | rfl <;> rfl
theorem eq_pl (w : World) (v s : Nat) : (binOp .eql 82 (.agg (plC v s).toArray) (.agg (plC v s).toArray)).run Try.prog w = .ok (.bool true) w := by
  unfold plC
  go_simp
/-- what is hidden is found -/
theorem hid_back (b wd m : Nat) (hb : b < 2) (hw : wd < 32768) (hm : m < 32768) : hidN b wd m / 32768 = b ∧ (hidN b wd m ^^^ m) % 32768 = wd := by
  have hx : wd ^^^ m < 2 ^ 15 := Nat.xor_lt_two_pow hw hm
  constructor
  · unfold hidN; omega
  · have e : hidN b wd m = 2 ^ 15 * b ||| (wd ^^^ m) := by rw [← Nat.two_pow_add_eq_or_of_lt hx]; unfold hidN; omega
    rw [e, show (32768 : Nat) = 2 ^ 15 from rfl, Nat.xor_mod_two_pow, ← Nat.two_pow_add_eq_or_of_lt hx, Nat.mul_add_mod, Nat.mod_eq_of_lt hx, Nat.mod_eq_of_lt hm, Nat.xor_assoc, Nat.xor_self, Nat.xor_zero]
attribute [local go_sem ↓] eq_pl
set_option maxHeartbeats 4000000 in
set_option maxRecDepth 100000 in
theorem cookieBack_walk (w : World) (key : List UInt8) (hk : K16 key) (n : Nat) (hn : n < 18446744073709551616) (f : Flw) (hf : f.ok) (x : Int) (wx : 0 ≤ x ∧ x ≤ 65535) :
    Calls Try.prog 8 #[.agg (ringC key n).toArray, .agg f.cells.toArray, .int .u16 x] w fun e w' => e = .returned (.bool true) ∧ Below w.heap.size w w' := by
  obtain ⟨x, rfl⟩ := Int.eq_ofNat_of_zero_le wx.1
  have hx : x < 65536 := by omega
  clear wx
  have q := ringC_16 key hk n
  obtain ⟨dk, u1, u2, u3⟩ := rowKey
  obtain ⟨da, a1, a2, a3⟩ := row16
  obtain ⟨dr, v1, v2, v3⟩ := rowRing
  obtain ⟨df, x1, x2⟩ := rowFlow
  obtain ⟨dp, y1, y2⟩ := rowPl
  have b0 : Bk ((w.alloc (.cells (ringC key n).toArray 52)).alloc (.cells f.cells.toArray 79)) w.heap.size 52 (ringC key n) := (Bk.new w 52 (ringC key n).toArray).alloc _
  have b1 : Bk ((w.alloc (.cells (ringC key n).toArray 52)).alloc (.cells f.cells.toArray 79)) (w.heap.size + 1) 79 f.cells := Bk.newK _ _ _ (by simp) rfl
  have be : Below w.heap.size w ((w.alloc (.cells (ringC key n).toArray 52)).alloc (.cells f.cells.toArray 79)) := Below.allocS (Below.allocS (Below.refl _ _) _) _
  have q2 : ((w.alloc (.cells (ringC key n).toArray 52)).alloc (.cells f.cells.toArray 79)).cell? ⟨w.heap.size, 16, none⟩ = some (.int .u64 (n : Int)) := by rw [b0.cell]; exact q
  have HR := Lib.hid (fun w => ckRight f hf w)
  go_enter Try.func8, Try.ntmps8
  go_upto_region 1 with (fail)
  have z0 := b0.lt
  have z1 := b1.lt
  have hgf : w.heap.size ≤ w.heap.size + 1 := by omega
  have hgf' : w.heap.size ≠ w.heap.size + 1 := by omega
  generalize (w.alloc (.cells (ringC key n).toArray 52)).alloc (.cells f.cells.toArray 79) = W at *
  generalize w.heap.size + 1 = gf at *
  cases hrt : f.rt
  · rw [hrt] at HR
    go_wp2_with (first
      | (refine at_op (.load 79 (.tmp 4)) rfl ?_; refine wpList_ldA (t := 79) 79 (.tmp 4) rfl rfl (f.cells) rfl (b1) (f.whole) x1 x2 (szFlow f) ?_)
      | (go_at_call 45; refine (HR.out _).mono ?_; rintro e w1 ⟨bs1, d1, rfl, rfl⟩)
      | (go_at_call 46; refine (ckAwake _).mono ?_; rintro e w1 ⟨bs2, d2, rfl, rfl⟩))
    go_ret
    exact ⟨rfl, belowP (belowP be _ _) _ _⟩
  rw [hrt] at HR
  by_cases hmax : n = 18446744073709551615
  · have t1 : ((n : Int) == 18446744073709551615) = true := beq_iff_eq.2 (by omega)
    clear hmax
    go_wp2_with (first
      | (refine at_op (.load 79 (.tmp 4)) rfl ?_; refine wpList_ldA (t := 79) 79 (.tmp 4) rfl rfl (f.cells) rfl (b1) (f.whole) x1 x2 (szFlow f) ?_)
      | (go_at_call 45; refine (HR.out _).mono ?_; rintro e w1 ⟨bs1, d1, rfl, rfl⟩)
      | (go_at_call 46; refine (ckAwake _).mono ?_; rintro e w1 ⟨bs2, d2, rfl, rfl⟩))
    go_ret
    exact ⟨rfl, belowP (belowP be _ _) _ _⟩
  have t1 : ((n : Int) == 18446744073709551615) = false := beq_eq_false_iff_ne.2 (by omega)
  have hn1 : n + 1 < 18446744073709551616 := by omega
  clear hmax
  -- the word and its place
  have hwd : x % 32768 < 32768 := Nat.mod_lt _ (by decide)
  have hV : x % 32768 / 4096 < 8 := by omega
  have hS : x % 32768 % 4096 < 4096 := Nat.mod_lt _ (by decide)
  have hVS : 4096 * (x % 32768 / 4096) + x % 32768 % 4096 = x % 32768 := by omega
  have hm := mskN_lt (derK key n) f
  have hkd : K16 (derK key n) := K16_of _ _
  have hb2 : n % 2 < 2 := Nat.mod_lt _ (by decide)
  obtain ⟨hc1, hc2⟩ := hid_back (n % 2) (x % 32768) (mskN (derK key n) f) hb2 hwd hm
  have hC := hidN_lt (n % 2) (x % 32768) (mskN (derK key n) f) hb2 hwd hm
  have HO := fun w => ckOf_any x w hx
  have HH := fun w => ckHide_any key hk n f hf (x % 32768 / 4096) (x % 32768 % 4096) w hn hV hS
  have HS1 := fun w => ckSeek_at key hk n f hf (hidN (n % 2) (x % 32768) (mskN (derK key n) f)) (derK key n) hkd w hn hC (fun w => ringAt_now key hk n _ w hn (by omega))
  have HS2 := fun w => ckSeek_at key hk (n + 1) f hf (hidN (n % 2) (x % 32768) (mskN (derK key n) f)) (derK key n) hkd w hn1 hC (fun w => ringAt_then key hk (n + 1) _ w hn1 (by omega) (by omega))
  have HW := fun w => plWord_any (x % 32768 / 4096) (x % 32768 % 4096) w hV hS
  rw [hVS] at HH HW
  rw [hc2] at HS1 HS2
  have HNX := fun w => ringNext_any key hk n w hn
  rw [Nat.mod_eq_of_lt hn1] at HNX
  have HP := fun w => plRight_yes (x % 32768 / 4096) (x % 32768 % 4096) w hV hS
  have ex : (x : Int) % 32768 = ((x % 32768 : Nat) : Int) := by omega
  clear hm hc1 hc2 hVS hb2
  generalize x % 32768 / 4096 = V at *
  generalize x % 32768 % 4096 = S at *
  generalize x % 32768 = wd at *
  generalize hidN (n % 2) wd (mskN (derK key n) f) = C at *
  replace HO := Lib.hid HO
  replace HH := Lib.hid HH
  replace HS1 := Lib.hid HS1
  replace HS2 := Lib.hid HS2
  replace HW := Lib.hid HW
  replace HNX := Lib.hid HNX
  replace HP := Lib.hid HP
  have HAW := Lib.hid ckAwake
  go_upto_region 4 with (first
    | (refine at_op (.load 79 (.tmp 4)) rfl ?_; refine wpList_ldA (t := 79) 79 (.tmp 4) rfl rfl (f.cells) rfl (b1) (f.whole) x1 x2 (szFlow f) ?_)
    | (go_at_call 45; refine (HR.out _).mono ?_; rintro e w1 ⟨bs1, d1, rfl, rfl⟩)
    | (go_at_call 47; refine (HO.out _).mono ?_; rintro e w1 ⟨bs2, d2, rfl, rfl⟩))
  have hP : Bk ((plus (plus W bs1 d1) bs2 d2).alloc (.cells #[.int .i64 (V : Int), .int .i64 (S : Int)] 82)) (W.heap.size + bs1.length + bs2.length) 82 (plC V S) := Bk.newK _ _ _ (by simp [size_plus]) rfl
  replace b0 := ((b0.later (below_plus _ bs1 d1)).later (below_plus _ bs2 d2)).alloc (.cells #[.int .i64 (V : Int), .int .i64 (S : Int)] 82)
  replace b1 := ((b1.later (below_plus _ bs1 d1)).later (below_plus _ bs2 d2)).alloc (.cells #[.int .i64 (V : Int), .int .i64 (S : Int)] 82)
  have zW := be.size
  replace be := Below.allocS (belowP (belowP be bs1 d1) bs2 d2) (.cells #[.int .i64 (V : Int), .int .i64 (S : Int)] 82)
  have q3 : ((plus (plus W bs1 d1) bs2 d2).alloc (.cells #[.int .i64 (V : Int), .int .i64 (S : Int)] 82)).cell? ⟨w.heap.size, 16, none⟩ = some (.int .u64 (n : Int)) := by rw [b0.cell]; exact q
  have hgp : w.heap.size ≤ W.heap.size + bs1.length + bs2.length := by omega
  have hgp2 : gf ≠ W.heap.size + bs1.length + bs2.length := by omega
  generalize (plus (plus W bs1 d1) bs2 d2).alloc (.cells #[.int .i64 (V : Int), .int .i64 (S : Int)] 82) = W1 at *
  generalize W.heap.size + bs1.length + bs2.length = gp at *
  clear q2 zW z0 z1
  have z0 := b0.lt
  have z1 := b1.lt
  have z2 := hP.lt
  go_upto_region 5 with (first
    | (refine at_op (.load 49 (.tmp 26)) rfl ?_; refine wpList_ldA (t := 52) 49 (.tmp 26) rfl rfl (bcs key) rfl b0 (ringC_key key n) a1 a2 (szArr key hk) ?_)
    | (go_at_call 33; refine (ringNew_any key hk n _).mono ?_; rintro e w1 ⟨bs3, d3, rfl, rfl⟩)
    | (refine at_op (.store 55 (.tmp 8) (.tmp 30)) rfl ?_; refine wpList_stA (t := 55) 55 (.tmp 8) (.tmp 30) rfl rfl (ringC key n) ring0 (by rw [ringC_length key hk]; rfl) (ringC_one key n) rfl rfl ?_ (szRing key hk n) ?_; (· refine Bk.newK _ _ _ ?_ rfl; simp [size_plus]); intro W2 hX hgr2))
  replace b1 := ((b1.later (below_plus _ bs3 d3)).alloc _).grown hgr2 (by simp; omega)
  replace hP := ((hP.later (below_plus _ bs3 d3)).alloc _).grown hgr2 (by simp; omega)
  have zb := be.size
  replace be := below_grown (Below.allocS (belowP be bs3 d3) _) hgr2 (by omega)
  have hgx : w.heap.size ≤ W1.heap.size + bs3.length := by omega
  generalize W1.heap.size + bs3.length = gx at *
  clear hgr2 b0 q3 z0 z1 z2 zb W
  -- Hide
  go_upto_region 6 with (first
    | (refine at_op (.load 55 (.tmp 8)) rfl ?_; refine wpList_ldA (t := 55) 55 (.tmp 8) rfl rfl (ringC key n) rfl (hX) (ringC_whole key n) v1 v2 (szRing key hk n) ?_)
    | (refine at_op (.load 79 (.tmp 4)) rfl ?_; refine wpList_ldA (t := 79) 79 (.tmp 4) rfl rfl (f.cells) rfl (b1) (f.whole) x1 x2 (szFlow f) ?_)
    | (refine at_op (.load 82 (.tmp 7)) rfl ?_; refine wpList_ldA (t := 82) 82 (.tmp 7) rfl rfl (plC V S) rfl (hP) (plC_whole V S) y1 y2 (szPl V S) ?_)
    | (go_at_call 48; refine (HH.out _).mono ?_; rintro e w1 ⟨bs4, d4, rfl, rfl⟩))
  replace b1 := b1.later (below_plus _ bs4 d4)
  replace hP := hP.later (below_plus _ bs4 d4)
  replace hX := hX.later (below_plus _ bs4 d4)
  replace be := belowP be bs4 d4
  generalize plus W2 bs4 d4 = W3 at *
  have z1 := b1.lt
  have z2 := hP.lt
  have z3 := hX.lt
  -- Seek
  go_upto_region 7 with (first
    | (refine at_op (.load 55 (.tmp 8)) rfl ?_; refine wpList_ldA (t := 55) 55 (.tmp 8) rfl rfl (ringC key n) rfl (hX) (ringC_whole key n) v1 v2 (szRing key hk n) ?_)
    | (refine at_op (.load 79 (.tmp 4)) rfl ?_; refine wpList_ldA (t := 79) 79 (.tmp 4) rfl rfl (f.cells) rfl (b1) (f.whole) x1 x2 (szFlow f) ?_)
    | (go_at_call 49; refine (HS1.out _).mono ?_; rintro e w1 ⟨bs5, d5, rfl, rfl⟩)
    | (refine at_op (.store 82 (.tmp 11) (.tmp 43)) rfl ?_; refine wpList_stA (t := 82) 82 (.tmp 11) (.tmp 43) rfl rfl (plC V S) (plC 0 0) rfl (plC_one V S) rfl rfl ?_ (szPl V S) ?_; (· refine Bk.newK _ _ _ ?_ rfl; simp [size_plus]); intro W hA hgr))
  have hF := ((b1.later (below_plus _ bs5 d5)).alloc _).grown hgr (by simp; omega)
  replace hP := ((hP.later (below_plus _ bs5 d5)).alloc _).grown hgr (by simp; omega)
  replace hX := ((hX.later (below_plus _ bs5 d5)).alloc _).grown hgr (by simp; omega)
  have zb := be.size
  replace be := below_grown (Below.allocS (belowP be bs5 d5) _) hgr (by omega)
  have hga : w.heap.size ≤ W3.heap.size + bs5.length := by omega
  generalize W3.heap.size + bs5.length = ga at *
  clear hgr b1 z1 z2 z3 zb
  go_wp2
  refine wp_relE 9 87 [3, 5, 6, 7] rfl (by kernel_rfl) (by kernel_rfl) (fun i => match i with | 0 => MP.eq (.agg (ringC key n).toArray) | 1 => MP.eq (.agg (ringC key (n + 1)).toArray) | 2 => MP.eq (.agg f.cells.toArray) | 3 => MP.eq (.int .u16 (C : Int)) | 4 => MP.eq (.tuple #[.agg (plC V S).toArray, .int .i64 0]) | 5 => MP.eq (.tuple #[.agg (plC V S).toArray, .int .i64 0]) | 6 => MP.eq (.agg (plC V S).toArray) | 7 => MP.eq (.int .i64 0) | 8 => MP.blk W.heap.size 82 (plC 0 0) | _ => MP.any) ?_ ?_
  · intro i hi o ho FA x hO hD
    match i, hi, ho, hO, hD with
    | 0, _, ho, hO, hD => 
      obtain rfl := Option.some.inj ho.symm
      clear ho
      have ev8 : FA.eval (.tmp 8) = .pointer (some ⟨gx, 0, none⟩) := hO 8 (by kernel_rfl)
      have e8 : FA.tmps[8]?.getD undef = .pointer (some ⟨gx, 0, none⟩) := by simpa [Act.eval] using ev8
      replace ev8 := Lib.hid ev8
      clear hO hD
      rw [if_neg (by decide)]
      intro K hK
      refine wanted_if rfl ?_
      refine wp_load_mid 55 (.tmp 8) rfl gx 0 ev8.out (ringC key n) _ (Bk.range (hX.later (below_plus _ _ _))) v1 v2 (szRing key hk n) ?_
      exact hK.out _ _ (Ex.refl _) rfl
    | 1, _, ho, hO, hD => 
      obtain rfl := Option.some.inj ho.symm
      clear ho
      have ev46 : FA.eval (.tmp 46) = .agg (ringC key n).toArray := hD 0 46 (by kernel_rfl)
      have e46 : FA.tmps[46]?.getD undef = .agg (ringC key n).toArray := by simpa [Act.eval] using ev46
      replace ev46 := Lib.hid ev46
      clear hO hD
      rw [if_neg (by decide)]
      intro K hK
      go_simp
      refine (HNX.out _).mono ?_
      rintro e w1 ⟨bs2, d2, rfl, rfl⟩
      exact hK.out _ _ (Ex.plus_ _ _ _) rfl
    | 2, _, ho, hO, hD => 
      obtain rfl := Option.some.inj ho.symm
      clear ho
      have ev4 : FA.eval (.tmp 4) = .pointer (some ⟨gf, 0, none⟩) := hO 4 (by kernel_rfl)
      have e4 : FA.tmps[4]?.getD undef = .pointer (some ⟨gf, 0, none⟩) := by simpa [Act.eval] using ev4
      replace ev4 := Lib.hid ev4
      clear hO hD
      rw [if_neg (by decide)]
      intro K hK
      refine wanted_if rfl ?_
      refine wp_load_mid 79 (.tmp 4) rfl gf 0 ev4.out f.cells _ (Bk.range (hF.later (below_plus _ _ _))) x1 x2 (szFlow f) ?_
      exact hK.out _ _ (Ex.refl _) rfl
    | 3, _, ho, hO, hD => 
      obtain rfl := Option.some.inj ho.symm
      clear ho
      have ev9 : FA.eval (.tmp 9) = .int .u16 (C : Int) := hO 9 (by kernel_rfl)
      have e9 : FA.tmps[9]?.getD undef = .int .u16 (C : Int) := by simpa [Act.eval] using ev9
      replace ev9 := Lib.hid ev9
      clear hO hD
      rw [if_pos (by decide)]
      refine ⟨.int .u16 (C : Int), .inl ⟨by simp [Region.wanted], fun w => ?_⟩, rfl⟩
      go_simp
    | 4, _, ho, hO, hD => 
      obtain rfl := Option.some.inj ho.symm
      clear ho
      have ev47 : FA.eval (.tmp 47) = .agg (ringC key (n + 1)).toArray := hD 1 47 (by kernel_rfl)
      have e47 : FA.tmps[47]?.getD undef = .agg (ringC key (n + 1)).toArray := by simpa [Act.eval] using ev47
      replace ev47 := Lib.hid ev47
      have ev48 : FA.eval (.tmp 48) = .agg f.cells.toArray := hD 2 48 (by kernel_rfl)
      have e48 : FA.tmps[48]?.getD undef = .agg f.cells.toArray := by simpa [Act.eval] using ev48
      replace ev48 := Lib.hid ev48
      have ev49 : FA.eval (.tmp 49) = .int .u16 (C : Int) := hD 3 49 (by kernel_rfl)
      have e49 : FA.tmps[49]?.getD undef = .int .u16 (C : Int) := by simpa [Act.eval] using ev49
      replace ev49 := Lib.hid ev49
      clear hO hD
      rw [if_neg (by decide)]
      intro K hK
      go_simp
      refine (HS2.out _).mono ?_
      rintro e w1 ⟨bs2, d2, rfl, rfl⟩
      exact hK.out _ _ (Ex.plus_ _ _ _) rfl
    | 5, _, ho, hO, hD => 
      obtain rfl := Option.some.inj ho.symm
      clear ho
      have ev50 : FA.eval (.tmp 50) = .tuple #[.agg (plC V S).toArray, .int .i64 0] := hD 4 50 (by kernel_rfl)
      have e50 : FA.tmps[50]?.getD undef = .tuple #[.agg (plC V S).toArray, .int .i64 0] := by simpa [Act.eval] using ev50
      replace ev50 := Lib.hid ev50
      clear hO hD
      rw [if_pos (by decide)]
      refine ⟨.tuple #[.agg (plC V S).toArray, .int .i64 0], .inl ⟨by simp [Region.wanted], fun w => ?_⟩, rfl⟩
      go_simp
    | 6, _, ho, hO, hD => 
      obtain rfl := Option.some.inj ho.symm
      clear ho
      have ev45 : FA.eval (.tmp 45) = .tuple #[.agg (plC V S).toArray, .int .i64 0] := hD 5 45 (by kernel_rfl)
      have e45 : FA.tmps[45]?.getD undef = .tuple #[.agg (plC V S).toArray, .int .i64 0] := by simpa [Act.eval] using ev45
      replace ev45 := Lib.hid ev45
      clear hO hD
      rw [if_pos (by decide)]
      refine ⟨.agg (plC V S).toArray, .inl ⟨by simp [Region.wanted], fun w => ?_⟩, rfl⟩
      go_simp
    | 7, _, ho, hO, hD => 
      obtain rfl := Option.some.inj ho.symm
      clear ho
      have ev45 : FA.eval (.tmp 45) = .tuple #[.agg (plC V S).toArray, .int .i64 0] := hD 5 45 (by kernel_rfl)
      have e45 : FA.tmps[45]?.getD undef = .tuple #[.agg (plC V S).toArray, .int .i64 0] := by simpa [Act.eval] using ev45
      replace ev45 := Lib.hid ev45
      clear hO hD
      rw [if_pos (by decide)]
      refine ⟨.int .i64 0, .inl ⟨by simp [Region.wanted], fun w => ?_⟩, rfl⟩
      go_simp
    | 8, _, ho, hO, hD => 
      obtain rfl := Option.some.inj ho.symm
      clear ho
      clear hO hD
      rw [if_neg (by decide)]
      intro K hK
      go_simp
      refine hK.out _ _ (Ex.alloc _ _) ⟨_, rfl, ?_, ?_⟩
      · simp [size_plus]
      · refine Bk.newK _ _ _ ?_ rfl
        simp [size_plus]
    | (k + 9), hi, _, _, _ => exact absurd hi (by omega)
  intro vs x hp
  have p0 : vs 0 = .agg (ringC key n).toArray := hp 0 (by omega)
  have p1 : vs 1 = .agg (ringC key (n + 1)).toArray := hp 1 (by omega)
  have p2 : vs 2 = .agg f.cells.toArray := hp 2 (by omega)
  have p3 : vs 3 = .int .u16 (C : Int) := hp 3 (by omega)
  have p4 : vs 4 = .tuple #[.agg (plC V S).toArray, .int .i64 0] := hp 4 (by omega)
  have p5 : vs 5 = .tuple #[.agg (plC V S).toArray, .int .i64 0] := hp 5 (by omega)
  have p6 : vs 6 = .agg (plC V S).toArray := hp 6 (by omega)
  have p7 : vs 7 = .int .i64 0 := hp 7 (by omega)
  have p8 := hp 8 (by omega)
  clear hp
  simp only [List.take_succ_cons, List.take_zero, List.drop_succ_cons, List.drop_zero, putAll, Nat.zero_add, Nat.reduceAdd, Act.put, List.setIfInBounds_toArray, List.set_cons_zero, List.set_cons_succ, p0, p1, p2, p3, p4, p5, p6, p7]
  clear p0 p1 p2 p3 p4 p5 p6 p7
  generalize vs 8 = y8 at *
  clear vs
  obtain ⟨gb, rfl, hgb, hb8⟩ := p8
  go_upto_region 8 with (refine at_op (.store 82 (.tmp 13) (.tmp 51)) rfl ?_; refine wpList_stA (t := 82) 82 (.tmp 13) (.tmp 51) rfl rfl (plC V S) (plC 0 0) rfl (plC_one V S) rfl rfl hb8 (szPl V S) ?_; intro W9 hB hgr)
  refine NoPanic.normal ?_
  have zp := hP.lt
  have za := hA.lt
  replace hP := (hP.later (below_plus _ x.bs x.d)).grown hgr (by simp; omega)
  replace hA := (hA.later (below_plus _ x.bs x.d)).grown hgr (by simp; omega)
  have zb := be.size
  replace be := below_grown (belowP be x.bs x.d) hgr (by omega)
  clear hgr hb8 hX hF zp za zb hgb
  go_wp2_with (first
    | (refine at_op (.load 82 (.tmp 7)) rfl ?_; refine wpList_ldG (t := 82) 82 (.tmp 7) rfl rfl (plC V S) rfl (by with_reducible repeat (first | exact hP | refine Bk.later ?_ (below_plus _ _ _))) (plC_whole V S) y1 y2 (szPl V S) ?_)
    | (refine at_op (.load 82 (.tmp 11)) rfl ?_; refine wpList_ldG (t := 82) 82 (.tmp 11) rfl rfl (plC V S) rfl (by with_reducible repeat (first | exact hA | refine Bk.later ?_ (below_plus _ _ _))) (plC_whole V S) y1 y2 (szPl V S) ?_)
    | (refine at_op (.load 82 (.tmp 13)) rfl ?_; refine wpList_ldG (t := 82) 82 (.tmp 13) rfl rfl (plC V S) rfl (by with_reducible repeat (first | exact hB | refine Bk.later ?_ (below_plus _ _ _))) (plC_whole V S) y1 y2 (szPl V S) ?_)
    | (go_at_call 51; refine (HP.out _).mono ?_; rintro e w1 ⟨bs10, d10, rfl, rfl⟩)
    | (go_at_call 52; refine (HW.out _).mono ?_; rintro e w1 ⟨bs11, d11, rfl, rfl⟩)
    | (go_at_call 46; refine (HAW.out _).mono ?_; rintro e w1 ⟨bs12, d12, rfl, rfl⟩))
  go_ret
  exact ⟨rfl, belowP (belowP (belowP be _ _) _ _) _ _⟩
end Go.Proofs.Yticlohlpccollaa
