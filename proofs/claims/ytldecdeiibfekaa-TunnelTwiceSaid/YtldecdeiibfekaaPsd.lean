/- The pseudo-header: ip6.Pseudo and counterfoilref05.Pseudo. -/
import Derived.Test.YtldecdeiibfekaaCom
import Derived.Deep.DeepCutAuto
import Derived.Test.YtldecdeiibfekaaJoi
namespace Go.Proofs.Ytldecdeiibfekaa
open Go.RowKit
set_option linter.unusedVariables false
set_option linter.unusedSimpArgs false
attribute [local go_sem ↓] sliced_cut
attribute [local go_sem] cutA_zero

/-- the bytes of a pseudo-header -/
def psdB (s6 : Bool) (sh sl : Nat) (d6 : Bool) (dh dl pr sz : Nat) : List UInt8 := adrB s6 sh sl ++ adrB d6 dh dl ++ (if s6 then dig sz 4 ++ dig pr 4 else dig pr 2 ++ dig sz 2)
theorem psdB_length (s6 : Bool) (sh sl : Nat) (d6 : Bool) (dh dl pr sz : Nat) : (psdB s6 sh sl d6 dh dl pr sz).length ≤ 40 := by
  have z1 := adrB_length s6 sh sl
  have z2 := adrB_length d6 dh dl
  cases s6 <;> simp [psdB, dig_length] <;> omega
theorem psdB_even (s6 : Bool) (sh sl : Nat) (d6 : Bool) (dh dl pr sz : Nat) : (psdB s6 sh sl d6 dh dl pr sz).length % 2 = 0 := by
  cases s6 <;> cases d6 <;> simp [psdB, adrB, dig_length]
set_option maxHeartbeats 1000000 in
set_option maxRecDepth 100000 in
theorem pseudo_any (s6 : Bool) (sh sl : Nat) (d6 : Bool) (dh dl pr sz : Nat) (w : World) (h1 : sh < 18446744073709551616) (h2 : sl < 18446744073709551616) (h3 : dh < 18446744073709551616) (h4 : dl < 18446744073709551616) (h5 : pr < 256) (h6 : sz < 65536) : Calls Try.prog 133 #[.agg #[.bool s6, .int .u64 (sh : Int), .int .u64 (sl : Int)], .agg #[.bool d6, .int .u64 (dh : Int), .int .u64 (dl : Int)], .int .u8 (pr : Int), .int .i64 (sz : Int)] w (RetF w (psdB s6 sh sl d6 dh dl pr sz)) := by
  have z1 := adrB_length s6 sh sl
  have z2 := adrB_length d6 dh dl
  go_enter Try.func133, Try.ntmps133
  go_wp2
  refine wp_rel 6 33 rfl (by kernel_rfl) (by kernel_rfl) (fun i => match i with | 0 => MP.eq (.agg #[.bool s6, .int .u64 (sh : Int), .int .u64 (sl : Int)]) | 1 => MP.of w.heap.size (adrB s6 sh sl) | 2 => MP.eq (.agg #[.bool d6, .int .u64 (dh : Int), .int .u64 (dl : Int)]) | 3 => MP.of w.heap.size (adrB d6 dh dl) | 4 => MP.rb (adrB s6 sh sl ++ adrB d6 dh dl) | 5 => MP.rb (adrB s6 sh sl ++ adrB d6 dh dl) | _ => MP.any) ?_ ?_
  · intro i hi o ho FA x hO hD K hK
    match i, hi, ho, hO, hD, hK with
    | 0, _, ho, hO, hD, hK => 
      obtain rfl := Option.some.inj ho.symm
      clear ho
      have ev4 : FA.eval (.tmp 4) = .pointer (some ⟨w.heap.size, 0, none⟩) := hO 4 (by kernel_rfl)
      have e4 : FA.tmps[4]?.getD undef = .pointer (some ⟨w.heap.size, 0, none⟩) := by simpa [Act.eval] using ev4
      replace ev4 := Lib.hid ev4
      clear hO hD
      go_simp
      exact hK.out _ _ (Ex.refl _) rfl
    | 1, _, ho, hO, hD, hK => 
      obtain rfl := Option.some.inj ho.symm
      clear ho
      have ev10 : FA.eval (.tmp 10) = .agg #[.bool s6, .int .u64 (sh : Int), .int .u64 (sl : Int)] := hD 0 10 (by kernel_rfl)
      have e10 : FA.tmps[10]?.getD undef = .agg #[.bool s6, .int .u64 (sh : Int), .int .u64 (sl : Int)] := by simpa [Act.eval] using ev10
      replace ev10 := Lib.hid ev10
      clear hO hD
      go_simp
      refine (adrBytes_any s6 sh sl _ h1 h2).mono ?_
      rintro e w1 ⟨A2, n2, bs2, d2, rfl, rfl, ho2⟩
      exact hK.out _ _ (Ex.plus_ _ _ _) ⟨_, _, rfl, ho2.mono (base' := w.heap.size) (by simp [size_plus]; omega)⟩
    | 2, _, ho, hO, hD, hK => 
      obtain rfl := Option.some.inj ho.symm
      clear ho
      have ev5 : FA.eval (.tmp 5) = .pointer (some ⟨w.heap.size + 1, 0, none⟩) := hO 5 (by kernel_rfl)
      have e5 : FA.tmps[5]?.getD undef = .pointer (some ⟨w.heap.size + 1, 0, none⟩) := by simpa [Act.eval] using ev5
      replace ev5 := Lib.hid ev5
      clear hO hD
      go_simp
      exact hK.out _ _ (Ex.refl _) rfl
    | 3, _, ho, hO, hD, hK => 
      obtain rfl := Option.some.inj ho.symm
      clear ho
      have ev12 : FA.eval (.tmp 12) = .agg #[.bool d6, .int .u64 (dh : Int), .int .u64 (dl : Int)] := hD 2 12 (by kernel_rfl)
      have e12 : FA.tmps[12]?.getD undef = .agg #[.bool d6, .int .u64 (dh : Int), .int .u64 (dl : Int)] := by simpa [Act.eval] using ev12
      replace ev12 := Lib.hid ev12
      clear hO hD
      go_simp
      refine (adrBytes_any d6 dh dl _ h3 h4).mono ?_
      rintro e w1 ⟨A2, n2, bs2, d2, rfl, rfl, ho2⟩
      exact hK.out _ _ (Ex.plus_ _ _ _) ⟨_, _, rfl, ho2.mono (base' := w.heap.size) (by simp [size_plus]; omega)⟩
    | 4, _, ho, hO, hD, hK => 
      obtain rfl := Option.some.inj ho.symm
      clear ho
      have f11 := hD 1 11 (by kernel_rfl)
      generalize eu11 : FA.eval (.tmp 11) = u11 at f11
      have e11 : FA.tmps[11]?.getD undef = u11 := by rw [← eu11]; simp [Act.eval]
      have ev11 := Lib.hid eu11
      clear eu11
      have f13 := hD 3 13 (by kernel_rfl)
      generalize eu13 : FA.eval (.tmp 13) = u13 at f13
      have e13 : FA.tmps[13]?.getD undef = u13 := by rw [← eu13]; simp [Act.eval]
      have ev13 := Lib.hid eu13
      clear eu13
      clear hO hD
      obtain ⟨A1, n1, rfl, hr1⟩ := f11
      obtain ⟨A2, n2, rfl, hr2⟩ := f13
      have hn1 : n1 ≤ 100 := by rw [← hr1.1]; omega
      have hn2 : n2 ≤ 100 := by rw [← hr2.1]; omega
      refine wanted_if rfl ?_
      refine rel_app bt (.tmp 11) (.tmp 13) rfl ev11.out hr1.rb ev13.out hr2.rb (by omega) ?_
      intro A3 n3 c3 w3 hex hr3
      exact hK.out _ _ hex ⟨_, _, _, rfl, hr3⟩
    | 5, _, ho, hO, hD, hK => 
      obtain rfl := Option.some.inj ho.symm
      clear ho
      have f14 := hD 4 14 (by kernel_rfl)
      generalize eu14 : FA.eval (.tmp 14) = u14 at f14
      have e14 : FA.tmps[14]?.getD undef = u14 := by rw [← eu14]; simp [Act.eval]
      have ev14 := Lib.hid eu14
      clear eu14
      clear hO hD
      go_simp
      exact hK.out _ _ (Ex.refl _) f14
    | (k + 6), hi, _, _, _, _ => exact absurd hi (by omega)
  intro vs x hp
  have p0 : vs 0 = .agg #[.bool s6, .int .u64 (sh : Int), .int .u64 (sl : Int)] := hp 0 (by omega)
  have p1 := hp 1 (by omega)
  have p2 : vs 2 = .agg #[.bool d6, .int .u64 (dh : Int), .int .u64 (dl : Int)] := hp 2 (by omega)
  have p3 := hp 3 (by omega)
  have p4 := hp 4 (by omega)
  have p5 := hp 5 (by omega)
  clear hp
  simp only [List.take_succ_cons, List.take_zero, List.drop_succ_cons, List.drop_zero, putAll, Nat.zero_add, Nat.reduceAdd, Act.put, List.setIfInBounds_toArray, List.set_cons_zero, List.set_cons_succ, p0, p2]
  clear p0 p2
  generalize vs 1 = y1 at *
  generalize vs 3 = y3 at *
  generalize vs 4 = y4 at *
  generalize vs 5 = y5 at *
  clear vs
  obtain ⟨A5, n5, c5, rfl, hr5⟩ := p5
  have l5 : n5 ≤ 100 := by rw [← hr5.1]; simp; omega
  cases s6
  · go_wp2_with fail
    refine (put_full _ _ _ _ pr 2 _ hr5 (by omega) (by omega) (by omega) (by omega)).mono ?_
    rintro e w1 ⟨A6, n6, bs6, m6, rfl, rfl, ho6⟩
    have l6 : n6 ≤ 200 := by rw [← ho6.1]; simp [dig_length]; omega
    go_wp2_with fail
    refine (put_full _ _ _ _ sz 2 _ ho6.rb (by omega) (by omega) (by omega) (by omega)).mono ?_
    rintro e w1 ⟨A7, n7, bs7, m7, rfl, rfl, ho7⟩
    go_wp2
    go_ret
    refine RetF.mk ?_ (belowP (belowP (belowP (Below.allocS (Below.allocS (Below.refl _ _) _) _) _ _) _ _) _ _)
    have := ho7.mono (base' := w.heap.size) (by simp [size_plus]; omega)
    simpa [psdB, List.append_assoc] using this
  · go_wp2_with fail
    refine (put_full _ _ _ _ sz 4 _ hr5 (by omega) (by omega) (by omega) (by omega)).mono ?_
    rintro e w1 ⟨A6, n6, bs6, m6, rfl, rfl, ho6⟩
    have l6 : n6 ≤ 200 := by rw [← ho6.1]; simp [dig_length]; omega
    go_wp2_with fail
    refine (put_full _ _ _ _ pr 4 _ ho6.rb (by omega) (by omega) (by omega) (by omega)).mono ?_
    rintro e w1 ⟨A7, n7, bs7, m7, rfl, rfl, ho7⟩
    go_wp2
    go_ret
    refine RetF.mk ?_ (belowP (belowP (belowP (Below.allocS (Below.allocS (Below.refl _ _) _) _) _ _) _ _) _ _)
    have := ho7.mono (base' := w.heap.size) (by simp [size_plus]; omega)
    simpa [psdB, List.append_assoc] using this
theorem dig2 (x : Nat) (h : x < 65536) : dig x 2 = [UInt8.ofNat (x / 256), UInt8.ofNat (x % 256)] := by
  simp [dig, Nat.mod_eq_of_lt (show x / 256 < 256 by omega)]
theorem tail4 (pr sz : Nat) (h5 : pr < 256) (h6 : sz < 65536) : [UInt8.ofNat 0, UInt8.ofNat pr, UInt8.ofNat (sz / 256), UInt8.ofNat (sz % 256)] = dig pr 2 ++ dig sz 2 := by
  rw [dig2 sz h6, dig2 pr (by omega), Nat.div_eq_of_lt h5, Nat.mod_eq_of_lt h5]
  rfl
theorem tail6 (pr sz : Nat) (h5 : pr < 256) : [dig sz 4, [UInt8.ofNat 0, UInt8.ofNat 0, UInt8.ofNat 0, UInt8.ofNat pr]].flatten = dig sz 4 ++ dig pr 4 := by
  have : dig pr 4 = [UInt8.ofNat 0, UInt8.ofNat 0, UInt8.ofNat 0, UInt8.ofNat pr] := by
    simp [dig, Nat.mod_eq_of_lt h5, Nat.div_eq_of_lt h5, Nat.div_eq_of_lt (show pr < 65536 by omega), Nat.div_eq_of_lt (show pr < 16777216 by omega)]
  rw [this]
  simp
set_option maxHeartbeats 4000000 in
set_option maxRecDepth 100000 in
theorem refPseudo_any (s6 : Bool) (sh sl : Nat) (d6 : Bool) (dh dl pr sz : Nat) (w : World) (h1 : sh < 18446744073709551616) (h2 : sl < 18446744073709551616) (h3 : dh < 18446744073709551616) (h4 : dl < 18446744073709551616) (h5 : pr < 256) (h6 : sz < 65536) : Calls Try.prog 103 #[.agg #[.bool s6, .int .u64 (sh : Int), .int .u64 (sl : Int)], .agg #[.bool d6, .int .u64 (dh : Int), .int .u64 (dl : Int)], .int .u8 (pr : Int), .int .i64 (sz : Int)] w (RetB w (psdB s6 sh sl d6 dh dl pr sz)) := by
  have z1 := adrB_length s6 sh sl
  have z2 := adrB_length d6 dh dl
  have hb0 : Bk ((w.alloc (.cells #[.bool s6, .int .u64 (sh : Int), .int .u64 (sl : Int)] 29)).alloc (.cells #[.bool d6, .int .u64 (dh : Int), .int .u64 (dl : Int)] 29)) w.heap.size 29 [.bool s6, .int .u64 (sh : Int), .int .u64 (sl : Int)] := (Bk.new w 29 _).alloc _
  have hb1 : Bk ((w.alloc (.cells #[.bool s6, .int .u64 (sh : Int), .int .u64 (sl : Int)] 29)).alloc (.cells #[.bool d6, .int .u64 (dh : Int), .int .u64 (dl : Int)] 29)) (w.heap.size + 1) 29 [.bool d6, .int .u64 (dh : Int), .int .u64 (dl : Int)] := Bk.newK _ _ _ (by simp) rfl
  have be0 : Below w.heap.size w ((w.alloc (.cells #[.bool s6, .int .u64 (sh : Int), .int .u64 (sl : Int)] 29)).alloc (.cells #[.bool d6, .int .u64 (dh : Int), .int .u64 (dl : Int)] 29)) := Below.allocS (Below.allocS (Below.refl _ _) _) _
  obtain ⟨qh, hqh⟩ : ∃ q, q = sz / 256 := ⟨_, rfl⟩
  obtain ⟨ql, hql⟩ : ∃ q, q = sz % 256 := ⟨_, rfl⟩
  have lqh : qh < 256 := by omega
  have lql : ql < 256 := by omega
  have f0 : (sz : Int) / 256 = (qh : Int) := by omega
  have f1 : (sz : Int) % 256 = (ql : Int) := by omega
  have HT : Hid (([adrB s6 sh sl, adrB d6 dh dl, [UInt8.ofNat 0, UInt8.ofNat pr, UInt8.ofNat qh, UInt8.ofNat ql]] : List (List UInt8)).flatten.length ≤ 549755813888) := Lib.hid (by simp; omega)
  have HT2 : Hid (([adrB s6 sh sl, adrB d6 dh dl, dig sz 4 ++ dig pr 4] : List (List UInt8)).flatten.length ≤ 549755813888) := Lib.hid (by simp [dig_length]; omega)
  have HQ := Lib.hid hqh
  have HR := Lib.hid hql
  clear hqh hql
  go_enter Try.func103, Try.ntmps103
  obtain ⟨dk, u1, u2⟩ : ∃ d, Try.prog.underlying 29 = some d ∧ d.isRow = true := ⟨_, Try.underlying29, rfl⟩
  cases s6
  · go_upto_region 4 with (fail)
    have b0 : Bk (((w.alloc (.cells #[.bool false, .int .u64 (sh : Int), .int .u64 (sl : Int)] 29)).alloc (.cells #[.bool d6, .int .u64 (dh : Int), .int .u64 (dl : Int)] 29)).alloc (.cells #[.int .u8 0, .int .u8 (pr : Int), .int .u8 (qh : Int), .int .u8 (ql : Int)] 5)) w.heap.size 29 (adC false sh sl) := hb0.alloc _
    have b1 : Bk (((w.alloc (.cells #[.bool false, .int .u64 (sh : Int), .int .u64 (sl : Int)] 29)).alloc (.cells #[.bool d6, .int .u64 (dh : Int), .int .u64 (dl : Int)] 29)).alloc (.cells #[.int .u8 0, .int .u8 (pr : Int), .int .u8 (qh : Int), .int .u8 (ql : Int)] 5)) (w.heap.size + 1) 29 (adC d6 dh dl) := hb1.alloc _
    have be : Below w.heap.size w (((w.alloc (.cells #[.bool false, .int .u64 (sh : Int), .int .u64 (sl : Int)] 29)).alloc (.cells #[.bool d6, .int .u64 (dh : Int), .int .u64 (dl : Int)] 29)).alloc (.cells #[.int .u8 0, .int .u8 (pr : Int), .int .u8 (qh : Int), .int .u8 (ql : Int)] 5)) := Below.allocS be0 _
    have h9 : Rb (((w.alloc (.cells #[.bool false, .int .u64 (sh : Int), .int .u64 (sl : Int)] 29)).alloc (.cells #[.bool d6, .int .u64 (dh : Int), .int .u64 (dl : Int)] 29)).alloc (.cells #[.int .u8 0, .int .u8 (pr : Int), .int .u8 (qh : Int), .int .u8 (ql : Int)] 5)) (some ⟨w.heap.size + 1 + 1, 0, none⟩) 4 4 [UInt8.ofNat 0, UInt8.ofNat pr, UInt8.ofNat qh, UInt8.ofNat ql] := Rb.litW _ _ (by simp) rfl (by decide) (by simp [bcs]; omega)
    refine wp_rel 8 34 rfl (by kernel_rfl) (by kernel_rfl) (fun i => match i with | 0 => MP.eq (.agg (adC false sh sl).toArray) | 1 => MP.ob w.heap.size (adrB false sh sl) | 2 => MP.eq (.agg (adC d6 dh dl).toArray) | 3 => MP.ob w.heap.size (adrB d6 dh dl) | 4 => MP.eq (.slice (some ⟨w.heap.size + 1 + 1, 0, none⟩) 4 4) | 5 => MP.rdl [(adrB false sh sl), (adrB d6 dh dl), [UInt8.ofNat 0, UInt8.ofNat pr, UInt8.ofNat qh, UInt8.ofNat ql]] | 6 => MP.ob w.heap.size ([(adrB false sh sl), (adrB d6 dh dl), [UInt8.ofNat 0, UInt8.ofNat pr, UInt8.ofNat qh, UInt8.ofNat ql]]).flatten | 7 => MP.ob w.heap.size ([(adrB false sh sl), (adrB d6 dh dl), [UInt8.ofNat 0, UInt8.ofNat pr, UInt8.ofNat qh, UInt8.ofNat ql]]).flatten | _ => MP.any) ?_ ?_
    · intro i hi o ho FA x hO hD K hK
      match i, hi, ho, hO, hD, hK with
      | 0, _, ho, hO, hD, hK => 
        obtain rfl := Option.some.inj ho.symm
        clear ho
        have ev4 : FA.eval (.tmp 4) = .pointer (some ⟨w.heap.size, 0, none⟩) := hO 4 (by kernel_rfl)
        have e4 : FA.tmps[4]?.getD undef = .pointer (some ⟨w.heap.size, 0, none⟩) := by simpa [Act.eval] using ev4
        replace ev4 := Lib.hid ev4
        clear hO hD
        refine wanted_ifG (by go_simp) ?_
        refine wp_load_mid 29 (.tmp 4) rfl w.heap.size 0 ev4.out (adC false sh sl) _ (Bk.range (b0.later (below_plus _ _ _))) u1 u2 (szAd _ _ _) ?_
        exact hK.out _ _ (Ex.refl _) rfl
      | 1, _, ho, hO, hD, hK => 
        obtain rfl := Option.some.inj ho.symm
        clear ho
        have ev27 : FA.eval (.tmp 27) = .agg (adC false sh sl).toArray := hD 0 27 (by kernel_rfl)
        have e27 : FA.tmps[27]?.getD undef = .agg (adC false sh sl).toArray := by simpa [Act.eval] using ev27
        replace ev27 := Lib.hid ev27
        clear hO hD
        go_simp
        refine (refAdrBytes false sh sl _ (by omega) (by omega)).mono ?_
        rintro e w1 ⟨A2, n2, c2, bs2, d2, rfl, rfl, ho2⟩
        exact hK.out _ _ (Ex.plus_ _ _ _) ⟨_, _, _, rfl, ho2.mono (by have := be.size; simp [size_plus]; omega)⟩
      | 2, _, ho, hO, hD, hK => 
        obtain rfl := Option.some.inj ho.symm
        clear ho
        have ev5 : FA.eval (.tmp 5) = .pointer (some ⟨w.heap.size + 1, 0, none⟩) := hO 5 (by kernel_rfl)
        have e5 : FA.tmps[5]?.getD undef = .pointer (some ⟨w.heap.size + 1, 0, none⟩) := by simpa [Act.eval] using ev5
        replace ev5 := Lib.hid ev5
        clear hO hD
        refine wanted_ifG (by go_simp) ?_
        refine wp_load_mid 29 (.tmp 5) rfl (w.heap.size + 1) 0 ev5.out (adC d6 dh dl) _ (Bk.range (b1.later (below_plus _ _ _))) u1 u2 (szAd _ _ _) ?_
        exact hK.out _ _ (Ex.refl _) rfl
      | 3, _, ho, hO, hD, hK => 
        obtain rfl := Option.some.inj ho.symm
        clear ho
        have ev29 : FA.eval (.tmp 29) = .agg (adC d6 dh dl).toArray := hD 2 29 (by kernel_rfl)
        have e29 : FA.tmps[29]?.getD undef = .agg (adC d6 dh dl).toArray := by simpa [Act.eval] using ev29
        replace ev29 := Lib.hid ev29
        clear hO hD
        go_simp
        refine (refAdrBytes d6 dh dl _ (by omega) (by omega)).mono ?_
        rintro e w1 ⟨A2, n2, c2, bs2, d2, rfl, rfl, ho2⟩
        exact hK.out _ _ (Ex.plus_ _ _ _) ⟨_, _, _, rfl, ho2.mono (by have := be.size; simp [size_plus]; omega)⟩
      | 4, _, ho, hO, hD, hK => 
        obtain rfl := Option.some.inj ho.symm
        clear ho
        have ev9 : FA.eval (.tmp 9) = .slice (some ⟨w.heap.size + 1 + 1, 0, none⟩) 4 4 := hO 9 (by kernel_rfl)
        have e9 : FA.tmps[9]?.getD undef = .slice (some ⟨w.heap.size + 1 + 1, 0, none⟩) 4 4 := by simpa [Act.eval] using ev9
        replace ev9 := Lib.hid ev9
        clear hO hD
        go_simp
        exact hK.out _ _ (Ex.refl _) rfl
      | 5, _, ho, hO, hD, hK => 
        obtain rfl := Option.some.inj ho.symm
        clear ho
        have f28 := hD 1 28 (by kernel_rfl)
        generalize eu28 : FA.eval (.tmp 28) = u28 at f28
        have e28 : FA.tmps[28]?.getD undef = u28 := by rw [← eu28]; simp [Act.eval]
        have ev28 := Lib.hid eu28
        clear eu28
        have f30 := hD 3 30 (by kernel_rfl)
        generalize eu30 : FA.eval (.tmp 30) = u30 at f30
        have e30 : FA.tmps[30]?.getD undef = u30 := by rw [← eu30]; simp [Act.eval]
        have ev30 := Lib.hid eu30
        clear eu30
        have ev31 : FA.eval (.tmp 31) = .slice (some ⟨w.heap.size + 1 + 1, 0, none⟩) 4 4 := hD 4 31 (by kernel_rfl)
        have e31 : FA.tmps[31]?.getD undef = .slice (some ⟨w.heap.size + 1 + 1, 0, none⟩) 4 4 := by simpa [Act.eval] using ev31
        replace ev31 := Lib.hid ev31
        clear hO hD
        obtain ⟨A28, n28, c28, rfl, h28⟩ := f28
        obtain ⟨A30, n30, c30, rfl, h30⟩ := f30
        go_simp
        refine hK.out _ _ (Ex.alloc _ _) ⟨_, _, _, rfl, ?_⟩
        refine RdL.litW _ _ ?_ ?_
        · simp [size_plus]
        · exact .cons ⟨_, _, _, rfl, h28.rb⟩ (.cons ⟨_, _, _, rfl, h30.rb⟩ (.cons ⟨_, _, _, rfl, h9.plus_ _ _⟩ (.nil)))
      | 6, _, ho, hO, hD, hK => 
        obtain rfl := Option.some.inj ho.symm
        clear ho
        have f32 := hD 5 32 (by kernel_rfl)
        generalize eu32 : FA.eval (.tmp 32) = u32 at f32
        have e32 : FA.tmps[32]?.getD undef = u32 := by rw [← eu32]; simp [Act.eval]
        have ev32 := Lib.hid eu32
        clear eu32
        clear hO hD
        obtain ⟨A1, m1, c1, rfl, hl1⟩ := f32
        have hm1 : m1 ≤ 100 := by obtain ⟨_, _, h2, _⟩ := hl1; simp only [List.length_cons, List.length_nil] at h2; omega
        go_simp
        refine (refJoin_any A1 m1 c1 _ _ hl1 (by omega) HT.out).mono ?_
        rintro e w1 ⟨A2, n2, c2, bs2, d2, rfl, rfl, ho2⟩
        exact hK.out _ _ (Ex.plus_ _ _ _) ⟨_, _, _, rfl, ho2.mono (by simp [size_plus]; omega)⟩
      | 7, _, ho, hO, hD, hK => 
        obtain rfl := Option.some.inj ho.symm
        clear ho
        have f33 := hD 6 33 (by kernel_rfl)
        generalize eu33 : FA.eval (.tmp 33) = u33 at f33
        have e33 : FA.tmps[33]?.getD undef = u33 := by rw [← eu33]; simp [Act.eval]
        have ev33 := Lib.hid eu33
        clear eu33
        clear hO hD
        go_simp
        exact hK.out _ _ (Ex.refl _) f33
      | (k + 8), hi, _, _, _, _ => exact absurd hi (by omega)
    intro vs x hp
    have p0 : vs 0 = .agg (adC false sh sl).toArray := hp 0 (by omega)
    have p1 := hp 1 (by omega)
    have p2 : vs 2 = .agg (adC d6 dh dl).toArray := hp 2 (by omega)
    have p3 := hp 3 (by omega)
    have p4 : vs 4 = .slice (some ⟨w.heap.size + 1 + 1, 0, none⟩) 4 4 := hp 4 (by omega)
    have p5 := hp 5 (by omega)
    have p6 := hp 6 (by omega)
    have p7 := hp 7 (by omega)
    clear hp
    simp only [List.take_succ_cons, List.take_zero, List.drop_succ_cons, List.drop_zero, putAll, Nat.zero_add, Nat.reduceAdd, Act.put, List.setIfInBounds_toArray, List.set_cons_zero, List.set_cons_succ, p0, p2, p4]
    clear p0 p2 p4
    generalize vs 1 = y1 at *
    generalize vs 3 = y3 at *
    generalize vs 5 = y5 at *
    generalize vs 6 = y6 at *
    generalize vs 7 = y7 at *
    clear vs
    obtain ⟨A10, n10, c10, rfl, h10⟩ := p7
    rw [show [adrB false sh sl, adrB d6 dh dl, [UInt8.ofNat 0, UInt8.ofNat pr, UInt8.ofNat qh, UInt8.ofNat ql]].flatten = psdB false sh sl d6 dh dl pr sz from by rw [HQ.out, HR.out, tail4 pr sz h5 h6]; simp [psdB]] at h10
    go_wp2
    go_ret
    exact RetB.mk h10 (belowP be _ _)

  · go_wp2_with fail
    refine (refBytes_any sz 4 _ (by omega) (by omega)).mono ?_
    rintro e w1 ⟨A2, n2, c2, bs2, d2, rfl, rfl, ho2⟩
    go_wp2_with fail
    refine (refJoin_any _ 2 _ [dig sz 4, [UInt8.ofNat 0, UInt8.ofNat 0, UInt8.ofNat 0, UInt8.ofNat pr]] _ (RdL.litW [.slice A2 n2 c2, .slice (some ⟨w.heap.size + 1 + 1 + 1 + bs2.length, 0, none⟩) 4 4] _ (by simp [size_plus]) (.cons ⟨_, _, _, rfl, ho2.rb.alloc _⟩ (.cons ⟨_, _, _, rfl, Rb.litW _ _ (by simp [size_plus]) rfl (by decide) (by simp [bcs]; omega)⟩ .nil))) (by omega) (by simp [dig_length])).mono ?_
    rintro e w1 ⟨A9, n9, c9, bs9, d9, rfl, rfl, ho9⟩
    go_upto_region 4 with (fail)
    refine gen_world (fun W => Bk W w.heap.size 29 (adC true sh sl) ∧ Bk W (w.heap.size + 1) 29 (adC d6 dh dl) ∧ Below w.heap.size w W ∧ Rb W A9 n9 c9 (dig sz 4 ++ dig pr 4)) ⟨((((hb0.alloc _).later (below_plus _ _ _)).alloc _).alloc _).later (below_plus _ _ _), ((((hb1.alloc _).later (below_plus _ _ _)).alloc _).alloc _).later (below_plus _ _ _), belowP (Below.allocS (Below.allocS (belowP (Below.allocS be0 _) _ _) _) _) _ _, by rw [← tail6 pr sz h5]; exact ho9.rb⟩ ?_
    rintro W ⟨b0, b1, be, h9⟩
    have hws := be.size
    refine wp_rel 8 34 rfl (by kernel_rfl) (by kernel_rfl) (fun i => match i with | 0 => MP.eq (.agg (adC true sh sl).toArray) | 1 => MP.ob w.heap.size (adrB true sh sl) | 2 => MP.eq (.agg (adC d6 dh dl).toArray) | 3 => MP.ob w.heap.size (adrB d6 dh dl) | 4 => MP.eq (.slice A9 n9 c9) | 5 => MP.rdl [(adrB true sh sl), (adrB d6 dh dl), (dig sz 4 ++ dig pr 4)] | 6 => MP.ob w.heap.size ([(adrB true sh sl), (adrB d6 dh dl), (dig sz 4 ++ dig pr 4)]).flatten | 7 => MP.ob w.heap.size ([(adrB true sh sl), (adrB d6 dh dl), (dig sz 4 ++ dig pr 4)]).flatten | _ => MP.any) ?_ ?_
    · intro i hi o ho FA x hO hD K hK
      match i, hi, ho, hO, hD, hK with
      | 0, _, ho, hO, hD, hK => 
        obtain rfl := Option.some.inj ho.symm
        clear ho
        have ev4 : FA.eval (.tmp 4) = .pointer (some ⟨w.heap.size, 0, none⟩) := hO 4 (by kernel_rfl)
        have e4 : FA.tmps[4]?.getD undef = .pointer (some ⟨w.heap.size, 0, none⟩) := by simpa [Act.eval] using ev4
        replace ev4 := Lib.hid ev4
        clear hO hD
        refine wanted_ifG (by go_simp) ?_
        refine wp_load_mid 29 (.tmp 4) rfl w.heap.size 0 ev4.out (adC true sh sl) _ (Bk.range (b0.later (below_plus _ _ _))) u1 u2 (szAd _ _ _) ?_
        exact hK.out _ _ (Ex.refl _) rfl
      | 1, _, ho, hO, hD, hK => 
        obtain rfl := Option.some.inj ho.symm
        clear ho
        have ev27 : FA.eval (.tmp 27) = .agg (adC true sh sl).toArray := hD 0 27 (by kernel_rfl)
        have e27 : FA.tmps[27]?.getD undef = .agg (adC true sh sl).toArray := by simpa [Act.eval] using ev27
        replace ev27 := Lib.hid ev27
        clear hO hD
        go_simp
        refine (refAdrBytes true sh sl _ (by omega) (by omega)).mono ?_
        rintro e w1 ⟨A2, n2, c2, bs2, d2, rfl, rfl, ho2⟩
        exact hK.out _ _ (Ex.plus_ _ _ _) ⟨_, _, _, rfl, ho2.mono (by have := be.size; simp [size_plus]; omega)⟩
      | 2, _, ho, hO, hD, hK => 
        obtain rfl := Option.some.inj ho.symm
        clear ho
        have ev5 : FA.eval (.tmp 5) = .pointer (some ⟨w.heap.size + 1, 0, none⟩) := hO 5 (by kernel_rfl)
        have e5 : FA.tmps[5]?.getD undef = .pointer (some ⟨w.heap.size + 1, 0, none⟩) := by simpa [Act.eval] using ev5
        replace ev5 := Lib.hid ev5
        clear hO hD
        refine wanted_ifG (by go_simp) ?_
        refine wp_load_mid 29 (.tmp 5) rfl (w.heap.size + 1) 0 ev5.out (adC d6 dh dl) _ (Bk.range (b1.later (below_plus _ _ _))) u1 u2 (szAd _ _ _) ?_
        exact hK.out _ _ (Ex.refl _) rfl
      | 3, _, ho, hO, hD, hK => 
        obtain rfl := Option.some.inj ho.symm
        clear ho
        have ev29 : FA.eval (.tmp 29) = .agg (adC d6 dh dl).toArray := hD 2 29 (by kernel_rfl)
        have e29 : FA.tmps[29]?.getD undef = .agg (adC d6 dh dl).toArray := by simpa [Act.eval] using ev29
        replace ev29 := Lib.hid ev29
        clear hO hD
        go_simp
        refine (refAdrBytes d6 dh dl _ (by omega) (by omega)).mono ?_
        rintro e w1 ⟨A2, n2, c2, bs2, d2, rfl, rfl, ho2⟩
        exact hK.out _ _ (Ex.plus_ _ _ _) ⟨_, _, _, rfl, ho2.mono (by have := be.size; simp [size_plus]; omega)⟩
      | 4, _, ho, hO, hD, hK => 
        obtain rfl := Option.some.inj ho.symm
        clear ho
        have ev9 : FA.eval (.tmp 9) = .slice A9 n9 c9 := hO 9 (by kernel_rfl)
        have e9 : FA.tmps[9]?.getD undef = .slice A9 n9 c9 := by simpa [Act.eval] using ev9
        replace ev9 := Lib.hid ev9
        clear hO hD
        go_simp
        exact hK.out _ _ (Ex.refl _) rfl
      | 5, _, ho, hO, hD, hK => 
        obtain rfl := Option.some.inj ho.symm
        clear ho
        have f28 := hD 1 28 (by kernel_rfl)
        generalize eu28 : FA.eval (.tmp 28) = u28 at f28
        have e28 : FA.tmps[28]?.getD undef = u28 := by rw [← eu28]; simp [Act.eval]
        have ev28 := Lib.hid eu28
        clear eu28
        have f30 := hD 3 30 (by kernel_rfl)
        generalize eu30 : FA.eval (.tmp 30) = u30 at f30
        have e30 : FA.tmps[30]?.getD undef = u30 := by rw [← eu30]; simp [Act.eval]
        have ev30 := Lib.hid eu30
        clear eu30
        have ev31 : FA.eval (.tmp 31) = .slice A9 n9 c9 := hD 4 31 (by kernel_rfl)
        have e31 : FA.tmps[31]?.getD undef = .slice A9 n9 c9 := by simpa [Act.eval] using ev31
        replace ev31 := Lib.hid ev31
        clear hO hD
        obtain ⟨A28, n28, c28, rfl, h28⟩ := f28
        obtain ⟨A30, n30, c30, rfl, h30⟩ := f30
        go_simp
        refine hK.out _ _ (Ex.alloc _ _) ⟨_, _, _, rfl, ?_⟩
        refine RdL.litW _ _ ?_ ?_
        · simp [size_plus]
        · exact .cons ⟨_, _, _, rfl, h28.rb⟩ (.cons ⟨_, _, _, rfl, h30.rb⟩ (.cons ⟨_, _, _, rfl, h9.plus_ _ _⟩ (.nil)))
      | 6, _, ho, hO, hD, hK => 
        obtain rfl := Option.some.inj ho.symm
        clear ho
        have f32 := hD 5 32 (by kernel_rfl)
        generalize eu32 : FA.eval (.tmp 32) = u32 at f32
        have e32 : FA.tmps[32]?.getD undef = u32 := by rw [← eu32]; simp [Act.eval]
        have ev32 := Lib.hid eu32
        clear eu32
        clear hO hD
        obtain ⟨A1, m1, c1, rfl, hl1⟩ := f32
        have hm1 : m1 ≤ 100 := by obtain ⟨_, _, h2, _⟩ := hl1; simp only [List.length_cons, List.length_nil] at h2; omega
        go_simp
        refine (refJoin_any A1 m1 c1 _ _ hl1 (by omega) HT2.out).mono ?_
        rintro e w1 ⟨A2, n2, c2, bs2, d2, rfl, rfl, ho2⟩
        exact hK.out _ _ (Ex.plus_ _ _ _) ⟨_, _, _, rfl, ho2.mono (by simp [size_plus]; omega)⟩
      | 7, _, ho, hO, hD, hK => 
        obtain rfl := Option.some.inj ho.symm
        clear ho
        have f33 := hD 6 33 (by kernel_rfl)
        generalize eu33 : FA.eval (.tmp 33) = u33 at f33
        have e33 : FA.tmps[33]?.getD undef = u33 := by rw [← eu33]; simp [Act.eval]
        have ev33 := Lib.hid eu33
        clear eu33
        clear hO hD
        go_simp
        exact hK.out _ _ (Ex.refl _) f33
      | (k + 8), hi, _, _, _, _ => exact absurd hi (by omega)
    intro vs x hp
    have p0 : vs 0 = .agg (adC true sh sl).toArray := hp 0 (by omega)
    have p1 := hp 1 (by omega)
    have p2 : vs 2 = .agg (adC d6 dh dl).toArray := hp 2 (by omega)
    have p3 := hp 3 (by omega)
    have p4 : vs 4 = .slice A9 n9 c9 := hp 4 (by omega)
    have p5 := hp 5 (by omega)
    have p6 := hp 6 (by omega)
    have p7 := hp 7 (by omega)
    clear hp
    simp only [List.take_succ_cons, List.take_zero, List.drop_succ_cons, List.drop_zero, putAll, Nat.zero_add, Nat.reduceAdd, Act.put, List.setIfInBounds_toArray, List.set_cons_zero, List.set_cons_succ, p0, p2, p4]
    clear p0 p2 p4
    generalize vs 1 = y1 at *
    generalize vs 3 = y3 at *
    generalize vs 5 = y5 at *
    generalize vs 6 = y6 at *
    generalize vs 7 = y7 at *
    clear vs
    obtain ⟨A10, n10, c10, rfl, h10⟩ := p7
    rw [show [adrB true sh sl, adrB d6 dh dl, (dig sz 4 ++ dig pr 4)].flatten = psdB true sh sl d6 dh dl pr sz from by simp [psdB]] at h10
    go_wp2
    go_ret
    exact RetB.mk h10 (belowP be _ _)

end Go.Proofs.Ytldecdeiibfekaa
