/- octet.Put without room; addr.Bytes, addr.Key. -/
import Derived.Test.YtfmkndemkpecpaaOctB
import Derived.Test.YtfmkndemkpecpaaMk
namespace Go.Proofs.Ytfmkndemkpecpaa
open Go.RowKit
set_option linter.unusedVariables false
set_option linter.unusedSimpArgs false
attribute [local go_sem ↓] sliced_cut
attribute [local go_sem] cutA_zero

/-- The call returns new bytes l without room, and changes nothing that was there. -/
def RetF (w : World) (l : List UInt8) (e : Ending) (w' : World) : Prop := ∃ A n bs d, e = .returned (.slice A n n) ∧ w' = plus w bs d ∧ Ob (plus w bs d) w.heap.size A n n l
theorem RetF.mk {w w' : World} {l : List UInt8} {A : Option Addr} {n : Nat} (ho : Ob w' w.heap.size A n n l) (hb : Below w.heap.size w w') : RetF w l (.returned (.slice A n n)) w' := by
  obtain ⟨bs, d, rfl⟩ := plus_of hb
  exact ⟨A, n, bs, d, rfl, rfl, ho⟩
theorem RetF.b {w w' : World} {l : List UInt8} {e : Ending} (h : RetF w l e w') : RetB w l e w' := by
  obtain ⟨A, n, bs, d, h1, h2, h3⟩ := h
  exact ⟨A, n, n, bs, d, h1, h2, h3⟩
theorem RetV.is_ {w w' : World} {v v' : Value} (hv : v' = v) (hb : Below w.heap.size w w') : RetV w v (.returned v') w' := by
  subst hv
  exact RetV.mk hb
/-- new bytes without room, in a block from base on -/
def MP.of (base : Nat) (l : List UInt8) : MP := ⟨fun v w => ∃ A n, v = .slice A n n ∧ Ob w base A n n l, fun _ _ _ ⟨A, n, h1, h2⟩ h => ⟨A, n, h1, h2.later h.below⟩⟩

set_option maxHeartbeats 800000 in
set_option maxRecDepth 100000 in
theorem put_full (A : Option Addr) (k c : Nat) (l : List UInt8) (n : Nat) (size : Nat) (w : World) (hr : Rb w A k c l) (hk : k ≤ 549755813888) (hn : n < 18446744073709551616) (hs0 : 1 ≤ size) (hs : size ≤ 8) :
    Calls Try.prog 127 #[.slice A k c, .int .u64 n, .int .i64 size] w (RetF w (l ++ dig n size)) := by
  go_enter Try.func127, Try.ntmps127
  go_wp2_with (first
    | (at_make; refine wpList_mk bt rfl (.tmp 14) rfl _ (k + size) rfl (by omega) (by omega) ?_; intro w1 hb1 hbe1 hs1)
    | (refine wpList_cpy 18 rfl bt rfl (.tmp 16) (.tmp 17) rfl rfl rfl w.heap.size 0 _ hb1 (.inr rfl) l (hr.later hbe1) (by omega) (by simp) w.heap.size w hbe1 (Nat.le_refl _) ?_; intro w2 hb2 hbe2)
    | (go_at_call 168; refine (digits_any _ w.heap.size k size _ (splice (List.replicate (k + size) (.int .u8 0)) 0 (bcs l)) n _ (.inr (by rw [cutA_some _ _ _ _ (by omega)]; simp)) hb2 (by rw [length_splice _ _ _ (by simp [bcs_length, hr.1])]; simp) (by omega) hn).mono ?_; rintro e w3 ⟨rfl, hb3, hg3⟩))
  go_ret
  rw [put_cells l n size k hr.1] at hb3
  exact RetF.mk (Ob.of_bk hb3 (Nat.le_refl _) (by simp [dig_length, hr.1]) (by simp [maxLen]; omega)) (hbe2.trans (below_of_grown hg3 hbe2.size (fun k hk => by injection hk with hk; omega)))

/-- the bytes of an address -/
def adrB (six : Bool) (ah al : Nat) : List UInt8 := if six then dig ah 8 ++ dig al 8 else dig al 4
theorem adrB_length (six : Bool) (ah al : Nat) : (adrB six ah al).length ≤ 16 := by cases six <;> simp [adrB, dig_length]
set_option maxHeartbeats 1000000 in
set_option maxRecDepth 100000 in
theorem adrBytes_any (six : Bool) (ah al : Nat) (w : World) (h1 : ah < 18446744073709551616) (h2 : al < 18446744073709551616) : Calls Try.prog 151 #[.agg #[.bool six, .int .u64 ah, .int .u64 al]] w (RetF w (adrB six ah al)) := by
  cases six
  · go_enter Try.func151, Try.ntmps151
    go_wp2_with (go_at_call 127; refine (put_full _ _ _ [] al 4 _ Rb.nil_ (by omega) (by omega) (by omega) (by omega)).mono ?_; rintro e w1 ⟨A2, n2, bs2, d2, rfl, rfl, ho2⟩)
    go_ret
    exact RetF.mk (by simpa [adrB] using ho2.mono (base' := w.heap.size) (by simp)) (belowP (Below.allocS (Below.refl _ _) _) _ _)
  · go_enter Try.func151, Try.ntmps151
    go_wp2
    refine wp_rel 7 14 rfl (by kernel_rfl) (by kernel_rfl) (fun i => match i with | 0 => MP.eq (.pointer (some ⟨w.heap.size, 1, none⟩)) | 1 => MP.eq (.int .u64 (ah : Int)) | 2 => MP.of w.heap.size (dig ah 8) | 3 => MP.eq (.pointer (some ⟨w.heap.size, 2, none⟩)) | 4 => MP.eq (.int .u64 (al : Int)) | 5 => MP.of w.heap.size (dig ah 8 ++ dig al 8) | 6 => MP.of w.heap.size (dig ah 8 ++ dig al 8) | _ => MP.any) ?_ ?_
    · intro i hi o ho FA x hO hD K hK
      match i, hi, ho, hO, hD, hK with
      | 0, _, ho, hO, hD, hK => 
        obtain rfl := Option.some.inj ho.symm
        clear ho
        have ev1 : FA.eval (.tmp 1) = .pointer (some ⟨w.heap.size, 0, none⟩) := hO 1 (by kernel_rfl)
        have e1 : FA.tmps[1]?.getD undef = .pointer (some ⟨w.heap.size, 0, none⟩) := by simpa [Act.eval] using ev1
        replace ev1 := Lib.hid ev1
        clear hO hD
        go_simp
        exact hK.out _ _ (Ex.refl _) rfl
      | 1, _, ho, hO, hD, hK => 
        obtain rfl := Option.some.inj ho.symm
        clear ho
        have ev5 : FA.eval (.tmp 5) = .pointer (some ⟨w.heap.size, 1, none⟩) := hD 0 5 (by kernel_rfl)
        have e5 : FA.tmps[5]?.getD undef = .pointer (some ⟨w.heap.size, 1, none⟩) := by simpa [Act.eval] using ev5
        replace ev5 := Lib.hid ev5
        clear hO hD
        go_simp
        exact hK.out _ _ (Ex.refl _) rfl
      | 2, _, ho, hO, hD, hK => 
        obtain rfl := Option.some.inj ho.symm
        clear ho
        have ev6 : FA.eval (.tmp 6) = .int .u64 (ah : Int) := hD 1 6 (by kernel_rfl)
        have e6 : FA.tmps[6]?.getD undef = .int .u64 (ah : Int) := by simpa [Act.eval] using ev6
        replace ev6 := Lib.hid ev6
        clear hO hD
        go_simp
        refine (put_full _ _ _ [] ah 8 _ Rb.nil_ (by omega) (by omega) (by omega) (by omega)).mono ?_
        rintro e w1 ⟨A2, n2, bs2, d2, rfl, rfl, ho2⟩
        exact hK.out _ _ (Ex.plus_ _ _ _) ⟨_, _, rfl, by simpa using ho2.mono (base' := w.heap.size) (by simp [size_plus]; omega)⟩
      | 3, _, ho, hO, hD, hK => 
        obtain rfl := Option.some.inj ho.symm
        clear ho
        have ev1 : FA.eval (.tmp 1) = .pointer (some ⟨w.heap.size, 0, none⟩) := hO 1 (by kernel_rfl)
        have e1 : FA.tmps[1]?.getD undef = .pointer (some ⟨w.heap.size, 0, none⟩) := by simpa [Act.eval] using ev1
        replace ev1 := Lib.hid ev1
        clear hO hD
        go_simp
        exact hK.out _ _ (Ex.refl _) rfl
      | 4, _, ho, hO, hD, hK => 
        obtain rfl := Option.some.inj ho.symm
        clear ho
        have ev8 : FA.eval (.tmp 8) = .pointer (some ⟨w.heap.size, 2, none⟩) := hD 3 8 (by kernel_rfl)
        have e8 : FA.tmps[8]?.getD undef = .pointer (some ⟨w.heap.size, 2, none⟩) := by simpa [Act.eval] using ev8
        replace ev8 := Lib.hid ev8
        clear hO hD
        go_simp
        exact hK.out _ _ (Ex.refl _) rfl
      | 5, _, ho, hO, hD, hK => 
        obtain rfl := Option.some.inj ho.symm
        clear ho
        have f7 := hD 2 7 (by kernel_rfl)
        generalize eu7 : FA.eval (.tmp 7) = u7 at f7
        have e7 : FA.tmps[7]?.getD undef = u7 := by rw [← eu7]; simp [Act.eval]
        have ev7 := Lib.hid eu7
        clear eu7
        have ev9 : FA.eval (.tmp 9) = .int .u64 (al : Int) := hD 4 9 (by kernel_rfl)
        have e9 : FA.tmps[9]?.getD undef = .int .u64 (al : Int) := by simpa [Act.eval] using ev9
        replace ev9 := Lib.hid ev9
        clear hO hD
        obtain ⟨A1, n1, rfl, hr1⟩ := f7
        have hn1 : n1 ≤ 100 := by rw [← hr1.1]; simp [dig_length]
        go_simp
        refine (put_full _ _ _ _ al 8 _ hr1.rb (by omega) (by omega) (by omega) (by omega)).mono ?_
        rintro e w1 ⟨A2, n2, bs2, d2, rfl, rfl, ho2⟩
        exact hK.out _ _ (Ex.plus_ _ _ _) ⟨_, _, rfl, by simpa using ho2.mono (base' := w.heap.size) (by simp [size_plus]; omega)⟩
      | 6, _, ho, hO, hD, hK => 
        obtain rfl := Option.some.inj ho.symm
        clear ho
        have f10 := hD 5 10 (by kernel_rfl)
        generalize eu10 : FA.eval (.tmp 10) = u10 at f10
        have e10 : FA.tmps[10]?.getD undef = u10 := by rw [← eu10]; simp [Act.eval]
        have ev10 := Lib.hid eu10
        clear eu10
        clear hO hD
        go_simp
        exact hK.out _ _ (Ex.refl _) f10
      | (k + 7), hi, _, _, _, _ => exact absurd hi (by omega)
    intro vs x hp
    have p0 : vs 0 = .pointer (some ⟨w.heap.size, 1, none⟩) := hp 0 (by omega)
    have p1 : vs 1 = .int .u64 (ah : Int) := hp 1 (by omega)
    have p2 := hp 2 (by omega)
    have p3 : vs 3 = .pointer (some ⟨w.heap.size, 2, none⟩) := hp 3 (by omega)
    have p4 : vs 4 = .int .u64 (al : Int) := hp 4 (by omega)
    have p5 := hp 5 (by omega)
    have p6 := hp 6 (by omega)
    clear hp
    simp only [List.take_succ_cons, List.take_zero, List.drop_succ_cons, List.drop_zero, putAll, Nat.zero_add, Nat.reduceAdd, Act.put, List.setIfInBounds_toArray, List.set_cons_zero, List.set_cons_succ, p0, p1, p3, p4]
    clear p0 p1 p3 p4
    generalize vs 2 = y2 at *
    generalize vs 5 = y5 at *
    generalize vs 6 = y6 at *
    clear vs
    obtain ⟨A5, n5, rfl, h5⟩ := p6
    go_wp2
    go_ret
    exact RetF.mk (by simpa [adrB] using h5) (belowP (Below.allocS (Below.refl _ _) _) _ _)

/-- the bytes of a flow -/
def flowB (s6 : Bool) (sh sl : Nat) (d6 : Bool) (dh dl sp dp pr : Nat) : List UInt8 := adrB s6 sh sl ++ adrB d6 dh dl ++ dig sp 2 ++ dig dp 2 ++ dig pr 1
end Go.Proofs.Ytfmkndemkpecpaa
