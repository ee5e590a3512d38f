/- ref03.Bytes, addr.Of, headers of IPv6: Right, Bytes. -/
import Derived.Test.YtfmkndemkpecpaaCom
import Derived.Test.YtfmkndemkpecpaaAddr
import Derived.Test.YtfmkndemkpecpaaJoi
import Derived.Test.YtfmkndemkpecpaaOwn
namespace Go.Proofs.Ytfmkndemkpecpaa
open Go.RowKit
set_option linter.unusedVariables false
set_option linter.unusedSimpArgs false
attribute [local go_sem ↓] sliced_cut
attribute [local go_sem] cutA_zero

/-- the bytes of a header; x0, x1: its first two bytes -/
def ip6R (x0 x1 lb ln nx ht : Nat) (s6 : Bool) (sh sl : Nat) (d6 : Bool) (dh dl : Nat) : List UInt8 := ([[UInt8.ofNat x0, UInt8.ofNat x1], (dig (lb) 2), (dig (ln) 2), [UInt8.ofNat (nx), UInt8.ofNat (ht)], (adrB s6 sh sl), (adrB d6 dh dl)]).flatten
set_option maxHeartbeats 4000000 in
set_option maxRecDepth 100000 in
theorem refIp6Bytes (cl lb : Nat) (ln : Nat) (nx ht : Nat) (s6 : Bool) (sh sl : Nat) (d6 : Bool) (dh dl : Nat) (w : World) (h1 : cl < 256) (h2 : lb < 1048576) (h3 : ln < 65536) (h4 : nx < 256) (h5 : ht < 256) (k1 : sh < 18446744073709551616) (k2 : sl < 18446744073709551616) (k3 : dh < 18446744073709551616) (k4 : dl < 18446744073709551616) : Calls Try.prog 131 #[.agg #[.int .u8 (cl : Int), .int .u32 (lb : Int), .int .i64 (ln : Int), .int .u8 (nx : Int), .int .u8 (ht : Int), .bool s6, .int .u64 (sh : Int), .int .u64 (sl : Int), .bool d6, .int .u64 (dh : Int), .int .u64 (dl : Int)]] w (RetB w (ip6R (96 + cl / 16) (cl % 16 * 16 + lb / 65536) lb ln nx ht s6 sh sl d6 dh dl)) := by
  have z1 := adrB_length s6 sh sl
  have z2 := adrB_length d6 dh dl
  obtain ⟨x0, hx0⟩ : ∃ x, x = 96 + cl / 16 := ⟨_, rfl⟩
  obtain ⟨x1, hx1⟩ : ∃ x, x = cl % 16 * 16 + lb / 65536 := ⟨_, rfl⟩
  rw [← hx0, ← hx1]
  have l0 : x0 < 256 := by omega
  have l1 : x1 < 256 := by omega
  have f0 : 96 + (cl : Int) / 16 = (x0 : Int) := by omega
  have f1 : (cl : Int) % 16 * 16 + (lb : Int) / 65536 = (x1 : Int) := by omega
  clear hx0 hx1
  have HT : ([[UInt8.ofNat x0, UInt8.ofNat x1], (dig (lb) 2), (dig (ln) 2), [UInt8.ofNat (nx), UInt8.ofNat (ht)], (adrB s6 sh sl), (adrB d6 dh dl)]).flatten.length ≤ 549755813888 := by simp [dig_length]; omega
  replace HT := Lib.hid HT
  have hr3 : Rb ((w.alloc (.cells #[.int .u8 (cl : Int), .int .u32 (lb : Int), .int .i64 (ln : Int), .int .u8 (nx : Int), .int .u8 (ht : Int), .bool s6, .int .u64 (sh : Int), .int .u64 (sl : Int), .bool d6, .int .u64 (dh : Int), .int .u64 (dl : Int)] 180)).alloc (.cells #[.int .u8 (x0 : Int), .int .u8 (x1 : Int)] 5)) (some ⟨w.heap.size + 1, 0, none⟩) 2 2 [UInt8.ofNat x0, UInt8.ofNat x1] := Rb.litW _ _ (by simp) rfl (by decide) (by simp [bcs]; omega)
  have be : Below w.heap.size w ((w.alloc (.cells #[.int .u8 (cl : Int), .int .u32 (lb : Int), .int .i64 (ln : Int), .int .u8 (nx : Int), .int .u8 (ht : Int), .bool s6, .int .u64 (sh : Int), .int .u64 (sl : Int), .bool d6, .int .u64 (dh : Int), .int .u64 (dl : Int)] 180)).alloc (.cells #[.int .u8 (x0 : Int), .int .u8 (x1 : Int)] 5)) := Below.allocS (Below.allocS (Below.refl _ _) _) _
  have g0 : IntKind.u64.wrap (lb : Int) = (lb : Int) := IntWalk.u64_in _ (by omega)
  have g1 : IntKind.u64.wrap (ln : Int) = (ln : Int) := IntWalk.u64_in _ (by omega)
  go_enter Try.func131, Try.ntmps131
  go_wp2
  refine wp_rel 23 44 rfl (by kernel_rfl) (by kernel_rfl) (fun i => match i with | 0 => MP.eq (.slice (some ⟨w.heap.size + 1, 0, none⟩) 2 2) | 1 => MP.eq (.pointer (some ⟨w.heap.size, 1, none⟩)) | 2 => MP.eq (.int .u32 (lb : Int)) | 3 => MP.eq (.int .u64 (lb : Int)) | 4 => MP.rb (dig (lb) 2) | 5 => MP.eq (.pointer (some ⟨w.heap.size, 2, none⟩)) | 6 => MP.eq (.int .i64 (ln : Int)) | 7 => MP.eq (.int .u64 (ln : Int)) | 8 => MP.rb (dig (ln) 2) | 9 => MP.eq (.pointer (some ⟨w.heap.size, 3, none⟩)) | 10 => MP.eq (.int .u8 (nx : Int)) | 11 => MP.eq (.pointer (some ⟨w.heap.size, 4, none⟩)) | 12 => MP.eq (.int .u8 (ht : Int)) | 13 => MP.rb [UInt8.ofNat (nx), UInt8.ofNat (ht)] | 14 => MP.eq (.pointer (some ⟨w.heap.size, 5, none⟩)) | 15 => MP.eq (.agg #[.bool s6, .int .u64 (sh : Int), .int .u64 (sl : Int)]) | 16 => MP.ob w.heap.size (adrB s6 sh sl) | 17 => MP.eq (.pointer (some ⟨w.heap.size, 8, none⟩)) | 18 => MP.eq (.agg #[.bool d6, .int .u64 (dh : Int), .int .u64 (dl : Int)]) | 19 => MP.ob w.heap.size (adrB d6 dh dl) | 20 => MP.rdl [[UInt8.ofNat x0, UInt8.ofNat x1], (dig (lb) 2), (dig (ln) 2), [UInt8.ofNat (nx), UInt8.ofNat (ht)], (adrB s6 sh sl), (adrB d6 dh dl)] | 21 => MP.ob w.heap.size ([[UInt8.ofNat x0, UInt8.ofNat x1], (dig (lb) 2), (dig (ln) 2), [UInt8.ofNat (nx), UInt8.ofNat (ht)], (adrB s6 sh sl), (adrB d6 dh dl)]).flatten | 22 => MP.ob w.heap.size ([[UInt8.ofNat x0, UInt8.ofNat x1], (dig (lb) 2), (dig (ln) 2), [UInt8.ofNat (nx), UInt8.ofNat (ht)], (adrB s6 sh sl), (adrB d6 dh dl)]).flatten | _ => MP.any) ?_ ?_
  · intro i hi o ho FA x hO hD K hK
    match i, hi, ho, hO, hD, hK with
    | 0, _, ho, hO, hD, hK => 
      obtain rfl := Option.some.inj ho.symm
      clear ho
      have ev3 : FA.eval (.tmp 3) = .slice (some ⟨w.heap.size + 1, 0, none⟩) 2 2 := hO 3 (by kernel_rfl)
      have e3 : FA.tmps[3]?.getD undef = .slice (some ⟨w.heap.size + 1, 0, none⟩) 2 2 := by simpa [Act.eval] using ev3
      replace ev3 := Lib.hid ev3
      clear hO hD
      go_simp
      exact hK.out _ _ (Ex.refl _) rfl
    | 1, _, ho, hO, hD, hK => 
      obtain rfl := Option.some.inj ho.symm
      clear ho
      have ev1 : FA.eval (.tmp 1) = .pointer (some ⟨w.heap.size, 0, none⟩) := hO 1 (by kernel_rfl)
      have e1 : FA.tmps[1]?.getD undef = .pointer (some ⟨w.heap.size, 0, none⟩) := by simpa [Act.eval] using ev1
      replace ev1 := Lib.hid ev1
      clear hO hD
      go_simp
      exact hK.out _ _ (Ex.refl _) rfl
    | 2, _, ho, hO, hD, hK => 
      obtain rfl := Option.some.inj ho.symm
      clear ho
      have ev23 : FA.eval (.tmp 23) = .pointer (some ⟨w.heap.size, 1, none⟩) := hD 1 23 (by kernel_rfl)
      have e23 : FA.tmps[23]?.getD undef = .pointer (some ⟨w.heap.size, 1, none⟩) := by simpa [Act.eval] using ev23
      replace ev23 := Lib.hid ev23
      clear hO hD
      go_simp
      exact hK.out _ _ (Ex.refl _) rfl
    | 3, _, ho, hO, hD, hK => 
      obtain rfl := Option.some.inj ho.symm
      clear ho
      have ev24 : FA.eval (.tmp 24) = .int .u32 (lb : Int) := hD 2 24 (by kernel_rfl)
      have e24 : FA.tmps[24]?.getD undef = .int .u32 (lb : Int) := by simpa [Act.eval] using ev24
      replace ev24 := Lib.hid ev24
      clear hO hD
      go_simp
      exact hK.out _ _ (Ex.refl _) rfl
    | 4, _, ho, hO, hD, hK => 
      obtain rfl := Option.some.inj ho.symm
      clear ho
      have ev25 : FA.eval (.tmp 25) = .int .u64 (lb : Int) := hD 3 25 (by kernel_rfl)
      have e25 : FA.tmps[25]?.getD undef = .int .u64 (lb : Int) := by simpa [Act.eval] using ev25
      replace ev25 := Lib.hid ev25
      clear hO hD
      go_simp
      refine (refBytes_any (lb) 2 _ (by omega) (by omega)).mono ?_
      rintro e w1 ⟨A2, n2, c2, bs2, d2, rfl, rfl, ho2⟩
      exact hK.out _ _ (Ex.plus_ _ _ _) ⟨_, _, _, rfl, ho2.rb⟩
    | 5, _, ho, hO, hD, hK => 
      obtain rfl := Option.some.inj ho.symm
      clear ho
      have ev1 : FA.eval (.tmp 1) = .pointer (some ⟨w.heap.size, 0, none⟩) := hO 1 (by kernel_rfl)
      have e1 : FA.tmps[1]?.getD undef = .pointer (some ⟨w.heap.size, 0, none⟩) := by simpa [Act.eval] using ev1
      replace ev1 := Lib.hid ev1
      clear hO hD
      go_simp
      exact hK.out _ _ (Ex.refl _) rfl
    | 6, _, ho, hO, hD, hK => 
      obtain rfl := Option.some.inj ho.symm
      clear ho
      have ev27 : FA.eval (.tmp 27) = .pointer (some ⟨w.heap.size, 2, none⟩) := hD 5 27 (by kernel_rfl)
      have e27 : FA.tmps[27]?.getD undef = .pointer (some ⟨w.heap.size, 2, none⟩) := by simpa [Act.eval] using ev27
      replace ev27 := Lib.hid ev27
      clear hO hD
      go_simp
      exact hK.out _ _ (Ex.refl _) rfl
    | 7, _, ho, hO, hD, hK => 
      obtain rfl := Option.some.inj ho.symm
      clear ho
      have ev28 : FA.eval (.tmp 28) = .int .i64 (ln : Int) := hD 6 28 (by kernel_rfl)
      have e28 : FA.tmps[28]?.getD undef = .int .i64 (ln : Int) := by simpa [Act.eval] using ev28
      replace ev28 := Lib.hid ev28
      clear hO hD
      go_simp
      exact hK.out _ _ (Ex.refl _) rfl
    | 8, _, ho, hO, hD, hK => 
      obtain rfl := Option.some.inj ho.symm
      clear ho
      have ev29 : FA.eval (.tmp 29) = .int .u64 (ln : Int) := hD 7 29 (by kernel_rfl)
      have e29 : FA.tmps[29]?.getD undef = .int .u64 (ln : Int) := by simpa [Act.eval] using ev29
      replace ev29 := Lib.hid ev29
      clear hO hD
      go_simp
      refine (refBytes_any (ln) 2 _ (by omega) (by omega)).mono ?_
      rintro e w1 ⟨A2, n2, c2, bs2, d2, rfl, rfl, ho2⟩
      exact hK.out _ _ (Ex.plus_ _ _ _) ⟨_, _, _, rfl, ho2.rb⟩
    | 9, _, ho, hO, hD, hK => 
      obtain rfl := Option.some.inj ho.symm
      clear ho
      have ev1 : FA.eval (.tmp 1) = .pointer (some ⟨w.heap.size, 0, none⟩) := hO 1 (by kernel_rfl)
      have e1 : FA.tmps[1]?.getD undef = .pointer (some ⟨w.heap.size, 0, none⟩) := by simpa [Act.eval] using ev1
      replace ev1 := Lib.hid ev1
      clear hO hD
      go_simp
      exact hK.out _ _ (Ex.refl _) rfl
    | 10, _, ho, hO, hD, hK => 
      obtain rfl := Option.some.inj ho.symm
      clear ho
      have ev31 : FA.eval (.tmp 31) = .pointer (some ⟨w.heap.size, 3, none⟩) := hD 9 31 (by kernel_rfl)
      have e31 : FA.tmps[31]?.getD undef = .pointer (some ⟨w.heap.size, 3, none⟩) := by simpa [Act.eval] using ev31
      replace ev31 := Lib.hid ev31
      clear hO hD
      go_simp
      exact hK.out _ _ (Ex.refl _) rfl
    | 11, _, ho, hO, hD, hK => 
      obtain rfl := Option.some.inj ho.symm
      clear ho
      have ev1 : FA.eval (.tmp 1) = .pointer (some ⟨w.heap.size, 0, none⟩) := hO 1 (by kernel_rfl)
      have e1 : FA.tmps[1]?.getD undef = .pointer (some ⟨w.heap.size, 0, none⟩) := by simpa [Act.eval] using ev1
      replace ev1 := Lib.hid ev1
      clear hO hD
      go_simp
      exact hK.out _ _ (Ex.refl _) rfl
    | 12, _, ho, hO, hD, hK => 
      obtain rfl := Option.some.inj ho.symm
      clear ho
      have ev33 : FA.eval (.tmp 33) = .pointer (some ⟨w.heap.size, 4, none⟩) := hD 11 33 (by kernel_rfl)
      have e33 : FA.tmps[33]?.getD undef = .pointer (some ⟨w.heap.size, 4, none⟩) := by simpa [Act.eval] using ev33
      replace ev33 := Lib.hid ev33
      clear hO hD
      go_simp
      exact hK.out _ _ (Ex.refl _) rfl
    | 13, _, ho, hO, hD, hK => 
      obtain rfl := Option.some.inj ho.symm
      clear ho
      have ev32 : FA.eval (.tmp 32) = .int .u8 (nx : Int) := hD 10 32 (by kernel_rfl)
      have e32 : FA.tmps[32]?.getD undef = .int .u8 (nx : Int) := by simpa [Act.eval] using ev32
      replace ev32 := Lib.hid ev32
      have ev34 : FA.eval (.tmp 34) = .int .u8 (ht : Int) := hD 12 34 (by kernel_rfl)
      have e34 : FA.tmps[34]?.getD undef = .int .u8 (ht : Int) := by simpa [Act.eval] using ev34
      replace ev34 := Lib.hid ev34
      clear hO hD
      go_simp
      refine hK.out _ _ (Ex.alloc _ _) ⟨_, _, _, rfl, ?_⟩
      refine Rb.litW _ [UInt8.ofNat (nx), UInt8.ofNat (ht)] ?_ rfl (by decide) ?_
      · simp [size_plus]
      · simp [bcs]; try omega
    | 14, _, ho, hO, hD, hK => 
      obtain rfl := Option.some.inj ho.symm
      clear ho
      have ev1 : FA.eval (.tmp 1) = .pointer (some ⟨w.heap.size, 0, none⟩) := hO 1 (by kernel_rfl)
      have e1 : FA.tmps[1]?.getD undef = .pointer (some ⟨w.heap.size, 0, none⟩) := by simpa [Act.eval] using ev1
      replace ev1 := Lib.hid ev1
      clear hO hD
      go_simp
      exact hK.out _ _ (Ex.refl _) rfl
    | 15, _, ho, hO, hD, hK => 
      obtain rfl := Option.some.inj ho.symm
      clear ho
      have ev36 : FA.eval (.tmp 36) = .pointer (some ⟨w.heap.size, 5, none⟩) := hD 14 36 (by kernel_rfl)
      have e36 : FA.tmps[36]?.getD undef = .pointer (some ⟨w.heap.size, 5, none⟩) := by simpa [Act.eval] using ev36
      replace ev36 := Lib.hid ev36
      clear hO hD
      go_simp
      exact hK.out _ _ (Ex.refl _) rfl
    | 16, _, ho, hO, hD, hK => 
      obtain rfl := Option.some.inj ho.symm
      clear ho
      have ev37 : FA.eval (.tmp 37) = .agg #[.bool s6, .int .u64 (sh : Int), .int .u64 (sl : Int)] := hD 15 37 (by kernel_rfl)
      have e37 : FA.tmps[37]?.getD undef = .agg #[.bool s6, .int .u64 (sh : Int), .int .u64 (sl : Int)] := by simpa [Act.eval] using ev37
      replace ev37 := Lib.hid ev37
      clear hO hD
      go_simp
      refine (refAdrBytes s6 sh sl _ (by omega) (by omega)).mono ?_
      rintro e w1 ⟨A2, n2, c2, bs2, d2, rfl, rfl, ho2⟩
      exact hK.out _ _ (Ex.plus_ _ _ _) ⟨_, _, _, rfl, ho2.mono (by have := be.size; simp [size_plus]; omega)⟩
    | 17, _, ho, hO, hD, hK => 
      obtain rfl := Option.some.inj ho.symm
      clear ho
      have ev1 : FA.eval (.tmp 1) = .pointer (some ⟨w.heap.size, 0, none⟩) := hO 1 (by kernel_rfl)
      have e1 : FA.tmps[1]?.getD undef = .pointer (some ⟨w.heap.size, 0, none⟩) := by simpa [Act.eval] using ev1
      replace ev1 := Lib.hid ev1
      clear hO hD
      go_simp
      exact hK.out _ _ (Ex.refl _) rfl
    | 18, _, ho, hO, hD, hK => 
      obtain rfl := Option.some.inj ho.symm
      clear ho
      have ev39 : FA.eval (.tmp 39) = .pointer (some ⟨w.heap.size, 8, none⟩) := hD 17 39 (by kernel_rfl)
      have e39 : FA.tmps[39]?.getD undef = .pointer (some ⟨w.heap.size, 8, none⟩) := by simpa [Act.eval] using ev39
      replace ev39 := Lib.hid ev39
      clear hO hD
      go_simp
      exact hK.out _ _ (Ex.refl _) rfl
    | 19, _, ho, hO, hD, hK => 
      obtain rfl := Option.some.inj ho.symm
      clear ho
      have ev40 : FA.eval (.tmp 40) = .agg #[.bool d6, .int .u64 (dh : Int), .int .u64 (dl : Int)] := hD 18 40 (by kernel_rfl)
      have e40 : FA.tmps[40]?.getD undef = .agg #[.bool d6, .int .u64 (dh : Int), .int .u64 (dl : Int)] := by simpa [Act.eval] using ev40
      replace ev40 := Lib.hid ev40
      clear hO hD
      go_simp
      refine (refAdrBytes d6 dh dl _ (by omega) (by omega)).mono ?_
      rintro e w1 ⟨A2, n2, c2, bs2, d2, rfl, rfl, ho2⟩
      exact hK.out _ _ (Ex.plus_ _ _ _) ⟨_, _, _, rfl, ho2.mono (by have := be.size; simp [size_plus]; omega)⟩
    | 20, _, ho, hO, hD, hK => 
      obtain rfl := Option.some.inj ho.symm
      clear ho
      have ev22 : FA.eval (.tmp 22) = .slice (some ⟨w.heap.size + 1, 0, none⟩) 2 2 := hD 0 22 (by kernel_rfl)
      have e22 : FA.tmps[22]?.getD undef = .slice (some ⟨w.heap.size + 1, 0, none⟩) 2 2 := by simpa [Act.eval] using ev22
      replace ev22 := Lib.hid ev22
      have f26 := hD 4 26 (by kernel_rfl)
      generalize eu26 : FA.eval (.tmp 26) = u26 at f26
      have e26 : FA.tmps[26]?.getD undef = u26 := by rw [← eu26]; simp [Act.eval]
      have ev26 := Lib.hid eu26
      clear eu26
      have f30 := hD 8 30 (by kernel_rfl)
      generalize eu30 : FA.eval (.tmp 30) = u30 at f30
      have e30 : FA.tmps[30]?.getD undef = u30 := by rw [← eu30]; simp [Act.eval]
      have ev30 := Lib.hid eu30
      clear eu30
      have f35 := hD 13 35 (by kernel_rfl)
      generalize eu35 : FA.eval (.tmp 35) = u35 at f35
      have e35 : FA.tmps[35]?.getD undef = u35 := by rw [← eu35]; simp [Act.eval]
      have ev35 := Lib.hid eu35
      clear eu35
      have f38 := hD 16 38 (by kernel_rfl)
      generalize eu38 : FA.eval (.tmp 38) = u38 at f38
      have e38 : FA.tmps[38]?.getD undef = u38 := by rw [← eu38]; simp [Act.eval]
      have ev38 := Lib.hid eu38
      clear eu38
      have f41 := hD 19 41 (by kernel_rfl)
      generalize eu41 : FA.eval (.tmp 41) = u41 at f41
      have e41 : FA.tmps[41]?.getD undef = u41 := by rw [← eu41]; simp [Act.eval]
      have ev41 := Lib.hid eu41
      clear eu41
      clear hO hD
      obtain ⟨A26, n26, c26, rfl, h26⟩ := f26
      obtain ⟨A30, n30, c30, rfl, h30⟩ := f30
      obtain ⟨A35, n35, c35, rfl, h35⟩ := f35
      obtain ⟨A38, n38, c38, rfl, h38⟩ := f38
      obtain ⟨A41, n41, c41, rfl, h41⟩ := f41
      go_simp
      refine hK.out _ _ (Ex.alloc _ _) ⟨_, _, _, rfl, ?_⟩
      refine RdL.litW _ _ ?_ ?_
      · simp [size_plus]
      · exact .cons ⟨_, _, _, rfl, hr3.plus_ _ _⟩ (.cons ⟨_, _, _, rfl, h26⟩ (.cons ⟨_, _, _, rfl, h30⟩ (.cons ⟨_, _, _, rfl, h35⟩ (.cons ⟨_, _, _, rfl, h38.rb⟩ (.cons ⟨_, _, _, rfl, h41.rb⟩ (.nil))))))
    | 21, _, ho, hO, hD, hK => 
      obtain rfl := Option.some.inj ho.symm
      clear ho
      have f42 := hD 20 42 (by kernel_rfl)
      generalize eu42 : FA.eval (.tmp 42) = u42 at f42
      have e42 : FA.tmps[42]?.getD undef = u42 := by rw [← eu42]; simp [Act.eval]
      have ev42 := Lib.hid eu42
      clear eu42
      clear hO hD
      obtain ⟨A1, m1, c1, rfl, hl1⟩ := f42
      have hm1 : m1 ≤ 100 := by obtain ⟨_, _, h2, _⟩ := hl1; simp only [List.length_cons, List.length_nil] at h2; omega
      go_simp
      refine (refJoin_any A1 m1 c1 _ _ hl1 (by omega) HT.out).mono ?_
      rintro e w1 ⟨A2, n2, c2, bs2, d2, rfl, rfl, ho2⟩
      exact hK.out _ _ (Ex.plus_ _ _ _) ⟨_, _, _, rfl, ho2.mono (by simp [size_plus]; omega)⟩
    | 22, _, ho, hO, hD, hK => 
      obtain rfl := Option.some.inj ho.symm
      clear ho
      have f43 := hD 21 43 (by kernel_rfl)
      generalize eu43 : FA.eval (.tmp 43) = u43 at f43
      have e43 : FA.tmps[43]?.getD undef = u43 := by rw [← eu43]; simp [Act.eval]
      have ev43 := Lib.hid eu43
      clear eu43
      clear hO hD
      go_simp
      exact hK.out _ _ (Ex.refl _) f43
    | (k + 23), hi, _, _, _, _ => exact absurd hi (by omega)
  intro vs x hp
  have p0 : vs 0 = .slice (some ⟨w.heap.size + 1, 0, none⟩) 2 2 := hp 0 (by omega)
  have p1 : vs 1 = .pointer (some ⟨w.heap.size, 1, none⟩) := hp 1 (by omega)
  have p2 : vs 2 = .int .u32 (lb : Int) := hp 2 (by omega)
  have p3 : vs 3 = .int .u64 (lb : Int) := hp 3 (by omega)
  have p4 := hp 4 (by omega)
  have p5 : vs 5 = .pointer (some ⟨w.heap.size, 2, none⟩) := hp 5 (by omega)
  have p6 : vs 6 = .int .i64 (ln : Int) := hp 6 (by omega)
  have p7 : vs 7 = .int .u64 (ln : Int) := hp 7 (by omega)
  have p8 := hp 8 (by omega)
  have p9 : vs 9 = .pointer (some ⟨w.heap.size, 3, none⟩) := hp 9 (by omega)
  have p10 : vs 10 = .int .u8 (nx : Int) := hp 10 (by omega)
  have p11 : vs 11 = .pointer (some ⟨w.heap.size, 4, none⟩) := hp 11 (by omega)
  have p12 : vs 12 = .int .u8 (ht : Int) := hp 12 (by omega)
  have p13 := hp 13 (by omega)
  have p14 : vs 14 = .pointer (some ⟨w.heap.size, 5, none⟩) := hp 14 (by omega)
  have p15 : vs 15 = .agg #[.bool s6, .int .u64 (sh : Int), .int .u64 (sl : Int)] := hp 15 (by omega)
  have p16 := hp 16 (by omega)
  have p17 : vs 17 = .pointer (some ⟨w.heap.size, 8, none⟩) := hp 17 (by omega)
  have p18 : vs 18 = .agg #[.bool d6, .int .u64 (dh : Int), .int .u64 (dl : Int)] := hp 18 (by omega)
  have p19 := hp 19 (by omega)
  have p20 := hp 20 (by omega)
  have p21 := hp 21 (by omega)
  have p22 := hp 22 (by omega)
  clear hp
  simp only [List.take_succ_cons, List.take_zero, List.drop_succ_cons, List.drop_zero, putAll, Nat.zero_add, Nat.reduceAdd, Act.put, List.setIfInBounds_toArray, List.set_cons_zero, List.set_cons_succ, p0, p1, p2, p3, p5, p6, p7, p9, p10, p11, p12, p14, p15, p17, p18]
  clear p0 p1 p2 p3 p5 p6 p7 p9 p10 p11 p12 p14 p15 p17 p18
  generalize vs 4 = y4 at *
  generalize vs 8 = y8 at *
  generalize vs 13 = y13 at *
  generalize vs 16 = y16 at *
  generalize vs 19 = y19 at *
  generalize vs 20 = y20 at *
  generalize vs 21 = y21 at *
  generalize vs 22 = y22 at *
  clear vs
  obtain ⟨A9, n9, c9, rfl, h9⟩ := p22
  go_wp2
  go_ret
  exact RetB.mk h9 (belowP be _ _)

def r6 (lb : Nat) (ln : Int) (s6 d6 : Bool) : Bool := decide (lb < 1048576) && (decide (0 ≤ ln) && (decide (ln < 65536) && (s6 && d6)))
theorem r6_true {lb : Nat} {ln : Int} {s6 d6 : Bool} : r6 lb ln s6 d6 = true ↔ lb < 1048576 ∧ 0 ≤ ln ∧ ln < 65536 ∧ s6 = true ∧ d6 = true := by
  simp [r6]
set_option maxHeartbeats 1000000 in
set_option maxRecDepth 100000 in
theorem ip6Right (cl lb : Nat) (ln : Int) (nx ht : Nat) (s6 : Bool) (sh sl : Nat) (d6 : Bool) (dh dl : Nat) (w : World) (hl : lb < 4294967296) (hi : -9223372036854775808 ≤ ln ∧ ln ≤ 9223372036854775807) : Calls Try.prog 125 #[.agg #[.int .u8 (cl : Int), .int .u32 (lb : Int), .int .i64 ln, .int .u8 (nx : Int), .int .u8 (ht : Int), .bool s6, .int .u64 (sh : Int), .int .u64 (sl : Int), .bool d6, .int .u64 (dh : Int), .int .u64 (dl : Int)]] w (RetV w (.bool (r6 lb ln s6 d6))) := by
  unfold r6
  by_cases c1 : lb < 1048576
  · have t1 : decide (lb ≤ 1048575) = true := by simp; omega
    by_cases c2 : 0 ≤ ln
    · have t2 : decide (0 ≤ ln) = true := by simpa using c2
      by_cases c3 : ln < 65536
      · have t3 : decide (ln ≤ 65535) = true := by simp; omega
        cases s6
        · go_enter Try.func125, Try.ntmps125
          go_wp2
          go_ret
          exact RetV.is_ (by simp) (Below.allocS (Below.refl _ _) _)
        · go_enter Try.func125, Try.ntmps125
          go_wp2
          go_ret
          exact RetV.is_ (by simp [c1, c2, c3]) (Below.allocS (Below.refl _ _) _)
      · have t3 : decide (ln ≤ 65535) = false := by simp; omega
        go_enter Try.func125, Try.ntmps125
        go_wp2
        go_ret
        exact RetV.is_ (by simp; intros; omega) (Below.allocS (Below.refl _ _) _)
    · have t2 : decide (0 ≤ ln) = false := by simpa using c2
      go_enter Try.func125, Try.ntmps125
      go_wp2
      go_ret
      exact RetV.is_ (by simp [c2]) (Below.allocS (Below.refl _ _) _)
  · have t1 : decide (lb ≤ 1048575) = false := by simp; omega
    go_enter Try.func125, Try.ntmps125
    go_wp2
    go_ret
    exact RetV.is_ (by simp [c1]) (Below.allocS (Below.refl _ _) _)
set_option maxHeartbeats 1000000 in
set_option maxRecDepth 100000 in
theorem refIp6Right (cl lb : Nat) (ln : Int) (nx ht : Nat) (s6 : Bool) (sh sl : Nat) (d6 : Bool) (dh dl : Nat) (w : World) (hl : lb < 4294967296) (hi : -9223372036854775808 ≤ ln ∧ ln ≤ 9223372036854775807) : Calls Try.prog 130 #[.agg #[.int .u8 (cl : Int), .int .u32 (lb : Int), .int .i64 ln, .int .u8 (nx : Int), .int .u8 (ht : Int), .bool s6, .int .u64 (sh : Int), .int .u64 (sl : Int), .bool d6, .int .u64 (dh : Int), .int .u64 (dl : Int)]] w (RetV w (.bool (r6 lb ln s6 d6))) := by
  unfold r6
  by_cases c1 : lb < 1048576
  · have t1 : decide ((lb : Int) < 1048576) = true := by simp; omega
    by_cases c2 : 0 ≤ ln
    · have t2 : decide (0 ≤ ln) = true := by simpa using c2
      by_cases c3 : ln < 65536
      · have t3 : decide (ln < 65536) = true := by simpa using c3
        cases s6
        · go_enter Try.func130, Try.ntmps130
          go_wp2
          go_ret
          exact RetV.is_ (by simp) (Below.allocS (Below.refl _ _) _)
        · go_enter Try.func130, Try.ntmps130
          go_wp2
          go_ret
          exact RetV.is_ (by simp [c1, c2, c3]) (Below.allocS (Below.refl _ _) _)
      · have t3 : decide (ln < 65536) = false := by simpa using c3
        go_enter Try.func130, Try.ntmps130
        go_wp2
        go_ret
        exact RetV.is_ (by simp [c3]) (Below.allocS (Below.refl _ _) _)
    · have t2 : decide (0 ≤ ln) = false := by simpa using c2
      go_enter Try.func130, Try.ntmps130
      go_wp2
      go_ret
      exact RetV.is_ (by simp [c2]) (Below.allocS (Below.refl _ _) _)
  · have t1 : decide ((lb : Int) < 1048576) = false := by simp; omega
    go_enter Try.func130, Try.ntmps130
    go_wp2
    go_ret
    exact RetV.is_ (by simp [c1]) (Below.allocS (Below.refl _ _) _)

/-- the bytes of a header -/
def ip6B (cl lb ln nx ht : Nat) (sh sl dh dl : Nat) : List UInt8 := dig (1610612736 + cl * 1048576 + lb) 4 ++ dig ln 2 ++ dig nx 1 ++ dig ht 1 ++ (dig sh 8 ++ dig sl 8) ++ (dig dh 8 ++ dig dl 8)
theorem ip6B_length (cl lb ln nx ht : Nat) (sh sl dh dl : Nat) : (ip6B cl lb ln nx ht sh sl dh dl).length = 40 := by simp [ip6B, dig_length]
theorem ip6R_B (cl lb ln nx ht : Nat) (sh sl dh dl : Nat) (h1 : cl < 256) (h2 : lb < 1048576) (h4 : nx < 256) (h5 : ht < 256) : ip6R (96 + cl / 16) (cl % 16 * 16 + lb / 65536) lb ln nx ht true sh sl true dh dl = ip6B cl lb ln nx ht sh sl dh dl := by
  have e : dig (1610612736 + cl * 1048576 + lb) 4 = [UInt8.ofNat (96 + cl / 16), UInt8.ofNat (cl % 16 * 16 + lb / 65536)] ++ dig lb 2 := by
    simp only [dig, List.nil_append, List.cons_append, List.append_assoc]
    rw [ofNat_eq ((1610612736 + cl * 1048576 + lb) / 256 / 256 / 256 % 256) (96 + cl / 16) (by omega), ofNat_eq ((1610612736 + cl * 1048576 + lb) / 256 / 256 % 256) (cl % 16 * 16 + lb / 65536) (by omega), ofNat_eq ((1610612736 + cl * 1048576 + lb) / 256 % 256) (lb / 256 % 256) (by omega), ofNat_eq ((1610612736 + cl * 1048576 + lb) % 256) (lb % 256) (by omega)]
  unfold ip6B ip6R
  rw [e, dig1 nx h4, dig1 ht h5]
  simp [adrB]
theorem first_or (cl lb : Nat) (h1 : cl < 256) (h2 : lb < 1048576) : bits .or .u64 (bits .or .u64 1610612736 ((cl : Int) * 1048576)) (lb : Int) = ((1610612736 + cl * 1048576 + lb : Nat) : Int) := by
  have e1 := u64_or_nat 1610612736 (cl * 1048576) (by omega) (by omega)
  rw [nat_join 28 1610612736 (cl * 1048576) (by decide) (by omega)] at e1
  have e1' : bits .or .u64 1610612736 ((cl : Int) * 1048576) = ((1610612736 + cl * 1048576 : Nat) : Int) := by simpa using e1
  rw [e1', u64_or_nat _ _ (by omega) (by omega), nat_join 20 _ _ (by omega) (by omega)]
set_option maxHeartbeats 4000000 in
set_option maxRecDepth 100000 in
theorem ip6Bytes_yes (cl lb ln nx ht : Nat) (sh sl dh dl : Nat) (w : World) (h1 : cl < 256) (h2 : lb < 1048576) (h3 : ln < 65536) (h4 : nx < 256) (h5 : ht < 256) (k1 : sh < 18446744073709551616) (k2 : sl < 18446744073709551616) (k3 : dh < 18446744073709551616) (k4 : dl < 18446744073709551616) : Calls Try.prog 126 #[.agg #[.int .u8 (cl : Int), .int .u32 (lb : Int), .int .i64 (ln : Int), .int .u8 (nx : Int), .int .u8 (ht : Int), .bool true, .int .u64 (sh : Int), .int .u64 (sl : Int), .bool true, .int .u64 (dh : Int), .int .u64 (dl : Int)]] w (RetB w (ip6B cl lb ln nx ht sh sl dh dl)) := by
  have HR := Lib.hid (fun w => ip6Right cl lb (ln : Int) nx ht true sh sl true dh dl w (by omega) (by omega))
  rw [show r6 lb (ln : Int) true true = true from r6_true.2 ⟨h2, by omega, by omega, rfl, rfl⟩] at HR
  have HO := first_or cl lb h1 h2
  have hX : 1610612736 + cl * 1048576 + lb < 18446744073709551616 := by omega
  unfold ip6B
  generalize 1610612736 + cl * 1048576 + lb = X at *
  go_enter Try.func126, Try.ntmps126
  go_wp2_with fail
  refine (HR.out _).mono ?_
  rintro e w1 ⟨bs0, m0, rfl, rfl⟩
  go_wp2_with fail
  refine (put_full _ _ _ [] X 4 _ Rb.nil_ (by omega) (by omega) (by omega) (by omega)).mono ?_
  rintro e w1 ⟨A1, n1, bs1, m1, rfl, rfl, ho1⟩
  have l1 : n1 ≤ 100 := by rw [← ho1.1]; simp [dig_length]
  go_wp2_with fail
  refine (put_full _ _ _ _ ln 2 _ ho1.rb (by omega) (by omega) (by omega) (by omega)).mono ?_
  rintro e w1 ⟨A2, n2, bs2, m2, rfl, rfl, ho2⟩
  have l2 : n2 ≤ 100 := by rw [← ho2.1]; simp [dig_length]
  go_wp2_with fail
  refine (put_full _ _ _ _ nx 1 _ ho2.rb (by omega) (by omega) (by omega) (by omega)).mono ?_
  rintro e w1 ⟨A3, n3, bs3, m3, rfl, rfl, ho3⟩
  have l3 : n3 ≤ 100 := by rw [← ho3.1]; simp [dig_length]
  go_wp2_with fail
  refine (put_full _ _ _ _ ht 1 _ ho3.rb (by omega) (by omega) (by omega) (by omega)).mono ?_
  rintro e w1 ⟨A4, n4, bs4, m4, rfl, rfl, ho4⟩
  have l4 : n4 ≤ 100 := by rw [← ho4.1]; simp [dig_length]
  go_wp2_with fail
  refine (adrBytes_any true sh sl _ k1 k2).mono ?_
  rintro e w1 ⟨A5, n5, bs5, m5, rfl, rfl, ho5⟩
  have l5 : n5 ≤ 100 := by rw [← ho5.1]; have := adrB_length true sh sl; omega
  go_wp2_with (at_builtin; refine wpList_appP _ bt rfl (.tmp 32) (.tmp 35) rfl (by exact belowP (below_plus _ bs4 m4) bs5 m5) rfl (ho4.plus_ bs5 m5) rfl ho5.rb (by omega) ?_; intro A6 n6 k6 bs6 m6 ho6 hg6)
  have l6 : n6 ≤ 300 := by rw [← ho6.1]; have := adrB_length true sh sl; simp [dig_length]; omega
  refine (adrBytes_any true dh dl _ k3 k4).mono ?_
  rintro e w1 ⟨A7, n7, bs7, m7, rfl, rfl, ho7⟩
  have l7 : n7 ≤ 100 := by rw [← ho7.1]; have := adrB_length true dh dl; omega
  go_wp2_with (at_builtin; refine wpList_appP _ bt rfl (.tmp 37) (.tmp 40) rfl (by exact belowP (below_plus _ bs6 m6) bs7 m7) rfl (ho6.plus_ bs7 m7) rfl ho7.rb (by omega) ?_; intro A8 n8 k8 bs8 m8 ho8 hg8)
  go_ret
  refine RetB.mk ?_ (belowP (belowP (belowP (belowP (belowP (Below.allocS (Below.refl _ _) _) _ _) _ _) _ _) _ _) _ _)
  simpa [adrB] using ho8.mono (base' := w.heap.size) (by simp [size_plus]; omega)
set_option maxRecDepth 100000 in
theorem ip6Bytes_no (cl lb : Nat) (ln : Int) (nx ht : Nat) (s6 : Bool) (sh sl : Nat) (d6 : Bool) (dh dl : Nat) (w : World) (hl : lb < 4294967296) (hi : -9223372036854775808 ≤ ln ∧ ln ≤ 9223372036854775807) (hr : r6 lb ln s6 d6 = false) : Calls Try.prog 126 #[.agg #[.int .u8 (cl : Int), .int .u32 (lb : Int), .int .i64 ln, .int .u8 (nx : Int), .int .u8 (ht : Int), .bool s6, .int .u64 (sh : Int), .int .u64 (sl : Int), .bool d6, .int .u64 (dh : Int), .int .u64 (dl : Int)]] w (RetV w (.slice none 0 0)) := by
  have HR := Lib.hid (fun w => ip6Right cl lb ln nx ht s6 sh sl d6 dh dl w hl hi)
  rw [hr] at HR
  go_enter Try.func126, Try.ntmps126
  go_wp2_with (go_at_call 125; refine (HR.out _).mono ?_; rintro e w1 ⟨bs1, d1, rfl, rfl⟩)
  go_ret
  exact RetV.mk (belowP (Below.allocS (Below.refl _ _) _) _ _)
end Go.Proofs.Ytfmkndemkpecpaa
