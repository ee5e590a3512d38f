/- Headers of IPv4: the reference's Bytes. -/
import Derived.Test.YtfmkndemkpecpaaIp4D
namespace Go.Proofs.Ytfmkndemkpecpaa
open Go.RowKit
set_option linter.unusedVariables false
set_option linter.unusedSimpArgs false
attribute [local go_sem ↓] sliced_cut
attribute [local go_sem] cutA_zero

/-- the bytes of a header, the checksum 0; x0: its first byte -/
def ip4R (x0 ts ln id p tl pr : Nat) (s6 : Bool) (sh sl : Nat) (d6 : Bool) (dh dl : Nat) (o : List UInt8) : List UInt8 := ([[UInt8.ofNat x0, UInt8.ofNat ts], (dig (ln) 2), (dig (id) 2), (dig (p) 2), [UInt8.ofNat (tl), UInt8.ofNat (pr), UInt8.ofNat (0), UInt8.ofNat (0)], (adrB s6 sh sl), (adrB d6 dh dl), o]).flatten
theorem ip4R_B (ts ln id p tl pr sl dl : Nat) (o : List UInt8) (h1 : o.length ≤ 40) (b1 : ts < 256) (b3 : tl < 256) (b4 : pr < 256) : ip4R (69 + o.length / 4) ts ln id p tl pr false 0 sl false 0 dl o = ip4B ts ln id p tl pr 0 sl dl o := by
  unfold ip4R ip4B
  rw [dig1 _ (show 69 + o.length / 4 < 256 by omega), dig1 ts b1, dig1 tl b3, dig1 pr b4]
  simp [adrB, dig]
set_option maxHeartbeats 4000000 in
set_option maxRecDepth 100000 in
theorem refIp4Bytes_nn (ts ln id : Nat) (fo tl pr sm : Nat) (s6 : Bool) (sh sl : Nat) (d6 : Bool) (dh dl : Nat) (A : Option Addr) (n k : Nat) (o : List UInt8) (w : World) (hr : Rb w A n k o) (b1 : ts < 256) (b2 : id < 65536) (b3 : tl < 256) (b4 : pr < 256) (k1 : sh < 18446744073709551616) (k2 : sl < 18446744073709551616) (k3 : dh < 18446744073709551616) (k4 : dl < 18446744073709551616) (c1 : n ≤ 40) (c4 : ln ≤ 65535) (c5 : fo ≤ 8191) : Calls Try.prog 133 #[.agg (h4C ts (ln : Int) id false false (fo : Int) tl pr sm s6 sh sl d6 dh dl A n k).toArray] w (RetB w (setB (ip4R (69 + o.length / 4) ts ln id (pl4 false false fo) tl pr s6 sh sl d6 dh dl o) 10 (dig (65535 - fd (tot false (ip4R (69 + o.length / 4) ts ln id (pl4 false false fo) tl pr s6 sh sl d6 dh dl o))) 2))) := by
  have z1 := adrB_length s6 sh sl
  have z2 := adrB_length d6 dh dl
  obtain ⟨p, hp⟩ : ∃ p : Nat, p = fo + 0 := ⟨_, rfl⟩
  have hpl : pl4 false false fo = p := by simp [pl4]; omega
  obtain ⟨q, hq⟩ : ∃ q : Nat, q = n / 4 := ⟨_, rfl⟩
  obtain ⟨x0, hx⟩ : ∃ x : Nat, x = 69 + q := ⟨_, rfl⟩
  have e0 : (n : Int).tdiv 4 = (q : Int) := by rw [Int.tdiv_eq_ediv_of_nonneg (by omega)]; omega
  have e1 : IntKind.i64.wrap (q : Int) = (q : Int) := IntWalk.i64_in _ (by omega)
  have e2 : IntKind.i64.wrap (69 + (q : Int)) = (x0 : Int) := by rw [IntWalk.i64_in _ (by omega)]; omega
  have e3 : IntKind.u8.wrap (x0 : Int) = (x0 : Int) := IntWalk.u8_in _ (by omega)
  have l0 : x0 < 256 := by omega
  have lp : p < 65536 := by omega
  have fp : IntKind.u64.wrap (fo : Int) = (p : Int) := by rw [IntWalk.u64_in _ (by omega)]; omega
  rw [hpl, show 69 + o.length / 4 = x0 from by rw [hr.1]; omega]
  have HT : ([[UInt8.ofNat x0, UInt8.ofNat ts], (dig (ln) 2), (dig (id) 2), (dig (p) 2), [UInt8.ofNat (tl), UInt8.ofNat (pr), UInt8.ofNat (0), UInt8.ofNat (0)], (adrB s6 sh sl), (adrB d6 dh dl), o]).flatten.length ≤ 549755813888 := by simp [dig_length, hr.1]; omega
  have HL : (ip4R x0 ts ln id p tl pr s6 sh sl d6 dh dl o).length ≤ 1000 := by simp [ip4R, dig_length, hr.1]; omega
  have HL2 : 12 ≤ (ip4R x0 ts ln id p tl pr s6 sh sl d6 dh dl o).length := by simp [ip4R, dig_length, hr.1]; omega
  clear hpl hp hq hx
  replace HT := Lib.hid HT
  have hr3 : Rb ((w.alloc (.cells #[.int .u8 (ts : Int), .int .i64 (ln : Int), .int .u16 (id : Int), .bool false, .bool false, .int .i64 (fo : Int), .int .u8 (tl : Int), .int .u8 (pr : Int), .int .u16 (sm : Int), .bool s6, .int .u64 (sh : Int), .int .u64 (sl : Int), .bool d6, .int .u64 (dh : Int), .int .u64 (dl : Int), .slice A n k] 184)).alloc (.cells #[.int .u8 (x0 : Int), .int .u8 (ts : Int)] 5)) (some ⟨w.heap.size + 1, 0, none⟩) 2 2 [UInt8.ofNat x0, UInt8.ofNat ts] := Rb.litW _ _ (by simp) rfl (by decide) (by simp [bcs]; omega)
  have hr4 : Rb ((w.alloc (.cells #[.int .u8 (ts : Int), .int .i64 (ln : Int), .int .u16 (id : Int), .bool false, .bool false, .int .i64 (fo : Int), .int .u8 (tl : Int), .int .u8 (pr : Int), .int .u16 (sm : Int), .bool s6, .int .u64 (sh : Int), .int .u64 (sl : Int), .bool d6, .int .u64 (dh : Int), .int .u64 (dl : Int), .slice A n k] 184)).alloc (.cells #[.int .u8 (x0 : Int), .int .u8 (ts : Int)] 5)) A n k o := (hr.alloc _).alloc _
  have be : Below w.heap.size w ((w.alloc (.cells #[.int .u8 (ts : Int), .int .i64 (ln : Int), .int .u16 (id : Int), .bool false, .bool false, .int .i64 (fo : Int), .int .u8 (tl : Int), .int .u8 (pr : Int), .int .u16 (sm : Int), .bool s6, .int .u64 (sh : Int), .int .u64 (sl : Int), .bool d6, .int .u64 (dh : Int), .int .u64 (dl : Int), .slice A n k] 184)).alloc (.cells #[.int .u8 (x0 : Int), .int .u8 (ts : Int)] 5)) := Below.allocS (Below.allocS (Below.refl _ _) _) _
  have g0 : IntKind.u64.wrap (ln : Int) = (ln : Int) := IntWalk.u64_in _ (by omega)
  have g1 : IntKind.u64.wrap (id : Int) = (id : Int) := IntWalk.u64_in _ (by omega)
  unfold h4C
  go_enter Try.func133, Try.ntmps133
  go_wp2
  refine wp_rel 26 57 rfl (by kernel_rfl) (by kernel_rfl) (fun i => match i with | 0 => MP.eq (.slice (some ⟨w.heap.size + 1, 0, none⟩) 2 2) | 1 => MP.eq (.pointer (some ⟨w.heap.size, 1, none⟩)) | 2 => MP.eq (.int .i64 (ln : Int)) | 3 => MP.eq (.int .u64 (ln : Int)) | 4 => MP.rb (dig (ln) 2) | 5 => MP.eq (.pointer (some ⟨w.heap.size, 2, none⟩)) | 6 => MP.eq (.int .u16 (id : Int)) | 7 => MP.eq (.int .u64 (id : Int)) | 8 => MP.rb (dig (id) 2) | 9 => MP.eq (.int .u64 (p : Int)) | 10 => MP.rb (dig (p) 2) | 11 => MP.eq (.pointer (some ⟨w.heap.size, 6, none⟩)) | 12 => MP.eq (.int .u8 (tl : Int)) | 13 => MP.eq (.pointer (some ⟨w.heap.size, 7, none⟩)) | 14 => MP.eq (.int .u8 (pr : Int)) | 15 => MP.rb [UInt8.ofNat (tl), UInt8.ofNat (pr), UInt8.ofNat (0), UInt8.ofNat (0)] | 16 => MP.eq (.pointer (some ⟨w.heap.size, 9, none⟩)) | 17 => MP.eq (.agg #[.bool s6, .int .u64 (sh : Int), .int .u64 (sl : Int)]) | 18 => MP.ob w.heap.size (adrB s6 sh sl) | 19 => MP.eq (.pointer (some ⟨w.heap.size, 12, none⟩)) | 20 => MP.eq (.agg #[.bool d6, .int .u64 (dh : Int), .int .u64 (dl : Int)]) | 21 => MP.ob w.heap.size (adrB d6 dh dl) | 22 => MP.eq (.pointer (some ⟨w.heap.size, 15, none⟩)) | 23 => MP.eq (.slice A n k) | 24 => MP.rdl [[UInt8.ofNat x0, UInt8.ofNat ts], (dig (ln) 2), (dig (id) 2), (dig (p) 2), [UInt8.ofNat (tl), UInt8.ofNat (pr), UInt8.ofNat (0), UInt8.ofNat (0)], (adrB s6 sh sl), (adrB d6 dh dl), o] | 25 => MP.ob w.heap.size ([[UInt8.ofNat x0, UInt8.ofNat ts], (dig (ln) 2), (dig (id) 2), (dig (p) 2), [UInt8.ofNat (tl), UInt8.ofNat (pr), UInt8.ofNat (0), UInt8.ofNat (0)], (adrB s6 sh sl), (adrB d6 dh dl), o]).flatten | _ => MP.any) ?_ ?_
  · intro i hi o ho FA x hO hD K hK
    match i, hi, ho, hO, hD, hK with
    | 0, _, ho, hO, hD, hK => 
      obtain rfl := Option.some.inj ho.symm
      clear ho
      have ev4 : FA.eval (.tmp 4) = .slice (some ⟨w.heap.size + 1, 0, none⟩) 2 2 := hO 4 (by kernel_rfl)
      have e4 : FA.tmps[4]?.getD undef = .slice (some ⟨w.heap.size + 1, 0, none⟩) 2 2 := by simpa [Act.eval] using ev4
      replace ev4 := Lib.hid ev4
      clear hO hD
      go_simp
      exact hK.out _ _ (Ex.refl _) rfl
    | 1, _, ho, hO, hD, hK => 
      obtain rfl := Option.some.inj ho.symm
      clear ho
      have ev1 : FA.eval (.tmp 1) = .pointer (some ⟨w.heap.size, 0, none⟩) := hO 1 (by kernel_rfl)
      have e1 : FA.tmps[1]?.getD undef = .pointer (some ⟨w.heap.size, 0, none⟩) := by simpa [Act.eval] using ev1
      replace ev1 := Lib.hid ev1
      clear hO hD
      go_simp
      exact hK.out _ _ (Ex.refl _) rfl
    | 2, _, ho, hO, hD, hK => 
      obtain rfl := Option.some.inj ho.symm
      clear ho
      have ev26 : FA.eval (.tmp 26) = .pointer (some ⟨w.heap.size, 1, none⟩) := hD 1 26 (by kernel_rfl)
      have e26 : FA.tmps[26]?.getD undef = .pointer (some ⟨w.heap.size, 1, none⟩) := by simpa [Act.eval] using ev26
      replace ev26 := Lib.hid ev26
      clear hO hD
      go_simp
      exact hK.out _ _ (Ex.refl _) rfl
    | 3, _, ho, hO, hD, hK => 
      obtain rfl := Option.some.inj ho.symm
      clear ho
      have ev27 : FA.eval (.tmp 27) = .int .i64 (ln : Int) := hD 2 27 (by kernel_rfl)
      have e27 : FA.tmps[27]?.getD undef = .int .i64 (ln : Int) := by simpa [Act.eval] using ev27
      replace ev27 := Lib.hid ev27
      clear hO hD
      go_simp
      exact hK.out _ _ (Ex.refl _) rfl
    | 4, _, ho, hO, hD, hK => 
      obtain rfl := Option.some.inj ho.symm
      clear ho
      have ev28 : FA.eval (.tmp 28) = .int .u64 (ln : Int) := hD 3 28 (by kernel_rfl)
      have e28 : FA.tmps[28]?.getD undef = .int .u64 (ln : Int) := by simpa [Act.eval] using ev28
      replace ev28 := Lib.hid ev28
      clear hO hD
      go_simp
      refine (refBytes_any (ln) 2 _ (by omega) (by omega)).mono ?_
      rintro e w1 ⟨A2, n2, c2, bs2, d2, rfl, rfl, ho2⟩
      exact hK.out _ _ (Ex.plus_ _ _ _) ⟨_, _, _, rfl, ho2.rb⟩
    | 5, _, ho, hO, hD, hK => 
      obtain rfl := Option.some.inj ho.symm
      clear ho
      have ev1 : FA.eval (.tmp 1) = .pointer (some ⟨w.heap.size, 0, none⟩) := hO 1 (by kernel_rfl)
      have e1 : FA.tmps[1]?.getD undef = .pointer (some ⟨w.heap.size, 0, none⟩) := by simpa [Act.eval] using ev1
      replace ev1 := Lib.hid ev1
      clear hO hD
      go_simp
      exact hK.out _ _ (Ex.refl _) rfl
    | 6, _, ho, hO, hD, hK => 
      obtain rfl := Option.some.inj ho.symm
      clear ho
      have ev30 : FA.eval (.tmp 30) = .pointer (some ⟨w.heap.size, 2, none⟩) := hD 5 30 (by kernel_rfl)
      have e30 : FA.tmps[30]?.getD undef = .pointer (some ⟨w.heap.size, 2, none⟩) := by simpa [Act.eval] using ev30
      replace ev30 := Lib.hid ev30
      clear hO hD
      go_simp
      exact hK.out _ _ (Ex.refl _) rfl
    | 7, _, ho, hO, hD, hK => 
      obtain rfl := Option.some.inj ho.symm
      clear ho
      have ev31 : FA.eval (.tmp 31) = .int .u16 (id : Int) := hD 6 31 (by kernel_rfl)
      have e31 : FA.tmps[31]?.getD undef = .int .u16 (id : Int) := by simpa [Act.eval] using ev31
      replace ev31 := Lib.hid ev31
      clear hO hD
      go_simp
      exact hK.out _ _ (Ex.refl _) rfl
    | 8, _, ho, hO, hD, hK => 
      obtain rfl := Option.some.inj ho.symm
      clear ho
      have ev32 : FA.eval (.tmp 32) = .int .u64 (id : Int) := hD 7 32 (by kernel_rfl)
      have e32 : FA.tmps[32]?.getD undef = .int .u64 (id : Int) := by simpa [Act.eval] using ev32
      replace ev32 := Lib.hid ev32
      clear hO hD
      go_simp
      refine (refBytes_any (id) 2 _ (by omega) (by omega)).mono ?_
      rintro e w1 ⟨A2, n2, c2, bs2, d2, rfl, rfl, ho2⟩
      exact hK.out _ _ (Ex.plus_ _ _ _) ⟨_, _, _, rfl, ho2.rb⟩
    | 9, _, ho, hO, hD, hK => 
      obtain rfl := Option.some.inj ho.symm
      clear ho
      have ev3 : FA.eval (.tmp 3) = .int .u64 (p : Int) := hO 3 (by kernel_rfl)
      have e3 : FA.tmps[3]?.getD undef = .int .u64 (p : Int) := by simpa [Act.eval] using ev3
      replace ev3 := Lib.hid ev3
      clear hO hD
      go_simp
      exact hK.out _ _ (Ex.refl _) rfl
    | 10, _, ho, hO, hD, hK => 
      obtain rfl := Option.some.inj ho.symm
      clear ho
      have ev34 : FA.eval (.tmp 34) = .int .u64 (p : Int) := hD 9 34 (by kernel_rfl)
      have e34 : FA.tmps[34]?.getD undef = .int .u64 (p : Int) := by simpa [Act.eval] using ev34
      replace ev34 := Lib.hid ev34
      clear hO hD
      go_simp
      refine (refBytes_any (p) 2 _ (by omega) (by omega)).mono ?_
      rintro e w1 ⟨A2, n2, c2, bs2, d2, rfl, rfl, ho2⟩
      exact hK.out _ _ (Ex.plus_ _ _ _) ⟨_, _, _, rfl, ho2.rb⟩
    | 11, _, ho, hO, hD, hK => 
      obtain rfl := Option.some.inj ho.symm
      clear ho
      have ev1 : FA.eval (.tmp 1) = .pointer (some ⟨w.heap.size, 0, none⟩) := hO 1 (by kernel_rfl)
      have e1 : FA.tmps[1]?.getD undef = .pointer (some ⟨w.heap.size, 0, none⟩) := by simpa [Act.eval] using ev1
      replace ev1 := Lib.hid ev1
      clear hO hD
      go_simp
      exact hK.out _ _ (Ex.refl _) rfl
    | 12, _, ho, hO, hD, hK => 
      obtain rfl := Option.some.inj ho.symm
      clear ho
      have ev36 : FA.eval (.tmp 36) = .pointer (some ⟨w.heap.size, 6, none⟩) := hD 11 36 (by kernel_rfl)
      have e36 : FA.tmps[36]?.getD undef = .pointer (some ⟨w.heap.size, 6, none⟩) := by simpa [Act.eval] using ev36
      replace ev36 := Lib.hid ev36
      clear hO hD
      go_simp
      exact hK.out _ _ (Ex.refl _) rfl
    | 13, _, ho, hO, hD, hK => 
      obtain rfl := Option.some.inj ho.symm
      clear ho
      have ev1 : FA.eval (.tmp 1) = .pointer (some ⟨w.heap.size, 0, none⟩) := hO 1 (by kernel_rfl)
      have e1 : FA.tmps[1]?.getD undef = .pointer (some ⟨w.heap.size, 0, none⟩) := by simpa [Act.eval] using ev1
      replace ev1 := Lib.hid ev1
      clear hO hD
      go_simp
      exact hK.out _ _ (Ex.refl _) rfl
    | 14, _, ho, hO, hD, hK => 
      obtain rfl := Option.some.inj ho.symm
      clear ho
      have ev38 : FA.eval (.tmp 38) = .pointer (some ⟨w.heap.size, 7, none⟩) := hD 13 38 (by kernel_rfl)
      have e38 : FA.tmps[38]?.getD undef = .pointer (some ⟨w.heap.size, 7, none⟩) := by simpa [Act.eval] using ev38
      replace ev38 := Lib.hid ev38
      clear hO hD
      go_simp
      exact hK.out _ _ (Ex.refl _) rfl
    | 15, _, ho, hO, hD, hK => 
      obtain rfl := Option.some.inj ho.symm
      clear ho
      have ev37 : FA.eval (.tmp 37) = .int .u8 (tl : Int) := hD 12 37 (by kernel_rfl)
      have e37 : FA.tmps[37]?.getD undef = .int .u8 (tl : Int) := by simpa [Act.eval] using ev37
      replace ev37 := Lib.hid ev37
      have ev39 : FA.eval (.tmp 39) = .int .u8 (pr : Int) := hD 14 39 (by kernel_rfl)
      have e39 : FA.tmps[39]?.getD undef = .int .u8 (pr : Int) := by simpa [Act.eval] using ev39
      replace ev39 := Lib.hid ev39
      clear hO hD
      go_simp
      refine hK.out _ _ (Ex.alloc _ _) ⟨_, _, _, rfl, ?_⟩
      refine Rb.litW _ [UInt8.ofNat (tl), UInt8.ofNat (pr), UInt8.ofNat (0), UInt8.ofNat (0)] ?_ rfl (by decide) ?_
      · simp [size_plus]
      · simp [bcs]; try omega
    | 16, _, ho, hO, hD, hK => 
      obtain rfl := Option.some.inj ho.symm
      clear ho
      have ev1 : FA.eval (.tmp 1) = .pointer (some ⟨w.heap.size, 0, none⟩) := hO 1 (by kernel_rfl)
      have e1 : FA.tmps[1]?.getD undef = .pointer (some ⟨w.heap.size, 0, none⟩) := by simpa [Act.eval] using ev1
      replace ev1 := Lib.hid ev1
      clear hO hD
      go_simp
      exact hK.out _ _ (Ex.refl _) rfl
    | 17, _, ho, hO, hD, hK => 
      obtain rfl := Option.some.inj ho.symm
      clear ho
      have ev41 : FA.eval (.tmp 41) = .pointer (some ⟨w.heap.size, 9, none⟩) := hD 16 41 (by kernel_rfl)
      have e41 : FA.tmps[41]?.getD undef = .pointer (some ⟨w.heap.size, 9, none⟩) := by simpa [Act.eval] using ev41
      replace ev41 := Lib.hid ev41
      clear hO hD
      go_simp
      exact hK.out _ _ (Ex.refl _) rfl
    | 18, _, ho, hO, hD, hK => 
      obtain rfl := Option.some.inj ho.symm
      clear ho
      have ev42 : FA.eval (.tmp 42) = .agg #[.bool s6, .int .u64 (sh : Int), .int .u64 (sl : Int)] := hD 17 42 (by kernel_rfl)
      have e42 : FA.tmps[42]?.getD undef = .agg #[.bool s6, .int .u64 (sh : Int), .int .u64 (sl : Int)] := by simpa [Act.eval] using ev42
      replace ev42 := Lib.hid ev42
      clear hO hD
      go_simp
      refine (refAdrBytes s6 sh sl _ (by omega) (by omega)).mono ?_
      rintro e w1 ⟨A2, n2, c2, bs2, d2, rfl, rfl, ho2⟩
      exact hK.out _ _ (Ex.plus_ _ _ _) ⟨_, _, _, rfl, ho2.mono (by have := be.size; simp [size_plus]; omega)⟩
    | 19, _, ho, hO, hD, hK => 
      obtain rfl := Option.some.inj ho.symm
      clear ho
      have ev1 : FA.eval (.tmp 1) = .pointer (some ⟨w.heap.size, 0, none⟩) := hO 1 (by kernel_rfl)
      have e1 : FA.tmps[1]?.getD undef = .pointer (some ⟨w.heap.size, 0, none⟩) := by simpa [Act.eval] using ev1
      replace ev1 := Lib.hid ev1
      clear hO hD
      go_simp
      exact hK.out _ _ (Ex.refl _) rfl
    | 20, _, ho, hO, hD, hK => 
      obtain rfl := Option.some.inj ho.symm
      clear ho
      have ev44 : FA.eval (.tmp 44) = .pointer (some ⟨w.heap.size, 12, none⟩) := hD 19 44 (by kernel_rfl)
      have e44 : FA.tmps[44]?.getD undef = .pointer (some ⟨w.heap.size, 12, none⟩) := by simpa [Act.eval] using ev44
      replace ev44 := Lib.hid ev44
      clear hO hD
      go_simp
      exact hK.out _ _ (Ex.refl _) rfl
    | 21, _, ho, hO, hD, hK => 
      obtain rfl := Option.some.inj ho.symm
      clear ho
      have ev45 : FA.eval (.tmp 45) = .agg #[.bool d6, .int .u64 (dh : Int), .int .u64 (dl : Int)] := hD 20 45 (by kernel_rfl)
      have e45 : FA.tmps[45]?.getD undef = .agg #[.bool d6, .int .u64 (dh : Int), .int .u64 (dl : Int)] := by simpa [Act.eval] using ev45
      replace ev45 := Lib.hid ev45
      clear hO hD
      go_simp
      refine (refAdrBytes d6 dh dl _ (by omega) (by omega)).mono ?_
      rintro e w1 ⟨A2, n2, c2, bs2, d2, rfl, rfl, ho2⟩
      exact hK.out _ _ (Ex.plus_ _ _ _) ⟨_, _, _, rfl, ho2.mono (by have := be.size; simp [size_plus]; omega)⟩
    | 22, _, ho, hO, hD, hK => 
      obtain rfl := Option.some.inj ho.symm
      clear ho
      have ev1 : FA.eval (.tmp 1) = .pointer (some ⟨w.heap.size, 0, none⟩) := hO 1 (by kernel_rfl)
      have e1 : FA.tmps[1]?.getD undef = .pointer (some ⟨w.heap.size, 0, none⟩) := by simpa [Act.eval] using ev1
      replace ev1 := Lib.hid ev1
      clear hO hD
      go_simp
      exact hK.out _ _ (Ex.refl _) rfl
    | 23, _, ho, hO, hD, hK => 
      obtain rfl := Option.some.inj ho.symm
      clear ho
      have ev47 : FA.eval (.tmp 47) = .pointer (some ⟨w.heap.size, 15, none⟩) := hD 22 47 (by kernel_rfl)
      have e47 : FA.tmps[47]?.getD undef = .pointer (some ⟨w.heap.size, 15, none⟩) := by simpa [Act.eval] using ev47
      replace ev47 := Lib.hid ev47
      clear hO hD
      go_simp
      exact hK.out _ _ (Ex.refl _) rfl
    | 24, _, ho, hO, hD, hK => 
      obtain rfl := Option.some.inj ho.symm
      clear ho
      have ev25 : FA.eval (.tmp 25) = .slice (some ⟨w.heap.size + 1, 0, none⟩) 2 2 := hD 0 25 (by kernel_rfl)
      have e25 : FA.tmps[25]?.getD undef = .slice (some ⟨w.heap.size + 1, 0, none⟩) 2 2 := by simpa [Act.eval] using ev25
      replace ev25 := Lib.hid ev25
      have f29 := hD 4 29 (by kernel_rfl)
      generalize eu29 : FA.eval (.tmp 29) = u29 at f29
      have e29 : FA.tmps[29]?.getD undef = u29 := by rw [← eu29]; simp [Act.eval]
      have ev29 := Lib.hid eu29
      clear eu29
      have f33 := hD 8 33 (by kernel_rfl)
      generalize eu33 : FA.eval (.tmp 33) = u33 at f33
      have e33 : FA.tmps[33]?.getD undef = u33 := by rw [← eu33]; simp [Act.eval]
      have ev33 := Lib.hid eu33
      clear eu33
      have f35 := hD 10 35 (by kernel_rfl)
      generalize eu35 : FA.eval (.tmp 35) = u35 at f35
      have e35 : FA.tmps[35]?.getD undef = u35 := by rw [← eu35]; simp [Act.eval]
      have ev35 := Lib.hid eu35
      clear eu35
      have f40 := hD 15 40 (by kernel_rfl)
      generalize eu40 : FA.eval (.tmp 40) = u40 at f40
      have e40 : FA.tmps[40]?.getD undef = u40 := by rw [← eu40]; simp [Act.eval]
      have ev40 := Lib.hid eu40
      clear eu40
      have f43 := hD 18 43 (by kernel_rfl)
      generalize eu43 : FA.eval (.tmp 43) = u43 at f43
      have e43 : FA.tmps[43]?.getD undef = u43 := by rw [← eu43]; simp [Act.eval]
      have ev43 := Lib.hid eu43
      clear eu43
      have f46 := hD 21 46 (by kernel_rfl)
      generalize eu46 : FA.eval (.tmp 46) = u46 at f46
      have e46 : FA.tmps[46]?.getD undef = u46 := by rw [← eu46]; simp [Act.eval]
      have ev46 := Lib.hid eu46
      clear eu46
      have ev48 : FA.eval (.tmp 48) = .slice A n k := hD 23 48 (by kernel_rfl)
      have e48 : FA.tmps[48]?.getD undef = .slice A n k := by simpa [Act.eval] using ev48
      replace ev48 := Lib.hid ev48
      clear hO hD
      obtain ⟨A29, n29, c29, rfl, h29⟩ := f29
      obtain ⟨A33, n33, c33, rfl, h33⟩ := f33
      obtain ⟨A35, n35, c35, rfl, h35⟩ := f35
      obtain ⟨A40, n40, c40, rfl, h40⟩ := f40
      obtain ⟨A43, n43, c43, rfl, h43⟩ := f43
      obtain ⟨A46, n46, c46, rfl, h46⟩ := f46
      go_simp
      refine hK.out _ _ (Ex.alloc _ _) ⟨_, _, _, rfl, ?_⟩
      refine RdL.litW _ _ ?_ ?_
      · simp [size_plus]
      · exact .cons ⟨_, _, _, rfl, hr3.plus_ _ _⟩ (.cons ⟨_, _, _, rfl, h29⟩ (.cons ⟨_, _, _, rfl, h33⟩ (.cons ⟨_, _, _, rfl, h35⟩ (.cons ⟨_, _, _, rfl, h40⟩ (.cons ⟨_, _, _, rfl, h43.rb⟩ (.cons ⟨_, _, _, rfl, h46.rb⟩ (.cons ⟨_, _, _, rfl, hr4.plus_ _ _⟩ (.nil))))))))
    | 25, _, ho, hO, hD, hK => 
      obtain rfl := Option.some.inj ho.symm
      clear ho
      have f49 := hD 24 49 (by kernel_rfl)
      generalize eu49 : FA.eval (.tmp 49) = u49 at f49
      have e49 : FA.tmps[49]?.getD undef = u49 := by rw [← eu49]; simp [Act.eval]
      have ev49 := Lib.hid eu49
      clear eu49
      clear hO hD
      obtain ⟨A1, m1, c1, rfl, hl1⟩ := f49
      have hm1 : m1 ≤ 100 := by obtain ⟨_, _, h2, _⟩ := hl1; simp only [List.length_cons, List.length_nil] at h2; omega
      go_simp
      refine (refJoin_any A1 m1 c1 _ _ hl1 (by omega) HT.out).mono ?_
      rintro e w1 ⟨A2, n2, c2, bs2, d2, rfl, rfl, ho2⟩
      exact hK.out _ _ (Ex.plus_ _ _ _) ⟨_, _, _, rfl, ho2.mono (by simp [size_plus]; omega)⟩
    | (k + 26), hi, _, _, _, _ => exact absurd hi (by omega)
  intro vs x hp
  have p0 : vs 0 = .slice (some ⟨w.heap.size + 1, 0, none⟩) 2 2 := hp 0 (by omega)
  have p1 : vs 1 = .pointer (some ⟨w.heap.size, 1, none⟩) := hp 1 (by omega)
  have p2 : vs 2 = .int .i64 (ln : Int) := hp 2 (by omega)
  have p3 : vs 3 = .int .u64 (ln : Int) := hp 3 (by omega)
  have p4 := hp 4 (by omega)
  have p5 : vs 5 = .pointer (some ⟨w.heap.size, 2, none⟩) := hp 5 (by omega)
  have p6 : vs 6 = .int .u16 (id : Int) := hp 6 (by omega)
  have p7 : vs 7 = .int .u64 (id : Int) := hp 7 (by omega)
  have p8 := hp 8 (by omega)
  have p9 : vs 9 = .int .u64 (p : Int) := hp 9 (by omega)
  have p10 := hp 10 (by omega)
  have p11 : vs 11 = .pointer (some ⟨w.heap.size, 6, none⟩) := hp 11 (by omega)
  have p12 : vs 12 = .int .u8 (tl : Int) := hp 12 (by omega)
  have p13 : vs 13 = .pointer (some ⟨w.heap.size, 7, none⟩) := hp 13 (by omega)
  have p14 : vs 14 = .int .u8 (pr : Int) := hp 14 (by omega)
  have p15 := hp 15 (by omega)
  have p16 : vs 16 = .pointer (some ⟨w.heap.size, 9, none⟩) := hp 16 (by omega)
  have p17 : vs 17 = .agg #[.bool s6, .int .u64 (sh : Int), .int .u64 (sl : Int)] := hp 17 (by omega)
  have p18 := hp 18 (by omega)
  have p19 : vs 19 = .pointer (some ⟨w.heap.size, 12, none⟩) := hp 19 (by omega)
  have p20 : vs 20 = .agg #[.bool d6, .int .u64 (dh : Int), .int .u64 (dl : Int)] := hp 20 (by omega)
  have p21 := hp 21 (by omega)
  have p22 : vs 22 = .pointer (some ⟨w.heap.size, 15, none⟩) := hp 22 (by omega)
  have p23 : vs 23 = .slice A n k := hp 23 (by omega)
  have p24 := hp 24 (by omega)
  have p25 := hp 25 (by omega)
  clear hp
  simp only [List.take_succ_cons, List.take_zero, List.drop_succ_cons, List.drop_zero, putAll, Nat.zero_add, Nat.reduceAdd, Act.put, List.setIfInBounds_toArray, List.set_cons_zero, List.set_cons_succ, p0, p1, p2, p3, p5, p6, p7, p9, p11, p12, p13, p14, p16, p17, p19, p20, p22, p23]
  clear p0 p1 p2 p3 p5 p6 p7 p9 p11 p12 p13 p14 p16 p17 p19 p20 p22 p23
  generalize vs 4 = y4 at *
  generalize vs 8 = y8 at *
  generalize vs 10 = y10 at *
  generalize vs 15 = y15 at *
  generalize vs 18 = y18 at *
  generalize vs 21 = y21 at *
  generalize vs 24 = y24 at *
  generalize vs 25 = y25 at *
  clear vs
  obtain ⟨A9, n9, c9, rfl, h9⟩ := p25
  replace be := belowP be x.bs x.d
  have HF : Hid (ip4R x0 ts ln id p tl pr s6 sh sl d6 dh dl o = ([[UInt8.ofNat x0, UInt8.ofNat ts], (dig (ln) 2), (dig (id) 2), (dig (p) 2), [UInt8.ofNat (tl), UInt8.ofNat (pr), UInt8.ofNat (0), UInt8.ofNat (0)], (adrB s6 sh sl), (adrB d6 dh dl), o]).flatten) := Lib.hid rfl
  rw [← HF.out] at h9
  have h9' := h9.1
  generalize plus ((w.alloc (.cells #[.int .u8 (ts : Int), .int .i64 (ln : Int), .int .u16 (id : Int), .bool false, .bool false, .int .i64 (fo : Int), .int .u8 (tl : Int), .int .u8 (pr : Int), .int .u16 (sm : Int), .bool s6, .int .u64 (sh : Int), .int .u64 (sl : Int), .bool d6, .int .u64 (dh : Int), .int .u64 (dl : Int), .slice A n k] 184)).alloc (.cells #[.int .u8 (x0 : Int), .int .u8 (ts : Int)] 5)) x.bs x.d = W at *
  clear HF
  generalize hLL : ip4R x0 ts ln id p tl pr s6 sh sl d6 dh dl o = LL at *
  replace hLL := Lib.hid hLL
  have HS := Lib.hid (fun w (h : Rb w A9 n9 c9 LL) => refSumOf A9 n9 c9 LL w h (by omega))
  have hs1 : 65535 - fd (tot false LL) ≤ 65535 := Nat.sub_le _ _
  generalize hss : 65535 - fd (tot false LL) = s at *
  replace hss := Lib.hid hss
  have gs : IntKind.u64.wrap (s : Int) = (s : Int) := IntWalk.u64_in _ (by omega)
  have hn9 : 12 ≤ n9 := by omega
  have hn9' : n9 ≤ 1000 := by omega
  go_wp2_with fail
  refine (HS.out _ h9.rb).mono ?_
  rintro e w1 ⟨rfl, rfl⟩
  go_wp2_with fail
  refine (refBytes_any s 2 _ (by omega) (by decide)).mono ?_
  rintro e w1 ⟨A3, n3, c3, bs3, d3, rfl, rfl, ho3⟩
  obtain rfl : n3 = 2 := by rw [← ho3.1, dig_length]
  go_wp2_with fail
  refine (refSet _ _ _ LL 10 _ _ _ _ _ (h9.rb.plus_ _ _) ho3.rb (by omega) (by omega) (by omega)).mono ?_
  rintro e w1 ⟨A4, n4, c4, bs4, d4, rfl, rfl, ho4⟩
  go_wp2
  go_ret
  try rw [hLL.out]
  try rw [hss.out]
  refine RetB.mk (ho4.mono ?_) ?_
  · have := be.size; simp [size_plus]; omega
  · with_reducible repeat (first | exact be | refine belowP ?_ _ _)
set_option maxHeartbeats 4000000 in
set_option maxRecDepth 100000 in
theorem refIp4Bytes_ny (ts ln id : Nat) (fo tl pr sm : Nat) (s6 : Bool) (sh sl : Nat) (d6 : Bool) (dh dl : Nat) (A : Option Addr) (n k : Nat) (o : List UInt8) (w : World) (hr : Rb w A n k o) (b1 : ts < 256) (b2 : id < 65536) (b3 : tl < 256) (b4 : pr < 256) (k1 : sh < 18446744073709551616) (k2 : sl < 18446744073709551616) (k3 : dh < 18446744073709551616) (k4 : dl < 18446744073709551616) (c1 : n ≤ 40) (c4 : ln ≤ 65535) (c5 : fo ≤ 8191) : Calls Try.prog 133 #[.agg (h4C ts (ln : Int) id false true (fo : Int) tl pr sm s6 sh sl d6 dh dl A n k).toArray] w (RetB w (setB (ip4R (69 + o.length / 4) ts ln id (pl4 false true fo) tl pr s6 sh sl d6 dh dl o) 10 (dig (65535 - fd (tot false (ip4R (69 + o.length / 4) ts ln id (pl4 false true fo) tl pr s6 sh sl d6 dh dl o))) 2))) := by
  have z1 := adrB_length s6 sh sl
  have z2 := adrB_length d6 dh dl
  obtain ⟨p, hp⟩ : ∃ p : Nat, p = fo + 8192 := ⟨_, rfl⟩
  have hpl : pl4 false true fo = p := by simp [pl4]; omega
  obtain ⟨q, hq⟩ : ∃ q : Nat, q = n / 4 := ⟨_, rfl⟩
  obtain ⟨x0, hx⟩ : ∃ x : Nat, x = 69 + q := ⟨_, rfl⟩
  have e0 : (n : Int).tdiv 4 = (q : Int) := by rw [Int.tdiv_eq_ediv_of_nonneg (by omega)]; omega
  have e1 : IntKind.i64.wrap (q : Int) = (q : Int) := IntWalk.i64_in _ (by omega)
  have e2 : IntKind.i64.wrap (69 + (q : Int)) = (x0 : Int) := by rw [IntWalk.i64_in _ (by omega)]; omega
  have e3 : IntKind.u8.wrap (x0 : Int) = (x0 : Int) := IntWalk.u8_in _ (by omega)
  have l0 : x0 < 256 := by omega
  have lp : p < 65536 := by omega
  have fp : IntKind.u64.wrap (fo : Int) = (fo : Int) := IntWalk.u64_in _ (by omega)
  have f1 : IntKind.u64.wrap ((fo : Int) + 8192) = (p : Int) := by rw [IntWalk.u64_in _ (by omega)]; omega
  rw [hpl, show 69 + o.length / 4 = x0 from by rw [hr.1]; omega]
  have HT : ([[UInt8.ofNat x0, UInt8.ofNat ts], (dig (ln) 2), (dig (id) 2), (dig (p) 2), [UInt8.ofNat (tl), UInt8.ofNat (pr), UInt8.ofNat (0), UInt8.ofNat (0)], (adrB s6 sh sl), (adrB d6 dh dl), o]).flatten.length ≤ 549755813888 := by simp [dig_length, hr.1]; omega
  have HL : (ip4R x0 ts ln id p tl pr s6 sh sl d6 dh dl o).length ≤ 1000 := by simp [ip4R, dig_length, hr.1]; omega
  have HL2 : 12 ≤ (ip4R x0 ts ln id p tl pr s6 sh sl d6 dh dl o).length := by simp [ip4R, dig_length, hr.1]; omega
  clear hpl hp hq hx
  replace HT := Lib.hid HT
  have hr3 : Rb ((w.alloc (.cells #[.int .u8 (ts : Int), .int .i64 (ln : Int), .int .u16 (id : Int), .bool false, .bool true, .int .i64 (fo : Int), .int .u8 (tl : Int), .int .u8 (pr : Int), .int .u16 (sm : Int), .bool s6, .int .u64 (sh : Int), .int .u64 (sl : Int), .bool d6, .int .u64 (dh : Int), .int .u64 (dl : Int), .slice A n k] 184)).alloc (.cells #[.int .u8 (x0 : Int), .int .u8 (ts : Int)] 5)) (some ⟨w.heap.size + 1, 0, none⟩) 2 2 [UInt8.ofNat x0, UInt8.ofNat ts] := Rb.litW _ _ (by simp) rfl (by decide) (by simp [bcs]; omega)
  have hr4 : Rb ((w.alloc (.cells #[.int .u8 (ts : Int), .int .i64 (ln : Int), .int .u16 (id : Int), .bool false, .bool true, .int .i64 (fo : Int), .int .u8 (tl : Int), .int .u8 (pr : Int), .int .u16 (sm : Int), .bool s6, .int .u64 (sh : Int), .int .u64 (sl : Int), .bool d6, .int .u64 (dh : Int), .int .u64 (dl : Int), .slice A n k] 184)).alloc (.cells #[.int .u8 (x0 : Int), .int .u8 (ts : Int)] 5)) A n k o := (hr.alloc _).alloc _
  have be : Below w.heap.size w ((w.alloc (.cells #[.int .u8 (ts : Int), .int .i64 (ln : Int), .int .u16 (id : Int), .bool false, .bool true, .int .i64 (fo : Int), .int .u8 (tl : Int), .int .u8 (pr : Int), .int .u16 (sm : Int), .bool s6, .int .u64 (sh : Int), .int .u64 (sl : Int), .bool d6, .int .u64 (dh : Int), .int .u64 (dl : Int), .slice A n k] 184)).alloc (.cells #[.int .u8 (x0 : Int), .int .u8 (ts : Int)] 5)) := Below.allocS (Below.allocS (Below.refl _ _) _) _
  have g0 : IntKind.u64.wrap (ln : Int) = (ln : Int) := IntWalk.u64_in _ (by omega)
  have g1 : IntKind.u64.wrap (id : Int) = (id : Int) := IntWalk.u64_in _ (by omega)
  unfold h4C
  go_enter Try.func133, Try.ntmps133
  go_wp2
  refine wp_rel 26 57 rfl (by kernel_rfl) (by kernel_rfl) (fun i => match i with | 0 => MP.eq (.slice (some ⟨w.heap.size + 1, 0, none⟩) 2 2) | 1 => MP.eq (.pointer (some ⟨w.heap.size, 1, none⟩)) | 2 => MP.eq (.int .i64 (ln : Int)) | 3 => MP.eq (.int .u64 (ln : Int)) | 4 => MP.rb (dig (ln) 2) | 5 => MP.eq (.pointer (some ⟨w.heap.size, 2, none⟩)) | 6 => MP.eq (.int .u16 (id : Int)) | 7 => MP.eq (.int .u64 (id : Int)) | 8 => MP.rb (dig (id) 2) | 9 => MP.eq (.int .u64 (p : Int)) | 10 => MP.rb (dig (p) 2) | 11 => MP.eq (.pointer (some ⟨w.heap.size, 6, none⟩)) | 12 => MP.eq (.int .u8 (tl : Int)) | 13 => MP.eq (.pointer (some ⟨w.heap.size, 7, none⟩)) | 14 => MP.eq (.int .u8 (pr : Int)) | 15 => MP.rb [UInt8.ofNat (tl), UInt8.ofNat (pr), UInt8.ofNat (0), UInt8.ofNat (0)] | 16 => MP.eq (.pointer (some ⟨w.heap.size, 9, none⟩)) | 17 => MP.eq (.agg #[.bool s6, .int .u64 (sh : Int), .int .u64 (sl : Int)]) | 18 => MP.ob w.heap.size (adrB s6 sh sl) | 19 => MP.eq (.pointer (some ⟨w.heap.size, 12, none⟩)) | 20 => MP.eq (.agg #[.bool d6, .int .u64 (dh : Int), .int .u64 (dl : Int)]) | 21 => MP.ob w.heap.size (adrB d6 dh dl) | 22 => MP.eq (.pointer (some ⟨w.heap.size, 15, none⟩)) | 23 => MP.eq (.slice A n k) | 24 => MP.rdl [[UInt8.ofNat x0, UInt8.ofNat ts], (dig (ln) 2), (dig (id) 2), (dig (p) 2), [UInt8.ofNat (tl), UInt8.ofNat (pr), UInt8.ofNat (0), UInt8.ofNat (0)], (adrB s6 sh sl), (adrB d6 dh dl), o] | 25 => MP.ob w.heap.size ([[UInt8.ofNat x0, UInt8.ofNat ts], (dig (ln) 2), (dig (id) 2), (dig (p) 2), [UInt8.ofNat (tl), UInt8.ofNat (pr), UInt8.ofNat (0), UInt8.ofNat (0)], (adrB s6 sh sl), (adrB d6 dh dl), o]).flatten | _ => MP.any) ?_ ?_
  · intro i hi o ho FA x hO hD K hK
    match i, hi, ho, hO, hD, hK with
    | 0, _, ho, hO, hD, hK => 
      obtain rfl := Option.some.inj ho.symm
      clear ho
      have ev4 : FA.eval (.tmp 4) = .slice (some ⟨w.heap.size + 1, 0, none⟩) 2 2 := hO 4 (by kernel_rfl)
      have e4 : FA.tmps[4]?.getD undef = .slice (some ⟨w.heap.size + 1, 0, none⟩) 2 2 := by simpa [Act.eval] using ev4
      replace ev4 := Lib.hid ev4
      clear hO hD
      go_simp
      exact hK.out _ _ (Ex.refl _) rfl
    | 1, _, ho, hO, hD, hK => 
      obtain rfl := Option.some.inj ho.symm
      clear ho
      have ev1 : FA.eval (.tmp 1) = .pointer (some ⟨w.heap.size, 0, none⟩) := hO 1 (by kernel_rfl)
      have e1 : FA.tmps[1]?.getD undef = .pointer (some ⟨w.heap.size, 0, none⟩) := by simpa [Act.eval] using ev1
      replace ev1 := Lib.hid ev1
      clear hO hD
      go_simp
      exact hK.out _ _ (Ex.refl _) rfl
    | 2, _, ho, hO, hD, hK => 
      obtain rfl := Option.some.inj ho.symm
      clear ho
      have ev26 : FA.eval (.tmp 26) = .pointer (some ⟨w.heap.size, 1, none⟩) := hD 1 26 (by kernel_rfl)
      have e26 : FA.tmps[26]?.getD undef = .pointer (some ⟨w.heap.size, 1, none⟩) := by simpa [Act.eval] using ev26
      replace ev26 := Lib.hid ev26
      clear hO hD
      go_simp
      exact hK.out _ _ (Ex.refl _) rfl
    | 3, _, ho, hO, hD, hK => 
      obtain rfl := Option.some.inj ho.symm
      clear ho
      have ev27 : FA.eval (.tmp 27) = .int .i64 (ln : Int) := hD 2 27 (by kernel_rfl)
      have e27 : FA.tmps[27]?.getD undef = .int .i64 (ln : Int) := by simpa [Act.eval] using ev27
      replace ev27 := Lib.hid ev27
      clear hO hD
      go_simp
      exact hK.out _ _ (Ex.refl _) rfl
    | 4, _, ho, hO, hD, hK => 
      obtain rfl := Option.some.inj ho.symm
      clear ho
      have ev28 : FA.eval (.tmp 28) = .int .u64 (ln : Int) := hD 3 28 (by kernel_rfl)
      have e28 : FA.tmps[28]?.getD undef = .int .u64 (ln : Int) := by simpa [Act.eval] using ev28
      replace ev28 := Lib.hid ev28
      clear hO hD
      go_simp
      refine (refBytes_any (ln) 2 _ (by omega) (by omega)).mono ?_
      rintro e w1 ⟨A2, n2, c2, bs2, d2, rfl, rfl, ho2⟩
      exact hK.out _ _ (Ex.plus_ _ _ _) ⟨_, _, _, rfl, ho2.rb⟩
    | 5, _, ho, hO, hD, hK => 
      obtain rfl := Option.some.inj ho.symm
      clear ho
      have ev1 : FA.eval (.tmp 1) = .pointer (some ⟨w.heap.size, 0, none⟩) := hO 1 (by kernel_rfl)
      have e1 : FA.tmps[1]?.getD undef = .pointer (some ⟨w.heap.size, 0, none⟩) := by simpa [Act.eval] using ev1
      replace ev1 := Lib.hid ev1
      clear hO hD
      go_simp
      exact hK.out _ _ (Ex.refl _) rfl
    | 6, _, ho, hO, hD, hK => 
      obtain rfl := Option.some.inj ho.symm
      clear ho
      have ev30 : FA.eval (.tmp 30) = .pointer (some ⟨w.heap.size, 2, none⟩) := hD 5 30 (by kernel_rfl)
      have e30 : FA.tmps[30]?.getD undef = .pointer (some ⟨w.heap.size, 2, none⟩) := by simpa [Act.eval] using ev30
      replace ev30 := Lib.hid ev30
      clear hO hD
      go_simp
      exact hK.out _ _ (Ex.refl _) rfl
    | 7, _, ho, hO, hD, hK => 
      obtain rfl := Option.some.inj ho.symm
      clear ho
      have ev31 : FA.eval (.tmp 31) = .int .u16 (id : Int) := hD 6 31 (by kernel_rfl)
      have e31 : FA.tmps[31]?.getD undef = .int .u16 (id : Int) := by simpa [Act.eval] using ev31
      replace ev31 := Lib.hid ev31
      clear hO hD
      go_simp
      exact hK.out _ _ (Ex.refl _) rfl
    | 8, _, ho, hO, hD, hK => 
      obtain rfl := Option.some.inj ho.symm
      clear ho
      have ev32 : FA.eval (.tmp 32) = .int .u64 (id : Int) := hD 7 32 (by kernel_rfl)
      have e32 : FA.tmps[32]?.getD undef = .int .u64 (id : Int) := by simpa [Act.eval] using ev32
      replace ev32 := Lib.hid ev32
      clear hO hD
      go_simp
      refine (refBytes_any (id) 2 _ (by omega) (by omega)).mono ?_
      rintro e w1 ⟨A2, n2, c2, bs2, d2, rfl, rfl, ho2⟩
      exact hK.out _ _ (Ex.plus_ _ _ _) ⟨_, _, _, rfl, ho2.rb⟩
    | 9, _, ho, hO, hD, hK => 
      obtain rfl := Option.some.inj ho.symm
      clear ho
      have ev3 : FA.eval (.tmp 3) = .int .u64 (p : Int) := hO 3 (by kernel_rfl)
      have e3 : FA.tmps[3]?.getD undef = .int .u64 (p : Int) := by simpa [Act.eval] using ev3
      replace ev3 := Lib.hid ev3
      clear hO hD
      go_simp
      exact hK.out _ _ (Ex.refl _) rfl
    | 10, _, ho, hO, hD, hK => 
      obtain rfl := Option.some.inj ho.symm
      clear ho
      have ev34 : FA.eval (.tmp 34) = .int .u64 (p : Int) := hD 9 34 (by kernel_rfl)
      have e34 : FA.tmps[34]?.getD undef = .int .u64 (p : Int) := by simpa [Act.eval] using ev34
      replace ev34 := Lib.hid ev34
      clear hO hD
      go_simp
      refine (refBytes_any (p) 2 _ (by omega) (by omega)).mono ?_
      rintro e w1 ⟨A2, n2, c2, bs2, d2, rfl, rfl, ho2⟩
      exact hK.out _ _ (Ex.plus_ _ _ _) ⟨_, _, _, rfl, ho2.rb⟩
    | 11, _, ho, hO, hD, hK => 
      obtain rfl := Option.some.inj ho.symm
      clear ho
      have ev1 : FA.eval (.tmp 1) = .pointer (some ⟨w.heap.size, 0, none⟩) := hO 1 (by kernel_rfl)
      have e1 : FA.tmps[1]?.getD undef = .pointer (some ⟨w.heap.size, 0, none⟩) := by simpa [Act.eval] using ev1
      replace ev1 := Lib.hid ev1
      clear hO hD
      go_simp
      exact hK.out _ _ (Ex.refl _) rfl
    | 12, _, ho, hO, hD, hK => 
      obtain rfl := Option.some.inj ho.symm
      clear ho
      have ev36 : FA.eval (.tmp 36) = .pointer (some ⟨w.heap.size, 6, none⟩) := hD 11 36 (by kernel_rfl)
      have e36 : FA.tmps[36]?.getD undef = .pointer (some ⟨w.heap.size, 6, none⟩) := by simpa [Act.eval] using ev36
      replace ev36 := Lib.hid ev36
      clear hO hD
      go_simp
      exact hK.out _ _ (Ex.refl _) rfl
    | 13, _, ho, hO, hD, hK => 
      obtain rfl := Option.some.inj ho.symm
      clear ho
      have ev1 : FA.eval (.tmp 1) = .pointer (some ⟨w.heap.size, 0, none⟩) := hO 1 (by kernel_rfl)
      have e1 : FA.tmps[1]?.getD undef = .pointer (some ⟨w.heap.size, 0, none⟩) := by simpa [Act.eval] using ev1
      replace ev1 := Lib.hid ev1
      clear hO hD
      go_simp
      exact hK.out _ _ (Ex.refl _) rfl
    | 14, _, ho, hO, hD, hK => 
      obtain rfl := Option.some.inj ho.symm
      clear ho
      have ev38 : FA.eval (.tmp 38) = .pointer (some ⟨w.heap.size, 7, none⟩) := hD 13 38 (by kernel_rfl)
      have e38 : FA.tmps[38]?.getD undef = .pointer (some ⟨w.heap.size, 7, none⟩) := by simpa [Act.eval] using ev38
      replace ev38 := Lib.hid ev38
      clear hO hD
      go_simp
      exact hK.out _ _ (Ex.refl _) rfl
    | 15, _, ho, hO, hD, hK => 
      obtain rfl := Option.some.inj ho.symm
      clear ho
      have ev37 : FA.eval (.tmp 37) = .int .u8 (tl : Int) := hD 12 37 (by kernel_rfl)
      have e37 : FA.tmps[37]?.getD undef = .int .u8 (tl : Int) := by simpa [Act.eval] using ev37
      replace ev37 := Lib.hid ev37
      have ev39 : FA.eval (.tmp 39) = .int .u8 (pr : Int) := hD 14 39 (by kernel_rfl)
      have e39 : FA.tmps[39]?.getD undef = .int .u8 (pr : Int) := by simpa [Act.eval] using ev39
      replace ev39 := Lib.hid ev39
      clear hO hD
      go_simp
      refine hK.out _ _ (Ex.alloc _ _) ⟨_, _, _, rfl, ?_⟩
      refine Rb.litW _ [UInt8.ofNat (tl), UInt8.ofNat (pr), UInt8.ofNat (0), UInt8.ofNat (0)] ?_ rfl (by decide) ?_
      · simp [size_plus]
      · simp [bcs]; try omega
    | 16, _, ho, hO, hD, hK => 
      obtain rfl := Option.some.inj ho.symm
      clear ho
      have ev1 : FA.eval (.tmp 1) = .pointer (some ⟨w.heap.size, 0, none⟩) := hO 1 (by kernel_rfl)
      have e1 : FA.tmps[1]?.getD undef = .pointer (some ⟨w.heap.size, 0, none⟩) := by simpa [Act.eval] using ev1
      replace ev1 := Lib.hid ev1
      clear hO hD
      go_simp
      exact hK.out _ _ (Ex.refl _) rfl
    | 17, _, ho, hO, hD, hK => 
      obtain rfl := Option.some.inj ho.symm
      clear ho
      have ev41 : FA.eval (.tmp 41) = .pointer (some ⟨w.heap.size, 9, none⟩) := hD 16 41 (by kernel_rfl)
      have e41 : FA.tmps[41]?.getD undef = .pointer (some ⟨w.heap.size, 9, none⟩) := by simpa [Act.eval] using ev41
      replace ev41 := Lib.hid ev41
      clear hO hD
      go_simp
      exact hK.out _ _ (Ex.refl _) rfl
    | 18, _, ho, hO, hD, hK => 
      obtain rfl := Option.some.inj ho.symm
      clear ho
      have ev42 : FA.eval (.tmp 42) = .agg #[.bool s6, .int .u64 (sh : Int), .int .u64 (sl : Int)] := hD 17 42 (by kernel_rfl)
      have e42 : FA.tmps[42]?.getD undef = .agg #[.bool s6, .int .u64 (sh : Int), .int .u64 (sl : Int)] := by simpa [Act.eval] using ev42
      replace ev42 := Lib.hid ev42
      clear hO hD
      go_simp
      refine (refAdrBytes s6 sh sl _ (by omega) (by omega)).mono ?_
      rintro e w1 ⟨A2, n2, c2, bs2, d2, rfl, rfl, ho2⟩
      exact hK.out _ _ (Ex.plus_ _ _ _) ⟨_, _, _, rfl, ho2.mono (by have := be.size; simp [size_plus]; omega)⟩
    | 19, _, ho, hO, hD, hK => 
      obtain rfl := Option.some.inj ho.symm
      clear ho
      have ev1 : FA.eval (.tmp 1) = .pointer (some ⟨w.heap.size, 0, none⟩) := hO 1 (by kernel_rfl)
      have e1 : FA.tmps[1]?.getD undef = .pointer (some ⟨w.heap.size, 0, none⟩) := by simpa [Act.eval] using ev1
      replace ev1 := Lib.hid ev1
      clear hO hD
      go_simp
      exact hK.out _ _ (Ex.refl _) rfl
    | 20, _, ho, hO, hD, hK => 
      obtain rfl := Option.some.inj ho.symm
      clear ho
      have ev44 : FA.eval (.tmp 44) = .pointer (some ⟨w.heap.size, 12, none⟩) := hD 19 44 (by kernel_rfl)
      have e44 : FA.tmps[44]?.getD undef = .pointer (some ⟨w.heap.size, 12, none⟩) := by simpa [Act.eval] using ev44
      replace ev44 := Lib.hid ev44
      clear hO hD
      go_simp
      exact hK.out _ _ (Ex.refl _) rfl
    | 21, _, ho, hO, hD, hK => 
      obtain rfl := Option.some.inj ho.symm
      clear ho
      have ev45 : FA.eval (.tmp 45) = .agg #[.bool d6, .int .u64 (dh : Int), .int .u64 (dl : Int)] := hD 20 45 (by kernel_rfl)
      have e45 : FA.tmps[45]?.getD undef = .agg #[.bool d6, .int .u64 (dh : Int), .int .u64 (dl : Int)] := by simpa [Act.eval] using ev45
      replace ev45 := Lib.hid ev45
      clear hO hD
      go_simp
      refine (refAdrBytes d6 dh dl _ (by omega) (by omega)).mono ?_
      rintro e w1 ⟨A2, n2, c2, bs2, d2, rfl, rfl, ho2⟩
      exact hK.out _ _ (Ex.plus_ _ _ _) ⟨_, _, _, rfl, ho2.mono (by have := be.size; simp [size_plus]; omega)⟩
    | 22, _, ho, hO, hD, hK => 
      obtain rfl := Option.some.inj ho.symm
      clear ho
      have ev1 : FA.eval (.tmp 1) = .pointer (some ⟨w.heap.size, 0, none⟩) := hO 1 (by kernel_rfl)
      have e1 : FA.tmps[1]?.getD undef = .pointer (some ⟨w.heap.size, 0, none⟩) := by simpa [Act.eval] using ev1
      replace ev1 := Lib.hid ev1
      clear hO hD
      go_simp
      exact hK.out _ _ (Ex.refl _) rfl
    | 23, _, ho, hO, hD, hK => 
      obtain rfl := Option.some.inj ho.symm
      clear ho
      have ev47 : FA.eval (.tmp 47) = .pointer (some ⟨w.heap.size, 15, none⟩) := hD 22 47 (by kernel_rfl)
      have e47 : FA.tmps[47]?.getD undef = .pointer (some ⟨w.heap.size, 15, none⟩) := by simpa [Act.eval] using ev47
      replace ev47 := Lib.hid ev47
      clear hO hD
      go_simp
      exact hK.out _ _ (Ex.refl _) rfl
    | 24, _, ho, hO, hD, hK => 
      obtain rfl := Option.some.inj ho.symm
      clear ho
      have ev25 : FA.eval (.tmp 25) = .slice (some ⟨w.heap.size + 1, 0, none⟩) 2 2 := hD 0 25 (by kernel_rfl)
      have e25 : FA.tmps[25]?.getD undef = .slice (some ⟨w.heap.size + 1, 0, none⟩) 2 2 := by simpa [Act.eval] using ev25
      replace ev25 := Lib.hid ev25
      have f29 := hD 4 29 (by kernel_rfl)
      generalize eu29 : FA.eval (.tmp 29) = u29 at f29
      have e29 : FA.tmps[29]?.getD undef = u29 := by rw [← eu29]; simp [Act.eval]
      have ev29 := Lib.hid eu29
      clear eu29
      have f33 := hD 8 33 (by kernel_rfl)
      generalize eu33 : FA.eval (.tmp 33) = u33 at f33
      have e33 : FA.tmps[33]?.getD undef = u33 := by rw [← eu33]; simp [Act.eval]
      have ev33 := Lib.hid eu33
      clear eu33
      have f35 := hD 10 35 (by kernel_rfl)
      generalize eu35 : FA.eval (.tmp 35) = u35 at f35
      have e35 : FA.tmps[35]?.getD undef = u35 := by rw [← eu35]; simp [Act.eval]
      have ev35 := Lib.hid eu35
      clear eu35
      have f40 := hD 15 40 (by kernel_rfl)
      generalize eu40 : FA.eval (.tmp 40) = u40 at f40
      have e40 : FA.tmps[40]?.getD undef = u40 := by rw [← eu40]; simp [Act.eval]
      have ev40 := Lib.hid eu40
      clear eu40
      have f43 := hD 18 43 (by kernel_rfl)
      generalize eu43 : FA.eval (.tmp 43) = u43 at f43
      have e43 : FA.tmps[43]?.getD undef = u43 := by rw [← eu43]; simp [Act.eval]
      have ev43 := Lib.hid eu43
      clear eu43
      have f46 := hD 21 46 (by kernel_rfl)
      generalize eu46 : FA.eval (.tmp 46) = u46 at f46
      have e46 : FA.tmps[46]?.getD undef = u46 := by rw [← eu46]; simp [Act.eval]
      have ev46 := Lib.hid eu46
      clear eu46
      have ev48 : FA.eval (.tmp 48) = .slice A n k := hD 23 48 (by kernel_rfl)
      have e48 : FA.tmps[48]?.getD undef = .slice A n k := by simpa [Act.eval] using ev48
      replace ev48 := Lib.hid ev48
      clear hO hD
      obtain ⟨A29, n29, c29, rfl, h29⟩ := f29
      obtain ⟨A33, n33, c33, rfl, h33⟩ := f33
      obtain ⟨A35, n35, c35, rfl, h35⟩ := f35
      obtain ⟨A40, n40, c40, rfl, h40⟩ := f40
      obtain ⟨A43, n43, c43, rfl, h43⟩ := f43
      obtain ⟨A46, n46, c46, rfl, h46⟩ := f46
      go_simp
      refine hK.out _ _ (Ex.alloc _ _) ⟨_, _, _, rfl, ?_⟩
      refine RdL.litW _ _ ?_ ?_
      · simp [size_plus]
      · exact .cons ⟨_, _, _, rfl, hr3.plus_ _ _⟩ (.cons ⟨_, _, _, rfl, h29⟩ (.cons ⟨_, _, _, rfl, h33⟩ (.cons ⟨_, _, _, rfl, h35⟩ (.cons ⟨_, _, _, rfl, h40⟩ (.cons ⟨_, _, _, rfl, h43.rb⟩ (.cons ⟨_, _, _, rfl, h46.rb⟩ (.cons ⟨_, _, _, rfl, hr4.plus_ _ _⟩ (.nil))))))))
    | 25, _, ho, hO, hD, hK => 
      obtain rfl := Option.some.inj ho.symm
      clear ho
      have f49 := hD 24 49 (by kernel_rfl)
      generalize eu49 : FA.eval (.tmp 49) = u49 at f49
      have e49 : FA.tmps[49]?.getD undef = u49 := by rw [← eu49]; simp [Act.eval]
      have ev49 := Lib.hid eu49
      clear eu49
      clear hO hD
      obtain ⟨A1, m1, c1, rfl, hl1⟩ := f49
      have hm1 : m1 ≤ 100 := by obtain ⟨_, _, h2, _⟩ := hl1; simp only [List.length_cons, List.length_nil] at h2; omega
      go_simp
      refine (refJoin_any A1 m1 c1 _ _ hl1 (by omega) HT.out).mono ?_
      rintro e w1 ⟨A2, n2, c2, bs2, d2, rfl, rfl, ho2⟩
      exact hK.out _ _ (Ex.plus_ _ _ _) ⟨_, _, _, rfl, ho2.mono (by simp [size_plus]; omega)⟩
    | (k + 26), hi, _, _, _, _ => exact absurd hi (by omega)
  intro vs x hp
  have p0 : vs 0 = .slice (some ⟨w.heap.size + 1, 0, none⟩) 2 2 := hp 0 (by omega)
  have p1 : vs 1 = .pointer (some ⟨w.heap.size, 1, none⟩) := hp 1 (by omega)
  have p2 : vs 2 = .int .i64 (ln : Int) := hp 2 (by omega)
  have p3 : vs 3 = .int .u64 (ln : Int) := hp 3 (by omega)
  have p4 := hp 4 (by omega)
  have p5 : vs 5 = .pointer (some ⟨w.heap.size, 2, none⟩) := hp 5 (by omega)
  have p6 : vs 6 = .int .u16 (id : Int) := hp 6 (by omega)
  have p7 : vs 7 = .int .u64 (id : Int) := hp 7 (by omega)
  have p8 := hp 8 (by omega)
  have p9 : vs 9 = .int .u64 (p : Int) := hp 9 (by omega)
  have p10 := hp 10 (by omega)
  have p11 : vs 11 = .pointer (some ⟨w.heap.size, 6, none⟩) := hp 11 (by omega)
  have p12 : vs 12 = .int .u8 (tl : Int) := hp 12 (by omega)
  have p13 : vs 13 = .pointer (some ⟨w.heap.size, 7, none⟩) := hp 13 (by omega)
  have p14 : vs 14 = .int .u8 (pr : Int) := hp 14 (by omega)
  have p15 := hp 15 (by omega)
  have p16 : vs 16 = .pointer (some ⟨w.heap.size, 9, none⟩) := hp 16 (by omega)
  have p17 : vs 17 = .agg #[.bool s6, .int .u64 (sh : Int), .int .u64 (sl : Int)] := hp 17 (by omega)
  have p18 := hp 18 (by omega)
  have p19 : vs 19 = .pointer (some ⟨w.heap.size, 12, none⟩) := hp 19 (by omega)
  have p20 : vs 20 = .agg #[.bool d6, .int .u64 (dh : Int), .int .u64 (dl : Int)] := hp 20 (by omega)
  have p21 := hp 21 (by omega)
  have p22 : vs 22 = .pointer (some ⟨w.heap.size, 15, none⟩) := hp 22 (by omega)
  have p23 : vs 23 = .slice A n k := hp 23 (by omega)
  have p24 := hp 24 (by omega)
  have p25 := hp 25 (by omega)
  clear hp
  simp only [List.take_succ_cons, List.take_zero, List.drop_succ_cons, List.drop_zero, putAll, Nat.zero_add, Nat.reduceAdd, Act.put, List.setIfInBounds_toArray, List.set_cons_zero, List.set_cons_succ, p0, p1, p2, p3, p5, p6, p7, p9, p11, p12, p13, p14, p16, p17, p19, p20, p22, p23]
  clear p0 p1 p2 p3 p5 p6 p7 p9 p11 p12 p13 p14 p16 p17 p19 p20 p22 p23
  generalize vs 4 = y4 at *
  generalize vs 8 = y8 at *
  generalize vs 10 = y10 at *
  generalize vs 15 = y15 at *
  generalize vs 18 = y18 at *
  generalize vs 21 = y21 at *
  generalize vs 24 = y24 at *
  generalize vs 25 = y25 at *
  clear vs
  obtain ⟨A9, n9, c9, rfl, h9⟩ := p25
  replace be := belowP be x.bs x.d
  have HF : Hid (ip4R x0 ts ln id p tl pr s6 sh sl d6 dh dl o = ([[UInt8.ofNat x0, UInt8.ofNat ts], (dig (ln) 2), (dig (id) 2), (dig (p) 2), [UInt8.ofNat (tl), UInt8.ofNat (pr), UInt8.ofNat (0), UInt8.ofNat (0)], (adrB s6 sh sl), (adrB d6 dh dl), o]).flatten) := Lib.hid rfl
  rw [← HF.out] at h9
  have h9' := h9.1
  generalize plus ((w.alloc (.cells #[.int .u8 (ts : Int), .int .i64 (ln : Int), .int .u16 (id : Int), .bool false, .bool true, .int .i64 (fo : Int), .int .u8 (tl : Int), .int .u8 (pr : Int), .int .u16 (sm : Int), .bool s6, .int .u64 (sh : Int), .int .u64 (sl : Int), .bool d6, .int .u64 (dh : Int), .int .u64 (dl : Int), .slice A n k] 184)).alloc (.cells #[.int .u8 (x0 : Int), .int .u8 (ts : Int)] 5)) x.bs x.d = W at *
  clear HF
  generalize hLL : ip4R x0 ts ln id p tl pr s6 sh sl d6 dh dl o = LL at *
  replace hLL := Lib.hid hLL
  have HS := Lib.hid (fun w (h : Rb w A9 n9 c9 LL) => refSumOf A9 n9 c9 LL w h (by omega))
  have hs1 : 65535 - fd (tot false LL) ≤ 65535 := Nat.sub_le _ _
  generalize hss : 65535 - fd (tot false LL) = s at *
  replace hss := Lib.hid hss
  have gs : IntKind.u64.wrap (s : Int) = (s : Int) := IntWalk.u64_in _ (by omega)
  have hn9 : 12 ≤ n9 := by omega
  have hn9' : n9 ≤ 1000 := by omega
  go_wp2_with fail
  refine (HS.out _ h9.rb).mono ?_
  rintro e w1 ⟨rfl, rfl⟩
  go_wp2_with fail
  refine (refBytes_any s 2 _ (by omega) (by decide)).mono ?_
  rintro e w1 ⟨A3, n3, c3, bs3, d3, rfl, rfl, ho3⟩
  obtain rfl : n3 = 2 := by rw [← ho3.1, dig_length]
  go_wp2_with fail
  refine (refSet _ _ _ LL 10 _ _ _ _ _ (h9.rb.plus_ _ _) ho3.rb (by omega) (by omega) (by omega)).mono ?_
  rintro e w1 ⟨A4, n4, c4, bs4, d4, rfl, rfl, ho4⟩
  go_wp2
  go_ret
  try rw [hLL.out]
  try rw [hss.out]
  refine RetB.mk (ho4.mono ?_) ?_
  · have := be.size; simp [size_plus]; omega
  · with_reducible repeat (first | exact be | refine belowP ?_ _ _)
set_option maxHeartbeats 4000000 in
set_option maxRecDepth 100000 in
theorem refIp4Bytes_yn (ts ln id : Nat) (fo tl pr sm : Nat) (s6 : Bool) (sh sl : Nat) (d6 : Bool) (dh dl : Nat) (A : Option Addr) (n k : Nat) (o : List UInt8) (w : World) (hr : Rb w A n k o) (b1 : ts < 256) (b2 : id < 65536) (b3 : tl < 256) (b4 : pr < 256) (k1 : sh < 18446744073709551616) (k2 : sl < 18446744073709551616) (k3 : dh < 18446744073709551616) (k4 : dl < 18446744073709551616) (c1 : n ≤ 40) (c4 : ln ≤ 65535) (c5 : fo ≤ 8191) : Calls Try.prog 133 #[.agg (h4C ts (ln : Int) id true false (fo : Int) tl pr sm s6 sh sl d6 dh dl A n k).toArray] w (RetB w (setB (ip4R (69 + o.length / 4) ts ln id (pl4 true false fo) tl pr s6 sh sl d6 dh dl o) 10 (dig (65535 - fd (tot false (ip4R (69 + o.length / 4) ts ln id (pl4 true false fo) tl pr s6 sh sl d6 dh dl o))) 2))) := by
  have z1 := adrB_length s6 sh sl
  have z2 := adrB_length d6 dh dl
  obtain ⟨p, hp⟩ : ∃ p : Nat, p = fo + 16384 := ⟨_, rfl⟩
  have hpl : pl4 true false fo = p := by simp [pl4]; omega
  obtain ⟨q, hq⟩ : ∃ q : Nat, q = n / 4 := ⟨_, rfl⟩
  obtain ⟨x0, hx⟩ : ∃ x : Nat, x = 69 + q := ⟨_, rfl⟩
  have e0 : (n : Int).tdiv 4 = (q : Int) := by rw [Int.tdiv_eq_ediv_of_nonneg (by omega)]; omega
  have e1 : IntKind.i64.wrap (q : Int) = (q : Int) := IntWalk.i64_in _ (by omega)
  have e2 : IntKind.i64.wrap (69 + (q : Int)) = (x0 : Int) := by rw [IntWalk.i64_in _ (by omega)]; omega
  have e3 : IntKind.u8.wrap (x0 : Int) = (x0 : Int) := IntWalk.u8_in _ (by omega)
  have l0 : x0 < 256 := by omega
  have lp : p < 65536 := by omega
  have fp : IntKind.u64.wrap (fo : Int) = (fo : Int) := IntWalk.u64_in _ (by omega)
  have f1 : IntKind.u64.wrap ((fo : Int) + 16384) = (p : Int) := by rw [IntWalk.u64_in _ (by omega)]; omega
  rw [hpl, show 69 + o.length / 4 = x0 from by rw [hr.1]; omega]
  have HT : ([[UInt8.ofNat x0, UInt8.ofNat ts], (dig (ln) 2), (dig (id) 2), (dig (p) 2), [UInt8.ofNat (tl), UInt8.ofNat (pr), UInt8.ofNat (0), UInt8.ofNat (0)], (adrB s6 sh sl), (adrB d6 dh dl), o]).flatten.length ≤ 549755813888 := by simp [dig_length, hr.1]; omega
  have HL : (ip4R x0 ts ln id p tl pr s6 sh sl d6 dh dl o).length ≤ 1000 := by simp [ip4R, dig_length, hr.1]; omega
  have HL2 : 12 ≤ (ip4R x0 ts ln id p tl pr s6 sh sl d6 dh dl o).length := by simp [ip4R, dig_length, hr.1]; omega
  clear hpl hp hq hx
  replace HT := Lib.hid HT
  have hr3 : Rb ((w.alloc (.cells #[.int .u8 (ts : Int), .int .i64 (ln : Int), .int .u16 (id : Int), .bool true, .bool false, .int .i64 (fo : Int), .int .u8 (tl : Int), .int .u8 (pr : Int), .int .u16 (sm : Int), .bool s6, .int .u64 (sh : Int), .int .u64 (sl : Int), .bool d6, .int .u64 (dh : Int), .int .u64 (dl : Int), .slice A n k] 184)).alloc (.cells #[.int .u8 (x0 : Int), .int .u8 (ts : Int)] 5)) (some ⟨w.heap.size + 1, 0, none⟩) 2 2 [UInt8.ofNat x0, UInt8.ofNat ts] := Rb.litW _ _ (by simp) rfl (by decide) (by simp [bcs]; omega)
  have hr4 : Rb ((w.alloc (.cells #[.int .u8 (ts : Int), .int .i64 (ln : Int), .int .u16 (id : Int), .bool true, .bool false, .int .i64 (fo : Int), .int .u8 (tl : Int), .int .u8 (pr : Int), .int .u16 (sm : Int), .bool s6, .int .u64 (sh : Int), .int .u64 (sl : Int), .bool d6, .int .u64 (dh : Int), .int .u64 (dl : Int), .slice A n k] 184)).alloc (.cells #[.int .u8 (x0 : Int), .int .u8 (ts : Int)] 5)) A n k o := (hr.alloc _).alloc _
  have be : Below w.heap.size w ((w.alloc (.cells #[.int .u8 (ts : Int), .int .i64 (ln : Int), .int .u16 (id : Int), .bool true, .bool false, .int .i64 (fo : Int), .int .u8 (tl : Int), .int .u8 (pr : Int), .int .u16 (sm : Int), .bool s6, .int .u64 (sh : Int), .int .u64 (sl : Int), .bool d6, .int .u64 (dh : Int), .int .u64 (dl : Int), .slice A n k] 184)).alloc (.cells #[.int .u8 (x0 : Int), .int .u8 (ts : Int)] 5)) := Below.allocS (Below.allocS (Below.refl _ _) _) _
  have g0 : IntKind.u64.wrap (ln : Int) = (ln : Int) := IntWalk.u64_in _ (by omega)
  have g1 : IntKind.u64.wrap (id : Int) = (id : Int) := IntWalk.u64_in _ (by omega)
  unfold h4C
  go_enter Try.func133, Try.ntmps133
  go_wp2
  refine wp_rel 26 57 rfl (by kernel_rfl) (by kernel_rfl) (fun i => match i with | 0 => MP.eq (.slice (some ⟨w.heap.size + 1, 0, none⟩) 2 2) | 1 => MP.eq (.pointer (some ⟨w.heap.size, 1, none⟩)) | 2 => MP.eq (.int .i64 (ln : Int)) | 3 => MP.eq (.int .u64 (ln : Int)) | 4 => MP.rb (dig (ln) 2) | 5 => MP.eq (.pointer (some ⟨w.heap.size, 2, none⟩)) | 6 => MP.eq (.int .u16 (id : Int)) | 7 => MP.eq (.int .u64 (id : Int)) | 8 => MP.rb (dig (id) 2) | 9 => MP.eq (.int .u64 (p : Int)) | 10 => MP.rb (dig (p) 2) | 11 => MP.eq (.pointer (some ⟨w.heap.size, 6, none⟩)) | 12 => MP.eq (.int .u8 (tl : Int)) | 13 => MP.eq (.pointer (some ⟨w.heap.size, 7, none⟩)) | 14 => MP.eq (.int .u8 (pr : Int)) | 15 => MP.rb [UInt8.ofNat (tl), UInt8.ofNat (pr), UInt8.ofNat (0), UInt8.ofNat (0)] | 16 => MP.eq (.pointer (some ⟨w.heap.size, 9, none⟩)) | 17 => MP.eq (.agg #[.bool s6, .int .u64 (sh : Int), .int .u64 (sl : Int)]) | 18 => MP.ob w.heap.size (adrB s6 sh sl) | 19 => MP.eq (.pointer (some ⟨w.heap.size, 12, none⟩)) | 20 => MP.eq (.agg #[.bool d6, .int .u64 (dh : Int), .int .u64 (dl : Int)]) | 21 => MP.ob w.heap.size (adrB d6 dh dl) | 22 => MP.eq (.pointer (some ⟨w.heap.size, 15, none⟩)) | 23 => MP.eq (.slice A n k) | 24 => MP.rdl [[UInt8.ofNat x0, UInt8.ofNat ts], (dig (ln) 2), (dig (id) 2), (dig (p) 2), [UInt8.ofNat (tl), UInt8.ofNat (pr), UInt8.ofNat (0), UInt8.ofNat (0)], (adrB s6 sh sl), (adrB d6 dh dl), o] | 25 => MP.ob w.heap.size ([[UInt8.ofNat x0, UInt8.ofNat ts], (dig (ln) 2), (dig (id) 2), (dig (p) 2), [UInt8.ofNat (tl), UInt8.ofNat (pr), UInt8.ofNat (0), UInt8.ofNat (0)], (adrB s6 sh sl), (adrB d6 dh dl), o]).flatten | _ => MP.any) ?_ ?_
  · intro i hi o ho FA x hO hD K hK
    match i, hi, ho, hO, hD, hK with
    | 0, _, ho, hO, hD, hK => 
      obtain rfl := Option.some.inj ho.symm
      clear ho
      have ev4 : FA.eval (.tmp 4) = .slice (some ⟨w.heap.size + 1, 0, none⟩) 2 2 := hO 4 (by kernel_rfl)
      have e4 : FA.tmps[4]?.getD undef = .slice (some ⟨w.heap.size + 1, 0, none⟩) 2 2 := by simpa [Act.eval] using ev4
      replace ev4 := Lib.hid ev4
      clear hO hD
      go_simp
      exact hK.out _ _ (Ex.refl _) rfl
    | 1, _, ho, hO, hD, hK => 
      obtain rfl := Option.some.inj ho.symm
      clear ho
      have ev1 : FA.eval (.tmp 1) = .pointer (some ⟨w.heap.size, 0, none⟩) := hO 1 (by kernel_rfl)
      have e1 : FA.tmps[1]?.getD undef = .pointer (some ⟨w.heap.size, 0, none⟩) := by simpa [Act.eval] using ev1
      replace ev1 := Lib.hid ev1
      clear hO hD
      go_simp
      exact hK.out _ _ (Ex.refl _) rfl
    | 2, _, ho, hO, hD, hK => 
      obtain rfl := Option.some.inj ho.symm
      clear ho
      have ev26 : FA.eval (.tmp 26) = .pointer (some ⟨w.heap.size, 1, none⟩) := hD 1 26 (by kernel_rfl)
      have e26 : FA.tmps[26]?.getD undef = .pointer (some ⟨w.heap.size, 1, none⟩) := by simpa [Act.eval] using ev26
      replace ev26 := Lib.hid ev26
      clear hO hD
      go_simp
      exact hK.out _ _ (Ex.refl _) rfl
    | 3, _, ho, hO, hD, hK => 
      obtain rfl := Option.some.inj ho.symm
      clear ho
      have ev27 : FA.eval (.tmp 27) = .int .i64 (ln : Int) := hD 2 27 (by kernel_rfl)
      have e27 : FA.tmps[27]?.getD undef = .int .i64 (ln : Int) := by simpa [Act.eval] using ev27
      replace ev27 := Lib.hid ev27
      clear hO hD
      go_simp
      exact hK.out _ _ (Ex.refl _) rfl
    | 4, _, ho, hO, hD, hK => 
      obtain rfl := Option.some.inj ho.symm
      clear ho
      have ev28 : FA.eval (.tmp 28) = .int .u64 (ln : Int) := hD 3 28 (by kernel_rfl)
      have e28 : FA.tmps[28]?.getD undef = .int .u64 (ln : Int) := by simpa [Act.eval] using ev28
      replace ev28 := Lib.hid ev28
      clear hO hD
      go_simp
      refine (refBytes_any (ln) 2 _ (by omega) (by omega)).mono ?_
      rintro e w1 ⟨A2, n2, c2, bs2, d2, rfl, rfl, ho2⟩
      exact hK.out _ _ (Ex.plus_ _ _ _) ⟨_, _, _, rfl, ho2.rb⟩
    | 5, _, ho, hO, hD, hK => 
      obtain rfl := Option.some.inj ho.symm
      clear ho
      have ev1 : FA.eval (.tmp 1) = .pointer (some ⟨w.heap.size, 0, none⟩) := hO 1 (by kernel_rfl)
      have e1 : FA.tmps[1]?.getD undef = .pointer (some ⟨w.heap.size, 0, none⟩) := by simpa [Act.eval] using ev1
      replace ev1 := Lib.hid ev1
      clear hO hD
      go_simp
      exact hK.out _ _ (Ex.refl _) rfl
    | 6, _, ho, hO, hD, hK => 
      obtain rfl := Option.some.inj ho.symm
      clear ho
      have ev30 : FA.eval (.tmp 30) = .pointer (some ⟨w.heap.size, 2, none⟩) := hD 5 30 (by kernel_rfl)
      have e30 : FA.tmps[30]?.getD undef = .pointer (some ⟨w.heap.size, 2, none⟩) := by simpa [Act.eval] using ev30
      replace ev30 := Lib.hid ev30
      clear hO hD
      go_simp
      exact hK.out _ _ (Ex.refl _) rfl
    | 7, _, ho, hO, hD, hK => 
      obtain rfl := Option.some.inj ho.symm
      clear ho
      have ev31 : FA.eval (.tmp 31) = .int .u16 (id : Int) := hD 6 31 (by kernel_rfl)
      have e31 : FA.tmps[31]?.getD undef = .int .u16 (id : Int) := by simpa [Act.eval] using ev31
      replace ev31 := Lib.hid ev31
      clear hO hD
      go_simp
      exact hK.out _ _ (Ex.refl _) rfl
    | 8, _, ho, hO, hD, hK => 
      obtain rfl := Option.some.inj ho.symm
      clear ho
      have ev32 : FA.eval (.tmp 32) = .int .u64 (id : Int) := hD 7 32 (by kernel_rfl)
      have e32 : FA.tmps[32]?.getD undef = .int .u64 (id : Int) := by simpa [Act.eval] using ev32
      replace ev32 := Lib.hid ev32
      clear hO hD
      go_simp
      refine (refBytes_any (id) 2 _ (by omega) (by omega)).mono ?_
      rintro e w1 ⟨A2, n2, c2, bs2, d2, rfl, rfl, ho2⟩
      exact hK.out _ _ (Ex.plus_ _ _ _) ⟨_, _, _, rfl, ho2.rb⟩
    | 9, _, ho, hO, hD, hK => 
      obtain rfl := Option.some.inj ho.symm
      clear ho
      have ev3 : FA.eval (.tmp 3) = .int .u64 (p : Int) := hO 3 (by kernel_rfl)
      have e3 : FA.tmps[3]?.getD undef = .int .u64 (p : Int) := by simpa [Act.eval] using ev3
      replace ev3 := Lib.hid ev3
      clear hO hD
      go_simp
      exact hK.out _ _ (Ex.refl _) rfl
    | 10, _, ho, hO, hD, hK => 
      obtain rfl := Option.some.inj ho.symm
      clear ho
      have ev34 : FA.eval (.tmp 34) = .int .u64 (p : Int) := hD 9 34 (by kernel_rfl)
      have e34 : FA.tmps[34]?.getD undef = .int .u64 (p : Int) := by simpa [Act.eval] using ev34
      replace ev34 := Lib.hid ev34
      clear hO hD
      go_simp
      refine (refBytes_any (p) 2 _ (by omega) (by omega)).mono ?_
      rintro e w1 ⟨A2, n2, c2, bs2, d2, rfl, rfl, ho2⟩
      exact hK.out _ _ (Ex.plus_ _ _ _) ⟨_, _, _, rfl, ho2.rb⟩
    | 11, _, ho, hO, hD, hK => 
      obtain rfl := Option.some.inj ho.symm
      clear ho
      have ev1 : FA.eval (.tmp 1) = .pointer (some ⟨w.heap.size, 0, none⟩) := hO 1 (by kernel_rfl)
      have e1 : FA.tmps[1]?.getD undef = .pointer (some ⟨w.heap.size, 0, none⟩) := by simpa [Act.eval] using ev1
      replace ev1 := Lib.hid ev1
      clear hO hD
      go_simp
      exact hK.out _ _ (Ex.refl _) rfl
    | 12, _, ho, hO, hD, hK => 
      obtain rfl := Option.some.inj ho.symm
      clear ho
      have ev36 : FA.eval (.tmp 36) = .pointer (some ⟨w.heap.size, 6, none⟩) := hD 11 36 (by kernel_rfl)
      have e36 : FA.tmps[36]?.getD undef = .pointer (some ⟨w.heap.size, 6, none⟩) := by simpa [Act.eval] using ev36
      replace ev36 := Lib.hid ev36
      clear hO hD
      go_simp
      exact hK.out _ _ (Ex.refl _) rfl
    | 13, _, ho, hO, hD, hK => 
      obtain rfl := Option.some.inj ho.symm
      clear ho
      have ev1 : FA.eval (.tmp 1) = .pointer (some ⟨w.heap.size, 0, none⟩) := hO 1 (by kernel_rfl)
      have e1 : FA.tmps[1]?.getD undef = .pointer (some ⟨w.heap.size, 0, none⟩) := by simpa [Act.eval] using ev1
      replace ev1 := Lib.hid ev1
      clear hO hD
      go_simp
      exact hK.out _ _ (Ex.refl _) rfl
    | 14, _, ho, hO, hD, hK => 
      obtain rfl := Option.some.inj ho.symm
      clear ho
      have ev38 : FA.eval (.tmp 38) = .pointer (some ⟨w.heap.size, 7, none⟩) := hD 13 38 (by kernel_rfl)
      have e38 : FA.tmps[38]?.getD undef = .pointer (some ⟨w.heap.size, 7, none⟩) := by simpa [Act.eval] using ev38
      replace ev38 := Lib.hid ev38
      clear hO hD
      go_simp
      exact hK.out _ _ (Ex.refl _) rfl
    | 15, _, ho, hO, hD, hK => 
      obtain rfl := Option.some.inj ho.symm
      clear ho
      have ev37 : FA.eval (.tmp 37) = .int .u8 (tl : Int) := hD 12 37 (by kernel_rfl)
      have e37 : FA.tmps[37]?.getD undef = .int .u8 (tl : Int) := by simpa [Act.eval] using ev37
      replace ev37 := Lib.hid ev37
      have ev39 : FA.eval (.tmp 39) = .int .u8 (pr : Int) := hD 14 39 (by kernel_rfl)
      have e39 : FA.tmps[39]?.getD undef = .int .u8 (pr : Int) := by simpa [Act.eval] using ev39
      replace ev39 := Lib.hid ev39
      clear hO hD
      go_simp
      refine hK.out _ _ (Ex.alloc _ _) ⟨_, _, _, rfl, ?_⟩
      refine Rb.litW _ [UInt8.ofNat (tl), UInt8.ofNat (pr), UInt8.ofNat (0), UInt8.ofNat (0)] ?_ rfl (by decide) ?_
      · simp [size_plus]
      · simp [bcs]; try omega
    | 16, _, ho, hO, hD, hK => 
      obtain rfl := Option.some.inj ho.symm
      clear ho
      have ev1 : FA.eval (.tmp 1) = .pointer (some ⟨w.heap.size, 0, none⟩) := hO 1 (by kernel_rfl)
      have e1 : FA.tmps[1]?.getD undef = .pointer (some ⟨w.heap.size, 0, none⟩) := by simpa [Act.eval] using ev1
      replace ev1 := Lib.hid ev1
      clear hO hD
      go_simp
      exact hK.out _ _ (Ex.refl _) rfl
    | 17, _, ho, hO, hD, hK => 
      obtain rfl := Option.some.inj ho.symm
      clear ho
      have ev41 : FA.eval (.tmp 41) = .pointer (some ⟨w.heap.size, 9, none⟩) := hD 16 41 (by kernel_rfl)
      have e41 : FA.tmps[41]?.getD undef = .pointer (some ⟨w.heap.size, 9, none⟩) := by simpa [Act.eval] using ev41
      replace ev41 := Lib.hid ev41
      clear hO hD
      go_simp
      exact hK.out _ _ (Ex.refl _) rfl
    | 18, _, ho, hO, hD, hK => 
      obtain rfl := Option.some.inj ho.symm
      clear ho
      have ev42 : FA.eval (.tmp 42) = .agg #[.bool s6, .int .u64 (sh : Int), .int .u64 (sl : Int)] := hD 17 42 (by kernel_rfl)
      have e42 : FA.tmps[42]?.getD undef = .agg #[.bool s6, .int .u64 (sh : Int), .int .u64 (sl : Int)] := by simpa [Act.eval] using ev42
      replace ev42 := Lib.hid ev42
      clear hO hD
      go_simp
      refine (refAdrBytes s6 sh sl _ (by omega) (by omega)).mono ?_
      rintro e w1 ⟨A2, n2, c2, bs2, d2, rfl, rfl, ho2⟩
      exact hK.out _ _ (Ex.plus_ _ _ _) ⟨_, _, _, rfl, ho2.mono (by have := be.size; simp [size_plus]; omega)⟩
    | 19, _, ho, hO, hD, hK => 
      obtain rfl := Option.some.inj ho.symm
      clear ho
      have ev1 : FA.eval (.tmp 1) = .pointer (some ⟨w.heap.size, 0, none⟩) := hO 1 (by kernel_rfl)
      have e1 : FA.tmps[1]?.getD undef = .pointer (some ⟨w.heap.size, 0, none⟩) := by simpa [Act.eval] using ev1
      replace ev1 := Lib.hid ev1
      clear hO hD
      go_simp
      exact hK.out _ _ (Ex.refl _) rfl
    | 20, _, ho, hO, hD, hK => 
      obtain rfl := Option.some.inj ho.symm
      clear ho
      have ev44 : FA.eval (.tmp 44) = .pointer (some ⟨w.heap.size, 12, none⟩) := hD 19 44 (by kernel_rfl)
      have e44 : FA.tmps[44]?.getD undef = .pointer (some ⟨w.heap.size, 12, none⟩) := by simpa [Act.eval] using ev44
      replace ev44 := Lib.hid ev44
      clear hO hD
      go_simp
      exact hK.out _ _ (Ex.refl _) rfl
    | 21, _, ho, hO, hD, hK => 
      obtain rfl := Option.some.inj ho.symm
      clear ho
      have ev45 : FA.eval (.tmp 45) = .agg #[.bool d6, .int .u64 (dh : Int), .int .u64 (dl : Int)] := hD 20 45 (by kernel_rfl)
      have e45 : FA.tmps[45]?.getD undef = .agg #[.bool d6, .int .u64 (dh : Int), .int .u64 (dl : Int)] := by simpa [Act.eval] using ev45
      replace ev45 := Lib.hid ev45
      clear hO hD
      go_simp
      refine (refAdrBytes d6 dh dl _ (by omega) (by omega)).mono ?_
      rintro e w1 ⟨A2, n2, c2, bs2, d2, rfl, rfl, ho2⟩
      exact hK.out _ _ (Ex.plus_ _ _ _) ⟨_, _, _, rfl, ho2.mono (by have := be.size; simp [size_plus]; omega)⟩
    | 22, _, ho, hO, hD, hK => 
      obtain rfl := Option.some.inj ho.symm
      clear ho
      have ev1 : FA.eval (.tmp 1) = .pointer (some ⟨w.heap.size, 0, none⟩) := hO 1 (by kernel_rfl)
      have e1 : FA.tmps[1]?.getD undef = .pointer (some ⟨w.heap.size, 0, none⟩) := by simpa [Act.eval] using ev1
      replace ev1 := Lib.hid ev1
      clear hO hD
      go_simp
      exact hK.out _ _ (Ex.refl _) rfl
    | 23, _, ho, hO, hD, hK => 
      obtain rfl := Option.some.inj ho.symm
      clear ho
      have ev47 : FA.eval (.tmp 47) = .pointer (some ⟨w.heap.size, 15, none⟩) := hD 22 47 (by kernel_rfl)
      have e47 : FA.tmps[47]?.getD undef = .pointer (some ⟨w.heap.size, 15, none⟩) := by simpa [Act.eval] using ev47
      replace ev47 := Lib.hid ev47
      clear hO hD
      go_simp
      exact hK.out _ _ (Ex.refl _) rfl
    | 24, _, ho, hO, hD, hK => 
      obtain rfl := Option.some.inj ho.symm
      clear ho
      have ev25 : FA.eval (.tmp 25) = .slice (some ⟨w.heap.size + 1, 0, none⟩) 2 2 := hD 0 25 (by kernel_rfl)
      have e25 : FA.tmps[25]?.getD undef = .slice (some ⟨w.heap.size + 1, 0, none⟩) 2 2 := by simpa [Act.eval] using ev25
      replace ev25 := Lib.hid ev25
      have f29 := hD 4 29 (by kernel_rfl)
      generalize eu29 : FA.eval (.tmp 29) = u29 at f29
      have e29 : FA.tmps[29]?.getD undef = u29 := by rw [← eu29]; simp [Act.eval]
      have ev29 := Lib.hid eu29
      clear eu29
      have f33 := hD 8 33 (by kernel_rfl)
      generalize eu33 : FA.eval (.tmp 33) = u33 at f33
      have e33 : FA.tmps[33]?.getD undef = u33 := by rw [← eu33]; simp [Act.eval]
      have ev33 := Lib.hid eu33
      clear eu33
      have f35 := hD 10 35 (by kernel_rfl)
      generalize eu35 : FA.eval (.tmp 35) = u35 at f35
      have e35 : FA.tmps[35]?.getD undef = u35 := by rw [← eu35]; simp [Act.eval]
      have ev35 := Lib.hid eu35
      clear eu35
      have f40 := hD 15 40 (by kernel_rfl)
      generalize eu40 : FA.eval (.tmp 40) = u40 at f40
      have e40 : FA.tmps[40]?.getD undef = u40 := by rw [← eu40]; simp [Act.eval]
      have ev40 := Lib.hid eu40
      clear eu40
      have f43 := hD 18 43 (by kernel_rfl)
      generalize eu43 : FA.eval (.tmp 43) = u43 at f43
      have e43 : FA.tmps[43]?.getD undef = u43 := by rw [← eu43]; simp [Act.eval]
      have ev43 := Lib.hid eu43
      clear eu43
      have f46 := hD 21 46 (by kernel_rfl)
      generalize eu46 : FA.eval (.tmp 46) = u46 at f46
      have e46 : FA.tmps[46]?.getD undef = u46 := by rw [← eu46]; simp [Act.eval]
      have ev46 := Lib.hid eu46
      clear eu46
      have ev48 : FA.eval (.tmp 48) = .slice A n k := hD 23 48 (by kernel_rfl)
      have e48 : FA.tmps[48]?.getD undef = .slice A n k := by simpa [Act.eval] using ev48
      replace ev48 := Lib.hid ev48
      clear hO hD
      obtain ⟨A29, n29, c29, rfl, h29⟩ := f29
      obtain ⟨A33, n33, c33, rfl, h33⟩ := f33
      obtain ⟨A35, n35, c35, rfl, h35⟩ := f35
      obtain ⟨A40, n40, c40, rfl, h40⟩ := f40
      obtain ⟨A43, n43, c43, rfl, h43⟩ := f43
      obtain ⟨A46, n46, c46, rfl, h46⟩ := f46
      go_simp
      refine hK.out _ _ (Ex.alloc _ _) ⟨_, _, _, rfl, ?_⟩
      refine RdL.litW _ _ ?_ ?_
      · simp [size_plus]
      · exact .cons ⟨_, _, _, rfl, hr3.plus_ _ _⟩ (.cons ⟨_, _, _, rfl, h29⟩ (.cons ⟨_, _, _, rfl, h33⟩ (.cons ⟨_, _, _, rfl, h35⟩ (.cons ⟨_, _, _, rfl, h40⟩ (.cons ⟨_, _, _, rfl, h43.rb⟩ (.cons ⟨_, _, _, rfl, h46.rb⟩ (.cons ⟨_, _, _, rfl, hr4.plus_ _ _⟩ (.nil))))))))
    | 25, _, ho, hO, hD, hK => 
      obtain rfl := Option.some.inj ho.symm
      clear ho
      have f49 := hD 24 49 (by kernel_rfl)
      generalize eu49 : FA.eval (.tmp 49) = u49 at f49
      have e49 : FA.tmps[49]?.getD undef = u49 := by rw [← eu49]; simp [Act.eval]
      have ev49 := Lib.hid eu49
      clear eu49
      clear hO hD
      obtain ⟨A1, m1, c1, rfl, hl1⟩ := f49
      have hm1 : m1 ≤ 100 := by obtain ⟨_, _, h2, _⟩ := hl1; simp only [List.length_cons, List.length_nil] at h2; omega
      go_simp
      refine (refJoin_any A1 m1 c1 _ _ hl1 (by omega) HT.out).mono ?_
      rintro e w1 ⟨A2, n2, c2, bs2, d2, rfl, rfl, ho2⟩
      exact hK.out _ _ (Ex.plus_ _ _ _) ⟨_, _, _, rfl, ho2.mono (by simp [size_plus]; omega)⟩
    | (k + 26), hi, _, _, _, _ => exact absurd hi (by omega)
  intro vs x hp
  have p0 : vs 0 = .slice (some ⟨w.heap.size + 1, 0, none⟩) 2 2 := hp 0 (by omega)
  have p1 : vs 1 = .pointer (some ⟨w.heap.size, 1, none⟩) := hp 1 (by omega)
  have p2 : vs 2 = .int .i64 (ln : Int) := hp 2 (by omega)
  have p3 : vs 3 = .int .u64 (ln : Int) := hp 3 (by omega)
  have p4 := hp 4 (by omega)
  have p5 : vs 5 = .pointer (some ⟨w.heap.size, 2, none⟩) := hp 5 (by omega)
  have p6 : vs 6 = .int .u16 (id : Int) := hp 6 (by omega)
  have p7 : vs 7 = .int .u64 (id : Int) := hp 7 (by omega)
  have p8 := hp 8 (by omega)
  have p9 : vs 9 = .int .u64 (p : Int) := hp 9 (by omega)
  have p10 := hp 10 (by omega)
  have p11 : vs 11 = .pointer (some ⟨w.heap.size, 6, none⟩) := hp 11 (by omega)
  have p12 : vs 12 = .int .u8 (tl : Int) := hp 12 (by omega)
  have p13 : vs 13 = .pointer (some ⟨w.heap.size, 7, none⟩) := hp 13 (by omega)
  have p14 : vs 14 = .int .u8 (pr : Int) := hp 14 (by omega)
  have p15 := hp 15 (by omega)
  have p16 : vs 16 = .pointer (some ⟨w.heap.size, 9, none⟩) := hp 16 (by omega)
  have p17 : vs 17 = .agg #[.bool s6, .int .u64 (sh : Int), .int .u64 (sl : Int)] := hp 17 (by omega)
  have p18 := hp 18 (by omega)
  have p19 : vs 19 = .pointer (some ⟨w.heap.size, 12, none⟩) := hp 19 (by omega)
  have p20 : vs 20 = .agg #[.bool d6, .int .u64 (dh : Int), .int .u64 (dl : Int)] := hp 20 (by omega)
  have p21 := hp 21 (by omega)
  have p22 : vs 22 = .pointer (some ⟨w.heap.size, 15, none⟩) := hp 22 (by omega)
  have p23 : vs 23 = .slice A n k := hp 23 (by omega)
  have p24 := hp 24 (by omega)
  have p25 := hp 25 (by omega)
  clear hp
  simp only [List.take_succ_cons, List.take_zero, List.drop_succ_cons, List.drop_zero, putAll, Nat.zero_add, Nat.reduceAdd, Act.put, List.setIfInBounds_toArray, List.set_cons_zero, List.set_cons_succ, p0, p1, p2, p3, p5, p6, p7, p9, p11, p12, p13, p14, p16, p17, p19, p20, p22, p23]
  clear p0 p1 p2 p3 p5 p6 p7 p9 p11 p12 p13 p14 p16 p17 p19 p20 p22 p23
  generalize vs 4 = y4 at *
  generalize vs 8 = y8 at *
  generalize vs 10 = y10 at *
  generalize vs 15 = y15 at *
  generalize vs 18 = y18 at *
  generalize vs 21 = y21 at *
  generalize vs 24 = y24 at *
  generalize vs 25 = y25 at *
  clear vs
  obtain ⟨A9, n9, c9, rfl, h9⟩ := p25
  replace be := belowP be x.bs x.d
  have HF : Hid (ip4R x0 ts ln id p tl pr s6 sh sl d6 dh dl o = ([[UInt8.ofNat x0, UInt8.ofNat ts], (dig (ln) 2), (dig (id) 2), (dig (p) 2), [UInt8.ofNat (tl), UInt8.ofNat (pr), UInt8.ofNat (0), UInt8.ofNat (0)], (adrB s6 sh sl), (adrB d6 dh dl), o]).flatten) := Lib.hid rfl
  rw [← HF.out] at h9
  have h9' := h9.1
  generalize plus ((w.alloc (.cells #[.int .u8 (ts : Int), .int .i64 (ln : Int), .int .u16 (id : Int), .bool true, .bool false, .int .i64 (fo : Int), .int .u8 (tl : Int), .int .u8 (pr : Int), .int .u16 (sm : Int), .bool s6, .int .u64 (sh : Int), .int .u64 (sl : Int), .bool d6, .int .u64 (dh : Int), .int .u64 (dl : Int), .slice A n k] 184)).alloc (.cells #[.int .u8 (x0 : Int), .int .u8 (ts : Int)] 5)) x.bs x.d = W at *
  clear HF
  generalize hLL : ip4R x0 ts ln id p tl pr s6 sh sl d6 dh dl o = LL at *
  replace hLL := Lib.hid hLL
  have HS := Lib.hid (fun w (h : Rb w A9 n9 c9 LL) => refSumOf A9 n9 c9 LL w h (by omega))
  have hs1 : 65535 - fd (tot false LL) ≤ 65535 := Nat.sub_le _ _
  generalize hss : 65535 - fd (tot false LL) = s at *
  replace hss := Lib.hid hss
  have gs : IntKind.u64.wrap (s : Int) = (s : Int) := IntWalk.u64_in _ (by omega)
  have hn9 : 12 ≤ n9 := by omega
  have hn9' : n9 ≤ 1000 := by omega
  go_wp2_with fail
  refine (HS.out _ h9.rb).mono ?_
  rintro e w1 ⟨rfl, rfl⟩
  go_wp2_with fail
  refine (refBytes_any s 2 _ (by omega) (by decide)).mono ?_
  rintro e w1 ⟨A3, n3, c3, bs3, d3, rfl, rfl, ho3⟩
  obtain rfl : n3 = 2 := by rw [← ho3.1, dig_length]
  go_wp2_with fail
  refine (refSet _ _ _ LL 10 _ _ _ _ _ (h9.rb.plus_ _ _) ho3.rb (by omega) (by omega) (by omega)).mono ?_
  rintro e w1 ⟨A4, n4, c4, bs4, d4, rfl, rfl, ho4⟩
  go_wp2
  go_ret
  try rw [hLL.out]
  try rw [hss.out]
  refine RetB.mk (ho4.mono ?_) ?_
  · have := be.size; simp [size_plus]; omega
  · with_reducible repeat (first | exact be | refine belowP ?_ _ _)
set_option maxHeartbeats 4000000 in
set_option maxRecDepth 100000 in
theorem refIp4Bytes_yy (ts ln id : Nat) (fo tl pr sm : Nat) (s6 : Bool) (sh sl : Nat) (d6 : Bool) (dh dl : Nat) (A : Option Addr) (n k : Nat) (o : List UInt8) (w : World) (hr : Rb w A n k o) (b1 : ts < 256) (b2 : id < 65536) (b3 : tl < 256) (b4 : pr < 256) (k1 : sh < 18446744073709551616) (k2 : sl < 18446744073709551616) (k3 : dh < 18446744073709551616) (k4 : dl < 18446744073709551616) (c1 : n ≤ 40) (c4 : ln ≤ 65535) (c5 : fo ≤ 8191) : Calls Try.prog 133 #[.agg (h4C ts (ln : Int) id true true (fo : Int) tl pr sm s6 sh sl d6 dh dl A n k).toArray] w (RetB w (setB (ip4R (69 + o.length / 4) ts ln id (pl4 true true fo) tl pr s6 sh sl d6 dh dl o) 10 (dig (65535 - fd (tot false (ip4R (69 + o.length / 4) ts ln id (pl4 true true fo) tl pr s6 sh sl d6 dh dl o))) 2))) := by
  have z1 := adrB_length s6 sh sl
  have z2 := adrB_length d6 dh dl
  obtain ⟨p, hp⟩ : ∃ p : Nat, p = fo + 24576 := ⟨_, rfl⟩
  have hpl : pl4 true true fo = p := by simp [pl4]; omega
  obtain ⟨q, hq⟩ : ∃ q : Nat, q = n / 4 := ⟨_, rfl⟩
  obtain ⟨x0, hx⟩ : ∃ x : Nat, x = 69 + q := ⟨_, rfl⟩
  have e0 : (n : Int).tdiv 4 = (q : Int) := by rw [Int.tdiv_eq_ediv_of_nonneg (by omega)]; omega
  have e1 : IntKind.i64.wrap (q : Int) = (q : Int) := IntWalk.i64_in _ (by omega)
  have e2 : IntKind.i64.wrap (69 + (q : Int)) = (x0 : Int) := by rw [IntWalk.i64_in _ (by omega)]; omega
  have e3 : IntKind.u8.wrap (x0 : Int) = (x0 : Int) := IntWalk.u8_in _ (by omega)
  have l0 : x0 < 256 := by omega
  have lp : p < 65536 := by omega
  have fp : IntKind.u64.wrap (fo : Int) = (fo : Int) := IntWalk.u64_in _ (by omega)
  obtain ⟨p1, hp1⟩ : ∃ p : Nat, p = fo + 16384 := ⟨_, rfl⟩
  have f1 : IntKind.u64.wrap ((fo : Int) + 16384) = (p1 : Int) := by rw [IntWalk.u64_in _ (by omega)]; omega
  have f2 : IntKind.u64.wrap ((p1 : Int) + 8192) = (p : Int) := by rw [IntWalk.u64_in _ (by omega)]; omega
  rw [hpl, show 69 + o.length / 4 = x0 from by rw [hr.1]; omega]
  have HT : ([[UInt8.ofNat x0, UInt8.ofNat ts], (dig (ln) 2), (dig (id) 2), (dig (p) 2), [UInt8.ofNat (tl), UInt8.ofNat (pr), UInt8.ofNat (0), UInt8.ofNat (0)], (adrB s6 sh sl), (adrB d6 dh dl), o]).flatten.length ≤ 549755813888 := by simp [dig_length, hr.1]; omega
  have HL : (ip4R x0 ts ln id p tl pr s6 sh sl d6 dh dl o).length ≤ 1000 := by simp [ip4R, dig_length, hr.1]; omega
  have HL2 : 12 ≤ (ip4R x0 ts ln id p tl pr s6 sh sl d6 dh dl o).length := by simp [ip4R, dig_length, hr.1]; omega
  clear hpl hp hq hx hp1
  replace HT := Lib.hid HT
  have hr3 : Rb ((w.alloc (.cells #[.int .u8 (ts : Int), .int .i64 (ln : Int), .int .u16 (id : Int), .bool true, .bool true, .int .i64 (fo : Int), .int .u8 (tl : Int), .int .u8 (pr : Int), .int .u16 (sm : Int), .bool s6, .int .u64 (sh : Int), .int .u64 (sl : Int), .bool d6, .int .u64 (dh : Int), .int .u64 (dl : Int), .slice A n k] 184)).alloc (.cells #[.int .u8 (x0 : Int), .int .u8 (ts : Int)] 5)) (some ⟨w.heap.size + 1, 0, none⟩) 2 2 [UInt8.ofNat x0, UInt8.ofNat ts] := Rb.litW _ _ (by simp) rfl (by decide) (by simp [bcs]; omega)
  have hr4 : Rb ((w.alloc (.cells #[.int .u8 (ts : Int), .int .i64 (ln : Int), .int .u16 (id : Int), .bool true, .bool true, .int .i64 (fo : Int), .int .u8 (tl : Int), .int .u8 (pr : Int), .int .u16 (sm : Int), .bool s6, .int .u64 (sh : Int), .int .u64 (sl : Int), .bool d6, .int .u64 (dh : Int), .int .u64 (dl : Int), .slice A n k] 184)).alloc (.cells #[.int .u8 (x0 : Int), .int .u8 (ts : Int)] 5)) A n k o := (hr.alloc _).alloc _
  have be : Below w.heap.size w ((w.alloc (.cells #[.int .u8 (ts : Int), .int .i64 (ln : Int), .int .u16 (id : Int), .bool true, .bool true, .int .i64 (fo : Int), .int .u8 (tl : Int), .int .u8 (pr : Int), .int .u16 (sm : Int), .bool s6, .int .u64 (sh : Int), .int .u64 (sl : Int), .bool d6, .int .u64 (dh : Int), .int .u64 (dl : Int), .slice A n k] 184)).alloc (.cells #[.int .u8 (x0 : Int), .int .u8 (ts : Int)] 5)) := Below.allocS (Below.allocS (Below.refl _ _) _) _
  have g0 : IntKind.u64.wrap (ln : Int) = (ln : Int) := IntWalk.u64_in _ (by omega)
  have g1 : IntKind.u64.wrap (id : Int) = (id : Int) := IntWalk.u64_in _ (by omega)
  unfold h4C
  go_enter Try.func133, Try.ntmps133
  go_wp2
  refine wp_rel 26 57 rfl (by kernel_rfl) (by kernel_rfl) (fun i => match i with | 0 => MP.eq (.slice (some ⟨w.heap.size + 1, 0, none⟩) 2 2) | 1 => MP.eq (.pointer (some ⟨w.heap.size, 1, none⟩)) | 2 => MP.eq (.int .i64 (ln : Int)) | 3 => MP.eq (.int .u64 (ln : Int)) | 4 => MP.rb (dig (ln) 2) | 5 => MP.eq (.pointer (some ⟨w.heap.size, 2, none⟩)) | 6 => MP.eq (.int .u16 (id : Int)) | 7 => MP.eq (.int .u64 (id : Int)) | 8 => MP.rb (dig (id) 2) | 9 => MP.eq (.int .u64 (p : Int)) | 10 => MP.rb (dig (p) 2) | 11 => MP.eq (.pointer (some ⟨w.heap.size, 6, none⟩)) | 12 => MP.eq (.int .u8 (tl : Int)) | 13 => MP.eq (.pointer (some ⟨w.heap.size, 7, none⟩)) | 14 => MP.eq (.int .u8 (pr : Int)) | 15 => MP.rb [UInt8.ofNat (tl), UInt8.ofNat (pr), UInt8.ofNat (0), UInt8.ofNat (0)] | 16 => MP.eq (.pointer (some ⟨w.heap.size, 9, none⟩)) | 17 => MP.eq (.agg #[.bool s6, .int .u64 (sh : Int), .int .u64 (sl : Int)]) | 18 => MP.ob w.heap.size (adrB s6 sh sl) | 19 => MP.eq (.pointer (some ⟨w.heap.size, 12, none⟩)) | 20 => MP.eq (.agg #[.bool d6, .int .u64 (dh : Int), .int .u64 (dl : Int)]) | 21 => MP.ob w.heap.size (adrB d6 dh dl) | 22 => MP.eq (.pointer (some ⟨w.heap.size, 15, none⟩)) | 23 => MP.eq (.slice A n k) | 24 => MP.rdl [[UInt8.ofNat x0, UInt8.ofNat ts], (dig (ln) 2), (dig (id) 2), (dig (p) 2), [UInt8.ofNat (tl), UInt8.ofNat (pr), UInt8.ofNat (0), UInt8.ofNat (0)], (adrB s6 sh sl), (adrB d6 dh dl), o] | 25 => MP.ob w.heap.size ([[UInt8.ofNat x0, UInt8.ofNat ts], (dig (ln) 2), (dig (id) 2), (dig (p) 2), [UInt8.ofNat (tl), UInt8.ofNat (pr), UInt8.ofNat (0), UInt8.ofNat (0)], (adrB s6 sh sl), (adrB d6 dh dl), o]).flatten | _ => MP.any) ?_ ?_
  · intro i hi o ho FA x hO hD K hK
    match i, hi, ho, hO, hD, hK with
    | 0, _, ho, hO, hD, hK => 
      obtain rfl := Option.some.inj ho.symm
      clear ho
      have ev4 : FA.eval (.tmp 4) = .slice (some ⟨w.heap.size + 1, 0, none⟩) 2 2 := hO 4 (by kernel_rfl)
      have e4 : FA.tmps[4]?.getD undef = .slice (some ⟨w.heap.size + 1, 0, none⟩) 2 2 := by simpa [Act.eval] using ev4
      replace ev4 := Lib.hid ev4
      clear hO hD
      go_simp
      exact hK.out _ _ (Ex.refl _) rfl
    | 1, _, ho, hO, hD, hK => 
      obtain rfl := Option.some.inj ho.symm
      clear ho
      have ev1 : FA.eval (.tmp 1) = .pointer (some ⟨w.heap.size, 0, none⟩) := hO 1 (by kernel_rfl)
      have e1 : FA.tmps[1]?.getD undef = .pointer (some ⟨w.heap.size, 0, none⟩) := by simpa [Act.eval] using ev1
      replace ev1 := Lib.hid ev1
      clear hO hD
      go_simp
      exact hK.out _ _ (Ex.refl _) rfl
    | 2, _, ho, hO, hD, hK => 
      obtain rfl := Option.some.inj ho.symm
      clear ho
      have ev26 : FA.eval (.tmp 26) = .pointer (some ⟨w.heap.size, 1, none⟩) := hD 1 26 (by kernel_rfl)
      have e26 : FA.tmps[26]?.getD undef = .pointer (some ⟨w.heap.size, 1, none⟩) := by simpa [Act.eval] using ev26
      replace ev26 := Lib.hid ev26
      clear hO hD
      go_simp
      exact hK.out _ _ (Ex.refl _) rfl
    | 3, _, ho, hO, hD, hK => 
      obtain rfl := Option.some.inj ho.symm
      clear ho
      have ev27 : FA.eval (.tmp 27) = .int .i64 (ln : Int) := hD 2 27 (by kernel_rfl)
      have e27 : FA.tmps[27]?.getD undef = .int .i64 (ln : Int) := by simpa [Act.eval] using ev27
      replace ev27 := Lib.hid ev27
      clear hO hD
      go_simp
      exact hK.out _ _ (Ex.refl _) rfl
    | 4, _, ho, hO, hD, hK => 
      obtain rfl := Option.some.inj ho.symm
      clear ho
      have ev28 : FA.eval (.tmp 28) = .int .u64 (ln : Int) := hD 3 28 (by kernel_rfl)
      have e28 : FA.tmps[28]?.getD undef = .int .u64 (ln : Int) := by simpa [Act.eval] using ev28
      replace ev28 := Lib.hid ev28
      clear hO hD
      go_simp
      refine (refBytes_any (ln) 2 _ (by omega) (by omega)).mono ?_
      rintro e w1 ⟨A2, n2, c2, bs2, d2, rfl, rfl, ho2⟩
      exact hK.out _ _ (Ex.plus_ _ _ _) ⟨_, _, _, rfl, ho2.rb⟩
    | 5, _, ho, hO, hD, hK => 
      obtain rfl := Option.some.inj ho.symm
      clear ho
      have ev1 : FA.eval (.tmp 1) = .pointer (some ⟨w.heap.size, 0, none⟩) := hO 1 (by kernel_rfl)
      have e1 : FA.tmps[1]?.getD undef = .pointer (some ⟨w.heap.size, 0, none⟩) := by simpa [Act.eval] using ev1
      replace ev1 := Lib.hid ev1
      clear hO hD
      go_simp
      exact hK.out _ _ (Ex.refl _) rfl
    | 6, _, ho, hO, hD, hK => 
      obtain rfl := Option.some.inj ho.symm
      clear ho
      have ev30 : FA.eval (.tmp 30) = .pointer (some ⟨w.heap.size, 2, none⟩) := hD 5 30 (by kernel_rfl)
      have e30 : FA.tmps[30]?.getD undef = .pointer (some ⟨w.heap.size, 2, none⟩) := by simpa [Act.eval] using ev30
      replace ev30 := Lib.hid ev30
      clear hO hD
      go_simp
      exact hK.out _ _ (Ex.refl _) rfl
    | 7, _, ho, hO, hD, hK => 
      obtain rfl := Option.some.inj ho.symm
      clear ho
      have ev31 : FA.eval (.tmp 31) = .int .u16 (id : Int) := hD 6 31 (by kernel_rfl)
      have e31 : FA.tmps[31]?.getD undef = .int .u16 (id : Int) := by simpa [Act.eval] using ev31
      replace ev31 := Lib.hid ev31
      clear hO hD
      go_simp
      exact hK.out _ _ (Ex.refl _) rfl
    | 8, _, ho, hO, hD, hK => 
      obtain rfl := Option.some.inj ho.symm
      clear ho
      have ev32 : FA.eval (.tmp 32) = .int .u64 (id : Int) := hD 7 32 (by kernel_rfl)
      have e32 : FA.tmps[32]?.getD undef = .int .u64 (id : Int) := by simpa [Act.eval] using ev32
      replace ev32 := Lib.hid ev32
      clear hO hD
      go_simp
      refine (refBytes_any (id) 2 _ (by omega) (by omega)).mono ?_
      rintro e w1 ⟨A2, n2, c2, bs2, d2, rfl, rfl, ho2⟩
      exact hK.out _ _ (Ex.plus_ _ _ _) ⟨_, _, _, rfl, ho2.rb⟩
    | 9, _, ho, hO, hD, hK => 
      obtain rfl := Option.some.inj ho.symm
      clear ho
      have ev3 : FA.eval (.tmp 3) = .int .u64 (p : Int) := hO 3 (by kernel_rfl)
      have e3 : FA.tmps[3]?.getD undef = .int .u64 (p : Int) := by simpa [Act.eval] using ev3
      replace ev3 := Lib.hid ev3
      clear hO hD
      go_simp
      exact hK.out _ _ (Ex.refl _) rfl
    | 10, _, ho, hO, hD, hK => 
      obtain rfl := Option.some.inj ho.symm
      clear ho
      have ev34 : FA.eval (.tmp 34) = .int .u64 (p : Int) := hD 9 34 (by kernel_rfl)
      have e34 : FA.tmps[34]?.getD undef = .int .u64 (p : Int) := by simpa [Act.eval] using ev34
      replace ev34 := Lib.hid ev34
      clear hO hD
      go_simp
      refine (refBytes_any (p) 2 _ (by omega) (by omega)).mono ?_
      rintro e w1 ⟨A2, n2, c2, bs2, d2, rfl, rfl, ho2⟩
      exact hK.out _ _ (Ex.plus_ _ _ _) ⟨_, _, _, rfl, ho2.rb⟩
    | 11, _, ho, hO, hD, hK => 
      obtain rfl := Option.some.inj ho.symm
      clear ho
      have ev1 : FA.eval (.tmp 1) = .pointer (some ⟨w.heap.size, 0, none⟩) := hO 1 (by kernel_rfl)
      have e1 : FA.tmps[1]?.getD undef = .pointer (some ⟨w.heap.size, 0, none⟩) := by simpa [Act.eval] using ev1
      replace ev1 := Lib.hid ev1
      clear hO hD
      go_simp
      exact hK.out _ _ (Ex.refl _) rfl
    | 12, _, ho, hO, hD, hK => 
      obtain rfl := Option.some.inj ho.symm
      clear ho
      have ev36 : FA.eval (.tmp 36) = .pointer (some ⟨w.heap.size, 6, none⟩) := hD 11 36 (by kernel_rfl)
      have e36 : FA.tmps[36]?.getD undef = .pointer (some ⟨w.heap.size, 6, none⟩) := by simpa [Act.eval] using ev36
      replace ev36 := Lib.hid ev36
      clear hO hD
      go_simp
      exact hK.out _ _ (Ex.refl _) rfl
    | 13, _, ho, hO, hD, hK => 
      obtain rfl := Option.some.inj ho.symm
      clear ho
      have ev1 : FA.eval (.tmp 1) = .pointer (some ⟨w.heap.size, 0, none⟩) := hO 1 (by kernel_rfl)
      have e1 : FA.tmps[1]?.getD undef = .pointer (some ⟨w.heap.size, 0, none⟩) := by simpa [Act.eval] using ev1
      replace ev1 := Lib.hid ev1
      clear hO hD
      go_simp
      exact hK.out _ _ (Ex.refl _) rfl
    | 14, _, ho, hO, hD, hK => 
      obtain rfl := Option.some.inj ho.symm
      clear ho
      have ev38 : FA.eval (.tmp 38) = .pointer (some ⟨w.heap.size, 7, none⟩) := hD 13 38 (by kernel_rfl)
      have e38 : FA.tmps[38]?.getD undef = .pointer (some ⟨w.heap.size, 7, none⟩) := by simpa [Act.eval] using ev38
      replace ev38 := Lib.hid ev38
      clear hO hD
      go_simp
      exact hK.out _ _ (Ex.refl _) rfl
    | 15, _, ho, hO, hD, hK => 
      obtain rfl := Option.some.inj ho.symm
      clear ho
      have ev37 : FA.eval (.tmp 37) = .int .u8 (tl : Int) := hD 12 37 (by kernel_rfl)
      have e37 : FA.tmps[37]?.getD undef = .int .u8 (tl : Int) := by simpa [Act.eval] using ev37
      replace ev37 := Lib.hid ev37
      have ev39 : FA.eval (.tmp 39) = .int .u8 (pr : Int) := hD 14 39 (by kernel_rfl)
      have e39 : FA.tmps[39]?.getD undef = .int .u8 (pr : Int) := by simpa [Act.eval] using ev39
      replace ev39 := Lib.hid ev39
      clear hO hD
      go_simp
      refine hK.out _ _ (Ex.alloc _ _) ⟨_, _, _, rfl, ?_⟩
      refine Rb.litW _ [UInt8.ofNat (tl), UInt8.ofNat (pr), UInt8.ofNat (0), UInt8.ofNat (0)] ?_ rfl (by decide) ?_
      · simp [size_plus]
      · simp [bcs]; try omega
    | 16, _, ho, hO, hD, hK => 
      obtain rfl := Option.some.inj ho.symm
      clear ho
      have ev1 : FA.eval (.tmp 1) = .pointer (some ⟨w.heap.size, 0, none⟩) := hO 1 (by kernel_rfl)
      have e1 : FA.tmps[1]?.getD undef = .pointer (some ⟨w.heap.size, 0, none⟩) := by simpa [Act.eval] using ev1
      replace ev1 := Lib.hid ev1
      clear hO hD
      go_simp
      exact hK.out _ _ (Ex.refl _) rfl
    | 17, _, ho, hO, hD, hK => 
      obtain rfl := Option.some.inj ho.symm
      clear ho
      have ev41 : FA.eval (.tmp 41) = .pointer (some ⟨w.heap.size, 9, none⟩) := hD 16 41 (by kernel_rfl)
      have e41 : FA.tmps[41]?.getD undef = .pointer (some ⟨w.heap.size, 9, none⟩) := by simpa [Act.eval] using ev41
      replace ev41 := Lib.hid ev41
      clear hO hD
      go_simp
      exact hK.out _ _ (Ex.refl _) rfl
    | 18, _, ho, hO, hD, hK => 
      obtain rfl := Option.some.inj ho.symm
      clear ho
      have ev42 : FA.eval (.tmp 42) = .agg #[.bool s6, .int .u64 (sh : Int), .int .u64 (sl : Int)] := hD 17 42 (by kernel_rfl)
      have e42 : FA.tmps[42]?.getD undef = .agg #[.bool s6, .int .u64 (sh : Int), .int .u64 (sl : Int)] := by simpa [Act.eval] using ev42
      replace ev42 := Lib.hid ev42
      clear hO hD
      go_simp
      refine (refAdrBytes s6 sh sl _ (by omega) (by omega)).mono ?_
      rintro e w1 ⟨A2, n2, c2, bs2, d2, rfl, rfl, ho2⟩
      exact hK.out _ _ (Ex.plus_ _ _ _) ⟨_, _, _, rfl, ho2.mono (by have := be.size; simp [size_plus]; omega)⟩
    | 19, _, ho, hO, hD, hK => 
      obtain rfl := Option.some.inj ho.symm
      clear ho
      have ev1 : FA.eval (.tmp 1) = .pointer (some ⟨w.heap.size, 0, none⟩) := hO 1 (by kernel_rfl)
      have e1 : FA.tmps[1]?.getD undef = .pointer (some ⟨w.heap.size, 0, none⟩) := by simpa [Act.eval] using ev1
      replace ev1 := Lib.hid ev1
      clear hO hD
      go_simp
      exact hK.out _ _ (Ex.refl _) rfl
    | 20, _, ho, hO, hD, hK => 
      obtain rfl := Option.some.inj ho.symm
      clear ho
      have ev44 : FA.eval (.tmp 44) = .pointer (some ⟨w.heap.size, 12, none⟩) := hD 19 44 (by kernel_rfl)
      have e44 : FA.tmps[44]?.getD undef = .pointer (some ⟨w.heap.size, 12, none⟩) := by simpa [Act.eval] using ev44
      replace ev44 := Lib.hid ev44
      clear hO hD
      go_simp
      exact hK.out _ _ (Ex.refl _) rfl
    | 21, _, ho, hO, hD, hK => 
      obtain rfl := Option.some.inj ho.symm
      clear ho
      have ev45 : FA.eval (.tmp 45) = .agg #[.bool d6, .int .u64 (dh : Int), .int .u64 (dl : Int)] := hD 20 45 (by kernel_rfl)
      have e45 : FA.tmps[45]?.getD undef = .agg #[.bool d6, .int .u64 (dh : Int), .int .u64 (dl : Int)] := by simpa [Act.eval] using ev45
      replace ev45 := Lib.hid ev45
      clear hO hD
      go_simp
      refine (refAdrBytes d6 dh dl _ (by omega) (by omega)).mono ?_
      rintro e w1 ⟨A2, n2, c2, bs2, d2, rfl, rfl, ho2⟩
      exact hK.out _ _ (Ex.plus_ _ _ _) ⟨_, _, _, rfl, ho2.mono (by have := be.size; simp [size_plus]; omega)⟩
    | 22, _, ho, hO, hD, hK => 
      obtain rfl := Option.some.inj ho.symm
      clear ho
      have ev1 : FA.eval (.tmp 1) = .pointer (some ⟨w.heap.size, 0, none⟩) := hO 1 (by kernel_rfl)
      have e1 : FA.tmps[1]?.getD undef = .pointer (some ⟨w.heap.size, 0, none⟩) := by simpa [Act.eval] using ev1
      replace ev1 := Lib.hid ev1
      clear hO hD
      go_simp
      exact hK.out _ _ (Ex.refl _) rfl
    | 23, _, ho, hO, hD, hK => 
      obtain rfl := Option.some.inj ho.symm
      clear ho
      have ev47 : FA.eval (.tmp 47) = .pointer (some ⟨w.heap.size, 15, none⟩) := hD 22 47 (by kernel_rfl)
      have e47 : FA.tmps[47]?.getD undef = .pointer (some ⟨w.heap.size, 15, none⟩) := by simpa [Act.eval] using ev47
      replace ev47 := Lib.hid ev47
      clear hO hD
      go_simp
      exact hK.out _ _ (Ex.refl _) rfl
    | 24, _, ho, hO, hD, hK => 
      obtain rfl := Option.some.inj ho.symm
      clear ho
      have ev25 : FA.eval (.tmp 25) = .slice (some ⟨w.heap.size + 1, 0, none⟩) 2 2 := hD 0 25 (by kernel_rfl)
      have e25 : FA.tmps[25]?.getD undef = .slice (some ⟨w.heap.size + 1, 0, none⟩) 2 2 := by simpa [Act.eval] using ev25
      replace ev25 := Lib.hid ev25
      have f29 := hD 4 29 (by kernel_rfl)
      generalize eu29 : FA.eval (.tmp 29) = u29 at f29
      have e29 : FA.tmps[29]?.getD undef = u29 := by rw [← eu29]; simp [Act.eval]
      have ev29 := Lib.hid eu29
      clear eu29
      have f33 := hD 8 33 (by kernel_rfl)
      generalize eu33 : FA.eval (.tmp 33) = u33 at f33
      have e33 : FA.tmps[33]?.getD undef = u33 := by rw [← eu33]; simp [Act.eval]
      have ev33 := Lib.hid eu33
      clear eu33
      have f35 := hD 10 35 (by kernel_rfl)
      generalize eu35 : FA.eval (.tmp 35) = u35 at f35
      have e35 : FA.tmps[35]?.getD undef = u35 := by rw [← eu35]; simp [Act.eval]
      have ev35 := Lib.hid eu35
      clear eu35
      have f40 := hD 15 40 (by kernel_rfl)
      generalize eu40 : FA.eval (.tmp 40) = u40 at f40
      have e40 : FA.tmps[40]?.getD undef = u40 := by rw [← eu40]; simp [Act.eval]
      have ev40 := Lib.hid eu40
      clear eu40
      have f43 := hD 18 43 (by kernel_rfl)
      generalize eu43 : FA.eval (.tmp 43) = u43 at f43
      have e43 : FA.tmps[43]?.getD undef = u43 := by rw [← eu43]; simp [Act.eval]
      have ev43 := Lib.hid eu43
      clear eu43
      have f46 := hD 21 46 (by kernel_rfl)
      generalize eu46 : FA.eval (.tmp 46) = u46 at f46
      have e46 : FA.tmps[46]?.getD undef = u46 := by rw [← eu46]; simp [Act.eval]
      have ev46 := Lib.hid eu46
      clear eu46
      have ev48 : FA.eval (.tmp 48) = .slice A n k := hD 23 48 (by kernel_rfl)
      have e48 : FA.tmps[48]?.getD undef = .slice A n k := by simpa [Act.eval] using ev48
      replace ev48 := Lib.hid ev48
      clear hO hD
      obtain ⟨A29, n29, c29, rfl, h29⟩ := f29
      obtain ⟨A33, n33, c33, rfl, h33⟩ := f33
      obtain ⟨A35, n35, c35, rfl, h35⟩ := f35
      obtain ⟨A40, n40, c40, rfl, h40⟩ := f40
      obtain ⟨A43, n43, c43, rfl, h43⟩ := f43
      obtain ⟨A46, n46, c46, rfl, h46⟩ := f46
      go_simp
      refine hK.out _ _ (Ex.alloc _ _) ⟨_, _, _, rfl, ?_⟩
      refine RdL.litW _ _ ?_ ?_
      · simp [size_plus]
      · exact .cons ⟨_, _, _, rfl, hr3.plus_ _ _⟩ (.cons ⟨_, _, _, rfl, h29⟩ (.cons ⟨_, _, _, rfl, h33⟩ (.cons ⟨_, _, _, rfl, h35⟩ (.cons ⟨_, _, _, rfl, h40⟩ (.cons ⟨_, _, _, rfl, h43.rb⟩ (.cons ⟨_, _, _, rfl, h46.rb⟩ (.cons ⟨_, _, _, rfl, hr4.plus_ _ _⟩ (.nil))))))))
    | 25, _, ho, hO, hD, hK => 
      obtain rfl := Option.some.inj ho.symm
      clear ho
      have f49 := hD 24 49 (by kernel_rfl)
      generalize eu49 : FA.eval (.tmp 49) = u49 at f49
      have e49 : FA.tmps[49]?.getD undef = u49 := by rw [← eu49]; simp [Act.eval]
      have ev49 := Lib.hid eu49
      clear eu49
      clear hO hD
      obtain ⟨A1, m1, c1, rfl, hl1⟩ := f49
      have hm1 : m1 ≤ 100 := by obtain ⟨_, _, h2, _⟩ := hl1; simp only [List.length_cons, List.length_nil] at h2; omega
      go_simp
      refine (refJoin_any A1 m1 c1 _ _ hl1 (by omega) HT.out).mono ?_
      rintro e w1 ⟨A2, n2, c2, bs2, d2, rfl, rfl, ho2⟩
      exact hK.out _ _ (Ex.plus_ _ _ _) ⟨_, _, _, rfl, ho2.mono (by simp [size_plus]; omega)⟩
    | (k + 26), hi, _, _, _, _ => exact absurd hi (by omega)
  intro vs x hp
  have p0 : vs 0 = .slice (some ⟨w.heap.size + 1, 0, none⟩) 2 2 := hp 0 (by omega)
  have p1 : vs 1 = .pointer (some ⟨w.heap.size, 1, none⟩) := hp 1 (by omega)
  have p2 : vs 2 = .int .i64 (ln : Int) := hp 2 (by omega)
  have p3 : vs 3 = .int .u64 (ln : Int) := hp 3 (by omega)
  have p4 := hp 4 (by omega)
  have p5 : vs 5 = .pointer (some ⟨w.heap.size, 2, none⟩) := hp 5 (by omega)
  have p6 : vs 6 = .int .u16 (id : Int) := hp 6 (by omega)
  have p7 : vs 7 = .int .u64 (id : Int) := hp 7 (by omega)
  have p8 := hp 8 (by omega)
  have p9 : vs 9 = .int .u64 (p : Int) := hp 9 (by omega)
  have p10 := hp 10 (by omega)
  have p11 : vs 11 = .pointer (some ⟨w.heap.size, 6, none⟩) := hp 11 (by omega)
  have p12 : vs 12 = .int .u8 (tl : Int) := hp 12 (by omega)
  have p13 : vs 13 = .pointer (some ⟨w.heap.size, 7, none⟩) := hp 13 (by omega)
  have p14 : vs 14 = .int .u8 (pr : Int) := hp 14 (by omega)
  have p15 := hp 15 (by omega)
  have p16 : vs 16 = .pointer (some ⟨w.heap.size, 9, none⟩) := hp 16 (by omega)
  have p17 : vs 17 = .agg #[.bool s6, .int .u64 (sh : Int), .int .u64 (sl : Int)] := hp 17 (by omega)
  have p18 := hp 18 (by omega)
  have p19 : vs 19 = .pointer (some ⟨w.heap.size, 12, none⟩) := hp 19 (by omega)
  have p20 : vs 20 = .agg #[.bool d6, .int .u64 (dh : Int), .int .u64 (dl : Int)] := hp 20 (by omega)
  have p21 := hp 21 (by omega)
  have p22 : vs 22 = .pointer (some ⟨w.heap.size, 15, none⟩) := hp 22 (by omega)
  have p23 : vs 23 = .slice A n k := hp 23 (by omega)
  have p24 := hp 24 (by omega)
  have p25 := hp 25 (by omega)
  clear hp
  simp only [List.take_succ_cons, List.take_zero, List.drop_succ_cons, List.drop_zero, putAll, Nat.zero_add, Nat.reduceAdd, Act.put, List.setIfInBounds_toArray, List.set_cons_zero, List.set_cons_succ, p0, p1, p2, p3, p5, p6, p7, p9, p11, p12, p13, p14, p16, p17, p19, p20, p22, p23]
  clear p0 p1 p2 p3 p5 p6 p7 p9 p11 p12 p13 p14 p16 p17 p19 p20 p22 p23
  generalize vs 4 = y4 at *
  generalize vs 8 = y8 at *
  generalize vs 10 = y10 at *
  generalize vs 15 = y15 at *
  generalize vs 18 = y18 at *
  generalize vs 21 = y21 at *
  generalize vs 24 = y24 at *
  generalize vs 25 = y25 at *
  clear vs
  obtain ⟨A9, n9, c9, rfl, h9⟩ := p25
  replace be := belowP be x.bs x.d
  have HF : Hid (ip4R x0 ts ln id p tl pr s6 sh sl d6 dh dl o = ([[UInt8.ofNat x0, UInt8.ofNat ts], (dig (ln) 2), (dig (id) 2), (dig (p) 2), [UInt8.ofNat (tl), UInt8.ofNat (pr), UInt8.ofNat (0), UInt8.ofNat (0)], (adrB s6 sh sl), (adrB d6 dh dl), o]).flatten) := Lib.hid rfl
  rw [← HF.out] at h9
  have h9' := h9.1
  generalize plus ((w.alloc (.cells #[.int .u8 (ts : Int), .int .i64 (ln : Int), .int .u16 (id : Int), .bool true, .bool true, .int .i64 (fo : Int), .int .u8 (tl : Int), .int .u8 (pr : Int), .int .u16 (sm : Int), .bool s6, .int .u64 (sh : Int), .int .u64 (sl : Int), .bool d6, .int .u64 (dh : Int), .int .u64 (dl : Int), .slice A n k] 184)).alloc (.cells #[.int .u8 (x0 : Int), .int .u8 (ts : Int)] 5)) x.bs x.d = W at *
  clear HF
  generalize hLL : ip4R x0 ts ln id p tl pr s6 sh sl d6 dh dl o = LL at *
  replace hLL := Lib.hid hLL
  have HS := Lib.hid (fun w (h : Rb w A9 n9 c9 LL) => refSumOf A9 n9 c9 LL w h (by omega))
  have hs1 : 65535 - fd (tot false LL) ≤ 65535 := Nat.sub_le _ _
  generalize hss : 65535 - fd (tot false LL) = s at *
  replace hss := Lib.hid hss
  have gs : IntKind.u64.wrap (s : Int) = (s : Int) := IntWalk.u64_in _ (by omega)
  have hn9 : 12 ≤ n9 := by omega
  have hn9' : n9 ≤ 1000 := by omega
  go_wp2_with fail
  refine (HS.out _ h9.rb).mono ?_
  rintro e w1 ⟨rfl, rfl⟩
  go_wp2_with fail
  refine (refBytes_any s 2 _ (by omega) (by decide)).mono ?_
  rintro e w1 ⟨A3, n3, c3, bs3, d3, rfl, rfl, ho3⟩
  obtain rfl : n3 = 2 := by rw [← ho3.1, dig_length]
  go_wp2_with fail
  refine (refSet _ _ _ LL 10 _ _ _ _ _ (h9.rb.plus_ _ _) ho3.rb (by omega) (by omega) (by omega)).mono ?_
  rintro e w1 ⟨A4, n4, c4, bs4, d4, rfl, rfl, ho4⟩
  go_wp2
  go_ret
  try rw [hLL.out]
  try rw [hss.out]
  refine RetB.mk (ho4.mono ?_) ?_
  · have := be.size; simp [size_plus]; omega
  · with_reducible repeat (first | exact be | refine belowP ?_ _ _)
theorem refIp4Bytes_yes (ts ln id : Nat) (st mo : Bool) (fo tl pr sm sl dl : Nat) (A : Option Addr) (n k : Nat) (o : List UInt8) (w : World) (hr : Rb w A n k o) (b1 : ts < 256) (b2 : id < 65536) (b3 : tl < 256) (b4 : pr < 256) (b5 : sl < 4294967296) (b6 : dl < 4294967296) (c1 : n ≤ 40) (c2 : n % 4 = 0) (c3 : 20 + n ≤ ln) (c4 : ln ≤ 65535) (c5 : fo ≤ 8191) : Calls Try.prog 133 #[.agg (h4C ts (ln : Int) id st mo (fo : Int) tl pr sm false 0 sl false 0 dl A n k).toArray] w (RetB w (ip4B ts ln id (pl4 st mo fo) tl pr (ip4K ts ln id (pl4 st mo fo) tl pr sl dl o) sl dl o)) := by
  cases st
  · cases mo
    · have t := refIp4Bytes_nn ts ln id fo tl pr sm false 0 sl false 0 dl A n k o w hr b1 b2 b3 b4 (by omega) (by omega) (by omega) (by omega) c1 c4 c5
      rw [ip4R_B _ _ _ _ _ _ _ _ _ (by rw [hr.1]; exact c1) b1 b3 b4, setB_ip4] at t
      exact t
    · have t := refIp4Bytes_ny ts ln id fo tl pr sm false 0 sl false 0 dl A n k o w hr b1 b2 b3 b4 (by omega) (by omega) (by omega) (by omega) c1 c4 c5
      rw [ip4R_B _ _ _ _ _ _ _ _ _ (by rw [hr.1]; exact c1) b1 b3 b4, setB_ip4] at t
      exact t
  · cases mo
    · have t := refIp4Bytes_yn ts ln id fo tl pr sm false 0 sl false 0 dl A n k o w hr b1 b2 b3 b4 (by omega) (by omega) (by omega) (by omega) c1 c4 c5
      rw [ip4R_B _ _ _ _ _ _ _ _ _ (by rw [hr.1]; exact c1) b1 b3 b4, setB_ip4] at t
      exact t
    · have t := refIp4Bytes_yy ts ln id fo tl pr sm false 0 sl false 0 dl A n k o w hr b1 b2 b3 b4 (by omega) (by omega) (by omega) (by omega) c1 c4 c5
      rw [ip4R_B _ _ _ _ _ _ _ _ _ (by rw [hr.1]; exact c1) b1 b3 b4, setB_ip4] at t
      exact t
end Go.Proofs.Ytfmkndemkpecpaa
