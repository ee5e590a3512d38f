/- Texts of the law PacketCarries, part 5. -/
import Derived.Test.YtfmkndemkpecpaaZPacketCarries4
/- Headers of IPv4: the reference's Bytes. -/
namespace Go.Proofs.Ytfmkndemkpecpaa
open Go.RowKit
set_option linter.unusedVariables false
set_option linter.unusedSimpArgs false
attribute [local go_sem ↓] sliced_cut

attribute [local go_sem] cutA_zero

/-- the bytes of a header, the checksum 0; x0: its first byte -/
def ip4R (x0 ts ln id p tl pr : Nat) (s6 : Bool) (sh sl : Nat) (d6 : Bool) (dh dl : Nat) (o : List UInt8) : List UInt8 := ([[UInt8.ofNat x0, UInt8.ofNat ts], (dig (ln) 2), (dig (id) 2), (dig (p) 2), [UInt8.ofNat (tl), UInt8.ofNat (pr), UInt8.ofNat (0), UInt8.ofNat (0)], (adrB s6 sh sl), (adrB d6 dh dl), o]).flatten
theorem ip4R_B (ts ln id p tl pr sl dl : Nat) (o : List UInt8) (h1 : o.length ≤ 40) (b1 : ts < 256) (b3 : tl < 256) (b4 : pr < 256) : ip4R (69 + o.length / 4) ts ln id p tl pr false 0 sl false 0 dl o = ip4B ts ln id p tl pr 0 sl dl o := by
  unfold ip4R ip4B
  rw [dig1 _ (show 69 + o.length / 4 < 256 by omega), dig1 ts b1, dig1 tl b3, dig1 pr b4]
  simp [adrB, dig]
set_option maxHeartbeats 4000000 in
set_option maxRecDepth 100000 in
theorem refIp4Bytes_nn (ts ln id : Nat) (fo tl pr sm : Nat) (s6 : Bool) (sh sl : Nat) (d6 : Bool) (dh dl : Nat) (A : Option Addr) (n k : Nat) (o : List UInt8) (w : World) (hr : Rb w A n k o) (b1 : ts < 256) (b2 : id < 65536) (b3 : tl < 256) (b4 : pr < 256) (k1 : sh < 18446744073709551616) (k2 : sl < 18446744073709551616) (k3 : dh < 18446744073709551616) (k4 : dl < 18446744073709551616) (c1 : n ≤ 40) (c4 : ln ≤ 65535) (c5 : fo ≤ 8191) : Calls Try.prog 133 #[.agg (h4C ts (ln : Int) id false false (fo : Int) tl pr sm s6 sh sl d6 dh dl A n k).toArray] w (RetB w (setB (ip4R (69 + o.length / 4) ts ln id (pl4 false false fo) tl pr s6 sh sl d6 dh dl o) 10 (dig (65535 - fd (tot false (ip4R (69 + o.length / 4) ts ln id (pl4 false false fo) tl pr s6 sh sl d6 dh dl o))) 2))) := by
  have z1 := adrB_length s6 sh sl
  have z2 := adrB_length d6 dh dl
  obtain ⟨p, hp⟩ : ∃ p : Nat, p = fo + 0 := ⟨_, rfl⟩
  have hpl : pl4 false false fo = p := by simp [pl4]; omega
  obtain ⟨q, hq⟩ : ∃ q : Nat, q = n / 4 := ⟨_, rfl⟩
  obtain ⟨x0, hx⟩ : ∃ x : Nat, x = 69 + q := ⟨_, rfl⟩
  have e0 : (n : Int).tdiv 4 = (q : Int) := by rw [Int.tdiv_eq_ediv_of_nonneg (by omega)]; omega
  have e1 : IntKind.i64.wrap (q : Int) = (q : Int) := IntWalk.i64_in _ (by omega)
  have e2 : IntKind.i64.wrap (69 + (q : Int)) = (x0 : Int) := by rw [IntWalk.i64_in _ (by omega)]; omega
  have e3 : IntKind.u8.wrap (x0 : Int) = (x0 : Int) := IntWalk.u8_in _ (by omega)
  have l0 : x0 < 256 := by omega
  have lp : p < 65536 := by omega
  have fp : IntKind.u64.wrap (fo : Int) = (p : Int) := by rw [IntWalk.u64_in _ (by omega)]; omega
  rw [hpl, show 69 + o.length / 4 = x0 from by rw [hr.1]; omega]
  have HT : ([[UInt8.ofNat x0, UInt8.ofNat ts], (dig (ln) 2), (dig (id) 2), (dig (p) 2), [UInt8.ofNat (tl), UInt8.ofNat (pr), UInt8.ofNat (0), UInt8.ofNat (0)], (adrB s6 sh sl), (adrB d6 dh dl), o]).flatten.length ≤ 549755813888 := by simp [dig_length, hr.1]; omega
  have HL : (ip4R x0 ts ln id p tl pr s6 sh sl d6 dh dl o).length ≤ 1000 := by simp [ip4R, dig_length, hr.1]; omega
  have HL2 : 12 ≤ (ip4R x0 ts ln id p tl pr s6 sh sl d6 dh dl o).length := by simp [ip4R, dig_length, hr.1]; omega
  clear hpl hp hq hx
  replace HT := Lib.hid HT
  have hr3 : Rb ((w.alloc (.cells #[.int .u8 (ts : Int), .int .i64 (ln : Int), .int .u16 (id : Int), .bool false, .bool false, .int .i64 (fo : Int), .int .u8 (tl : Int), .int .u8 (pr : Int), .int .u16 (sm : Int), .bool s6, .int .u64 (sh : Int), .int .u64 (sl : Int), .bool d6, .int .u64 (dh : Int), .int .u64 (dl : Int), .slice A n k] 184)).alloc (.cells #[.int .u8 (x0 : Int), .int .u8 (ts : Int)] 5)) (some ⟨w.heap.size + 1, 0, none⟩) 2 2 [UInt8.ofNat x0, UInt8.ofNat ts] := Rb.litW _ _ (by simp) rfl (by decide) (by simp [bcs]; omega)
  have hr4 : Rb ((w.alloc (.cells #[.int .u8 (ts : Int), .int .i64 (ln : Int), .int .u16 (id : Int), .bool false, .bool false, .int .i64 (fo : Int), .int .u8 (tl : Int), .int .u8 (pr : Int), .int .u16 (sm : Int), .bool s6, .int .u64 (sh : Int), .int .u64 (sl : Int), .bool d6, .int .u64 (dh : Int), .int .u64 (dl : Int), .slice A n k] 184)).alloc (.cells #[.int .u8 (x0 : Int), .int .u8 (ts : Int)] 5)) A n k o := (hr.alloc _).alloc _
  have be : Below w.heap.size w ((w.alloc (.cells #[.int .u8 (ts : Int), .int .i64 (ln : Int), .int .u16 (id : Int), .bool false, .bool false, .int .i64 (fo : Int), .int .u8 (tl : Int), .int .u8 (pr : Int), .int .u16 (sm : Int), .bool s6, .int .u64 (sh : Int), .int .u64 (sl : Int), .bool d6, .int .u64 (dh : Int), .int .u64 (dl : Int), .slice A n k] 184)).alloc (.cells #[.int .u8 (x0 : Int), .int .u8 (ts : Int)] 5)) := Below.allocS (Below.allocS (Below.refl _ _) _) _
  have g0 : IntKind.u64.wrap (ln : Int) = (ln : Int) := IntWalk.u64_in _ (by omega)
  have g1 : IntKind.u64.wrap (id : Int) = (id : Int) := IntWalk.u64_in _ (by omega)
  unfold h4C
  go_enter Try.func133, Try.ntmps133
  go_wp2
  refine wp_rel 26 57 rfl (by kernel_rfl) (by kernel_rfl) (fun i => match i with | 0 => MP.eq (.slice (some ⟨w.heap.size + 1, 0, none⟩) 2 2) | 1 => MP.eq (.pointer (some ⟨w.heap.size, 1, none⟩)) | 2 => MP.eq (.int .i64 (ln : Int)) | 3 => MP.eq (.int .u64 (ln : Int)) | 4 => MP.rb (dig (ln) 2) | 5 => MP.eq (.pointer (some ⟨w.heap.size, 2, none⟩)) | 6 => MP.eq (.int .u16 (id : Int)) | 7 => MP.eq (.int .u64 (id : Int)) | 8 => MP.rb (dig (id) 2) | 9 => MP.eq (.int .u64 (p : Int)) | 10 => MP.rb (dig (p) 2) | 11 => MP.eq (.pointer (some ⟨w.heap.size, 6, none⟩)) | 12 => MP.eq (.int .u8 (tl : Int)) | 13 => MP.eq (.pointer (some ⟨w.heap.size, 7, none⟩)) | 14 => MP.eq (.int .u8 (pr : Int)) | 15 => MP.rb [UInt8.ofNat (tl), UInt8.ofNat (pr), UInt8.ofNat (0), UInt8.ofNat (0)] | 16 => MP.eq (.pointer (some ⟨w.heap.size, 9, none⟩)) | 17 => MP.eq (.agg #[.bool s6, .int .u64 (sh : Int), .int .u64 (sl : Int)]) | 18 => MP.ob w.heap.size (adrB s6 sh sl) | 19 => MP.eq (.pointer (some ⟨w.heap.size, 12, none⟩)) | 20 => MP.eq (.agg #[.bool d6, .int .u64 (dh : Int), .int .u64 (dl : Int)]) | 21 => MP.ob w.heap.size (adrB d6 dh dl) | 22 => MP.eq (.pointer (some ⟨w.heap.size, 15, none⟩)) | 23 => MP.eq (.slice A n k) | 24 => MP.rdl [[UInt8.ofNat x0, UInt8.ofNat ts], (dig (ln) 2), (dig (id) 2), (dig (p) 2), [UInt8.ofNat (tl), UInt8.ofNat (pr), UInt8.ofNat (0), UInt8.ofNat (0)], (adrB s6 sh sl), (adrB d6 dh dl), o] | 25 => MP.ob w.heap.size ([[UInt8.ofNat x0, UInt8.ofNat ts], (dig (ln) 2), (dig (id) 2), (dig (p) 2), [UInt8.ofNat (tl), UInt8.ofNat (pr), UInt8.ofNat (0), UInt8.ofNat (0)], (adrB s6 sh sl), (adrB d6 dh dl), o]).flatten | _ => MP.any) ?_ ?_
  · intro i hi o ho FA x hO hD K hK
    match i, hi, ho, hO, hD, hK with
    | 0, _, ho, hO, hD, hK => 
      obtain rfl := Option.some.inj ho.symm
      clear ho
      have ev4 : FA.eval (.tmp 4) = .slice (some ⟨w.heap.size + 1, 0, none⟩) 2 2 := hO 4 (by kernel_rfl)
      have e4 : FA.tmps[4]?.getD undef = .slice (some ⟨w.heap.size + 1, 0, none⟩) 2 2 := by simpa [Act.eval] using ev4
      replace ev4 := Lib.hid ev4
      clear hO hD
      go_simp
      exact hK.out _ _ (Ex.refl _) rfl
    | 1, _, ho, hO, hD, hK => 
      obtain rfl := Option.some.inj ho.symm
      clear ho
      have ev1 : FA.eval (.tmp 1) = .pointer (some ⟨w.heap.size, 0, none⟩) := hO 1 (by kernel_rfl)
      have e1 : FA.tmps[1]?.getD undef = .pointer (some ⟨w.heap.size, 0, none⟩) := by simpa [Act.eval] using ev1
      replace ev1 := Lib.hid ev1
      clear hO hD
      go_simp
      exact hK.out _ _ (Ex.refl _) rfl
    | 2, _, ho, hO, hD, hK => 
      obtain rfl := Option.some.inj ho.symm
      clear ho
      have ev26 : FA.eval (.tmp 26) = .pointer (some ⟨w.heap.size, 1, none⟩) := hD 1 26 (by kernel_rfl)
      have e26 : FA.tmps[26]?.getD undef = .pointer (some ⟨w.heap.size, 1, none⟩) := by simpa [Act.eval] using ev26
      replace ev26 := Lib.hid ev26
      clear hO hD
      go_simp
      exact hK.out _ _ (Ex.refl _) rfl
    | 3, _, ho, hO, hD, hK => 
      obtain rfl := Option.some.inj ho.symm
      clear ho
      have ev27 : FA.eval (.tmp 27) = .int .i64 (ln : Int) := hD 2 27 (by kernel_rfl)
      have e27 : FA.tmps[27]?.getD undef = .int .i64 (ln : Int) := by simpa [Act.eval] using ev27
      replace ev27 := Lib.hid ev27
      clear hO hD
      go_simp
      exact hK.out _ _ (Ex.refl _) rfl
    | 4, _, ho, hO, hD, hK => 
      obtain rfl := Option.some.inj ho.symm
      clear ho
      have ev28 : FA.eval (.tmp 28) = .int .u64 (ln : Int) := hD 3 28 (by kernel_rfl)
      have e28 : FA.tmps[28]?.getD undef = .int .u64 (ln : Int) := by simpa [Act.eval] using ev28
      replace ev28 := Lib.hid ev28
      clear hO hD
      go_simp
      refine (refBytes_any (ln) 2 _ (by omega) (by omega)).mono ?_
      rintro e w1 ⟨A2, n2, c2, bs2, d2, rfl, rfl, ho2⟩
      exact hK.out _ _ (Ex.plus_ _ _ _) ⟨_, _, _, rfl, ho2.rb⟩
    | 5, _, ho, hO, hD, hK => 
      obtain rfl := Option.some.inj ho.symm
      clear ho
      have ev1 : FA.eval (.tmp 1) = .pointer (some ⟨w.heap.size, 0, none⟩) := hO 1 (by kernel_rfl)
      have e1 : FA.tmps[1]?.getD undef = .pointer (some ⟨w.heap.size, 0, none⟩) := by simpa [Act.eval] using ev1
      replace ev1 := Lib.hid ev1
      clear hO hD
      go_simp
      exact hK.out _ _ (Ex.refl _) rfl
    | 6, _, ho, hO, hD, hK => 
      obtain rfl := Option.some.inj ho.symm
      clear ho
      have ev30 : FA.eval (.tmp 30) = .pointer (some ⟨w.heap.size, 2, none⟩) := hD 5 30 (by kernel_rfl)
      have e30 : FA.tmps[30]?.getD undef = .pointer (some ⟨w.heap.size, 2, none⟩) := by simpa [Act.eval] using ev30
      replace ev30 := Lib.hid ev30
      clear hO hD
      go_simp
      exact hK.out _ _ (Ex.refl _) rfl
    | 7, _, ho, hO, hD, hK => 
      obtain rfl := Option.some.inj ho.symm
      clear ho
      have ev31 : FA.eval (.tmp 31) = .int .u16 (id : Int) := hD 6 31 (by kernel_rfl)
      have e31 : FA.tmps[31]?.getD undef = .int .u16 (id : Int) := by simpa [Act.eval] using ev31
      replace ev31 := Lib.hid ev31
      clear hO hD
      go_simp
      exact hK.out _ _ (Ex.refl _) rfl
    | 8, _, ho, hO, hD, hK => 
      obtain rfl := Option.some.inj ho.symm
      clear ho
      have ev32 : FA.eval (.tmp 32) = .int .u64 (id : Int) := hD 7 32 (by kernel_rfl)
      have e32 : FA.tmps[32]?.getD undef = .int .u64 (id : Int) := by simpa [Act.eval] using ev32
      replace ev32 := Lib.hid ev32
      clear hO hD
      go_simp
      refine (refBytes_any (id) 2 _ (by omega) (by omega)).mono ?_
      rintro e w1 ⟨A2, n2, c2, bs2, d2, rfl, rfl, ho2⟩
      exact hK.out _ _ (Ex.plus_ _ _ _) ⟨_, _, _, rfl, ho2.rb⟩
    | 9, _, ho, hO, hD, hK => 
      obtain rfl := Option.some.inj ho.symm
      clear ho
      have ev3 : FA.eval (.tmp 3) = .int .u64 (p : Int) := hO 3 (by kernel_rfl)
      have e3 : FA.tmps[3]?.getD undef = .int .u64 (p : Int) := by simpa [Act.eval] using ev3
      replace ev3 := Lib.hid ev3
      clear hO hD
      go_simp
      exact hK.out _ _ (Ex.refl _) rfl
    | 10, _, ho, hO, hD, hK => 
      obtain rfl := Option.some.inj ho.symm
      clear ho
      have ev34 : FA.eval (.tmp 34) = .int .u64 (p : Int) := hD 9 34 (by kernel_rfl)
      have e34 : FA.tmps[34]?.getD undef = .int .u64 (p : Int) := by simpa [Act.eval] using ev34
      replace ev34 := Lib.hid ev34
      clear hO hD
      go_simp
      refine (refBytes_any (p) 2 _ (by omega) (by omega)).mono ?_
      rintro e w1 ⟨A2, n2, c2, bs2, d2, rfl, rfl, ho2⟩
      exact hK.out _ _ (Ex.plus_ _ _ _) ⟨_, _, _, rfl, ho2.rb⟩
    | 11, _, ho, hO, hD, hK => 
      obtain rfl := Option.some.inj ho.symm
      clear ho
      have ev1 : FA.eval (.tmp 1) = .pointer (some ⟨w.heap.size, 0, none⟩) := hO 1 (by kernel_rfl)
      have e1 : FA.tmps[1]?.getD undef = .pointer (some ⟨w.heap.size, 0, none⟩) := by simpa [Act.eval] using ev1
      replace ev1 := Lib.hid ev1
      clear hO hD
      go_simp
      exact hK.out _ _ (Ex.refl _) rfl
    | 12, _, ho, hO, hD, hK => 
      obtain rfl := Option.some.inj ho.symm
      clear ho
      have ev36 : FA.eval (.tmp 36) = .pointer (some ⟨w.heap.size, 6, none⟩) := hD 11 36 (by kernel_rfl)
      have e36 : FA.tmps[36]?.getD undef = .pointer (some ⟨w.heap.size, 6, none⟩) := by simpa [Act.eval] using ev36
      replace ev36 := Lib.hid ev36
      clear hO hD
      go_simp
      exact hK.out _ _ (Ex.refl _) rfl
    | 13, _, ho, hO, hD, hK => 
      obtain rfl := Option.some.inj ho.symm
      clear ho
      have ev1 : FA.eval (.tmp 1) = .pointer (some ⟨w.heap.size, 0, none⟩) := hO 1 (by kernel_rfl)
      have e1 : FA.tmps[1]?.getD undef = .pointer (some ⟨w.heap.size, 0, none⟩) := by simpa [Act.eval] using ev1
      replace ev1 := Lib.hid ev1
      clear hO hD
      go_simp
      exact hK.out _ _ (Ex.refl _) rfl
    | 14, _, ho, hO, hD, hK => 
      obtain rfl := Option.some.inj ho.symm
      clear ho
      have ev38 : FA.eval (.tmp 38) = .pointer (some ⟨w.heap.size, 7, none⟩) := hD 13 38 (by kernel_rfl)
      have e38 : FA.tmps[38]?.getD undef = .pointer (some ⟨w.heap.size, 7, none⟩) := by simpa [Act.eval] using ev38
      replace ev38 := Lib.hid ev38
      clear hO hD
      go_simp
      exact hK.out _ _ (Ex.refl _) rfl
    | 15, _, ho, hO, hD, hK => 
      obtain rfl := Option.some.inj ho.symm
      clear ho
      have ev37 : FA.eval (.tmp 37) = .int .u8 (tl : Int) := hD 12 37 (by kernel_rfl)
      have e37 : FA.tmps[37]?.getD undef = .int .u8 (tl : Int) := by simpa [Act.eval] using ev37
      replace ev37 := Lib.hid ev37
      have ev39 : FA.eval (.tmp 39) = .int .u8 (pr : Int) := hD 14 39 (by kernel_rfl)
      have e39 : FA.tmps[39]?.getD undef = .int .u8 (pr : Int) := by simpa [Act.eval] using ev39
      replace ev39 := Lib.hid ev39
      clear hO hD
      go_simp
      refine hK.out _ _ (Ex.alloc _ _) ⟨_, _, _, rfl, ?_⟩
      refine Rb.litW _ [UInt8.ofNat (tl), UInt8.ofNat (pr), UInt8.ofNat (0), UInt8.ofNat (0)] ?_ rfl (by decide) ?_
      · simp [size_plus]
      · simp [bcs]; try omega
    | 16, _, ho, hO, hD, hK => 
      obtain rfl := Option.some.inj ho.symm
      clear ho
      have ev1 : FA.eval (.tmp 1) = .pointer (some ⟨w.heap.size, 0, none⟩) := hO 1 (by kernel_rfl)
      have e1 : FA.tmps[1]?.getD undef = .pointer (some ⟨w.heap.size, 0, none⟩) := by simpa [Act.eval] using ev1
      replace ev1 := Lib.hid ev1
      clear hO hD
      go_simp
      exact hK.out _ _ (Ex.refl _) rfl
    | 17, _, ho, hO, hD, hK => 
      obtain rfl := Option.some.inj ho.symm
      clear ho
      have ev41 : FA.eval (.tmp 41) = .pointer (some ⟨w.heap.size, 9, none⟩) := hD 16 41 (by kernel_rfl)
      have e41 : FA.tmps[41]?.getD undef = .pointer (some ⟨w.heap.size, 9, none⟩) := by simpa [Act.eval] using ev41
      replace ev41 := Lib.hid ev41
      clear hO hD
      go_simp
      exact hK.out _ _ (Ex.refl _) rfl
    | 18, _, ho, hO, hD, hK => 
      obtain rfl := Option.some.inj ho.symm
      clear ho
      have ev42 : FA.eval (.tmp 42) = .agg #[.bool s6, .int .u64 (sh : Int), .int .u64 (sl : Int)] := hD 17 42 (by kernel_rfl)
      have e42 : FA.tmps[42]?.getD undef = .agg #[.bool s6, .int .u64 (sh : Int), .int .u64 (sl : Int)] := by simpa [Act.eval] using ev42
      replace ev42 := Lib.hid ev42
      clear hO hD
      go_simp
      refine (refAdrBytes s6 sh sl _ (by omega) (by omega)).mono ?_
      rintro e w1 ⟨A2, n2, c2, bs2, d2, rfl, rfl, ho2⟩
      exact hK.out _ _ (Ex.plus_ _ _ _) ⟨_, _, _, rfl, ho2.mono (by have := be.size; simp [size_plus]; omega)⟩
    | 19, _, ho, hO, hD, hK => 
      obtain rfl := Option.some.inj ho.symm
      clear ho
      have ev1 : FA.eval (.tmp 1) = .pointer (some ⟨w.heap.size, 0, none⟩) := hO 1 (by kernel_rfl)
      have e1 : FA.tmps[1]?.getD undef = .pointer (some ⟨w.heap.size, 0, none⟩) := by simpa [Act.eval] using ev1
      replace ev1 := Lib.hid ev1
      clear hO hD
      go_simp
      exact hK.out _ _ (Ex.refl _) rfl
    | 20, _, ho, hO, hD, hK => 
      obtain rfl := Option.some.inj ho.symm
      clear ho
      have ev44 : FA.eval (.tmp 44) = .pointer (some ⟨w.heap.size, 12, none⟩) := hD 19 44 (by kernel_rfl)
      have e44 : FA.tmps[44]?.getD undef = .pointer (some ⟨w.heap.size, 12, none⟩) := by simpa [Act.eval] using ev44
      replace ev44 := Lib.hid ev44
      clear hO hD
      go_simp
      exact hK.out _ _ (Ex.refl _) rfl
    | 21, _, ho, hO, hD, hK => 
      obtain rfl := Option.some.inj ho.symm
      clear ho
      have ev45 : FA.eval (.tmp 45) = .agg #[.bool d6, .int .u64 (dh : Int), .int .u64 (dl : Int)] := hD 20 45 (by kernel_rfl)
      have e45 : FA.tmps[45]?.getD undef = .agg #[.bool d6, .int .u64 (dh : Int), .int .u64 (dl : Int)] := by simpa [Act.eval] using ev45
      replace ev45 := Lib.hid ev45
      clear hO hD
      go_simp
      refine (refAdrBytes d6 dh dl _ (by omega) (by omega)).mono ?_
      rintro e w1 ⟨A2, n2, c2, bs2, d2, rfl, rfl, ho2⟩
      exact hK.out _ _ (Ex.plus_ _ _ _) ⟨_, _, _, rfl, ho2.mono (by have := be.size; simp [size_plus]; omega)⟩
    | 22, _, ho, hO, hD, hK => 
      obtain rfl := Option.some.inj ho.symm
      clear ho
      have ev1 : FA.eval (.tmp 1) = .pointer (some ⟨w.heap.size, 0, none⟩) := hO 1 (by kernel_rfl)
      have e1 : FA.tmps[1]?.getD undef = .pointer (some ⟨w.heap.size, 0, none⟩) := by simpa [Act.eval] using ev1
      replace ev1 := Lib.hid ev1
      clear hO hD
      go_simp
      exact hK.out _ _ (Ex.refl _) rfl
    | 23, _, ho, hO, hD, hK => 
      obtain rfl := Option.some.inj ho.symm
      clear ho
      have ev47 : FA.eval (.tmp 47) = .pointer (some ⟨w.heap.size, 15, none⟩) := hD 22 47 (by kernel_rfl)
      have e47 : FA.tmps[47]?.getD undef = .pointer (some ⟨w.heap.size, 15, none⟩) := by simpa [Act.eval] using ev47
      replace ev47 := Lib.hid ev47
      clear hO hD
      go_simp
      exact hK.out _ _ (Ex.refl _) rfl
    | 24, _, ho, hO, hD, hK => 
      obtain rfl := Option.some.inj ho.symm
      clear ho
      have ev25 : FA.eval (.tmp 25) = .slice (some ⟨w.heap.size + 1, 0, none⟩) 2 2 := hD 0 25 (by kernel_rfl)
      have e25 : FA.tmps[25]?.getD undef = .slice (some ⟨w.heap.size + 1, 0, none⟩) 2 2 := by simpa [Act.eval] using ev25
      replace ev25 := Lib.hid ev25
      have f29 := hD 4 29 (by kernel_rfl)
      generalize eu29 : FA.eval (.tmp 29) = u29 at f29
      have e29 : FA.tmps[29]?.getD undef = u29 := by rw [← eu29]; simp [Act.eval]
      have ev29 := Lib.hid eu29
      clear eu29
      have f33 := hD 8 33 (by kernel_rfl)
      generalize eu33 : FA.eval (.tmp 33) = u33 at f33
      have e33 : FA.tmps[33]?.getD undef = u33 := by rw [← eu33]; simp [Act.eval]
      have ev33 := Lib.hid eu33
      clear eu33
      have f35 := hD 10 35 (by kernel_rfl)
      generalize eu35 : FA.eval (.tmp 35) = u35 at f35
      have e35 : FA.tmps[35]?.getD undef = u35 := by rw [← eu35]; simp [Act.eval]
      have ev35 := Lib.hid eu35
      clear eu35
      have f40 := hD 15 40 (by kernel_rfl)
      generalize eu40 : FA.eval (.tmp 40) = u40 at f40
      have e40 : FA.tmps[40]?.getD undef = u40 := by rw [← eu40]; simp [Act.eval]
      have ev40 := Lib.hid eu40
      clear eu40
      have f43 := hD 18 43 (by kernel_rfl)
      generalize eu43 : FA.eval (.tmp 43) = u43 at f43
      have e43 : FA.tmps[43]?.getD undef = u43 := by rw [← eu43]; simp [Act.eval]
      have ev43 := Lib.hid eu43
      clear eu43
      have f46 := hD 21 46 (by kernel_rfl)
      generalize eu46 : FA.eval (.tmp 46) = u46 at f46
      have e46 : FA.tmps[46]?.getD undef = u46 := by rw [← eu46]; simp [Act.eval]
      have ev46 := Lib.hid eu46
      clear eu46
      have ev48 : FA.eval (.tmp 48) = .slice A n k := hD 23 48 (by kernel_rfl)
      have e48 : FA.tmps[48]?.getD undef = .slice A n k := by simpa [Act.eval] using ev48
      replace ev48 := Lib.hid ev48
      clear hO hD
      obtain ⟨A29, n29, c29, rfl, h29⟩ := f29
      obtain ⟨A33, n33, c33, rfl, h33⟩ := f33
      obtain ⟨A35, n35, c35, rfl, h35⟩ := f35
      obtain ⟨A40, n40, c40, rfl, h40⟩ := f40
      obtain ⟨A43, n43, c43, rfl, h43⟩ := f43
      obtain ⟨A46, n46, c46, rfl, h46⟩ := f46
      go_simp
      refine hK.out _ _ (Ex.alloc _ _) ⟨_, _, _, rfl, ?_⟩
      refine RdL.litW _ _ ?_ ?_
      · simp [size_plus]
      · exact .cons ⟨_, _, _, rfl, hr3.plus_ _ _⟩ (.cons ⟨_, _, _, rfl, h29⟩ (.cons ⟨_, _, _, rfl, h33⟩ (.cons ⟨_, _, _, rfl, h35⟩ (.cons ⟨_, _, _, rfl, h40⟩ (.cons ⟨_, _, _, rfl, h43.rb⟩ (.cons ⟨_, _, _, rfl, h46.rb⟩ (.cons ⟨_, _, _, rfl, hr4.plus_ _ _⟩ (.nil))))))))
    | 25, _, ho, hO, hD, hK => 
      obtain rfl := Option.some.inj ho.symm
      clear ho
      have f49 := hD 24 49 (by kernel_rfl)
      generalize eu49 : FA.eval (.tmp 49) = u49 at f49
      have e49 : FA.tmps[49]?.getD undef = u49 := by rw [← eu49]; simp [Act.eval]
      have ev49 := Lib.hid eu49
      clear eu49
      clear hO hD
      obtain ⟨A1, m1, c1, rfl, hl1⟩ := f49
      have hm1 : m1 ≤ 100 := by obtain ⟨_, _, h2, _⟩ := hl1; simp only [List.length_cons, List.length_nil] at h2; omega
      go_simp
      refine (refJoin_any A1 m1 c1 _ _ hl1 (by omega) HT.out).mono ?_
      rintro e w1 ⟨A2, n2, c2, bs2, d2, rfl, rfl, ho2⟩
      exact hK.out _ _ (Ex.plus_ _ _ _) ⟨_, _, _, rfl, ho2.mono (by simp [size_plus]; omega)⟩
    | (k + 26), hi, _, _, _, _ => exact absurd hi (by omega)
  intro vs x hp
  have p0 : vs 0 = .slice (some ⟨w.heap.size + 1, 0, none⟩) 2 2 := hp 0 (by omega)
  have p1 : vs 1 = .pointer (some ⟨w.heap.size, 1, none⟩) := hp 1 (by omega)
  have p2 : vs 2 = .int .i64 (ln : Int) := hp 2 (by omega)
  have p3 : vs 3 = .int .u64 (ln : Int) := hp 3 (by omega)
  have p4 := hp 4 (by omega)
  have p5 : vs 5 = .pointer (some ⟨w.heap.size, 2, none⟩) := hp 5 (by omega)
  have p6 : vs 6 = .int .u16 (id : Int) := hp 6 (by omega)
  have p7 : vs 7 = .int .u64 (id : Int) := hp 7 (by omega)
  have p8 := hp 8 (by omega)
  have p9 : vs 9 = .int .u64 (p : Int) := hp 9 (by omega)
  have p10 := hp 10 (by omega)
  have p11 : vs 11 = .pointer (some ⟨w.heap.size, 6, none⟩) := hp 11 (by omega)
  have p12 : vs 12 = .int .u8 (tl : Int) := hp 12 (by omega)
  have p13 : vs 13 = .pointer (some ⟨w.heap.size, 7, none⟩) := hp 13 (by omega)
  have p14 : vs 14 = .int .u8 (pr : Int) := hp 14 (by omega)
  have p15 := hp 15 (by omega)
  have p16 : vs 16 = .pointer (some ⟨w.heap.size, 9, none⟩) := hp 16 (by omega)
  have p17 : vs 17 = .agg #[.bool s6, .int .u64 (sh : Int), .int .u64 (sl : Int)] := hp 17 (by omega)
  have p18 := hp 18 (by omega)
  have p19 : vs 19 = .pointer (some ⟨w.heap.size, 12, none⟩) := hp 19 (by omega)
  have p20 : vs 20 = .agg #[.bool d6, .int .u64 (dh : Int), .int .u64 (dl : Int)] := hp 20 (by omega)
  have p21 := hp 21 (by omega)
  have p22 : vs 22 = .pointer (some ⟨w.heap.size, 15, none⟩) := hp 22 (by omega)
  have p23 : vs 23 = .slice A n k := hp 23 (by omega)
  have p24 := hp 24 (by omega)
  have p25 := hp 25 (by omega)
  clear hp
  simp only [List.take_succ_cons, List.take_zero, List.drop_succ_cons, List.drop_zero, putAll, Nat.zero_add, Nat.reduceAdd, Act.put, List.setIfInBounds_toArray, List.set_cons_zero, List.set_cons_succ, p0, p1, p2, p3, p5, p6, p7, p9, p11, p12, p13, p14, p16, p17, p19, p20, p22, p23]
  clear p0 p1 p2 p3 p5 p6 p7 p9 p11 p12 p13 p14 p16 p17 p19 p20 p22 p23
  generalize vs 4 = y4 at *
  generalize vs 8 = y8 at *
  generalize vs 10 = y10 at *
  generalize vs 15 = y15 at *
  generalize vs 18 = y18 at *
  generalize vs 21 = y21 at *
  generalize vs 24 = y24 at *
  generalize vs 25 = y25 at *
  clear vs
  obtain ⟨A9, n9, c9, rfl, h9⟩ := p25
  replace be := belowP be x.bs x.d
  have HF : Hid (ip4R x0 ts ln id p tl pr s6 sh sl d6 dh dl o = ([[UInt8.ofNat x0, UInt8.ofNat ts], (dig (ln) 2), (dig (id) 2), (dig (p) 2), [UInt8.ofNat (tl), UInt8.ofNat (pr), UInt8.ofNat (0), UInt8.ofNat (0)], (adrB s6 sh sl), (adrB d6 dh dl), o]).flatten) := Lib.hid rfl
  rw [← HF.out] at h9
  have h9' := h9.1
  generalize plus ((w.alloc (.cells #[.int .u8 (ts : Int), .int .i64 (ln : Int), .int .u16 (id : Int), .bool false, .bool false, .int .i64 (fo : Int), .int .u8 (tl : Int), .int .u8 (pr : Int), .int .u16 (sm : Int), .bool s6, .int .u64 (sh : Int), .int .u64 (sl : Int), .bool d6, .int .u64 (dh : Int), .int .u64 (dl : Int), .slice A n k] 184)).alloc (.cells #[.int .u8 (x0 : Int), .int .u8 (ts : Int)] 5)) x.bs x.d = W at *
  clear HF
  generalize hLL : ip4R x0 ts ln id p tl pr s6 sh sl d6 dh dl o = LL at *
  replace hLL := Lib.hid hLL
  have HS := Lib.hid (fun w (h : Rb w A9 n9 c9 LL) => refSumOf A9 n9 c9 LL w h (by omega))
  have hs1 : 65535 - fd (tot false LL) ≤ 65535 := Nat.sub_le _ _
  generalize hss : 65535 - fd (tot false LL) = s at *
  replace hss := Lib.hid hss
  have gs : IntKind.u64.wrap (s : Int) = (s : Int) := IntWalk.u64_in _ (by omega)
  have hn9 : 12 ≤ n9 := by omega
  have hn9' : n9 ≤ 1000 := by omega
  go_wp2_with fail
  refine (HS.out _ h9.rb).mono ?_
  rintro e w1 ⟨rfl, rfl⟩
  go_wp2_with fail
  refine (refBytes_any s 2 _ (by omega) (by decide)).mono ?_
  rintro e w1 ⟨A3, n3, c3, bs3, d3, rfl, rfl, ho3⟩
  obtain rfl : n3 = 2 := by rw [← ho3.1, dig_length]
  go_wp2_with fail
  refine (refSet _ _ _ LL 10 _ _ _ _ _ (h9.rb.plus_ _ _) ho3.rb (by omega) (by omega) (by omega)).mono ?_
  rintro e w1 ⟨A4, n4, c4, bs4, d4, rfl, rfl, ho4⟩
  go_wp2
  go_ret
  try rw [hLL.out]
  try rw [hss.out]
  refine RetB.mk (ho4.mono ?_) ?_
  · have := be.size; simp [size_plus]; omega
  · with_reducible repeat (first | exact be | refine belowP ?_ _ _)
set_option maxHeartbeats 4000000 in
set_option maxRecDepth 100000 in
theorem refIp4Bytes_ny (ts ln id : Nat) (fo tl pr sm : Nat) (s6 : Bool) (sh sl : Nat) (d6 : Bool) (dh dl : Nat) (A : Option Addr) (n k : Nat) (o : List UInt8) (w : World) (hr : Rb w A n k o) (b1 : ts < 256) (b2 : id < 65536) (b3 : tl < 256) (b4 : pr < 256) (k1 : sh < 18446744073709551616) (k2 : sl < 18446744073709551616) (k3 : dh < 18446744073709551616) (k4 : dl < 18446744073709551616) (c1 : n ≤ 40) (c4 : ln ≤ 65535) (c5 : fo ≤ 8191) : Calls Try.prog 133 #[.agg (h4C ts (ln : Int) id false true (fo : Int) tl pr sm s6 sh sl d6 dh dl A n k).toArray] w (RetB w (setB (ip4R (69 + o.length / 4) ts ln id (pl4 false true fo) tl pr s6 sh sl d6 dh dl o) 10 (dig (65535 - fd (tot false (ip4R (69 + o.length / 4) ts ln id (pl4 false true fo) tl pr s6 sh sl d6 dh dl o))) 2))) := by
  have z1 := adrB_length s6 sh sl
  have z2 := adrB_length d6 dh dl
  obtain ⟨p, hp⟩ : ∃ p : Nat, p = fo + 8192 := ⟨_, rfl⟩
  have hpl : pl4 false true fo = p := by simp [pl4]; omega
  obtain ⟨q, hq⟩ : ∃ q : Nat, q = n / 4 := ⟨_, rfl⟩
  obtain ⟨x0, hx⟩ : ∃ x : Nat, x = 69 + q := ⟨_, rfl⟩
  have e0 : (n : Int).tdiv 4 = (q : Int) := by rw [Int.tdiv_eq_ediv_of_nonneg (by omega)]; omega
  have e1 : IntKind.i64.wrap (q : Int) = (q : Int) := IntWalk.i64_in _ (by omega)
  have e2 : IntKind.i64.wrap (69 + (q : Int)) = (x0 : Int) := by rw [IntWalk.i64_in _ (by omega)]; omega
  have e3 : IntKind.u8.wrap (x0 : Int) = (x0 : Int) := IntWalk.u8_in _ (by omega)
  have l0 : x0 < 256 := by omega
  have lp : p < 65536 := by omega
  have fp : IntKind.u64.wrap (fo : Int) = (fo : Int) := IntWalk.u64_in _ (by omega)
  have f1 : IntKind.u64.wrap ((fo : Int) + 8192) = (p : Int) := by rw [IntWalk.u64_in _ (by omega)]; omega
  rw [hpl, show 69 + o.length / 4 = x0 from by rw [hr.1]; omega]
  have HT : ([[UInt8.ofNat x0, UInt8.ofNat ts], (dig (ln) 2), (dig (id) 2), (dig (p) 2), [UInt8.ofNat (tl), UInt8.ofNat (pr), UInt8.ofNat (0), UInt8.ofNat (0)], (adrB s6 sh sl), (adrB d6 dh dl), o]).flatten.length ≤ 549755813888 := by simp [dig_length, hr.1]; omega
  have HL : (ip4R x0 ts ln id p tl pr s6 sh sl d6 dh dl o).length ≤ 1000 := by simp [ip4R, dig_length, hr.1]; omega
  have HL2 : 12 ≤ (ip4R x0 ts ln id p tl pr s6 sh sl d6 dh dl o).length := by simp [ip4R, dig_length, hr.1]; omega
  clear hpl hp hq hx
  replace HT := Lib.hid HT
  have hr3 : Rb ((w.alloc (.cells #[.int .u8 (ts : Int), .int .i64 (ln : Int), .int .u16 (id : Int), .bool false, .bool true, .int .i64 (fo : Int), .int .u8 (tl : Int), .int .u8 (pr : Int), .int .u16 (sm : Int), .bool s6, .int .u64 (sh : Int), .int .u64 (sl : Int), .bool d6, .int .u64 (dh : Int), .int .u64 (dl : Int), .slice A n k] 184)).alloc (.cells #[.int .u8 (x0 : Int), .int .u8 (ts : Int)] 5)) (some ⟨w.heap.size + 1, 0, none⟩) 2 2 [UInt8.ofNat x0, UInt8.ofNat ts] := Rb.litW _ _ (by simp) rfl (by decide) (by simp [bcs]; omega)
  have hr4 : Rb ((w.alloc (.cells #[.int .u8 (ts : Int), .int .i64 (ln : Int), .int .u16 (id : Int), .bool false, .bool true, .int .i64 (fo : Int), .int .u8 (tl : Int), .int .u8 (pr : Int), .int .u16 (sm : Int), .bool s6, .int .u64 (sh : Int), .int .u64 (sl : Int), .bool d6, .int .u64 (dh : Int), .int .u64 (dl : Int), .slice A n k] 184)).alloc (.cells #[.int .u8 (x0 : Int), .int .u8 (ts : Int)] 5)) A n k o := (hr.alloc _).alloc _
  have be : Below w.heap.size w ((w.alloc (.cells #[.int .u8 (ts : Int), .int .i64 (ln : Int), .int .u16 (id : Int), .bool false, .bool true, .int .i64 (fo : Int), .int .u8 (tl : Int), .int .u8 (pr : Int), .int .u16 (sm : Int), .bool s6, .int .u64 (sh : Int), .int .u64 (sl : Int), .bool d6, .int .u64 (dh : Int), .int .u64 (dl : Int), .slice A n k] 184)).alloc (.cells #[.int .u8 (x0 : Int), .int .u8 (ts : Int)] 5)) := Below.allocS (Below.allocS (Below.refl _ _) _) _
  have g0 : IntKind.u64.wrap (ln : Int) = (ln : Int) := IntWalk.u64_in _ (by omega)
  have g1 : IntKind.u64.wrap (id : Int) = (id : Int) := IntWalk.u64_in _ (by omega)
  unfold h4C
  go_enter Try.func133, Try.ntmps133
  go_wp2
  refine wp_rel 26 57 rfl (by kernel_rfl) (by kernel_rfl) (fun i => match i with | 0 => MP.eq (.slice (some ⟨w.heap.size + 1, 0, none⟩) 2 2) | 1 => MP.eq (.pointer (some ⟨w.heap.size, 1, none⟩)) | 2 => MP.eq (.int .i64 (ln : Int)) | 3 => MP.eq (.int .u64 (ln : Int)) | 4 => MP.rb (dig (ln) 2) | 5 => MP.eq (.pointer (some ⟨w.heap.size, 2, none⟩)) | 6 => MP.eq (.int .u16 (id : Int)) | 7 => MP.eq (.int .u64 (id : Int)) | 8 => MP.rb (dig (id) 2) | 9 => MP.eq (.int .u64 (p : Int)) | 10 => MP.rb (dig (p) 2) | 11 => MP.eq (.pointer (some ⟨w.heap.size, 6, none⟩)) | 12 => MP.eq (.int .u8 (tl : Int)) | 13 => MP.eq (.pointer (some ⟨w.heap.size, 7, none⟩)) | 14 => MP.eq (.int .u8 (pr : Int)) | 15 => MP.rb [UInt8.ofNat (tl), UInt8.ofNat (pr), UInt8.ofNat (0), UInt8.ofNat (0)] | 16 => MP.eq (.pointer (some ⟨w.heap.size, 9, none⟩)) | 17 => MP.eq (.agg #[.bool s6, .int .u64 (sh : Int), .int .u64 (sl : Int)]) | 18 => MP.ob w.heap.size (adrB s6 sh sl) | 19 => MP.eq (.pointer (some ⟨w.heap.size, 12, none⟩)) | 20 => MP.eq (.agg #[.bool d6, .int .u64 (dh : Int), .int .u64 (dl : Int)]) | 21 => MP.ob w.heap.size (adrB d6 dh dl) | 22 => MP.eq (.pointer (some ⟨w.heap.size, 15, none⟩)) | 23 => MP.eq (.slice A n k) | 24 => MP.rdl [[UInt8.ofNat x0, UInt8.ofNat ts], (dig (ln) 2), (dig (id) 2), (dig (p) 2), [UInt8.ofNat (tl), UInt8.ofNat (pr), UInt8.ofNat (0), UInt8.ofNat (0)], (adrB s6 sh sl), (adrB d6 dh dl), o] | 25 => MP.ob w.heap.size ([[UInt8.ofNat x0, UInt8.ofNat ts], (dig (ln) 2), (dig (id) 2), (dig (p) 2), [UInt8.ofNat (tl), UInt8.ofNat (pr), UInt8.ofNat (0), UInt8.ofNat (0)], (adrB s6 sh sl), (adrB d6 dh dl), o]).flatten | _ => MP.any) ?_ ?_
  · intro i hi o ho FA x hO hD K hK
    match i, hi, ho, hO, hD, hK with
    | 0, _, ho, hO, hD, hK => 
      obtain rfl := Option.some.inj ho.symm
      clear ho
      have ev4 : FA.eval (.tmp 4) = .slice (some ⟨w.heap.size + 1, 0, none⟩) 2 2 := hO 4 (by kernel_rfl)
      have e4 : FA.tmps[4]?.getD undef = .slice (some ⟨w.heap.size + 1, 0, none⟩) 2 2 := by simpa [Act.eval] using ev4
      replace ev4 := Lib.hid ev4
      clear hO hD
      go_simp
      exact hK.out _ _ (Ex.refl _) rfl
    | 1, _, ho, hO, hD, hK => 
      obtain rfl := Option.some.inj ho.symm
      clear ho
      have ev1 : FA.eval (.tmp 1) = .pointer (some ⟨w.heap.size, 0, none⟩) := hO 1 (by kernel_rfl)
      have e1 : FA.tmps[1]?.getD undef = .pointer (some ⟨w.heap.size, 0, none⟩) := by simpa [Act.eval] using ev1
      replace ev1 := Lib.hid ev1
      clear hO hD
      go_simp
      exact hK.out _ _ (Ex.refl _) rfl
    | 2, _, ho, hO, hD, hK => 
      obtain rfl := Option.some.inj ho.symm
      clear ho
      have ev26 : FA.eval (.tmp 26) = .pointer (some ⟨w.heap.size, 1, none⟩) := hD 1 26 (by kernel_rfl)
      have e26 : FA.tmps[26]?.getD undef = .pointer (some ⟨w.heap.size, 1, none⟩) := by simpa [Act.eval] using ev26
      replace ev26 := Lib.hid ev26
      clear hO hD
      go_simp
      exact hK.out _ _ (Ex.refl _) rfl
    | 3, _, ho, hO, hD, hK => 
      obtain rfl := Option.some.inj ho.symm
      clear ho
      have ev27 : FA.eval (.tmp 27) = .int .i64 (ln : Int) := hD 2 27 (by kernel_rfl)
      have e27 : FA.tmps[27]?.getD undef = .int .i64 (ln : Int) := by simpa [Act.eval] using ev27
      replace ev27 := Lib.hid ev27
      clear hO hD
      go_simp
      exact hK.out _ _ (Ex.refl _) rfl
    | 4, _, ho, hO, hD, hK => 
      obtain rfl := Option.some.inj ho.symm
      clear ho
      have ev28 : FA.eval (.tmp 28) = .int .u64 (ln : Int) := hD 3 28 (by kernel_rfl)
      have e28 : FA.tmps[28]?.getD undef = .int .u64 (ln : Int) := by simpa [Act.eval] using ev28
      replace ev28 := Lib.hid ev28
      clear hO hD
      go_simp
      refine (refBytes_any (ln) 2 _ (by omega) (by omega)).mono ?_
      rintro e w1 ⟨A2, n2, c2, bs2, d2, rfl, rfl, ho2⟩
      exact hK.out _ _ (Ex.plus_ _ _ _) ⟨_, _, _, rfl, ho2.rb⟩
    | 5, _, ho, hO, hD, hK => 
      obtain rfl := Option.some.inj ho.symm
      clear ho
      have ev1 : FA.eval (.tmp 1) = .pointer (some ⟨w.heap.size, 0, none⟩) := hO 1 (by kernel_rfl)
      have e1 : FA.tmps[1]?.getD undef = .pointer (some ⟨w.heap.size, 0, none⟩) := by simpa [Act.eval] using ev1
      replace ev1 := Lib.hid ev1
      clear hO hD
      go_simp
      exact hK.out _ _ (Ex.refl _) rfl
    | 6, _, ho, hO, hD, hK => 
      obtain rfl := Option.some.inj ho.symm
      clear ho
      have ev30 : FA.eval (.tmp 30) = .pointer (some ⟨w.heap.size, 2, none⟩) := hD 5 30 (by kernel_rfl)
      have e30 : FA.tmps[30]?.getD undef = .pointer (some ⟨w.heap.size, 2, none⟩) := by simpa [Act.eval] using ev30
      replace ev30 := Lib.hid ev30
      clear hO hD
      go_simp
      exact hK.out _ _ (Ex.refl _) rfl
    | 7, _, ho, hO, hD, hK => 
      obtain rfl := Option.some.inj ho.symm
      clear ho
      have ev31 : FA.eval (.tmp 31) = .int .u16 (id : Int) := hD 6 31 (by kernel_rfl)
      have e31 : FA.tmps[31]?.getD undef = .int .u16 (id : Int) := by simpa [Act.eval] using ev31
      replace ev31 := Lib.hid ev31
      clear hO hD
      go_simp
      exact hK.out _ _ (Ex.refl _) rfl
    | 8, _, ho, hO, hD, hK => 
      obtain rfl := Option.some.inj ho.symm
      clear ho
      have ev32 : FA.eval (.tmp 32) = .int .u64 (id : Int) := hD 7 32 (by kernel_rfl)
      have e32 : FA.tmps[32]?.getD undef = .int .u64 (id : Int) := by simpa [Act.eval] using ev32
      replace ev32 := Lib.hid ev32
      clear hO hD
      go_simp
      refine (refBytes_any (id) 2 _ (by omega) (by omega)).mono ?_
      rintro e w1 ⟨A2, n2, c2, bs2, d2, rfl, rfl, ho2⟩
      exact hK.out _ _ (Ex.plus_ _ _ _) ⟨_, _, _, rfl, ho2.rb⟩
    | 9, _, ho, hO, hD, hK => 
      obtain rfl := Option.some.inj ho.symm
      clear ho
      have ev3 : FA.eval (.tmp 3) = .int .u64 (p : Int) := hO 3 (by kernel_rfl)
      have e3 : FA.tmps[3]?.getD undef = .int .u64 (p : Int) := by simpa [Act.eval] using ev3
      replace ev3 := Lib.hid ev3
      clear hO hD
      go_simp
      exact hK.out _ _ (Ex.refl _) rfl
    | 10, _, ho, hO, hD, hK => 
      obtain rfl := Option.some.inj ho.symm
      clear ho
      have ev34 : FA.eval (.tmp 34) = .int .u64 (p : Int) := hD 9 34 (by kernel_rfl)
      have e34 : FA.tmps[34]?.getD undef = .int .u64 (p : Int) := by simpa [Act.eval] using ev34
      replace ev34 := Lib.hid ev34
      clear hO hD
      go_simp
      refine (refBytes_any (p) 2 _ (by omega) (by omega)).mono ?_
      rintro e w1 ⟨A2, n2, c2, bs2, d2, rfl, rfl, ho2⟩
      exact hK.out _ _ (Ex.plus_ _ _ _) ⟨_, _, _, rfl, ho2.rb⟩
    | 11, _, ho, hO, hD, hK => 
      obtain rfl := Option.some.inj ho.symm
      clear ho
      have ev1 : FA.eval (.tmp 1) = .pointer (some ⟨w.heap.size, 0, none⟩) := hO 1 (by kernel_rfl)
      have e1 : FA.tmps[1]?.getD undef = .pointer (some ⟨w.heap.size, 0, none⟩) := by simpa [Act.eval] using ev1
      replace ev1 := Lib.hid ev1
      clear hO hD
      go_simp
      exact hK.out _ _ (Ex.refl _) rfl
    | 12, _, ho, hO, hD, hK => 
      obtain rfl := Option.some.inj ho.symm
      clear ho
      have ev36 : FA.eval (.tmp 36) = .pointer (some ⟨w.heap.size, 6, none⟩) := hD 11 36 (by kernel_rfl)
      have e36 : FA.tmps[36]?.getD undef = .pointer (some ⟨w.heap.size, 6, none⟩) := by simpa [Act.eval] using ev36
      replace ev36 := Lib.hid ev36
      clear hO hD
      go_simp
      exact hK.out _ _ (Ex.refl _) rfl
    | 13, _, ho, hO, hD, hK => 
      obtain rfl := Option.some.inj ho.symm
      clear ho
      have ev1 : FA.eval (.tmp 1) = .pointer (some ⟨w.heap.size, 0, none⟩) := hO 1 (by kernel_rfl)
      have e1 : FA.tmps[1]?.getD undef = .pointer (some ⟨w.heap.size, 0, none⟩) := by simpa [Act.eval] using ev1
      replace ev1 := Lib.hid ev1
      clear hO hD
      go_simp
      exact hK.out _ _ (Ex.refl _) rfl
    | 14, _, ho, hO, hD, hK => 
      obtain rfl := Option.some.inj ho.symm
      clear ho
      have ev38 : FA.eval (.tmp 38) = .pointer (some ⟨w.heap.size, 7, none⟩) := hD 13 38 (by kernel_rfl)
      have e38 : FA.tmps[38]?.getD undef = .pointer (some ⟨w.heap.size, 7, none⟩) := by simpa [Act.eval] using ev38
      replace ev38 := Lib.hid ev38
      clear hO hD
      go_simp
      exact hK.out _ _ (Ex.refl _) rfl
    | 15, _, ho, hO, hD, hK => 
      obtain rfl := Option.some.inj ho.symm
      clear ho
      have ev37 : FA.eval (.tmp 37) = .int .u8 (tl : Int) := hD 12 37 (by kernel_rfl)
      have e37 : FA.tmps[37]?.getD undef = .int .u8 (tl : Int) := by simpa [Act.eval] using ev37
      replace ev37 := Lib.hid ev37
      have ev39 : FA.eval (.tmp 39) = .int .u8 (pr : Int) := hD 14 39 (by kernel_rfl)
      have e39 : FA.tmps[39]?.getD undef = .int .u8 (pr : Int) := by simpa [Act.eval] using ev39
      replace ev39 := Lib.hid ev39
      clear hO hD
      go_simp
      refine hK.out _ _ (Ex.alloc _ _) ⟨_, _, _, rfl, ?_⟩
      refine Rb.litW _ [UInt8.ofNat (tl), UInt8.ofNat (pr), UInt8.ofNat (0), UInt8.ofNat (0)] ?_ rfl (by decide) ?_
      · simp [size_plus]
      · simp [bcs]; try omega
    | 16, _, ho, hO, hD, hK => 
      obtain rfl := Option.some.inj ho.symm
      clear ho
      have ev1 : FA.eval (.tmp 1) = .pointer (some ⟨w.heap.size, 0, none⟩) := hO 1 (by kernel_rfl)
      have e1 : FA.tmps[1]?.getD undef = .pointer (some ⟨w.heap.size, 0, none⟩) := by simpa [Act.eval] using ev1
      replace ev1 := Lib.hid ev1
      clear hO hD
      go_simp
      exact hK.out _ _ (Ex.refl _) rfl
    | 17, _, ho, hO, hD, hK => 
      obtain rfl := Option.some.inj ho.symm
      clear ho
      have ev41 : FA.eval (.tmp 41) = .pointer (some ⟨w.heap.size, 9, none⟩) := hD 16 41 (by kernel_rfl)
      have e41 : FA.tmps[41]?.getD undef = .pointer (some ⟨w.heap.size, 9, none⟩) := by simpa [Act.eval] using ev41
      replace ev41 := Lib.hid ev41
      clear hO hD
      go_simp
      exact hK.out _ _ (Ex.refl _) rfl
    | 18, _, ho, hO, hD, hK => 
      obtain rfl := Option.some.inj ho.symm
      clear ho
      have ev42 : FA.eval (.tmp 42) = .agg #[.bool s6, .int .u64 (sh : Int), .int .u64 (sl : Int)] := hD 17 42 (by kernel_rfl)
      have e42 : FA.tmps[42]?.getD undef = .agg #[.bool s6, .int .u64 (sh : Int), .int .u64 (sl : Int)] := by simpa [Act.eval] using ev42
      replace ev42 := Lib.hid ev42
      clear hO hD
      go_simp
      refine (refAdrBytes s6 sh sl _ (by omega) (by omega)).mono ?_
      rintro e w1 ⟨A2, n2, c2, bs2, d2, rfl, rfl, ho2⟩
      exact hK.out _ _ (Ex.plus_ _ _ _) ⟨_, _, _, rfl, ho2.mono (by have := be.size; simp [size_plus]; omega)⟩
    | 19, _, ho, hO, hD, hK => 
      obtain rfl := Option.some.inj ho.symm
      clear ho
      have ev1 : FA.eval (.tmp 1) = .pointer (some ⟨w.heap.size, 0, none⟩) := hO 1 (by kernel_rfl)
      have e1 : FA.tmps[1]?.getD undef = .pointer (some ⟨w.heap.size, 0, none⟩) := by simpa [Act.eval] using ev1
      replace ev1 := Lib.hid ev1
      clear hO hD
      go_simp
      exact hK.out _ _ (Ex.refl _) rfl
    | 20, _, ho, hO, hD, hK => 
      obtain rfl := Option.some.inj ho.symm
      clear ho
      have ev44 : FA.eval (.tmp 44) = .pointer (some ⟨w.heap.size, 12, none⟩) := hD 19 44 (by kernel_rfl)
      have e44 : FA.tmps[44]?.getD undef = .pointer (some ⟨w.heap.size, 12, none⟩) := by simpa [Act.eval] using ev44
      replace ev44 := Lib.hid ev44
      clear hO hD
      go_simp
      exact hK.out _ _ (Ex.refl _) rfl
    | 21, _, ho, hO, hD, hK => 
      obtain rfl := Option.some.inj ho.symm
      clear ho
      have ev45 : FA.eval (.tmp 45) = .agg #[.bool d6, .int .u64 (dh : Int), .int .u64 (dl : Int)] := hD 20 45 (by kernel_rfl)
      have e45 : FA.tmps[45]?.getD undef = .agg #[.bool d6, .int .u64 (dh : Int), .int .u64 (dl : Int)] := by simpa [Act.eval] using ev45
      replace ev45 := Lib.hid ev45
      clear hO hD
      go_simp
      refine (refAdrBytes d6 dh dl _ (by omega) (by omega)).mono ?_
      rintro e w1 ⟨A2, n2, c2, bs2, d2, rfl, rfl, ho2⟩
      exact hK.out _ _ (Ex.plus_ _ _ _) ⟨_, _, _, rfl, ho2.mono (by have := be.size; simp [size_plus]; omega)⟩
    | 22, _, ho, hO, hD, hK => 
      obtain rfl := Option.some.inj ho.symm
      clear ho
      have ev1 : FA.eval (.tmp 1) = .pointer (some ⟨w.heap.size, 0, none⟩) := hO 1 (by kernel_rfl)
      have e1 : FA.tmps[1]?.getD undef = .pointer (some ⟨w.heap.size, 0, none⟩) := by simpa [Act.eval] using ev1
      replace ev1 := Lib.hid ev1
      clear hO hD
      go_simp
      exact hK.out _ _ (Ex.refl _) rfl
    | 23, _, ho, hO, hD, hK => 
      obtain rfl := Option.some.inj ho.symm
      clear ho
      have ev47 : FA.eval (.tmp 47) = .pointer (some ⟨w.heap.size, 15, none⟩) := hD 22 47 (by kernel_rfl)
      have e47 : FA.tmps[47]?.getD undef = .pointer (some ⟨w.heap.size, 15, none⟩) := by simpa [Act.eval] using ev47
      replace ev47 := Lib.hid ev47
      clear hO hD
      go_simp
      exact hK.out _ _ (Ex.refl _) rfl
    | 24, _, ho, hO, hD, hK => 
      obtain rfl := Option.some.inj ho.symm
      clear ho
      have ev25 : FA.eval (.tmp 25) = .slice (some ⟨w.heap.size + 1, 0, none⟩) 2 2 := hD 0 25 (by kernel_rfl)
      have e25 : FA.tmps[25]?.getD undef = .slice (some ⟨w.heap.size + 1, 0, none⟩) 2 2 := by simpa [Act.eval] using ev25
      replace ev25 := Lib.hid ev25
      have f29 := hD 4 29 (by kernel_rfl)
      generalize eu29 : FA.eval (.tmp 29) = u29 at f29
      have e29 : FA.tmps[29]?.getD undef = u29 := by rw [← eu29]; simp [Act.eval]
      have ev29 := Lib.hid eu29
      clear eu29
      have f33 := hD 8 33 (by kernel_rfl)
      generalize eu33 : FA.eval (.tmp 33) = u33 at f33
      have e33 : FA.tmps[33]?.getD undef = u33 := by rw [← eu33]; simp [Act.eval]
      have ev33 := Lib.hid eu33
      clear eu33
      have f35 := hD 10 35 (by kernel_rfl)
      generalize eu35 : FA.eval (.tmp 35) = u35 at f35
      have e35 : FA.tmps[35]?.getD undef = u35 := by rw [← eu35]; simp [Act.eval]
      have ev35 := Lib.hid eu35
      clear eu35
      have f40 := hD 15 40 (by kernel_rfl)
      generalize eu40 : FA.eval (.tmp 40) = u40 at f40
      have e40 : FA.tmps[40]?.getD undef = u40 := by rw [← eu40]; simp [Act.eval]
      have ev40 := Lib.hid eu40
      clear eu40
      have f43 := hD 18 43 (by kernel_rfl)
      generalize eu43 : FA.eval (.tmp 43) = u43 at f43
      have e43 : FA.tmps[43]?.getD undef = u43 := by rw [← eu43]; simp [Act.eval]
      have ev43 := Lib.hid eu43
      clear eu43
      have f46 := hD 21 46 (by kernel_rfl)
      generalize eu46 : FA.eval (.tmp 46) = u46 at f46
      have e46 : FA.tmps[46]?.getD undef = u46 := by rw [← eu46]; simp [Act.eval]
      have ev46 := Lib.hid eu46
      clear eu46
      have ev48 : FA.eval (.tmp 48) = .slice A n k := hD 23 48 (by kernel_rfl)
      have e48 : FA.tmps[48]?.getD undef = .slice A n k := by simpa [Act.eval] using ev48
      replace ev48 := Lib.hid ev48
      clear hO hD
      obtain ⟨A29, n29, c29, rfl, h29⟩ := f29
      obtain ⟨A33, n33, c33, rfl, h33⟩ := f33
      obtain ⟨A35, n35, c35, rfl, h35⟩ := f35
      obtain ⟨A40, n40, c40, rfl, h40⟩ := f40
      obtain ⟨A43, n43, c43, rfl, h43⟩ := f43
      obtain ⟨A46, n46, c46, rfl, h46⟩ := f46
      go_simp
      refine hK.out _ _ (Ex.alloc _ _) ⟨_, _, _, rfl, ?_⟩
      refine RdL.litW _ _ ?_ ?_
      · simp [size_plus]
      · exact .cons ⟨_, _, _, rfl, hr3.plus_ _ _⟩ (.cons ⟨_, _, _, rfl, h29⟩ (.cons ⟨_, _, _, rfl, h33⟩ (.cons ⟨_, _, _, rfl, h35⟩ (.cons ⟨_, _, _, rfl, h40⟩ (.cons ⟨_, _, _, rfl, h43.rb⟩ (.cons ⟨_, _, _, rfl, h46.rb⟩ (.cons ⟨_, _, _, rfl, hr4.plus_ _ _⟩ (.nil))))))))
    | 25, _, ho, hO, hD, hK => 
      obtain rfl := Option.some.inj ho.symm
      clear ho
      have f49 := hD 24 49 (by kernel_rfl)
      generalize eu49 : FA.eval (.tmp 49) = u49 at f49
      have e49 : FA.tmps[49]?.getD undef = u49 := by rw [← eu49]; simp [Act.eval]
      have ev49 := Lib.hid eu49
      clear eu49
      clear hO hD
      obtain ⟨A1, m1, c1, rfl, hl1⟩ := f49
      have hm1 : m1 ≤ 100 := by obtain ⟨_, _, h2, _⟩ := hl1; simp only [List.length_cons, List.length_nil] at h2; omega
      go_simp
      refine (refJoin_any A1 m1 c1 _ _ hl1 (by omega) HT.out).mono ?_
      rintro e w1 ⟨A2, n2, c2, bs2, d2, rfl, rfl, ho2⟩
      exact hK.out _ _ (Ex.plus_ _ _ _) ⟨_, _, _, rfl, ho2.mono (by simp [size_plus]; omega)⟩
    | (k + 26), hi, _, _, _, _ => exact absurd hi (by omega)
  intro vs x hp
  have p0 : vs 0 = .slice (some ⟨w.heap.size + 1, 0, none⟩) 2 2 := hp 0 (by omega)
  have p1 : vs 1 = .pointer (some ⟨w.heap.size, 1, none⟩) := hp 1 (by omega)
  have p2 : vs 2 = .int .i64 (ln : Int) := hp 2 (by omega)
  have p3 : vs 3 = .int .u64 (ln : Int) := hp 3 (by omega)
  have p4 := hp 4 (by omega)
  have p5 : vs 5 = .pointer (some ⟨w.heap.size, 2, none⟩) := hp 5 (by omega)
  have p6 : vs 6 = .int .u16 (id : Int) := hp 6 (by omega)
  have p7 : vs 7 = .int .u64 (id : Int) := hp 7 (by omega)
  have p8 := hp 8 (by omega)
  have p9 : vs 9 = .int .u64 (p : Int) := hp 9 (by omega)
  have p10 := hp 10 (by omega)
  have p11 : vs 11 = .pointer (some ⟨w.heap.size, 6, none⟩) := hp 11 (by omega)
  have p12 : vs 12 = .int .u8 (tl : Int) := hp 12 (by omega)
  have p13 : vs 13 = .pointer (some ⟨w.heap.size, 7, none⟩) := hp 13 (by omega)
  have p14 : vs 14 = .int .u8 (pr : Int) := hp 14 (by omega)
  have p15 := hp 15 (by omega)
  have p16 : vs 16 = .pointer (some ⟨w.heap.size, 9, none⟩) := hp 16 (by omega)
  have p17 : vs 17 = .agg #[.bool s6, .int .u64 (sh : Int), .int .u64 (sl : Int)] := hp 17 (by omega)
  have p18 := hp 18 (by omega)
  have p19 : vs 19 = .pointer (some ⟨w.heap.size, 12, none⟩) := hp 19 (by omega)
  have p20 : vs 20 = .agg #[.bool d6, .int .u64 (dh : Int), .int .u64 (dl : Int)] := hp 20 (by omega)
  have p21 := hp 21 (by omega)
  have p22 : vs 22 = .pointer (some ⟨w.heap.size, 15, none⟩) := hp 22 (by omega)
  have p23 : vs 23 = .slice A n k := hp 23 (by omega)
  have p24 := hp 24 (by omega)
  have p25 := hp 25 (by omega)
  clear hp
  simp only [List.take_succ_cons, List.take_zero, List.drop_succ_cons, List.drop_zero, putAll, Nat.zero_add, Nat.reduceAdd, Act.put, List.setIfInBounds_toArray, List.set_cons_zero, List.set_cons_succ, p0, p1, p2, p3, p5, p6, p7, p9, p11, p12, p13, p14, p16, p17, p19, p20, p22, p23]
  clear p0 p1 p2 p3 p5 p6 p7 p9 p11 p12 p13 p14 p16 p17 p19 p20 p22 p23
  generalize vs 4 = y4 at *
  generalize vs 8 = y8 at *
  generalize vs 10 = y10 at *
  generalize vs 15 = y15 at *
  generalize vs 18 = y18 at *
  generalize vs 21 = y21 at *
  generalize vs 24 = y24 at *
  generalize vs 25 = y25 at *
  clear vs
  obtain ⟨A9, n9, c9, rfl, h9⟩ := p25
  replace be := belowP be x.bs x.d
  have HF : Hid (ip4R x0 ts ln id p tl pr s6 sh sl d6 dh dl o = ([[UInt8.ofNat x0, UInt8.ofNat ts], (dig (ln) 2), (dig (id) 2), (dig (p) 2), [UInt8.ofNat (tl), UInt8.ofNat (pr), UInt8.ofNat (0), UInt8.ofNat (0)], (adrB s6 sh sl), (adrB d6 dh dl), o]).flatten) := Lib.hid rfl
  rw [← HF.out] at h9
  have h9' := h9.1
  generalize plus ((w.alloc (.cells #[.int .u8 (ts : Int), .int .i64 (ln : Int), .int .u16 (id : Int), .bool false, .bool true, .int .i64 (fo : Int), .int .u8 (tl : Int), .int .u8 (pr : Int), .int .u16 (sm : Int), .bool s6, .int .u64 (sh : Int), .int .u64 (sl : Int), .bool d6, .int .u64 (dh : Int), .int .u64 (dl : Int), .slice A n k] 184)).alloc (.cells #[.int .u8 (x0 : Int), .int .u8 (ts : Int)] 5)) x.bs x.d = W at *
  clear HF
  generalize hLL : ip4R x0 ts ln id p tl pr s6 sh sl d6 dh dl o = LL at *
  replace hLL := Lib.hid hLL
  have HS := Lib.hid (fun w (h : Rb w A9 n9 c9 LL) => refSumOf A9 n9 c9 LL w h (by omega))
  have hs1 : 65535 - fd (tot false LL) ≤ 65535 := Nat.sub_le _ _
  generalize hss : 65535 - fd (tot false LL) = s at *
  replace hss := Lib.hid hss
  have gs : IntKind.u64.wrap (s : Int) = (s : Int) := IntWalk.u64_in _ (by omega)
  have hn9 : 12 ≤ n9 := by omega
  have hn9' : n9 ≤ 1000 := by omega
  go_wp2_with fail
  refine (HS.out _ h9.rb).mono ?_
  rintro e w1 ⟨rfl, rfl⟩
  go_wp2_with fail
  refine (refBytes_any s 2 _ (by omega) (by decide)).mono ?_
  rintro e w1 ⟨A3, n3, c3, bs3, d3, rfl, rfl, ho3⟩
  obtain rfl : n3 = 2 := by rw [← ho3.1, dig_length]
  go_wp2_with fail
  refine (refSet _ _ _ LL 10 _ _ _ _ _ (h9.rb.plus_ _ _) ho3.rb (by omega) (by omega) (by omega)).mono ?_
  rintro e w1 ⟨A4, n4, c4, bs4, d4, rfl, rfl, ho4⟩
  go_wp2
  go_ret
  try rw [hLL.out]
  try rw [hss.out]
  refine RetB.mk (ho4.mono ?_) ?_
  · have := be.size; simp [size_plus]; omega
  · with_reducible repeat (first | exact be | refine belowP ?_ _ _)
set_option maxHeartbeats 4000000 in
set_option maxRecDepth 100000 in
theorem refIp4Bytes_yn (ts ln id : Nat) (fo tl pr sm : Nat) (s6 : Bool) (sh sl : Nat) (d6 : Bool) (dh dl : Nat) (A : Option Addr) (n k : Nat) (o : List UInt8) (w : World) (hr : Rb w A n k o) (b1 : ts < 256) (b2 : id < 65536) (b3 : tl < 256) (b4 : pr < 256) (k1 : sh < 18446744073709551616) (k2 : sl < 18446744073709551616) (k3 : dh < 18446744073709551616) (k4 : dl < 18446744073709551616) (c1 : n ≤ 40) (c4 : ln ≤ 65535) (c5 : fo ≤ 8191) : Calls Try.prog 133 #[.agg (h4C ts (ln : Int) id true false (fo : Int) tl pr sm s6 sh sl d6 dh dl A n k).toArray] w (RetB w (setB (ip4R (69 + o.length / 4) ts ln id (pl4 true false fo) tl pr s6 sh sl d6 dh dl o) 10 (dig (65535 - fd (tot false (ip4R (69 + o.length / 4) ts ln id (pl4 true false fo) tl pr s6 sh sl d6 dh dl o))) 2))) := by
  have z1 := adrB_length s6 sh sl
  have z2 := adrB_length d6 dh dl
  obtain ⟨p, hp⟩ : ∃ p : Nat, p = fo + 16384 := ⟨_, rfl⟩
  have hpl : pl4 true false fo = p := by simp [pl4]; omega
  obtain ⟨q, hq⟩ : ∃ q : Nat, q = n / 4 := ⟨_, rfl⟩
  obtain ⟨x0, hx⟩ : ∃ x : Nat, x = 69 + q := ⟨_, rfl⟩
  have e0 : (n : Int).tdiv 4 = (q : Int) := by rw [Int.tdiv_eq_ediv_of_nonneg (by omega)]; omega
  have e1 : IntKind.i64.wrap (q : Int) = (q : Int) := IntWalk.i64_in _ (by omega)
  have e2 : IntKind.i64.wrap (69 + (q : Int)) = (x0 : Int) := by rw [IntWalk.i64_in _ (by omega)]; omega
  have e3 : IntKind.u8.wrap (x0 : Int) = (x0 : Int) := IntWalk.u8_in _ (by omega)
  have l0 : x0 < 256 := by omega
  have lp : p < 65536 := by omega
  have fp : IntKind.u64.wrap (fo : Int) = (fo : Int) := IntWalk.u64_in _ (by omega)
  have f1 : IntKind.u64.wrap ((fo : Int) + 16384) = (p : Int) := by rw [IntWalk.u64_in _ (by omega)]; omega
  rw [hpl, show 69 + o.length / 4 = x0 from by rw [hr.1]; omega]
  have HT : ([[UInt8.ofNat x0, UInt8.ofNat ts], (dig (ln) 2), (dig (id) 2), (dig (p) 2), [UInt8.ofNat (tl), UInt8.ofNat (pr), UInt8.ofNat (0), UInt8.ofNat (0)], (adrB s6 sh sl), (adrB d6 dh dl), o]).flatten.length ≤ 549755813888 := by simp [dig_length, hr.1]; omega
  have HL : (ip4R x0 ts ln id p tl pr s6 sh sl d6 dh dl o).length ≤ 1000 := by simp [ip4R, dig_length, hr.1]; omega
  have HL2 : 12 ≤ (ip4R x0 ts ln id p tl pr s6 sh sl d6 dh dl o).length := by simp [ip4R, dig_length, hr.1]; omega
  clear hpl hp hq hx
  replace HT := Lib.hid HT
  have hr3 : Rb ((w.alloc (.cells #[.int .u8 (ts : Int), .int .i64 (ln : Int), .int .u16 (id : Int), .bool true, .bool false, .int .i64 (fo : Int), .int .u8 (tl : Int), .int .u8 (pr : Int), .int .u16 (sm : Int), .bool s6, .int .u64 (sh : Int), .int .u64 (sl : Int), .bool d6, .int .u64 (dh : Int), .int .u64 (dl : Int), .slice A n k] 184)).alloc (.cells #[.int .u8 (x0 : Int), .int .u8 (ts : Int)] 5)) (some ⟨w.heap.size + 1, 0, none⟩) 2 2 [UInt8.ofNat x0, UInt8.ofNat ts] := Rb.litW _ _ (by simp) rfl (by decide) (by simp [bcs]; omega)
  have hr4 : Rb ((w.alloc (.cells #[.int .u8 (ts : Int), .int .i64 (ln : Int), .int .u16 (id : Int), .bool true, .bool false, .int .i64 (fo : Int), .int .u8 (tl : Int), .int .u8 (pr : Int), .int .u16 (sm : Int), .bool s6, .int .u64 (sh : Int), .int .u64 (sl : Int), .bool d6, .int .u64 (dh : Int), .int .u64 (dl : Int), .slice A n k] 184)).alloc (.cells #[.int .u8 (x0 : Int), .int .u8 (ts : Int)] 5)) A n k o := (hr.alloc _).alloc _
  have be : Below w.heap.size w ((w.alloc (.cells #[.int .u8 (ts : Int), .int .i64 (ln : Int), .int .u16 (id : Int), .bool true, .bool false, .int .i64 (fo : Int), .int .u8 (tl : Int), .int .u8 (pr : Int), .int .u16 (sm : Int), .bool s6, .int .u64 (sh : Int), .int .u64 (sl : Int), .bool d6, .int .u64 (dh : Int), .int .u64 (dl : Int), .slice A n k] 184)).alloc (.cells #[.int .u8 (x0 : Int), .int .u8 (ts : Int)] 5)) := Below.allocS (Below.allocS (Below.refl _ _) _) _
  have g0 : IntKind.u64.wrap (ln : Int) = (ln : Int) := IntWalk.u64_in _ (by omega)
  have g1 : IntKind.u64.wrap (id : Int) = (id : Int) := IntWalk.u64_in _ (by omega)
  unfold h4C
  go_enter Try.func133, Try.ntmps133
  go_wp2
  refine wp_rel 26 57 rfl (by kernel_rfl) (by kernel_rfl) (fun i => match i with | 0 => MP.eq (.slice (some ⟨w.heap.size + 1, 0, none⟩) 2 2) | 1 => MP.eq (.pointer (some ⟨w.heap.size, 1, none⟩)) | 2 => MP.eq (.int .i64 (ln : Int)) | 3 => MP.eq (.int .u64 (ln : Int)) | 4 => MP.rb (dig (ln) 2) | 5 => MP.eq (.pointer (some ⟨w.heap.size, 2, none⟩)) | 6 => MP.eq (.int .u16 (id : Int)) | 7 => MP.eq (.int .u64 (id : Int)) | 8 => MP.rb (dig (id) 2) | 9 => MP.eq (.int .u64 (p : Int)) | 10 => MP.rb (dig (p) 2) | 11 => MP.eq (.pointer (some ⟨w.heap.size, 6, none⟩)) | 12 => MP.eq (.int .u8 (tl : Int)) | 13 => MP.eq (.pointer (some ⟨w.heap.size, 7, none⟩)) | 14 => MP.eq (.int .u8 (pr : Int)) | 15 => MP.rb [UInt8.ofNat (tl), UInt8.ofNat (pr), UInt8.ofNat (0), UInt8.ofNat (0)] | 16 => MP.eq (.pointer (some ⟨w.heap.size, 9, none⟩)) | 17 => MP.eq (.agg #[.bool s6, .int .u64 (sh : Int), .int .u64 (sl : Int)]) | 18 => MP.ob w.heap.size (adrB s6 sh sl) | 19 => MP.eq (.pointer (some ⟨w.heap.size, 12, none⟩)) | 20 => MP.eq (.agg #[.bool d6, .int .u64 (dh : Int), .int .u64 (dl : Int)]) | 21 => MP.ob w.heap.size (adrB d6 dh dl) | 22 => MP.eq (.pointer (some ⟨w.heap.size, 15, none⟩)) | 23 => MP.eq (.slice A n k) | 24 => MP.rdl [[UInt8.ofNat x0, UInt8.ofNat ts], (dig (ln) 2), (dig (id) 2), (dig (p) 2), [UInt8.ofNat (tl), UInt8.ofNat (pr), UInt8.ofNat (0), UInt8.ofNat (0)], (adrB s6 sh sl), (adrB d6 dh dl), o] | 25 => MP.ob w.heap.size ([[UInt8.ofNat x0, UInt8.ofNat ts], (dig (ln) 2), (dig (id) 2), (dig (p) 2), [UInt8.ofNat (tl), UInt8.ofNat (pr), UInt8.ofNat (0), UInt8.ofNat (0)], (adrB s6 sh sl), (adrB d6 dh dl), o]).flatten | _ => MP.any) ?_ ?_
  · intro i hi o ho FA x hO hD K hK
    match i, hi, ho, hO, hD, hK with
    | 0, _, ho, hO, hD, hK => 
      obtain rfl := Option.some.inj ho.symm
      clear ho
      have ev4 : FA.eval (.tmp 4) = .slice (some ⟨w.heap.size + 1, 0, none⟩) 2 2 := hO 4 (by kernel_rfl)
      have e4 : FA.tmps[4]?.getD undef = .slice (some ⟨w.heap.size + 1, 0, none⟩) 2 2 := by simpa [Act.eval] using ev4
      replace ev4 := Lib.hid ev4
      clear hO hD
      go_simp
      exact hK.out _ _ (Ex.refl _) rfl
    | 1, _, ho, hO, hD, hK => 
      obtain rfl := Option.some.inj ho.symm
      clear ho
      have ev1 : FA.eval (.tmp 1) = .pointer (some ⟨w.heap.size, 0, none⟩) := hO 1 (by kernel_rfl)
      have e1 : FA.tmps[1]?.getD undef = .pointer (some ⟨w.heap.size, 0, none⟩) := by simpa [Act.eval] using ev1
      replace ev1 := Lib.hid ev1
      clear hO hD
      go_simp
      exact hK.out _ _ (Ex.refl _) rfl
    | 2, _, ho, hO, hD, hK => 
      obtain rfl := Option.some.inj ho.symm
      clear ho
      have ev26 : FA.eval (.tmp 26) = .pointer (some ⟨w.heap.size, 1, none⟩) := hD 1 26 (by kernel_rfl)
      have e26 : FA.tmps[26]?.getD undef = .pointer (some ⟨w.heap.size, 1, none⟩) := by simpa [Act.eval] using ev26
      replace ev26 := Lib.hid ev26
      clear hO hD
      go_simp
      exact hK.out _ _ (Ex.refl _) rfl
    | 3, _, ho, hO, hD, hK => 
      obtain rfl := Option.some.inj ho.symm
      clear ho
      have ev27 : FA.eval (.tmp 27) = .int .i64 (ln : Int) := hD 2 27 (by kernel_rfl)
      have e27 : FA.tmps[27]?.getD undef = .int .i64 (ln : Int) := by simpa [Act.eval] using ev27
      replace ev27 := Lib.hid ev27
      clear hO hD
      go_simp
      exact hK.out _ _ (Ex.refl _) rfl
    | 4, _, ho, hO, hD, hK => 
      obtain rfl := Option.some.inj ho.symm
      clear ho
      have ev28 : FA.eval (.tmp 28) = .int .u64 (ln : Int) := hD 3 28 (by kernel_rfl)
      have e28 : FA.tmps[28]?.getD undef = .int .u64 (ln : Int) := by simpa [Act.eval] using ev28
      replace ev28 := Lib.hid ev28
      clear hO hD
      go_simp
      refine (refBytes_any (ln) 2 _ (by omega) (by omega)).mono ?_
      rintro e w1 ⟨A2, n2, c2, bs2, d2, rfl, rfl, ho2⟩
      exact hK.out _ _ (Ex.plus_ _ _ _) ⟨_, _, _, rfl, ho2.rb⟩
    | 5, _, ho, hO, hD, hK => 
      obtain rfl := Option.some.inj ho.symm
      clear ho
      have ev1 : FA.eval (.tmp 1) = .pointer (some ⟨w.heap.size, 0, none⟩) := hO 1 (by kernel_rfl)
      have e1 : FA.tmps[1]?.getD undef = .pointer (some ⟨w.heap.size, 0, none⟩) := by simpa [Act.eval] using ev1
      replace ev1 := Lib.hid ev1
      clear hO hD
      go_simp
      exact hK.out _ _ (Ex.refl _) rfl
    | 6, _, ho, hO, hD, hK => 
      obtain rfl := Option.some.inj ho.symm
      clear ho
      have ev30 : FA.eval (.tmp 30) = .pointer (some ⟨w.heap.size, 2, none⟩) := hD 5 30 (by kernel_rfl)
      have e30 : FA.tmps[30]?.getD undef = .pointer (some ⟨w.heap.size, 2, none⟩) := by simpa [Act.eval] using ev30
      replace ev30 := Lib.hid ev30
      clear hO hD
      go_simp
      exact hK.out _ _ (Ex.refl _) rfl
    | 7, _, ho, hO, hD, hK => 
      obtain rfl := Option.some.inj ho.symm
      clear ho
      have ev31 : FA.eval (.tmp 31) = .int .u16 (id : Int) := hD 6 31 (by kernel_rfl)
      have e31 : FA.tmps[31]?.getD undef = .int .u16 (id : Int) := by simpa [Act.eval] using ev31
      replace ev31 := Lib.hid ev31
      clear hO hD
      go_simp
      exact hK.out _ _ (Ex.refl _) rfl
    | 8, _, ho, hO, hD, hK => 
      obtain rfl := Option.some.inj ho.symm
      clear ho
      have ev32 : FA.eval (.tmp 32) = .int .u64 (id : Int) := hD 7 32 (by kernel_rfl)
      have e32 : FA.tmps[32]?.getD undef = .int .u64 (id : Int) := by simpa [Act.eval] using ev32
      replace ev32 := Lib.hid ev32
      clear hO hD
      go_simp
      refine (refBytes_any (id) 2 _ (by omega) (by omega)).mono ?_
      rintro e w1 ⟨A2, n2, c2, bs2, d2, rfl, rfl, ho2⟩
      exact hK.out _ _ (Ex.plus_ _ _ _) ⟨_, _, _, rfl, ho2.rb⟩
    | 9, _, ho, hO, hD, hK => 
      obtain rfl := Option.some.inj ho.symm
      clear ho
      have ev3 : FA.eval (.tmp 3) = .int .u64 (p : Int) := hO 3 (by kernel_rfl)
      have e3 : FA.tmps[3]?.getD undef = .int .u64 (p : Int) := by simpa [Act.eval] using ev3
      replace ev3 := Lib.hid ev3
      clear hO hD
      go_simp
      exact hK.out _ _ (Ex.refl _) rfl
    | 10, _, ho, hO, hD, hK => 
      obtain rfl := Option.some.inj ho.symm
      clear ho
      have ev34 : FA.eval (.tmp 34) = .int .u64 (p : Int) := hD 9 34 (by kernel_rfl)
      have e34 : FA.tmps[34]?.getD undef = .int .u64 (p : Int) := by simpa [Act.eval] using ev34
      replace ev34 := Lib.hid ev34
      clear hO hD
      go_simp
      refine (refBytes_any (p) 2 _ (by omega) (by omega)).mono ?_
      rintro e w1 ⟨A2, n2, c2, bs2, d2, rfl, rfl, ho2⟩
      exact hK.out _ _ (Ex.plus_ _ _ _) ⟨_, _, _, rfl, ho2.rb⟩
    | 11, _, ho, hO, hD, hK => 
      obtain rfl := Option.some.inj ho.symm
      clear ho
      have ev1 : FA.eval (.tmp 1) = .pointer (some ⟨w.heap.size, 0, none⟩) := hO 1 (by kernel_rfl)
      have e1 : FA.tmps[1]?.getD undef = .pointer (some ⟨w.heap.size, 0, none⟩) := by simpa [Act.eval] using ev1
      replace ev1 := Lib.hid ev1
      clear hO hD
      go_simp
      exact hK.out _ _ (Ex.refl _) rfl
    | 12, _, ho, hO, hD, hK => 
      obtain rfl := Option.some.inj ho.symm
      clear ho
      have ev36 : FA.eval (.tmp 36) = .pointer (some ⟨w.heap.size, 6, none⟩) := hD 11 36 (by kernel_rfl)
      have e36 : FA.tmps[36]?.getD undef = .pointer (some ⟨w.heap.size, 6, none⟩) := by simpa [Act.eval] using ev36
      replace ev36 := Lib.hid ev36
      clear hO hD
      go_simp
      exact hK.out _ _ (Ex.refl _) rfl
    | 13, _, ho, hO, hD, hK => 
      obtain rfl := Option.some.inj ho.symm
      clear ho
      have ev1 : FA.eval (.tmp 1) = .pointer (some ⟨w.heap.size, 0, none⟩) := hO 1 (by kernel_rfl)
      have e1 : FA.tmps[1]?.getD undef = .pointer (some ⟨w.heap.size, 0, none⟩) := by simpa [Act.eval] using ev1
      replace ev1 := Lib.hid ev1
      clear hO hD
      go_simp
      exact hK.out _ _ (Ex.refl _) rfl
    | 14, _, ho, hO, hD, hK => 
      obtain rfl := Option.some.inj ho.symm
      clear ho
      have ev38 : FA.eval (.tmp 38) = .pointer (some ⟨w.heap.size, 7, none⟩) := hD 13 38 (by kernel_rfl)
      have e38 : FA.tmps[38]?.getD undef = .pointer (some ⟨w.heap.size, 7, none⟩) := by simpa [Act.eval] using ev38
      replace ev38 := Lib.hid ev38
      clear hO hD
      go_simp
      exact hK.out _ _ (Ex.refl _) rfl
    | 15, _, ho, hO, hD, hK => 
      obtain rfl := Option.some.inj ho.symm
      clear ho
      have ev37 : FA.eval (.tmp 37) = .int .u8 (tl : Int) := hD 12 37 (by kernel_rfl)
      have e37 : FA.tmps[37]?.getD undef = .int .u8 (tl : Int) := by simpa [Act.eval] using ev37
      replace ev37 := Lib.hid ev37
      have ev39 : FA.eval (.tmp 39) = .int .u8 (pr : Int) := hD 14 39 (by kernel_rfl)
      have e39 : FA.tmps[39]?.getD undef = .int .u8 (pr : Int) := by simpa [Act.eval] using ev39
      replace ev39 := Lib.hid ev39
      clear hO hD
      go_simp
      refine hK.out _ _ (Ex.alloc _ _) ⟨_, _, _, rfl, ?_⟩
      refine Rb.litW _ [UInt8.ofNat (tl), UInt8.ofNat (pr), UInt8.ofNat (0), UInt8.ofNat (0)] ?_ rfl (by decide) ?_
      · simp [size_plus]
      · simp [bcs]; try omega
    | 16, _, ho, hO, hD, hK => 
      obtain rfl := Option.some.inj ho.symm
      clear ho
      have ev1 : FA.eval (.tmp 1) = .pointer (some ⟨w.heap.size, 0, none⟩) := hO 1 (by kernel_rfl)
      have e1 : FA.tmps[1]?.getD undef = .pointer (some ⟨w.heap.size, 0, none⟩) := by simpa [Act.eval] using ev1
      replace ev1 := Lib.hid ev1
      clear hO hD
      go_simp
      exact hK.out _ _ (Ex.refl _) rfl
    | 17, _, ho, hO, hD, hK => 
      obtain rfl := Option.some.inj ho.symm
      clear ho
      have ev41 : FA.eval (.tmp 41) = .pointer (some ⟨w.heap.size, 9, none⟩) := hD 16 41 (by kernel_rfl)
      have e41 : FA.tmps[41]?.getD undef = .pointer (some ⟨w.heap.size, 9, none⟩) := by simpa [Act.eval] using ev41
      replace ev41 := Lib.hid ev41
      clear hO hD
      go_simp
      exact hK.out _ _ (Ex.refl _) rfl
    | 18, _, ho, hO, hD, hK => 
      obtain rfl := Option.some.inj ho.symm
      clear ho
      have ev42 : FA.eval (.tmp 42) = .agg #[.bool s6, .int .u64 (sh : Int), .int .u64 (sl : Int)] := hD 17 42 (by kernel_rfl)
      have e42 : FA.tmps[42]?.getD undef = .agg #[.bool s6, .int .u64 (sh : Int), .int .u64 (sl : Int)] := by simpa [Act.eval] using ev42
      replace ev42 := Lib.hid ev42
      clear hO hD
      go_simp
      refine (refAdrBytes s6 sh sl _ (by omega) (by omega)).mono ?_
      rintro e w1 ⟨A2, n2, c2, bs2, d2, rfl, rfl, ho2⟩
      exact hK.out _ _ (Ex.plus_ _ _ _) ⟨_, _, _, rfl, ho2.mono (by have := be.size; simp [size_plus]; omega)⟩
    | 19, _, ho, hO, hD, hK => 
      obtain rfl := Option.some.inj ho.symm
      clear ho
      have ev1 : FA.eval (.tmp 1) = .pointer (some ⟨w.heap.size, 0, none⟩) := hO 1 (by kernel_rfl)
      have e1 : FA.tmps[1]?.getD undef = .pointer (some ⟨w.heap.size, 0, none⟩) := by simpa [Act.eval] using ev1
      replace ev1 := Lib.hid ev1
      clear hO hD
      go_simp
      exact hK.out _ _ (Ex.refl _) rfl
    | 20, _, ho, hO, hD, hK => 
      obtain rfl := Option.some.inj ho.symm
      clear ho
      have ev44 : FA.eval (.tmp 44) = .pointer (some ⟨w.heap.size, 12, none⟩) := hD 19 44 (by kernel_rfl)
      have e44 : FA.tmps[44]?.getD undef = .pointer (some ⟨w.heap.size, 12, none⟩) := by simpa [Act.eval] using ev44
      replace ev44 := Lib.hid ev44
      clear hO hD
      go_simp
      exact hK.out _ _ (Ex.refl _) rfl
    | 21, _, ho, hO, hD, hK => 
      obtain rfl := Option.some.inj ho.symm
      clear ho
      have ev45 : FA.eval (.tmp 45) = .agg #[.bool d6, .int .u64 (dh : Int), .int .u64 (dl : Int)] := hD 20 45 (by kernel_rfl)
      have e45 : FA.tmps[45]?.getD undef = .agg #[.bool d6, .int .u64 (dh : Int), .int .u64 (dl : Int)] := by simpa [Act.eval] using ev45
      replace ev45 := Lib.hid ev45
      clear hO hD
      go_simp
      refine (refAdrBytes d6 dh dl _ (by omega) (by omega)).mono ?_
      rintro e w1 ⟨A2, n2, c2, bs2, d2, rfl, rfl, ho2⟩
      exact hK.out _ _ (Ex.plus_ _ _ _) ⟨_, _, _, rfl, ho2.mono (by have := be.size; simp [size_plus]; omega)⟩
    | 22, _, ho, hO, hD, hK => 
      obtain rfl := Option.some.inj ho.symm
      clear ho
      have ev1 : FA.eval (.tmp 1) = .pointer (some ⟨w.heap.size, 0, none⟩) := hO 1 (by kernel_rfl)
      have e1 : FA.tmps[1]?.getD undef = .pointer (some ⟨w.heap.size, 0, none⟩) := by simpa [Act.eval] using ev1
      replace ev1 := Lib.hid ev1
      clear hO hD
      go_simp
      exact hK.out _ _ (Ex.refl _) rfl
    | 23, _, ho, hO, hD, hK => 
      obtain rfl := Option.some.inj ho.symm
      clear ho
      have ev47 : FA.eval (.tmp 47) = .pointer (some ⟨w.heap.size, 15, none⟩) := hD 22 47 (by kernel_rfl)
      have e47 : FA.tmps[47]?.getD undef = .pointer (some ⟨w.heap.size, 15, none⟩) := by simpa [Act.eval] using ev47
      replace ev47 := Lib.hid ev47
      clear hO hD
      go_simp
      exact hK.out _ _ (Ex.refl _) rfl
    | 24, _, ho, hO, hD, hK => 
      obtain rfl := Option.some.inj ho.symm
      clear ho
      have ev25 : FA.eval (.tmp 25) = .slice (some ⟨w.heap.size + 1, 0, none⟩) 2 2 := hD 0 25 (by kernel_rfl)
      have e25 : FA.tmps[25]?.getD undef = .slice (some ⟨w.heap.size + 1, 0, none⟩) 2 2 := by simpa [Act.eval] using ev25
      replace ev25 := Lib.hid ev25
      have f29 := hD 4 29 (by kernel_rfl)
      generalize eu29 : FA.eval (.tmp 29) = u29 at f29
      have e29 : FA.tmps[29]?.getD undef = u29 := by rw [← eu29]; simp [Act.eval]
      have ev29 := Lib.hid eu29
      clear eu29
      have f33 := hD 8 33 (by kernel_rfl)
      generalize eu33 : FA.eval (.tmp 33) = u33 at f33
      have e33 : FA.tmps[33]?.getD undef = u33 := by rw [← eu33]; simp [Act.eval]
      have ev33 := Lib.hid eu33
      clear eu33
      have f35 := hD 10 35 (by kernel_rfl)
      generalize eu35 : FA.eval (.tmp 35) = u35 at f35
      have e35 : FA.tmps[35]?.getD undef = u35 := by rw [← eu35]; simp [Act.eval]
      have ev35 := Lib.hid eu35
      clear eu35
      have f40 := hD 15 40 (by kernel_rfl)
      generalize eu40 : FA.eval (.tmp 40) = u40 at f40
      have e40 : FA.tmps[40]?.getD undef = u40 := by rw [← eu40]; simp [Act.eval]
      have ev40 := Lib.hid eu40
      clear eu40
      have f43 := hD 18 43 (by kernel_rfl)
      generalize eu43 : FA.eval (.tmp 43) = u43 at f43
      have e43 : FA.tmps[43]?.getD undef = u43 := by rw [← eu43]; simp [Act.eval]
      have ev43 := Lib.hid eu43
      clear eu43
      have f46 := hD 21 46 (by kernel_rfl)
      generalize eu46 : FA.eval (.tmp 46) = u46 at f46
      have e46 : FA.tmps[46]?.getD undef = u46 := by rw [← eu46]; simp [Act.eval]
      have ev46 := Lib.hid eu46
      clear eu46
      have ev48 : FA.eval (.tmp 48) = .slice A n k := hD 23 48 (by kernel_rfl)
      have e48 : FA.tmps[48]?.getD undef = .slice A n k := by simpa [Act.eval] using ev48
      replace ev48 := Lib.hid ev48
      clear hO hD
      obtain ⟨A29, n29, c29, rfl, h29⟩ := f29
      obtain ⟨A33, n33, c33, rfl, h33⟩ := f33
      obtain ⟨A35, n35, c35, rfl, h35⟩ := f35
      obtain ⟨A40, n40, c40, rfl, h40⟩ := f40
      obtain ⟨A43, n43, c43, rfl, h43⟩ := f43
      obtain ⟨A46, n46, c46, rfl, h46⟩ := f46
      go_simp
      refine hK.out _ _ (Ex.alloc _ _) ⟨_, _, _, rfl, ?_⟩
      refine RdL.litW _ _ ?_ ?_
      · simp [size_plus]
      · exact .cons ⟨_, _, _, rfl, hr3.plus_ _ _⟩ (.cons ⟨_, _, _, rfl, h29⟩ (.cons ⟨_, _, _, rfl, h33⟩ (.cons ⟨_, _, _, rfl, h35⟩ (.cons ⟨_, _, _, rfl, h40⟩ (.cons ⟨_, _, _, rfl, h43.rb⟩ (.cons ⟨_, _, _, rfl, h46.rb⟩ (.cons ⟨_, _, _, rfl, hr4.plus_ _ _⟩ (.nil))))))))
    | 25, _, ho, hO, hD, hK => 
      obtain rfl := Option.some.inj ho.symm
      clear ho
      have f49 := hD 24 49 (by kernel_rfl)
      generalize eu49 : FA.eval (.tmp 49) = u49 at f49
      have e49 : FA.tmps[49]?.getD undef = u49 := by rw [← eu49]; simp [Act.eval]
      have ev49 := Lib.hid eu49
      clear eu49
      clear hO hD
      obtain ⟨A1, m1, c1, rfl, hl1⟩ := f49
      have hm1 : m1 ≤ 100 := by obtain ⟨_, _, h2, _⟩ := hl1; simp only [List.length_cons, List.length_nil] at h2; omega
      go_simp
      refine (refJoin_any A1 m1 c1 _ _ hl1 (by omega) HT.out).mono ?_
      rintro e w1 ⟨A2, n2, c2, bs2, d2, rfl, rfl, ho2⟩
      exact hK.out _ _ (Ex.plus_ _ _ _) ⟨_, _, _, rfl, ho2.mono (by simp [size_plus]; omega)⟩
    | (k + 26), hi, _, _, _, _ => exact absurd hi (by omega)
  intro vs x hp
  have p0 : vs 0 = .slice (some ⟨w.heap.size + 1, 0, none⟩) 2 2 := hp 0 (by omega)
  have p1 : vs 1 = .pointer (some ⟨w.heap.size, 1, none⟩) := hp 1 (by omega)
  have p2 : vs 2 = .int .i64 (ln : Int) := hp 2 (by omega)
  have p3 : vs 3 = .int .u64 (ln : Int) := hp 3 (by omega)
  have p4 := hp 4 (by omega)
  have p5 : vs 5 = .pointer (some ⟨w.heap.size, 2, none⟩) := hp 5 (by omega)
  have p6 : vs 6 = .int .u16 (id : Int) := hp 6 (by omega)
  have p7 : vs 7 = .int .u64 (id : Int) := hp 7 (by omega)
  have p8 := hp 8 (by omega)
  have p9 : vs 9 = .int .u64 (p : Int) := hp 9 (by omega)
  have p10 := hp 10 (by omega)
  have p11 : vs 11 = .pointer (some ⟨w.heap.size, 6, none⟩) := hp 11 (by omega)
  have p12 : vs 12 = .int .u8 (tl : Int) := hp 12 (by omega)
  have p13 : vs 13 = .pointer (some ⟨w.heap.size, 7, none⟩) := hp 13 (by omega)
  have p14 : vs 14 = .int .u8 (pr : Int) := hp 14 (by omega)
  have p15 := hp 15 (by omega)
  have p16 : vs 16 = .pointer (some ⟨w.heap.size, 9, none⟩) := hp 16 (by omega)
  have p17 : vs 17 = .agg #[.bool s6, .int .u64 (sh : Int), .int .u64 (sl : Int)] := hp 17 (by omega)
  have p18 := hp 18 (by omega)
  have p19 : vs 19 = .pointer (some ⟨w.heap.size, 12, none⟩) := hp 19 (by omega)
  have p20 : vs 20 = .agg #[.bool d6, .int .u64 (dh : Int), .int .u64 (dl : Int)] := hp 20 (by omega)
  have p21 := hp 21 (by omega)
  have p22 : vs 22 = .pointer (some ⟨w.heap.size, 15, none⟩) := hp 22 (by omega)
  have p23 : vs 23 = .slice A n k := hp 23 (by omega)
  have p24 := hp 24 (by omega)
  have p25 := hp 25 (by omega)
  clear hp
  simp only [List.take_succ_cons, List.take_zero, List.drop_succ_cons, List.drop_zero, putAll, Nat.zero_add, Nat.reduceAdd, Act.put, List.setIfInBounds_toArray, List.set_cons_zero, List.set_cons_succ, p0, p1, p2, p3, p5, p6, p7, p9, p11, p12, p13, p14, p16, p17, p19, p20, p22, p23]
  clear p0 p1 p2 p3 p5 p6 p7 p9 p11 p12 p13 p14 p16 p17 p19 p20 p22 p23
  generalize vs 4 = y4 at *
  generalize vs 8 = y8 at *
  generalize vs 10 = y10 at *
  generalize vs 15 = y15 at *
  generalize vs 18 = y18 at *
  generalize vs 21 = y21 at *
  generalize vs 24 = y24 at *
  generalize vs 25 = y25 at *
  clear vs
  obtain ⟨A9, n9, c9, rfl, h9⟩ := p25
  replace be := belowP be x.bs x.d
  have HF : Hid (ip4R x0 ts ln id p tl pr s6 sh sl d6 dh dl o = ([[UInt8.ofNat x0, UInt8.ofNat ts], (dig (ln) 2), (dig (id) 2), (dig (p) 2), [UInt8.ofNat (tl), UInt8.ofNat (pr), UInt8.ofNat (0), UInt8.ofNat (0)], (adrB s6 sh sl), (adrB d6 dh dl), o]).flatten) := Lib.hid rfl
  rw [← HF.out] at h9
  have h9' := h9.1
  generalize plus ((w.alloc (.cells #[.int .u8 (ts : Int), .int .i64 (ln : Int), .int .u16 (id : Int), .bool true, .bool false, .int .i64 (fo : Int), .int .u8 (tl : Int), .int .u8 (pr : Int), .int .u16 (sm : Int), .bool s6, .int .u64 (sh : Int), .int .u64 (sl : Int), .bool d6, .int .u64 (dh : Int), .int .u64 (dl : Int), .slice A n k] 184)).alloc (.cells #[.int .u8 (x0 : Int), .int .u8 (ts : Int)] 5)) x.bs x.d = W at *
  clear HF
  generalize hLL : ip4R x0 ts ln id p tl pr s6 sh sl d6 dh dl o = LL at *
  replace hLL := Lib.hid hLL
  have HS := Lib.hid (fun w (h : Rb w A9 n9 c9 LL) => refSumOf A9 n9 c9 LL w h (by omega))
  have hs1 : 65535 - fd (tot false LL) ≤ 65535 := Nat.sub_le _ _
  generalize hss : 65535 - fd (tot false LL) = s at *
  replace hss := Lib.hid hss
  have gs : IntKind.u64.wrap (s : Int) = (s : Int) := IntWalk.u64_in _ (by omega)
  have hn9 : 12 ≤ n9 := by omega
  have hn9' : n9 ≤ 1000 := by omega
  go_wp2_with fail
  refine (HS.out _ h9.rb).mono ?_
  rintro e w1 ⟨rfl, rfl⟩
  go_wp2_with fail
  refine (refBytes_any s 2 _ (by omega) (by decide)).mono ?_
  rintro e w1 ⟨A3, n3, c3, bs3, d3, rfl, rfl, ho3⟩
  obtain rfl : n3 = 2 := by rw [← ho3.1, dig_length]
  go_wp2_with fail
  refine (refSet _ _ _ LL 10 _ _ _ _ _ (h9.rb.plus_ _ _) ho3.rb (by omega) (by omega) (by omega)).mono ?_
  rintro e w1 ⟨A4, n4, c4, bs4, d4, rfl, rfl, ho4⟩
  go_wp2
  go_ret
  try rw [hLL.out]
  try rw [hss.out]
  refine RetB.mk (ho4.mono ?_) ?_
  · have := be.size; simp [size_plus]; omega
  · with_reducible repeat (first | exact be | refine belowP ?_ _ _)
set_option maxHeartbeats 4000000 in
set_option maxRecDepth 100000 in
theorem refIp4Bytes_yy (ts ln id : Nat) (fo tl pr sm : Nat) (s6 : Bool) (sh sl : Nat) (d6 : Bool) (dh dl : Nat) (A : Option Addr) (n k : Nat) (o : List UInt8) (w : World) (hr : Rb w A n k o) (b1 : ts < 256) (b2 : id < 65536) (b3 : tl < 256) (b4 : pr < 256) (k1 : sh < 18446744073709551616) (k2 : sl < 18446744073709551616) (k3 : dh < 18446744073709551616) (k4 : dl < 18446744073709551616) (c1 : n ≤ 40) (c4 : ln ≤ 65535) (c5 : fo ≤ 8191) : Calls Try.prog 133 #[.agg (h4C ts (ln : Int) id true true (fo : Int) tl pr sm s6 sh sl d6 dh dl A n k).toArray] w (RetB w (setB (ip4R (69 + o.length / 4) ts ln id (pl4 true true fo) tl pr s6 sh sl d6 dh dl o) 10 (dig (65535 - fd (tot false (ip4R (69 + o.length / 4) ts ln id (pl4 true true fo) tl pr s6 sh sl d6 dh dl o))) 2))) := by
  have z1 := adrB_length s6 sh sl
  have z2 := adrB_length d6 dh dl
  obtain ⟨p, hp⟩ : ∃ p : Nat, p = fo + 24576 := ⟨_, rfl⟩
  have hpl : pl4 true true fo = p := by simp [pl4]; omega
  obtain ⟨q, hq⟩ : ∃ q : Nat, q = n / 4 := ⟨_, rfl⟩
  obtain ⟨x0, hx⟩ : ∃ x : Nat, x = 69 + q := ⟨_, rfl⟩
  have e0 : (n : Int).tdiv 4 = (q : Int) := by rw [Int.tdiv_eq_ediv_of_nonneg (by omega)]; omega
  have e1 : IntKind.i64.wrap (q : Int) = (q : Int) := IntWalk.i64_in _ (by omega)
  have e2 : IntKind.i64.wrap (69 + (q : Int)) = (x0 : Int) := by rw [IntWalk.i64_in _ (by omega)]; omega
  have e3 : IntKind.u8.wrap (x0 : Int) = (x0 : Int) := IntWalk.u8_in _ (by omega)
  have l0 : x0 < 256 := by omega
  have lp : p < 65536 := by omega
  have fp : IntKind.u64.wrap (fo : Int) = (fo : Int) := IntWalk.u64_in _ (by omega)
  obtain ⟨p1, hp1⟩ : ∃ p : Nat, p = fo + 16384 := ⟨_, rfl⟩
  have f1 : IntKind.u64.wrap ((fo : Int) + 16384) = (p1 : Int) := by rw [IntWalk.u64_in _ (by omega)]; omega
  have f2 : IntKind.u64.wrap ((p1 : Int) + 8192) = (p : Int) := by rw [IntWalk.u64_in _ (by omega)]; omega
  rw [hpl, show 69 + o.length / 4 = x0 from by rw [hr.1]; omega]
  have HT : ([[UInt8.ofNat x0, UInt8.ofNat ts], (dig (ln) 2), (dig (id) 2), (dig (p) 2), [UInt8.ofNat (tl), UInt8.ofNat (pr), UInt8.ofNat (0), UInt8.ofNat (0)], (adrB s6 sh sl), (adrB d6 dh dl), o]).flatten.length ≤ 549755813888 := by simp [dig_length, hr.1]; omega
  have HL : (ip4R x0 ts ln id p tl pr s6 sh sl d6 dh dl o).length ≤ 1000 := by simp [ip4R, dig_length, hr.1]; omega
  have HL2 : 12 ≤ (ip4R x0 ts ln id p tl pr s6 sh sl d6 dh dl o).length := by simp [ip4R, dig_length, hr.1]; omega
  clear hpl hp hq hx hp1
  replace HT := Lib.hid HT
  have hr3 : Rb ((w.alloc (.cells #[.int .u8 (ts : Int), .int .i64 (ln : Int), .int .u16 (id : Int), .bool true, .bool true, .int .i64 (fo : Int), .int .u8 (tl : Int), .int .u8 (pr : Int), .int .u16 (sm : Int), .bool s6, .int .u64 (sh : Int), .int .u64 (sl : Int), .bool d6, .int .u64 (dh : Int), .int .u64 (dl : Int), .slice A n k] 184)).alloc (.cells #[.int .u8 (x0 : Int), .int .u8 (ts : Int)] 5)) (some ⟨w.heap.size + 1, 0, none⟩) 2 2 [UInt8.ofNat x0, UInt8.ofNat ts] := Rb.litW _ _ (by simp) rfl (by decide) (by simp [bcs]; omega)
  have hr4 : Rb ((w.alloc (.cells #[.int .u8 (ts : Int), .int .i64 (ln : Int), .int .u16 (id : Int), .bool true, .bool true, .int .i64 (fo : Int), .int .u8 (tl : Int), .int .u8 (pr : Int), .int .u16 (sm : Int), .bool s6, .int .u64 (sh : Int), .int .u64 (sl : Int), .bool d6, .int .u64 (dh : Int), .int .u64 (dl : Int), .slice A n k] 184)).alloc (.cells #[.int .u8 (x0 : Int), .int .u8 (ts : Int)] 5)) A n k o := (hr.alloc _).alloc _
  have be : Below w.heap.size w ((w.alloc (.cells #[.int .u8 (ts : Int), .int .i64 (ln : Int), .int .u16 (id : Int), .bool true, .bool true, .int .i64 (fo : Int), .int .u8 (tl : Int), .int .u8 (pr : Int), .int .u16 (sm : Int), .bool s6, .int .u64 (sh : Int), .int .u64 (sl : Int), .bool d6, .int .u64 (dh : Int), .int .u64 (dl : Int), .slice A n k] 184)).alloc (.cells #[.int .u8 (x0 : Int), .int .u8 (ts : Int)] 5)) := Below.allocS (Below.allocS (Below.refl _ _) _) _
  have g0 : IntKind.u64.wrap (ln : Int) = (ln : Int) := IntWalk.u64_in _ (by omega)
  have g1 : IntKind.u64.wrap (id : Int) = (id : Int) := IntWalk.u64_in _ (by omega)
  unfold h4C
  go_enter Try.func133, Try.ntmps133
  go_wp2
  refine wp_rel 26 57 rfl (by kernel_rfl) (by kernel_rfl) (fun i => match i with | 0 => MP.eq (.slice (some ⟨w.heap.size + 1, 0, none⟩) 2 2) | 1 => MP.eq (.pointer (some ⟨w.heap.size, 1, none⟩)) | 2 => MP.eq (.int .i64 (ln : Int)) | 3 => MP.eq (.int .u64 (ln : Int)) | 4 => MP.rb (dig (ln) 2) | 5 => MP.eq (.pointer (some ⟨w.heap.size, 2, none⟩)) | 6 => MP.eq (.int .u16 (id : Int)) | 7 => MP.eq (.int .u64 (id : Int)) | 8 => MP.rb (dig (id) 2) | 9 => MP.eq (.int .u64 (p : Int)) | 10 => MP.rb (dig (p) 2) | 11 => MP.eq (.pointer (some ⟨w.heap.size, 6, none⟩)) | 12 => MP.eq (.int .u8 (tl : Int)) | 13 => MP.eq (.pointer (some ⟨w.heap.size, 7, none⟩)) | 14 => MP.eq (.int .u8 (pr : Int)) | 15 => MP.rb [UInt8.ofNat (tl), UInt8.ofNat (pr), UInt8.ofNat (0), UInt8.ofNat (0)] | 16 => MP.eq (.pointer (some ⟨w.heap.size, 9, none⟩)) | 17 => MP.eq (.agg #[.bool s6, .int .u64 (sh : Int), .int .u64 (sl : Int)]) | 18 => MP.ob w.heap.size (adrB s6 sh sl) | 19 => MP.eq (.pointer (some ⟨w.heap.size, 12, none⟩)) | 20 => MP.eq (.agg #[.bool d6, .int .u64 (dh : Int), .int .u64 (dl : Int)]) | 21 => MP.ob w.heap.size (adrB d6 dh dl) | 22 => MP.eq (.pointer (some ⟨w.heap.size, 15, none⟩)) | 23 => MP.eq (.slice A n k) | 24 => MP.rdl [[UInt8.ofNat x0, UInt8.ofNat ts], (dig (ln) 2), (dig (id) 2), (dig (p) 2), [UInt8.ofNat (tl), UInt8.ofNat (pr), UInt8.ofNat (0), UInt8.ofNat (0)], (adrB s6 sh sl), (adrB d6 dh dl), o] | 25 => MP.ob w.heap.size ([[UInt8.ofNat x0, UInt8.ofNat ts], (dig (ln) 2), (dig (id) 2), (dig (p) 2), [UInt8.ofNat (tl), UInt8.ofNat (pr), UInt8.ofNat (0), UInt8.ofNat (0)], (adrB s6 sh sl), (adrB d6 dh dl), o]).flatten | _ => MP.any) ?_ ?_
  · intro i hi o ho FA x hO hD K hK
    match i, hi, ho, hO, hD, hK with
    | 0, _, ho, hO, hD, hK => 
      obtain rfl := Option.some.inj ho.symm
      clear ho
      have ev4 : FA.eval (.tmp 4) = .slice (some ⟨w.heap.size + 1, 0, none⟩) 2 2 := hO 4 (by kernel_rfl)
      have e4 : FA.tmps[4]?.getD undef = .slice (some ⟨w.heap.size + 1, 0, none⟩) 2 2 := by simpa [Act.eval] using ev4
      replace ev4 := Lib.hid ev4
      clear hO hD
      go_simp
      exact hK.out _ _ (Ex.refl _) rfl
    | 1, _, ho, hO, hD, hK => 
      obtain rfl := Option.some.inj ho.symm
      clear ho
      have ev1 : FA.eval (.tmp 1) = .pointer (some ⟨w.heap.size, 0, none⟩) := hO 1 (by kernel_rfl)
      have e1 : FA.tmps[1]?.getD undef = .pointer (some ⟨w.heap.size, 0, none⟩) := by simpa [Act.eval] using ev1
      replace ev1 := Lib.hid ev1
      clear hO hD
      go_simp
      exact hK.out _ _ (Ex.refl _) rfl
    | 2, _, ho, hO, hD, hK => 
      obtain rfl := Option.some.inj ho.symm
      clear ho
      have ev26 : FA.eval (.tmp 26) = .pointer (some ⟨w.heap.size, 1, none⟩) := hD 1 26 (by kernel_rfl)
      have e26 : FA.tmps[26]?.getD undef = .pointer (some ⟨w.heap.size, 1, none⟩) := by simpa [Act.eval] using ev26
      replace ev26 := Lib.hid ev26
      clear hO hD
      go_simp
      exact hK.out _ _ (Ex.refl _) rfl
    | 3, _, ho, hO, hD, hK => 
      obtain rfl := Option.some.inj ho.symm
      clear ho
      have ev27 : FA.eval (.tmp 27) = .int .i64 (ln : Int) := hD 2 27 (by kernel_rfl)
      have e27 : FA.tmps[27]?.getD undef = .int .i64 (ln : Int) := by simpa [Act.eval] using ev27
      replace ev27 := Lib.hid ev27
      clear hO hD
      go_simp
      exact hK.out _ _ (Ex.refl _) rfl
    | 4, _, ho, hO, hD, hK => 
      obtain rfl := Option.some.inj ho.symm
      clear ho
      have ev28 : FA.eval (.tmp 28) = .int .u64 (ln : Int) := hD 3 28 (by kernel_rfl)
      have e28 : FA.tmps[28]?.getD undef = .int .u64 (ln : Int) := by simpa [Act.eval] using ev28
      replace ev28 := Lib.hid ev28
      clear hO hD
      go_simp
      refine (refBytes_any (ln) 2 _ (by omega) (by omega)).mono ?_
      rintro e w1 ⟨A2, n2, c2, bs2, d2, rfl, rfl, ho2⟩
      exact hK.out _ _ (Ex.plus_ _ _ _) ⟨_, _, _, rfl, ho2.rb⟩
    | 5, _, ho, hO, hD, hK => 
      obtain rfl := Option.some.inj ho.symm
      clear ho
      have ev1 : FA.eval (.tmp 1) = .pointer (some ⟨w.heap.size, 0, none⟩) := hO 1 (by kernel_rfl)
      have e1 : FA.tmps[1]?.getD undef = .pointer (some ⟨w.heap.size, 0, none⟩) := by simpa [Act.eval] using ev1
      replace ev1 := Lib.hid ev1
      clear hO hD
      go_simp
      exact hK.out _ _ (Ex.refl _) rfl
    | 6, _, ho, hO, hD, hK => 
      obtain rfl := Option.some.inj ho.symm
      clear ho
      have ev30 : FA.eval (.tmp 30) = .pointer (some ⟨w.heap.size, 2, none⟩) := hD 5 30 (by kernel_rfl)
      have e30 : FA.tmps[30]?.getD undef = .pointer (some ⟨w.heap.size, 2, none⟩) := by simpa [Act.eval] using ev30
      replace ev30 := Lib.hid ev30
      clear hO hD
      go_simp
      exact hK.out _ _ (Ex.refl _) rfl
    | 7, _, ho, hO, hD, hK => 
      obtain rfl := Option.some.inj ho.symm
      clear ho
      have ev31 : FA.eval (.tmp 31) = .int .u16 (id : Int) := hD 6 31 (by kernel_rfl)
      have e31 : FA.tmps[31]?.getD undef = .int .u16 (id : Int) := by simpa [Act.eval] using ev31
      replace ev31 := Lib.hid ev31
      clear hO hD
      go_simp
      exact hK.out _ _ (Ex.refl _) rfl
    | 8, _, ho, hO, hD, hK => 
      obtain rfl := Option.some.inj ho.symm
      clear ho
      have ev32 : FA.eval (.tmp 32) = .int .u64 (id : Int) := hD 7 32 (by kernel_rfl)
      have e32 : FA.tmps[32]?.getD undef = .int .u64 (id : Int) := by simpa [Act.eval] using ev32
      replace ev32 := Lib.hid ev32
      clear hO hD
      go_simp
      refine (refBytes_any (id) 2 _ (by omega) (by omega)).mono ?_
      rintro e w1 ⟨A2, n2, c2, bs2, d2, rfl, rfl, ho2⟩
      exact hK.out _ _ (Ex.plus_ _ _ _) ⟨_, _, _, rfl, ho2.rb⟩
    | 9, _, ho, hO, hD, hK => 
      obtain rfl := Option.some.inj ho.symm
      clear ho
      have ev3 : FA.eval (.tmp 3) = .int .u64 (p : Int) := hO 3 (by kernel_rfl)
      have e3 : FA.tmps[3]?.getD undef = .int .u64 (p : Int) := by simpa [Act.eval] using ev3
      replace ev3 := Lib.hid ev3
      clear hO hD
      go_simp
      exact hK.out _ _ (Ex.refl _) rfl
    | 10, _, ho, hO, hD, hK => 
      obtain rfl := Option.some.inj ho.symm
      clear ho
      have ev34 : FA.eval (.tmp 34) = .int .u64 (p : Int) := hD 9 34 (by kernel_rfl)
      have e34 : FA.tmps[34]?.getD undef = .int .u64 (p : Int) := by simpa [Act.eval] using ev34
      replace ev34 := Lib.hid ev34
      clear hO hD
      go_simp
      refine (refBytes_any (p) 2 _ (by omega) (by omega)).mono ?_
      rintro e w1 ⟨A2, n2, c2, bs2, d2, rfl, rfl, ho2⟩
      exact hK.out _ _ (Ex.plus_ _ _ _) ⟨_, _, _, rfl, ho2.rb⟩
    | 11, _, ho, hO, hD, hK => 
      obtain rfl := Option.some.inj ho.symm
      clear ho
      have ev1 : FA.eval (.tmp 1) = .pointer (some ⟨w.heap.size, 0, none⟩) := hO 1 (by kernel_rfl)
      have e1 : FA.tmps[1]?.getD undef = .pointer (some ⟨w.heap.size, 0, none⟩) := by simpa [Act.eval] using ev1
      replace ev1 := Lib.hid ev1
      clear hO hD
      go_simp
      exact hK.out _ _ (Ex.refl _) rfl
    | 12, _, ho, hO, hD, hK => 
      obtain rfl := Option.some.inj ho.symm
      clear ho
      have ev36 : FA.eval (.tmp 36) = .pointer (some ⟨w.heap.size, 6, none⟩) := hD 11 36 (by kernel_rfl)
      have e36 : FA.tmps[36]?.getD undef = .pointer (some ⟨w.heap.size, 6, none⟩) := by simpa [Act.eval] using ev36
      replace ev36 := Lib.hid ev36
      clear hO hD
      go_simp
      exact hK.out _ _ (Ex.refl _) rfl
    | 13, _, ho, hO, hD, hK => 
      obtain rfl := Option.some.inj ho.symm
      clear ho
      have ev1 : FA.eval (.tmp 1) = .pointer (some ⟨w.heap.size, 0, none⟩) := hO 1 (by kernel_rfl)
      have e1 : FA.tmps[1]?.getD undef = .pointer (some ⟨w.heap.size, 0, none⟩) := by simpa [Act.eval] using ev1
      replace ev1 := Lib.hid ev1
      clear hO hD
      go_simp
      exact hK.out _ _ (Ex.refl _) rfl
    | 14, _, ho, hO, hD, hK => 
      obtain rfl := Option.some.inj ho.symm
      clear ho
      have ev38 : FA.eval (.tmp 38) = .pointer (some ⟨w.heap.size, 7, none⟩) := hD 13 38 (by kernel_rfl)
      have e38 : FA.tmps[38]?.getD undef = .pointer (some ⟨w.heap.size, 7, none⟩) := by simpa [Act.eval] using ev38
      replace ev38 := Lib.hid ev38
      clear hO hD
      go_simp
      exact hK.out _ _ (Ex.refl _) rfl
    | 15, _, ho, hO, hD, hK => 
      obtain rfl := Option.some.inj ho.symm
      clear ho
      have ev37 : FA.eval (.tmp 37) = .int .u8 (tl : Int) := hD 12 37 (by kernel_rfl)
      have e37 : FA.tmps[37]?.getD undef = .int .u8 (tl : Int) := by simpa [Act.eval] using ev37
      replace ev37 := Lib.hid ev37
      have ev39 : FA.eval (.tmp 39) = .int .u8 (pr : Int) := hD 14 39 (by kernel_rfl)
      have e39 : FA.tmps[39]?.getD undef = .int .u8 (pr : Int) := by simpa [Act.eval] using ev39
      replace ev39 := Lib.hid ev39
      clear hO hD
      go_simp
      refine hK.out _ _ (Ex.alloc _ _) ⟨_, _, _, rfl, ?_⟩
      refine Rb.litW _ [UInt8.ofNat (tl), UInt8.ofNat (pr), UInt8.ofNat (0), UInt8.ofNat (0)] ?_ rfl (by decide) ?_
      · simp [size_plus]
      · simp [bcs]; try omega
    | 16, _, ho, hO, hD, hK => 
      obtain rfl := Option.some.inj ho.symm
      clear ho
      have ev1 : FA.eval (.tmp 1) = .pointer (some ⟨w.heap.size, 0, none⟩) := hO 1 (by kernel_rfl)
      have e1 : FA.tmps[1]?.getD undef = .pointer (some ⟨w.heap.size, 0, none⟩) := by simpa [Act.eval] using ev1
      replace ev1 := Lib.hid ev1
      clear hO hD
      go_simp
      exact hK.out _ _ (Ex.refl _) rfl
    | 17, _, ho, hO, hD, hK => 
      obtain rfl := Option.some.inj ho.symm
      clear ho
      have ev41 : FA.eval (.tmp 41) = .pointer (some ⟨w.heap.size, 9, none⟩) := hD 16 41 (by kernel_rfl)
      have e41 : FA.tmps[41]?.getD undef = .pointer (some ⟨w.heap.size, 9, none⟩) := by simpa [Act.eval] using ev41
      replace ev41 := Lib.hid ev41
      clear hO hD
      go_simp
      exact hK.out _ _ (Ex.refl _) rfl
    | 18, _, ho, hO, hD, hK => 
      obtain rfl := Option.some.inj ho.symm
      clear ho
      have ev42 : FA.eval (.tmp 42) = .agg #[.bool s6, .int .u64 (sh : Int), .int .u64 (sl : Int)] := hD 17 42 (by kernel_rfl)
      have e42 : FA.tmps[42]?.getD undef = .agg #[.bool s6, .int .u64 (sh : Int), .int .u64 (sl : Int)] := by simpa [Act.eval] using ev42
      replace ev42 := Lib.hid ev42
      clear hO hD
      go_simp
      refine (refAdrBytes s6 sh sl _ (by omega) (by omega)).mono ?_
      rintro e w1 ⟨A2, n2, c2, bs2, d2, rfl, rfl, ho2⟩
      exact hK.out _ _ (Ex.plus_ _ _ _) ⟨_, _, _, rfl, ho2.mono (by have := be.size; simp [size_plus]; omega)⟩
    | 19, _, ho, hO, hD, hK => 
      obtain rfl := Option.some.inj ho.symm
      clear ho
      have ev1 : FA.eval (.tmp 1) = .pointer (some ⟨w.heap.size, 0, none⟩) := hO 1 (by kernel_rfl)
      have e1 : FA.tmps[1]?.getD undef = .pointer (some ⟨w.heap.size, 0, none⟩) := by simpa [Act.eval] using ev1
      replace ev1 := Lib.hid ev1
      clear hO hD
      go_simp
      exact hK.out _ _ (Ex.refl _) rfl
    | 20, _, ho, hO, hD, hK => 
      obtain rfl := Option.some.inj ho.symm
      clear ho
      have ev44 : FA.eval (.tmp 44) = .pointer (some ⟨w.heap.size, 12, none⟩) := hD 19 44 (by kernel_rfl)
      have e44 : FA.tmps[44]?.getD undef = .pointer (some ⟨w.heap.size, 12, none⟩) := by simpa [Act.eval] using ev44
      replace ev44 := Lib.hid ev44
      clear hO hD
      go_simp
      exact hK.out _ _ (Ex.refl _) rfl
    | 21, _, ho, hO, hD, hK => 
      obtain rfl := Option.some.inj ho.symm
      clear ho
      have ev45 : FA.eval (.tmp 45) = .agg #[.bool d6, .int .u64 (dh : Int), .int .u64 (dl : Int)] := hD 20 45 (by kernel_rfl)
      have e45 : FA.tmps[45]?.getD undef = .agg #[.bool d6, .int .u64 (dh : Int), .int .u64 (dl : Int)] := by simpa [Act.eval] using ev45
      replace ev45 := Lib.hid ev45
      clear hO hD
      go_simp
      refine (refAdrBytes d6 dh dl _ (by omega) (by omega)).mono ?_
      rintro e w1 ⟨A2, n2, c2, bs2, d2, rfl, rfl, ho2⟩
      exact hK.out _ _ (Ex.plus_ _ _ _) ⟨_, _, _, rfl, ho2.mono (by have := be.size; simp [size_plus]; omega)⟩
    | 22, _, ho, hO, hD, hK => 
      obtain rfl := Option.some.inj ho.symm
      clear ho
      have ev1 : FA.eval (.tmp 1) = .pointer (some ⟨w.heap.size, 0, none⟩) := hO 1 (by kernel_rfl)
      have e1 : FA.tmps[1]?.getD undef = .pointer (some ⟨w.heap.size, 0, none⟩) := by simpa [Act.eval] using ev1
      replace ev1 := Lib.hid ev1
      clear hO hD
      go_simp
      exact hK.out _ _ (Ex.refl _) rfl
    | 23, _, ho, hO, hD, hK => 
      obtain rfl := Option.some.inj ho.symm
      clear ho
      have ev47 : FA.eval (.tmp 47) = .pointer (some ⟨w.heap.size, 15, none⟩) := hD 22 47 (by kernel_rfl)
      have e47 : FA.tmps[47]?.getD undef = .pointer (some ⟨w.heap.size, 15, none⟩) := by simpa [Act.eval] using ev47
      replace ev47 := Lib.hid ev47
      clear hO hD
      go_simp
      exact hK.out _ _ (Ex.refl _) rfl
    | 24, _, ho, hO, hD, hK => 
      obtain rfl := Option.some.inj ho.symm
      clear ho
      have ev25 : FA.eval (.tmp 25) = .slice (some ⟨w.heap.size + 1, 0, none⟩) 2 2 := hD 0 25 (by kernel_rfl)
      have e25 : FA.tmps[25]?.getD undef = .slice (some ⟨w.heap.size + 1, 0, none⟩) 2 2 := by simpa [Act.eval] using ev25
      replace ev25 := Lib.hid ev25
      have f29 := hD 4 29 (by kernel_rfl)
      generalize eu29 : FA.eval (.tmp 29) = u29 at f29
      have e29 : FA.tmps[29]?.getD undef = u29 := by rw [← eu29]; simp [Act.eval]
      have ev29 := Lib.hid eu29
      clear eu29
      have f33 := hD 8 33 (by kernel_rfl)
      generalize eu33 : FA.eval (.tmp 33) = u33 at f33
      have e33 : FA.tmps[33]?.getD undef = u33 := by rw [← eu33]; simp [Act.eval]
      have ev33 := Lib.hid eu33
      clear eu33
      have f35 := hD 10 35 (by kernel_rfl)
      generalize eu35 : FA.eval (.tmp 35) = u35 at f35
      have e35 : FA.tmps[35]?.getD undef = u35 := by rw [← eu35]; simp [Act.eval]
      have ev35 := Lib.hid eu35
      clear eu35
      have f40 := hD 15 40 (by kernel_rfl)
      generalize eu40 : FA.eval (.tmp 40) = u40 at f40
      have e40 : FA.tmps[40]?.getD undef = u40 := by rw [← eu40]; simp [Act.eval]
      have ev40 := Lib.hid eu40
      clear eu40
      have f43 := hD 18 43 (by kernel_rfl)
      generalize eu43 : FA.eval (.tmp 43) = u43 at f43
      have e43 : FA.tmps[43]?.getD undef = u43 := by rw [← eu43]; simp [Act.eval]
      have ev43 := Lib.hid eu43
      clear eu43
      have f46 := hD 21 46 (by kernel_rfl)
      generalize eu46 : FA.eval (.tmp 46) = u46 at f46
      have e46 : FA.tmps[46]?.getD undef = u46 := by rw [← eu46]; simp [Act.eval]
      have ev46 := Lib.hid eu46
      clear eu46
      have ev48 : FA.eval (.tmp 48) = .slice A n k := hD 23 48 (by kernel_rfl)
      have e48 : FA.tmps[48]?.getD undef = .slice A n k := by simpa [Act.eval] using ev48
      replace ev48 := Lib.hid ev48
      clear hO hD
      obtain ⟨A29, n29, c29, rfl, h29⟩ := f29
      obtain ⟨A33, n33, c33, rfl, h33⟩ := f33
      obtain ⟨A35, n35, c35, rfl, h35⟩ := f35
      obtain ⟨A40, n40, c40, rfl, h40⟩ := f40
      obtain ⟨A43, n43, c43, rfl, h43⟩ := f43
      obtain ⟨A46, n46, c46, rfl, h46⟩ := f46
      go_simp
      refine hK.out _ _ (Ex.alloc _ _) ⟨_, _, _, rfl, ?_⟩
      refine RdL.litW _ _ ?_ ?_
      · simp [size_plus]
      · exact .cons ⟨_, _, _, rfl, hr3.plus_ _ _⟩ (.cons ⟨_, _, _, rfl, h29⟩ (.cons ⟨_, _, _, rfl, h33⟩ (.cons ⟨_, _, _, rfl, h35⟩ (.cons ⟨_, _, _, rfl, h40⟩ (.cons ⟨_, _, _, rfl, h43.rb⟩ (.cons ⟨_, _, _, rfl, h46.rb⟩ (.cons ⟨_, _, _, rfl, hr4.plus_ _ _⟩ (.nil))))))))
    | 25, _, ho, hO, hD, hK => 
      obtain rfl := Option.some.inj ho.symm
      clear ho
      have f49 := hD 24 49 (by kernel_rfl)
      generalize eu49 : FA.eval (.tmp 49) = u49 at f49
      have e49 : FA.tmps[49]?.getD undef = u49 := by rw [← eu49]; simp [Act.eval]
      have ev49 := Lib.hid eu49
      clear eu49
      clear hO hD
      obtain ⟨A1, m1, c1, rfl, hl1⟩ := f49
      have hm1 : m1 ≤ 100 := by obtain ⟨_, _, h2, _⟩ := hl1; simp only [List.length_cons, List.length_nil] at h2; omega
      go_simp
      refine (refJoin_any A1 m1 c1 _ _ hl1 (by omega) HT.out).mono ?_
      rintro e w1 ⟨A2, n2, c2, bs2, d2, rfl, rfl, ho2⟩
      exact hK.out _ _ (Ex.plus_ _ _ _) ⟨_, _, _, rfl, ho2.mono (by simp [size_plus]; omega)⟩
    | (k + 26), hi, _, _, _, _ => exact absurd hi (by omega)
  intro vs x hp
  have p0 : vs 0 = .slice (some ⟨w.heap.size + 1, 0, none⟩) 2 2 := hp 0 (by omega)
  have p1 : vs 1 = .pointer (some ⟨w.heap.size, 1, none⟩) := hp 1 (by omega)
  have p2 : vs 2 = .int .i64 (ln : Int) := hp 2 (by omega)
  have p3 : vs 3 = .int .u64 (ln : Int) := hp 3 (by omega)
  have p4 := hp 4 (by omega)
  have p5 : vs 5 = .pointer (some ⟨w.heap.size, 2, none⟩) := hp 5 (by omega)
  have p6 : vs 6 = .int .u16 (id : Int) := hp 6 (by omega)
  have p7 : vs 7 = .int .u64 (id : Int) := hp 7 (by omega)
  have p8 := hp 8 (by omega)
  have p9 : vs 9 = .int .u64 (p : Int) := hp 9 (by omega)
  have p10 := hp 10 (by omega)
  have p11 : vs 11 = .pointer (some ⟨w.heap.size, 6, none⟩) := hp 11 (by omega)
  have p12 : vs 12 = .int .u8 (tl : Int) := hp 12 (by omega)
  have p13 : vs 13 = .pointer (some ⟨w.heap.size, 7, none⟩) := hp 13 (by omega)
  have p14 : vs 14 = .int .u8 (pr : Int) := hp 14 (by omega)
  have p15 := hp 15 (by omega)
  have p16 : vs 16 = .pointer (some ⟨w.heap.size, 9, none⟩) := hp 16 (by omega)
  have p17 : vs 17 = .agg #[.bool s6, .int .u64 (sh : Int), .int .u64 (sl : Int)] := hp 17 (by omega)
  have p18 := hp 18 (by omega)
  have p19 : vs 19 = .pointer (some ⟨w.heap.size, 12, none⟩) := hp 19 (by omega)
  have p20 : vs 20 = .agg #[.bool d6, .int .u64 (dh : Int), .int .u64 (dl : Int)] := hp 20 (by omega)
  have p21 := hp 21 (by omega)
  have p22 : vs 22 = .pointer (some ⟨w.heap.size, 15, none⟩) := hp 22 (by omega)
  have p23 : vs 23 = .slice A n k := hp 23 (by omega)
  have p24 := hp 24 (by omega)
  have p25 := hp 25 (by omega)
  clear hp
  simp only [List.take_succ_cons, List.take_zero, List.drop_succ_cons, List.drop_zero, putAll, Nat.zero_add, Nat.reduceAdd, Act.put, List.setIfInBounds_toArray, List.set_cons_zero, List.set_cons_succ, p0, p1, p2, p3, p5, p6, p7, p9, p11, p12, p13, p14, p16, p17, p19, p20, p22, p23]
  clear p0 p1 p2 p3 p5 p6 p7 p9 p11 p12 p13 p14 p16 p17 p19 p20 p22 p23
  generalize vs 4 = y4 at *
  generalize vs 8 = y8 at *
  generalize vs 10 = y10 at *
  generalize vs 15 = y15 at *
  generalize vs 18 = y18 at *
  generalize vs 21 = y21 at *
  generalize vs 24 = y24 at *
  generalize vs 25 = y25 at *
  clear vs
  obtain ⟨A9, n9, c9, rfl, h9⟩ := p25
  replace be := belowP be x.bs x.d
  have HF : Hid (ip4R x0 ts ln id p tl pr s6 sh sl d6 dh dl o = ([[UInt8.ofNat x0, UInt8.ofNat ts], (dig (ln) 2), (dig (id) 2), (dig (p) 2), [UInt8.ofNat (tl), UInt8.ofNat (pr), UInt8.ofNat (0), UInt8.ofNat (0)], (adrB s6 sh sl), (adrB d6 dh dl), o]).flatten) := Lib.hid rfl
  rw [← HF.out] at h9
  have h9' := h9.1
  generalize plus ((w.alloc (.cells #[.int .u8 (ts : Int), .int .i64 (ln : Int), .int .u16 (id : Int), .bool true, .bool true, .int .i64 (fo : Int), .int .u8 (tl : Int), .int .u8 (pr : Int), .int .u16 (sm : Int), .bool s6, .int .u64 (sh : Int), .int .u64 (sl : Int), .bool d6, .int .u64 (dh : Int), .int .u64 (dl : Int), .slice A n k] 184)).alloc (.cells #[.int .u8 (x0 : Int), .int .u8 (ts : Int)] 5)) x.bs x.d = W at *
  clear HF
  generalize hLL : ip4R x0 ts ln id p tl pr s6 sh sl d6 dh dl o = LL at *
  replace hLL := Lib.hid hLL
  have HS := Lib.hid (fun w (h : Rb w A9 n9 c9 LL) => refSumOf A9 n9 c9 LL w h (by omega))
  have hs1 : 65535 - fd (tot false LL) ≤ 65535 := Nat.sub_le _ _
  generalize hss : 65535 - fd (tot false LL) = s at *
  replace hss := Lib.hid hss
  have gs : IntKind.u64.wrap (s : Int) = (s : Int) := IntWalk.u64_in _ (by omega)
  have hn9 : 12 ≤ n9 := by omega
  have hn9' : n9 ≤ 1000 := by omega
  go_wp2_with fail
  refine (HS.out _ h9.rb).mono ?_
  rintro e w1 ⟨rfl, rfl⟩
  go_wp2_with fail
  refine (refBytes_any s 2 _ (by omega) (by decide)).mono ?_
  rintro e w1 ⟨A3, n3, c3, bs3, d3, rfl, rfl, ho3⟩
  obtain rfl : n3 = 2 := by rw [← ho3.1, dig_length]
  go_wp2_with fail
  refine (refSet _ _ _ LL 10 _ _ _ _ _ (h9.rb.plus_ _ _) ho3.rb (by omega) (by omega) (by omega)).mono ?_
  rintro e w1 ⟨A4, n4, c4, bs4, d4, rfl, rfl, ho4⟩
  go_wp2
  go_ret
  try rw [hLL.out]
  try rw [hss.out]
  refine RetB.mk (ho4.mono ?_) ?_
  · have := be.size; simp [size_plus]; omega
  · with_reducible repeat (first | exact be | refine belowP ?_ _ _)
theorem refIp4Bytes_yes (ts ln id : Nat) (st mo : Bool) (fo tl pr sm sl dl : Nat) (A : Option Addr) (n k : Nat) (o : List UInt8) (w : World) (hr : Rb w A n k o) (b1 : ts < 256) (b2 : id < 65536) (b3 : tl < 256) (b4 : pr < 256) (b5 : sl < 4294967296) (b6 : dl < 4294967296) (c1 : n ≤ 40) (c2 : n % 4 = 0) (c3 : 20 + n ≤ ln) (c4 : ln ≤ 65535) (c5 : fo ≤ 8191) : Calls Try.prog 133 #[.agg (h4C ts (ln : Int) id st mo (fo : Int) tl pr sm false 0 sl false 0 dl A n k).toArray] w (RetB w (ip4B ts ln id (pl4 st mo fo) tl pr (ip4K ts ln id (pl4 st mo fo) tl pr sl dl o) sl dl o)) := by
  cases st
  · cases mo
    · have t := refIp4Bytes_nn ts ln id fo tl pr sm false 0 sl false 0 dl A n k o w hr b1 b2 b3 b4 (by omega) (by omega) (by omega) (by omega) c1 c4 c5
      rw [ip4R_B _ _ _ _ _ _ _ _ _ (by rw [hr.1]; exact c1) b1 b3 b4, setB_ip4] at t
      exact t
    · have t := refIp4Bytes_ny ts ln id fo tl pr sm false 0 sl false 0 dl A n k o w hr b1 b2 b3 b4 (by omega) (by omega) (by omega) (by omega) c1 c4 c5
      rw [ip4R_B _ _ _ _ _ _ _ _ _ (by rw [hr.1]; exact c1) b1 b3 b4, setB_ip4] at t
      exact t
  · cases mo
    · have t := refIp4Bytes_yn ts ln id fo tl pr sm false 0 sl false 0 dl A n k o w hr b1 b2 b3 b4 (by omega) (by omega) (by omega) (by omega) c1 c4 c5
      rw [ip4R_B _ _ _ _ _ _ _ _ _ (by rw [hr.1]; exact c1) b1 b3 b4, setB_ip4] at t
      exact t
    · have t := refIp4Bytes_yy ts ln id fo tl pr sm false 0 sl false 0 dl A n k o w hr b1 b2 b3 b4 (by omega) (by omega) (by omega) (by omega) c1 c4 c5
      rw [ip4R_B _ _ _ _ _ _ _ _ _ (by rw [hr.1]; exact c1) b1 b3 b4, setB_ip4] at t
      exact t
end Go.Proofs.Ytfmkndemkpecpaa

/- Packets of IPv4: Packet. -/
namespace Go.Proofs.Ytfmkndemkpecpaa
open Go.RowKit
set_option linter.unusedVariables false
set_option linter.unusedSimpArgs false
attribute [local go_sem ↓] sliced_cut

attribute [local go_sem] cutA_zero

set_option maxHeartbeats 4000000 in
set_option maxRecDepth 100000 in
theorem packet4_ok (ts : Nat) (l0 : Int) (id : Nat) (st mo : Bool) (fo tl pr sm sl dl : Nat) (A : Option Addr) (n k : Nat) (o : List UInt8) (A2 : Option Addr) (m c2 : Nat) (load : List UInt8) (w : World) (hr : Rb w A n k o) (h2 : Rb w A2 m c2 load) (b1 : ts < 256) (b2 : id < 65536) (b3 : tl < 256) (b4 : pr < 256) (b5 : sl < 4294967296) (b6 : dl < 4294967296) (d1 : n ≤ 40) (d2 : n % 4 = 0) (c4 : 20 + n + m ≤ 65535) (c5 : fo ≤ 8191) : Calls Try.prog 48 #[.agg (h4C ts l0 id st mo (fo : Int) tl pr sm false 0 sl false 0 dl A n k).toArray, .slice A2 m c2] w (RetBE w (ip4B ts (20 + n + m) id (pl4 st mo fo) tl pr (ip4K ts (20 + n + m) id (pl4 st mo fo) tl pr sl dl o) sl dl o ++ load) 0) := by
  obtain ⟨du, u1, u2⟩ := rowH4
  obtain ⟨z, hz0⟩ : ∃ z : Nat, z = 20 + n := ⟨_, rfl⟩
  have HS := Lib.hid (fun w => size4 ts l0 id st mo (fo : Int) tl pr sm false 0 sl false 0 dl A n k w (by omega))
  rw [← hz0] at HS
  obtain ⟨L, hL⟩ : ∃ L : Nat, L = z + m := ⟨_, rfl⟩
  have a1 : IntKind.i64.wrap ((z : Int) + (m : Int)) = (L : Int) := by rw [IntWalk.i64_in _ (by omega)]; omega
  have a2 : IntKind.i64.wrap (20 + (n : Int)) = (z : Int) := by rw [IntWalk.i64_in _ (by omega)]; omega
  have a3 : decide (65535 < (L : Int)) = false := by simp only [decide_eq_false_iff_not]; omega
  have a4 : decide (65535 < L) = false := by simp only [decide_eq_false_iff_not]; omega
  have hb : Bk (w.alloc (.cells (h4C ts l0 id st mo (fo : Int) tl pr sm false 0 sl false 0 dl A n k).toArray 140)) w.heap.size 140 (h4C ts l0 id st mo (fo : Int) tl pr sm false 0 sl false 0 dl A n k) := Bk.new w 140 (h4C ts l0 id st mo (fo : Int) tl pr sm false 0 sl false 0 dl A n k).toArray
  have be : Below w.heap.size w (w.alloc (.cells (h4C ts l0 id st mo (fo : Int) tl pr sm false 0 sl false 0 dl A n k).toArray 140)) := Below.allocS (Below.refl _ _) _
  have HR := Lib.hid (fun w => right4 ts (L : Int) id st mo (fo : Int) tl pr sm false 0 sl false 0 dl A n k w (by omega) (by omega) (by omega) (by omega) (by omega) (by omega) (by omega))
  rw [r4_yes n L fo sl dl d1 d2 (by omega) (by omega) c5 b5 b6] at HR
  have HB := Lib.hid (fun w (hr : Rb w A n k o) => ip4Bytes_yes ts L id st mo fo tl pr sm sl dl A n k o w hr b1 b2 b3 b4 b5 b6 d1 d2 (by omega) (by omega) c5)
  have hlen := ip4B_length ts L id (pl4 st mo fo) tl pr (ip4K ts L id (pl4 st mo fo) tl pr sl dl o) sl dl o
  rw [hr.1] at hlen
  rw [show 20 + n + m = L from by omega]
  generalize ip4B ts L id (pl4 st mo fo) tl pr (ip4K ts L id (pl4 st mo fo) tl pr sl dl o) sl dl o = B at *
  clear hz0 hL
  go_enter Try.func48, Try.ntmps48
  go_upto_region 1 with (fail)
  generalize w.alloc (.cells (h4C ts l0 id st mo (fo : Int) tl pr sm false 0 sl false 0 dl A n k).toArray 140) = W at *
  have y15 : W.cell? ⟨w.heap.size, 15, none⟩ = some (.slice A n k) := hb.cell 15
  have y1 : W.cell? ⟨w.heap.size, 1, none⟩ = some (.int .i64 l0) := hb.cell 1
  have fr := hb.frozen 1
  have zb := hb.lt
  go_wp2_with (refine at_op (.load 140 (.tmp 2)) rfl ?_; refine wpList_ldA (t := 140) 140 (.tmp 2) rfl rfl (h4C ts l0 id st mo (fo : Int) tl pr sm false 0 sl false 0 dl A n k) rfl (by with_reducible repeat (first | exact hb | refine Bk.later ?_ (below_plus _ _ _) | refine Bk.alloc ?_ _)) (whole_ _) u1 u2 (szH4 _ _ _ _ _ _ _ _ _ _ _ _ _ _ _ _ _ _) ?_)
  refine (HS.out _).mono ?_
  rintro e w1 ⟨bs0, m0, rfl, rfl⟩
  replace hb := hb.later (below_plus _ bs0 m0)
  replace be := belowP be bs0 m0
  clear y15 y1 fr zb
  generalize plus W bs0 m0 = V at *
  have y1 : V.cell? ⟨w.heap.size, 1, none⟩ = some (.int .i64 l0) := hb.cell 1
  have fr := hb.frozen 1
  have zb := hb.lt
  go_upto_region 2 with (fail)
  replace hb : Bk (V.setCell ⟨w.heap.size, 1, none⟩ (.int .i64 (L : Int))) w.heap.size 140 (h4C ts (L : Int) id st mo (fo : Int) tl pr sm false 0 sl false 0 dl A n k) := hb.set_ 1 _
  replace be := be.setCell (p := ⟨w.heap.size, 1, none⟩) (Nat.le_refl _) (.int .i64 (L : Int))
  clear y1 fr zb 
  generalize V.setCell ⟨w.heap.size, 1, none⟩ (.int .i64 (L : Int)) = W2 at *
  have y1 : W2.cell? ⟨w.heap.size, 1, none⟩ = some (.int .i64 (L : Int)) := hb.cell 1
  have zb := hb.lt
  go_wp2_with (refine at_op (.load 140 (.tmp 2)) rfl ?_; refine wpList_ldA (t := 140) 140 (.tmp 2) rfl rfl (h4C ts (L : Int) id st mo (fo : Int) tl pr sm false 0 sl false 0 dl A n k) rfl (by with_reducible repeat (first | exact hb | refine Bk.later ?_ (below_plus _ _ _) | refine Bk.alloc ?_ _)) (whole_ _) u1 u2 (szH4 _ _ _ _ _ _ _ _ _ _ _ _ _ _ _ _ _ _) ?_)
  refine (HR.out _).mono ?_
  rintro e w1 ⟨bs1, m1, rfl, rfl⟩
  go_wp2_with (refine at_op (.load 140 (.tmp 2)) rfl ?_; refine wpList_ldA (t := 140) 140 (.tmp 2) rfl rfl (h4C ts (L : Int) id st mo (fo : Int) tl pr sm false 0 sl false 0 dl A n k) rfl (by with_reducible repeat (first | exact hb | refine Bk.later ?_ (below_plus _ _ _) | refine Bk.alloc ?_ _)) (whole_ _) u1 u2 (szH4 _ _ _ _ _ _ _ _ _ _ _ _ _ _ _ _ _ _) ?_)
  refine (HB.out _ (hr.later (by with_reducible repeat (first | exact be | refine belowP ?_ _ _)))).mono ?_
  rintro e w1 ⟨A3, n3, c3, bs2, m2, rfl, rfl, ho3⟩
  have l3 : n3 ≤ 100 := by rw [← ho3.1]; omega
  go_wp2_with (at_builtin; refine wpList_appP (l2 := load) _ bt rfl (.tmp 19) (.tmp 20) rfl (by exact below_plus _ bs2 m2) rfl ho3 rfl (h2.later (by with_reducible repeat (first | exact be | refine belowP ?_ _ _))) (by omega) ?_; intro A4 n4 k4 bs4 m4 ho4 hg4)
  go_ret2
  exact RetBE.mk ho4.rb (by with_reducible repeat (first | exact be | refine belowP ?_ _ _))
set_option maxHeartbeats 4000000 in
set_option maxRecDepth 100000 in
theorem refPacket4_ok (ts : Nat) (l0 : Int) (id : Nat) (st mo : Bool) (fo tl pr sm sl dl : Nat) (A : Option Addr) (n k : Nat) (o : List UInt8) (A2 : Option Addr) (m c2 : Nat) (load : List UInt8) (w : World) (hr : Rb w A n k o) (h2 : Rb w A2 m c2 load) (b1 : ts < 256) (b2 : id < 65536) (b3 : tl < 256) (b4 : pr < 256) (b5 : sl < 4294967296) (b6 : dl < 4294967296) (d1 : n ≤ 40) (d2 : n % 4 = 0) (c4 : 20 + n + m ≤ 65535) (c5 : fo ≤ 8191) : Calls Try.prog 79 #[.agg (h4C ts l0 id st mo (fo : Int) tl pr sm false 0 sl false 0 dl A n k).toArray, .slice A2 m c2] w (RetBE w (ip4B ts (20 + n + m) id (pl4 st mo fo) tl pr (ip4K ts (20 + n + m) id (pl4 st mo fo) tl pr sl dl o) sl dl o ++ load) 0) := by
  obtain ⟨du, u1, u2⟩ := rowR4
  obtain ⟨z, hz0⟩ : ∃ z : Nat, z = 20 + n := ⟨_, rfl⟩
  obtain ⟨L, hL⟩ : ∃ L : Nat, L = z + m := ⟨_, rfl⟩
  have a1 : IntKind.i64.wrap ((z : Int) + (m : Int)) = (L : Int) := by rw [IntWalk.i64_in _ (by omega)]; omega
  have a2 : IntKind.i64.wrap (20 + (n : Int)) = (z : Int) := by rw [IntWalk.i64_in _ (by omega)]; omega
  have a3 : decide (65535 < (L : Int)) = false := by simp only [decide_eq_false_iff_not]; omega
  have a4 : decide (65535 < L) = false := by simp only [decide_eq_false_iff_not]; omega
  have hb : Bk (w.alloc (.cells (h4C ts l0 id st mo (fo : Int) tl pr sm false 0 sl false 0 dl A n k).toArray 184)) w.heap.size 184 (h4C ts l0 id st mo (fo : Int) tl pr sm false 0 sl false 0 dl A n k) := Bk.new w 184 (h4C ts l0 id st mo (fo : Int) tl pr sm false 0 sl false 0 dl A n k).toArray
  have be : Below w.heap.size w (w.alloc (.cells (h4C ts l0 id st mo (fo : Int) tl pr sm false 0 sl false 0 dl A n k).toArray 184)) := Below.allocS (Below.refl _ _) _
  have HR := Lib.hid (fun w => refRight4 ts (L : Int) id st mo (fo : Int) tl pr sm false 0 sl false 0 dl A n k w (by omega) (by omega) (by omega) (by omega) (by omega) (by omega) (by omega))
  rw [r4_yes n L fo sl dl d1 d2 (by omega) (by omega) c5 b5 b6] at HR
  have HB := Lib.hid (fun w (hr : Rb w A n k o) => refIp4Bytes_yes ts L id st mo fo tl pr sm sl dl A n k o w hr b1 b2 b3 b4 b5 b6 d1 d2 (by omega) (by omega) c5)
  have hlen := ip4B_length ts L id (pl4 st mo fo) tl pr (ip4K ts L id (pl4 st mo fo) tl pr sl dl o) sl dl o
  rw [hr.1] at hlen
  rw [show 20 + n + m = L from by omega]
  generalize ip4B ts L id (pl4 st mo fo) tl pr (ip4K ts L id (pl4 st mo fo) tl pr sl dl o) sl dl o = B at *
  clear hz0 hL
  go_enter Try.func79, Try.ntmps79
  go_upto_region 1 with (fail)
  generalize w.alloc (.cells (h4C ts l0 id st mo (fo : Int) tl pr sm false 0 sl false 0 dl A n k).toArray 184) = W at *
  have y15 : W.cell? ⟨w.heap.size, 15, none⟩ = some (.slice A n k) := hb.cell 15
  have y1 : W.cell? ⟨w.heap.size, 1, none⟩ = some (.int .i64 l0) := hb.cell 1
  have fr := hb.frozen 1
  have zb := hb.lt
  have hV : W = W := rfl
  go_upto_region 2 with (fail)
  replace hb : Bk (W.setCell ⟨w.heap.size, 1, none⟩ (.int .i64 (L : Int))) w.heap.size 184 (h4C ts (L : Int) id st mo (fo : Int) tl pr sm false 0 sl false 0 dl A n k) := hb.set_ 1 _
  replace be := be.setCell (p := ⟨w.heap.size, 1, none⟩) (Nat.le_refl _) (.int .i64 (L : Int))
  clear y1 fr zb y15 hV
  generalize W.setCell ⟨w.heap.size, 1, none⟩ (.int .i64 (L : Int)) = W2 at *
  have y1 : W2.cell? ⟨w.heap.size, 1, none⟩ = some (.int .i64 (L : Int)) := hb.cell 1
  have zb := hb.lt
  go_wp2_with (refine at_op (.load 184 (.tmp 2)) rfl ?_; refine wpList_ldA (t := 184) 184 (.tmp 2) rfl rfl (h4C ts (L : Int) id st mo (fo : Int) tl pr sm false 0 sl false 0 dl A n k) rfl (by with_reducible repeat (first | exact hb | refine Bk.later ?_ (below_plus _ _ _) | refine Bk.alloc ?_ _)) (whole_ _) u1 u2 (szR4 _ _ _ _ _ _ _ _ _ _ _ _ _ _ _ _ _ _) ?_)
  refine (HR.out _).mono ?_
  rintro e w1 ⟨bs1, m1, rfl, rfl⟩
  go_wp2_with (refine at_op (.load 184 (.tmp 2)) rfl ?_; refine wpList_ldA (t := 184) 184 (.tmp 2) rfl rfl (h4C ts (L : Int) id st mo (fo : Int) tl pr sm false 0 sl false 0 dl A n k) rfl (by with_reducible repeat (first | exact hb | refine Bk.later ?_ (below_plus _ _ _) | refine Bk.alloc ?_ _)) (whole_ _) u1 u2 (szR4 _ _ _ _ _ _ _ _ _ _ _ _ _ _ _ _ _ _) ?_)
  refine (HB.out _ (hr.later (by with_reducible repeat (first | exact be | refine belowP ?_ _ _)))).mono ?_
  rintro e w1 ⟨A3, n3, c3, bs2, m2, rfl, rfl, ho3⟩
  have l3 : n3 ≤ 100 := by rw [← ho3.1]; omega
  go_wp2_with (at_builtin; refine wpList_appP (l2 := load) _ bt rfl (.tmp 21) (.tmp 22) rfl (by exact below_plus _ bs2 m2) rfl ho3 rfl (h2.later (by with_reducible repeat (first | exact be | refine belowP ?_ _ _))) (by omega) ?_; intro A4 n4 k4 bs4 m4 ho4 hg4)
  go_ret2
  exact RetBE.mk ho4.rb (by with_reducible repeat (first | exact be | refine belowP ?_ _ _))
end Go.Proofs.Ytfmkndemkpecpaa

/- WithTCP, on both sides (chapter 28). -/
namespace Go.Proofs.Ytfmkndemkpecpaa
open Go.RowKit
set_option linter.unusedVariables false
set_option linter.unusedSimpArgs false
attribute [local go_sem ↓] sliced_cut

attribute [local go_sem] cutA_zero

theorem rowSegR : ∃ d, Try.prog.underlying 56 = some d ∧ d.isRow = true := ⟨_, Try.underlying56, rfl⟩
/-- the bytes of a segment -/
def sgB (x0 x1 x2 x3 x4 x5 x6 x7 : Nat) (o1 o2 : List UInt8) : List UInt8 := tcpB x0 x1 x2 x3 (80 + o1.length / 4 * 16) x4 x5 x6 x7 o1 o2
theorem tcpB_len (a b c d e f g i j : Nat) (l1 l2 : List UInt8) : (tcpB a b c d e f g i j l1 l2).length = 20 + l1.length + l2.length := by simp [tcpB, dig_length]; omega
def okL (E : Int) (l : List UInt8) : List UInt8 := if E = 0 then l else []
def okE (E : Int) : Int := if E = 0 then 0 else 21
theorem okL_yes {E : Int} {l : List UInt8} (h : E = 0) : okL E l = l := if_pos h
theorem okL_no {E : Int} {l : List UInt8} (h : ¬ E = 0) : okL E l = [] := if_neg h
theorem okE_yes {E : Int} (h : E = 0) : okE E = 0 := if_pos h
theorem okE_no {E : Int} (h : ¬ E = 0) : okE E = 21 := if_neg h
def MP.rbe (l : List UInt8) (E : Int) : MP := ⟨fun v w => ∃ A n c, v = .tuple #[.slice A n c, .int .i64 E] ∧ Rb w A n c l, fun _ _ _ ⟨A, n, c, h1, h2⟩ h => ⟨A, n, c, h1, h2.later h.below⟩⟩
set_option maxHeartbeats 4000000 in
set_option maxRecDepth 100000 in
theorem pw_arg (A : Option Addr) (n c : Nat) (w : World) (x0 x1 x2 x3 x4 x5 x6 x7 : Nat) (B1 : Option Addr) (n1 c1 : Nat) (B2 : Option Addr) (n2 c2 : Nat) (o1 o2 : List UInt8) (hno : 40 < n1 ∨ n1 % 4 ≠ 0) (hnm : n1 ≤ 1000000) : Calls Try.prog 25 #[.slice A n c, .agg (tcC x0 x1 x2 x3 x4 x5 x6 x7 B1 n1 c1 B2 n2 c2).toArray] w (RetBE w [] 1) := by
  have HR := Lib.hid (fun w => (tcpRight_no x0 x1 x2 x3 x4 x5 x6 x7 B1 n1 c1 B2 n2 c2 w hno hnm : Calls Try.prog 67 #[.agg (tcC x0 x1 x2 x3 x4 x5 x6 x7 B1 n1 c1 B2 n2 c2).toArray] w (RetV w (.bool false))))
  obtain ⟨ds1, s1, s2⟩ := rowSeg
  have hS : Bk (w.alloc (.cells (tcC x0 x1 x2 x3 x4 x5 x6 x7 B1 n1 c1 B2 n2 c2).toArray 47)) w.heap.size 47 (tcC x0 x1 x2 x3 x4 x5 x6 x7 B1 n1 c1 B2 n2 c2) := Bk.new w 47 (tcC x0 x1 x2 x3 x4 x5 x6 x7 B1 n1 c1 B2 n2 c2).toArray
  have be : Below w.heap.size w (w.alloc (.cells (tcC x0 x1 x2 x3 x4 x5 x6 x7 B1 n1 c1 B2 n2 c2).toArray 47)) := Below.allocS (Below.refl _ _) _
  have zV : w.heap.size + 1 ≤ (w.alloc (.cells (tcC x0 x1 x2 x3 x4 x5 x6 x7 B1 n1 c1 B2 n2 c2).toArray 47)).heap.size := by simp
  go_enter Try.func25, Try.ntmps25
  go_upto_region 1 with (fail)
  generalize w.alloc (.cells (tcC x0 x1 x2 x3 x4 x5 x6 x7 B1 n1 c1 B2 n2 c2).toArray 47) = V at *
  refine wp_region_lit ?_
  refine wpList_ldA (t := 47) 47 (.tmp 3) rfl rfl (tcC x0 x1 x2 x3 x4 x5 x6 x7 B1 n1 c1 B2 n2 c2) rfl (hS) (whole_ _) s1 s2 (szSeg _ rfl) ?_
  simp only [Act.put, List.setIfInBounds_toArray, List.set_cons_zero, List.set_cons_succ]
  refine wpList_plain rfl (fun K hK => ?_)
  go_simp
  refine (HR.out _).mono ?_
  rintro e w1 ⟨bs0, d0, rfl, rfl⟩
  with_reducible refine hK _ _ ?_
  clear hK K
  replace hS := hS.later (below_plus V bs0 d0)
  replace be := belowP be bs0 d0
  generalize plus V bs0 d0 = V1 at *
  refine wpList_plain rfl (fun K hK => ?_)
  go_simp
  with_reducible refine hK _ _ ?_
  clear hK K
  go_wp2
  go_ret2
  exact RetBE.mk Rb.nil_ be
set_option maxHeartbeats 4000000 in
set_option maxRecDepth 100000 in
theorem pw_six (A : Option Addr) (n c : Nat) (w : World) (x0 x1 x2 x3 x4 x5 x6 x7 : Nat) (B1 : Option Addr) (n1 c1 : Nat) (B2 : Option Addr) (n2 c2 : Nat) (o1 o2 : List UInt8) (b0 : x0 < 65536) (b1 : x1 < 65536) (b2 : x2 < 4294967296) (b3 : x3 < 4294967296) (b4 : x4 < 256) (b5 : x5 < 65536) (b6 : x6 < 65536) (b7 : x7 < 65536) (hn1 : n1 ≤ 40) (h4 : n1 % 4 = 0) (hn2 : n2 ≤ 2000) (r1 : Rb w B1 n1 c1 o1) (r2 : Rb w B2 n2 c2 o2) (B : Bool) (E : Int) (hE : (E != 0) = true) (HS : ∀ w', Below w.heap.size w w' → Calls Try.prog 68 #[.slice A n c] w' fun e w2 => e = .returned (.tuple #[.bool B, .int .i64 E]) ∧ w' = w2) : Calls Try.prog 25 #[.slice A n c, .agg (tcC x0 x1 x2 x3 x4 x5 x6 x7 B1 n1 c1 B2 n2 c2).toArray] w (RetBE w [] 21) := by
  have hE2 : (E == 0) = false := by rw [beq_eq_false_iff_ne]; exact bne_iff_ne.1 hE
  replace HS := Lib.hid HS
  have HR := Lib.hid (fun w => (tcpRight_yes x0 x1 x2 x3 x4 x5 x6 x7 B1 n1 c1 B2 n2 c2 w hn1 h4 hn2 : Calls Try.prog 67 #[.agg (tcC x0 x1 x2 x3 x4 x5 x6 x7 B1 n1 c1 B2 n2 c2).toArray] w (RetV w (.bool true))))
  obtain ⟨ds1, s1, s2⟩ := rowSeg
  have hS : Bk (w.alloc (.cells (tcC x0 x1 x2 x3 x4 x5 x6 x7 B1 n1 c1 B2 n2 c2).toArray 47)) w.heap.size 47 (tcC x0 x1 x2 x3 x4 x5 x6 x7 B1 n1 c1 B2 n2 c2) := Bk.new w 47 (tcC x0 x1 x2 x3 x4 x5 x6 x7 B1 n1 c1 B2 n2 c2).toArray
  have be : Below w.heap.size w (w.alloc (.cells (tcC x0 x1 x2 x3 x4 x5 x6 x7 B1 n1 c1 B2 n2 c2).toArray 47)) := Below.allocS (Below.refl _ _) _
  have zV : w.heap.size + 1 ≤ (w.alloc (.cells (tcC x0 x1 x2 x3 x4 x5 x6 x7 B1 n1 c1 B2 n2 c2).toArray 47)).heap.size := by simp
  go_enter Try.func25, Try.ntmps25
  go_upto_region 1 with (fail)
  generalize w.alloc (.cells (tcC x0 x1 x2 x3 x4 x5 x6 x7 B1 n1 c1 B2 n2 c2).toArray 47) = V at *
  refine wp_region_lit ?_
  refine wpList_ldA (t := 47) 47 (.tmp 3) rfl rfl (tcC x0 x1 x2 x3 x4 x5 x6 x7 B1 n1 c1 B2 n2 c2) rfl (hS) (whole_ _) s1 s2 (szSeg _ rfl) ?_
  simp only [Act.put, List.setIfInBounds_toArray, List.set_cons_zero, List.set_cons_succ]
  refine wpList_plain rfl (fun K hK => ?_)
  go_simp
  refine (HR.out _).mono ?_
  rintro e w1 ⟨bs0, d0, rfl, rfl⟩
  with_reducible refine hK _ _ ?_
  clear hK K
  replace hS := hS.later (below_plus V bs0 d0)
  replace be := belowP be bs0 d0
  generalize plus V bs0 d0 = V1 at *
  refine wpList_plain rfl (fun K hK => ?_)
  go_simp
  with_reducible refine hK _ _ ?_
  clear hK K
  go_upto_region 3 with (fail)
  go_wp2_with fail
  refine (HS.out _ be).mono ?_
  rintro e w1 ⟨rfl, rfl⟩
  go_wp2
  go_ret2
  exact RetBE.mk Rb.nil_ be
set_option maxHeartbeats 4000000 in
set_option maxRecDepth 100000 in
theorem pw_6 (A : Option Addr) (n c : Nat) (w : World) (x0 x1 x2 x3 x4 x5 x6 x7 : Nat) (B1 : Option Addr) (n1 c1 : Nat) (B2 : Option Addr) (n2 c2 : Nat) (o1 o2 : List UInt8) (b0 : x0 < 65536) (b1 : x1 < 65536) (b2 : x2 < 4294967296) (b3 : x3 < 4294967296) (b4 : x4 < 256) (b5 : x5 < 65536) (b6 : x6 < 65536) (b7 : x7 < 65536) (hn1 : n1 ≤ 40) (h4 : n1 % 4 = 0) (hn2 : n2 ≤ 2000) (r1 : Rb w B1 n1 c1 o1) (r2 : Rb w B2 n2 c2 o2) (cl lb ln nx ht : Nat) (s6 : Bool) (sh sl dh dl : Nat) (load : List UInt8) (E1 : Int) (g : E1 = 0 → s6 = true ∧ cl < 256 ∧ lb < 1048576 ∧ nx < 256 ∧ ht < 256 ∧ sh < 18446744073709551616 ∧ sl < 18446744073709551616 ∧ dh < 18446744073709551616 ∧ dl < 18446744073709551616) (HS : ∀ w', Below w.heap.size w w' → Calls Try.prog 68 #[.slice A n c] w' fun e w2 => e = .returned (.tuple #[.bool true, .int .i64 0]) ∧ w' = w2) (HP : ∀ w', Below w.heap.size w w' → Calls Try.prog 69 #[.slice A n c] w' (RetP6 w' cl lb ln nx ht s6 sh sl dh dl load E1)) : Calls Try.prog 25 #[.slice A n c, .agg (tcC x0 x1 x2 x3 x4 x5 x6 x7 B1 n1 c1 B2 n2 c2).toArray] w (RetBE w (okL E1 (ip6B cl lb (sgB x0 x1 x2 x3 x4 x5 x6 x7 o1 o2).length nx ht sh sl dh dl ++ (sgB x0 x1 x2 x3 x4 x5 x6 x7 o1 o2))) (okE E1)) := by
  have HR := Lib.hid (fun w => (tcpRight_yes x0 x1 x2 x3 x4 x5 x6 x7 B1 n1 c1 B2 n2 c2 w hn1 h4 hn2 : Calls Try.prog 67 #[.agg (tcC x0 x1 x2 x3 x4 x5 x6 x7 B1 n1 c1 B2 n2 c2).toArray] w (RetV w (.bool true))))
  have HBy := Lib.hid (fun w (r1 : Rb w B1 n1 c1 o1) (r2 : Rb w B2 n2 c2 o2) => (tcpBytes_yes x0 x1 x2 x3 x4 x5 x6 x7 B1 n1 c1 B2 n2 c2 o1 o2 w b0 b1 b2 b3 b4 b5 b6 b7 r1 r2 hn1 h4 hn2 : Calls Try.prog 71 #[.agg (tcC x0 x1 x2 x3 x4 x5 x6 x7 B1 n1 c1 B2 n2 c2).toArray] w (RetB w (tcpB x0 x1 x2 x3 (80 + n1 / 4 * 16) x4 x5 x6 x7 o1 o2))))
  obtain ⟨dp_, p1, p2⟩ := rowH6
  replace HS := Lib.hid HS
  replace HP := Lib.hid HP
  have hsg : (sgB x0 x1 x2 x3 x4 x5 x6 x7 o1 o2) = tcpB x0 x1 x2 x3 (80 + n1 / 4 * 16) x4 x5 x6 x7 o1 o2 := by unfold sgB; rw [r1.1]
  have hsl : (sgB x0 x1 x2 x3 x4 x5 x6 x7 o1 o2).length ≤ 2060 := by rw [hsg, tcpB_len, r1.1, r2.1]; omega
  rw [← hsg] at HBy
  generalize (sgB x0 x1 x2 x3 x4 x5 x6 x7 o1 o2) = sg at *
  clear hsg
  obtain ⟨ds1, s1, s2⟩ := rowSeg
  have hS : Bk (w.alloc (.cells (tcC x0 x1 x2 x3 x4 x5 x6 x7 B1 n1 c1 B2 n2 c2).toArray 47)) w.heap.size 47 (tcC x0 x1 x2 x3 x4 x5 x6 x7 B1 n1 c1 B2 n2 c2) := Bk.new w 47 (tcC x0 x1 x2 x3 x4 x5 x6 x7 B1 n1 c1 B2 n2 c2).toArray
  have be : Below w.heap.size w (w.alloc (.cells (tcC x0 x1 x2 x3 x4 x5 x6 x7 B1 n1 c1 B2 n2 c2).toArray 47)) := Below.allocS (Below.refl _ _) _
  have zV : w.heap.size + 1 ≤ (w.alloc (.cells (tcC x0 x1 x2 x3 x4 x5 x6 x7 B1 n1 c1 B2 n2 c2).toArray 47)).heap.size := by simp
  go_enter Try.func25, Try.ntmps25
  go_upto_region 1 with (fail)
  generalize w.alloc (.cells (tcC x0 x1 x2 x3 x4 x5 x6 x7 B1 n1 c1 B2 n2 c2).toArray 47) = V at *
  refine wp_region_lit ?_
  refine wpList_ldA (t := 47) 47 (.tmp 3) rfl rfl (tcC x0 x1 x2 x3 x4 x5 x6 x7 B1 n1 c1 B2 n2 c2) rfl (hS) (whole_ _) s1 s2 (szSeg _ rfl) ?_
  simp only [Act.put, List.setIfInBounds_toArray, List.set_cons_zero, List.set_cons_succ]
  refine wpList_plain rfl (fun K hK => ?_)
  go_simp
  refine (HR.out _).mono ?_
  rintro e w1 ⟨bs0, d0, rfl, rfl⟩
  with_reducible refine hK _ _ ?_
  clear hK K
  replace hS := hS.later (below_plus V bs0 d0)
  replace be := belowP be bs0 d0
  generalize plus V bs0 d0 = V1 at *
  refine wpList_plain rfl (fun K hK => ?_)
  go_simp
  with_reducible refine hK _ _ ?_
  clear hK K
  go_upto_region 3 with (fail)
  go_wp2_with fail
  refine (HS.out _ be).mono ?_
  rintro e w1 ⟨rfl, rfl⟩
  go_upto_region 7 with (fail)
  go_wp2_with fail
  refine (HP.out _ be).mono ?_
  rintro e w1 ⟨A1, m1, k1, bs1, d1, rfl, rfl, -, -⟩
  go_upto_region 8 with (refine at_op (.store 171 (.tmp 8) (.tmp 27)) rfl ?_; refine wpList_stA (t := 171) 171 (.tmp 8) (.tmp 27) rfl rfl (h6C cl lb (ln : Int) nx ht s6 sh sl s6 dh dl) (h6C 0 0 0 0 0 false 0 0 false 0 0) rfl (h6C_one _ _ _ _ _ _ _ _ _ _ _) rfl rfl ?_ (szH6 _ _ _ _ _ _ _ _ _ _ _) ?_; (· refine Bk.newK _ _ _ ?_ rfl; simp [size_plus]); intro W8 hH gr8)
  have b8 := below_grown (Below.allocS (below_plus V1 bs1 d1) _) gr8 (by simp [size_plus])
  have b9 := below_grown (Below.allocS (Below.refl _ _) _) gr8 (by simp [size_plus])
  replace be := be.trans (b8.mono be.size)
  replace hS := hS.later b8
  clear b8 b9 gr8
  generalize V1.heap.size + bs1.length = gh at *
  by_cases hE : E1 = 0
  case neg =>
    have hE1 : (E1 != 0) = true := by rw [bne_iff_ne]; exact hE
    have hE2 : (E1 == 0) = false := by rw [beq_eq_false_iff_ne]; exact hE
    have hEh := Lib.hid hE
    clear g hE
    go_wp2
    go_ret2
    rw [okL_no hEh.out, okE_no hEh.out]
    exact RetBE.mk Rb.nil_ be
  subst hE
  obtain ⟨rfl, g1, g2, g3, g4, k1, k2, k3, k4⟩ := g rfl
  have HPK := Lib.hid (fun w A5 n5 c5 (h5 : Rb w A5 n5 c5 sg) => (by have e5 := h5.1; subst e5; exact ip6Packet_yes cl lb (ln : Int) nx ht sh sl dh dl A5 _ c5 sg w g1 g2 (by omega) g3 g4 k1 k2 k3 k4 h5 : Calls Try.prog 70 #[.agg (h6C cl lb (ln : Int) nx ht true sh sl true dh dl).toArray, .slice A5 n5 c5] w (RetBE w (ip6B cl lb sg.length nx ht sh sl dh dl ++ sg) 0)))
  generalize (ip6B cl lb sg.length nx ht sh sl dh dl ++ sg) = Lq at *
  go_upto_region 10 with (fail)
  go_wp2
  refine wp_relS 8 52 rfl (by kernel_rfl) (by kernel_rfl) ?_
  apply Steps.one (MP.eq _) 1 rfl
  · intro o ho FA x hO hD K hK
    obtain rfl := Option.some.inj ho.symm
    clear ho
    have e8 := hO 8 (by kernel_rfl)
    simp only [eval_tmp, List.getElem?_toArray, List.getElem?_cons_succ, List.getElem?_cons_zero, Option.getD_some] at e8
    have ev8 := Lib.hid ((eval_tmp FA 8).trans e8)
    clear hO hD
    refine wanted_if rfl ?_
    refine wp_ldA 171 (.tmp 8) rfl (h6C cl lb (ln : Int) nx ht true sh sl true dh dl) ev8.out (hH.later (below_plus _ _ _)) (whole_ _) p1 p2 (szH6 _ _ _ _ _ _ _ _ _ _ _) ?_
    exact hK.out _ _ (Ex.refl _) rfl
  apply Steps.one (MP.eq _) 2 rfl
  · intro o ho FA x hO hD K hK
    obtain rfl := Option.some.inj ho.symm
    clear ho
    have e3 := hO 3 (by kernel_rfl)
    simp only [eval_tmp, List.getElem?_toArray, List.getElem?_cons_succ, List.getElem?_cons_zero, Option.getD_some] at e3
    have ev3 := Lib.hid ((eval_tmp FA 3).trans e3)
    clear hO hD
    refine wanted_if rfl ?_
    refine wp_ldA 47 (.tmp 3) rfl (tcC x0 x1 x2 x3 x4 x5 x6 x7 B1 n1 c1 B2 n2 c2) ev3.out (hS.later (below_plus _ _ _)) (whole_ _) s1 s2 (szSeg _ rfl) ?_
    exact hK.out _ _ (Ex.refl _) rfl
  apply Steps.one (MP.rb sg) 3 rfl
  · intro o ho FA x hO hD K hK
    obtain rfl := Option.some.inj ho.symm
    clear ho
    have ev33 : FA.eval (.tmp 33) = _ := hD 1 33 (by kernel_rfl)
    have e33 := (eval_tmp FA 33).symm.trans ev33
    replace ev33 := Lib.hid ev33
    clear hO hD
    go_simp
    refine (HBy.out _ ((r1.later be).plus_ _ _) ((r2.later be).plus_ _ _)).mono ?_
    rintro e w1 ⟨A5, n5, c5, bs2, d2, rfl, rfl, ho⟩
    exact hK.out _ _ (Ex.plus_ _ _ _) ⟨_, _, _, rfl, ho.rb⟩
  apply Steps.one (MP.rbe Lq 0) 4 rfl
  · intro o ho FA x hO hD K hK
    obtain rfl := Option.some.inj ho.symm
    clear ho
    have ev32 : FA.eval (.tmp 32) = _ := hD 0 32 (by kernel_rfl)
    have e32 := (eval_tmp FA 32).symm.trans ev32
    replace ev32 := Lib.hid ev32
    have f34 := hD 2 34 (by kernel_rfl)
    generalize eu34 : FA.eval (.tmp 34) = u34 at f34
    have e34 := (eval_tmp FA 34).symm.trans eu34
    have ev34 := Lib.hid eu34
    clear eu34
    clear hO hD
    obtain ⟨A5, n5, c5, rfl, h5⟩ := f34
    go_simp
    refine (HPK.out _ _ _ _ h5).mono ?_
    rintro e w1 ⟨A6, n6, c6, bs2, d2, rfl, rfl, h6⟩
    exact hK.out _ _ (Ex.plus_ _ _ _) ⟨_, _, _, rfl, h6⟩
  apply Steps.one (MP.rb Lq) 5 rfl
  · intro o ho FA x hO hD K hK
    obtain rfl := Option.some.inj ho.symm
    clear ho
    have f35 := hD 3 35 (by kernel_rfl)
    generalize eu35 : FA.eval (.tmp 35) = u35 at f35
    have e35 := (eval_tmp FA 35).symm.trans eu35
    have ev35 := Lib.hid eu35
    clear eu35
    clear hO hD
    obtain ⟨A6, n6, c6, rfl, h6⟩ := f35
    go_simp
    exact hK.out _ _ (Ex.refl _) ⟨_, _, _, rfl, h6⟩
  apply Steps.one (MP.eq (.int .i64 0)) 6 rfl
  · intro o ho FA x hO hD K hK
    obtain rfl := Option.some.inj ho.symm
    clear ho
    have f35 := hD 3 35 (by kernel_rfl)
    generalize eu35 : FA.eval (.tmp 35) = u35 at f35
    have e35 := (eval_tmp FA 35).symm.trans eu35
    have ev35 := Lib.hid eu35
    clear eu35
    clear hO hD
    obtain ⟨A6, n6, c6, rfl, h6⟩ := f35
    go_simp
    exact hK.out _ _ (Ex.refl _) rfl
  apply Steps.one (MP.rb Lq) 7 rfl
  · intro o ho FA x hO hD K hK
    obtain rfl := Option.some.inj ho.symm
    clear ho
    have f36 := hD 4 36 (by kernel_rfl)
    generalize eu36 : FA.eval (.tmp 36) = u36 at f36
    have e36 := (eval_tmp FA 36).symm.trans eu36
    have ev36 := Lib.hid eu36
    clear eu36
    clear hO hD
    go_simp
    exact hK.out _ _ (Ex.refl _) f36
  apply Steps.one (MP.eq (.int .i64 0)) 8 rfl
  · intro o ho FA x hO hD K hK
    obtain rfl := Option.some.inj ho.symm
    clear ho
    have ev37 : FA.eval (.tmp 37) = _ := hD 5 37 (by kernel_rfl)
    have e37 := (eval_tmp FA 37).symm.trans ev37
    replace ev37 := Lib.hid ev37
    clear hO hD
    go_simp
    exact hK.out _ _ (Ex.refl _) rfl
  refine Steps.fin_ (fun vs x hp => ?_)
  have p0 : vs 0 = _ := hp 0 (by omega)
  have p1 : vs 1 = _ := hp 1 (by omega)
  have p2 := hp 2 (by omega)
  have p3 := hp 3 (by omega)
  have p4 := hp 4 (by omega)
  have p5 : vs 5 = _ := hp 5 (by omega)
  have p6 := hp 6 (by omega)
  have p7 : vs 7 = _ := hp 7 (by omega)
  clear hp
  simp only [List.take_succ_cons, List.take_zero, List.drop_succ_cons, List.drop_zero, putAll, Nat.zero_add, Nat.reduceAdd, Act.put, List.setIfInBounds_toArray, List.set_cons_zero, List.set_cons_succ, p0, p1, p5, p7]
  clear p0 p1 p5 p7
  generalize vs 2 = y2 at *
  generalize vs 3 = y3 at *
  generalize vs 4 = y4 at *
  generalize vs 6 = y6 at *
  clear vs
  obtain ⟨A6, n6, c6, rfl, h6⟩ := p6
  go_wp2
  go_ret2
  rw [okL_yes rfl, okE_yes rfl]
  exact RetBE.mk h6 (belowP be _ _)
set_option maxHeartbeats 4000000 in
set_option maxRecDepth 100000 in
theorem pw_4 (A : Option Addr) (n c : Nat) (w : World) (x0 x1 x2 x3 x4 x5 x6 x7 : Nat) (B1 : Option Addr) (n1 c1 : Nat) (B2 : Option Addr) (n2 c2 : Nat) (o1 o2 : List UInt8) (b0 : x0 < 65536) (b1 : x1 < 65536) (b2 : x2 < 4294967296) (b3 : x3 < 4294967296) (b4 : x4 < 256) (b5 : x5 < 65536) (b6 : x6 < 65536) (b7 : x7 < 65536) (hn1 : n1 ≤ 40) (h4 : n1 % 4 = 0) (hn2 : n2 ≤ 2000) (r1 : Rb w B1 n1 c1 o1) (r2 : Rb w B2 n2 c2 o2) (ts ln id : Nat) (st mo : Bool) (fo tl pr sm sa da : Nat) (o load : List UInt8) (E1 : Int) (g : ts < 256 ∧ id < 65536 ∧ fo < 8192 ∧ tl < 256 ∧ pr < 256 ∧ sa < 4294967296 ∧ da < 4294967296 ∧ o.length ≤ 40 ∧ o.length % 4 = 0) (HS : ∀ w', Below w.heap.size w w' → Calls Try.prog 68 #[.slice A n c] w' fun e w2 => e = .returned (.tuple #[.bool false, .int .i64 0]) ∧ w' = w2) (HP : ∀ w', Below w.heap.size w w' → Calls Try.prog 72 #[.slice A n c] w' (RetPE w' ts ln id st mo fo tl pr sm sa da o load E1)) : Calls Try.prog 25 #[.slice A n c, .agg (tcC x0 x1 x2 x3 x4 x5 x6 x7 B1 n1 c1 B2 n2 c2).toArray] w (RetBE w (okL E1 (ip4B ts (20 + o.length + (sgB x0 x1 x2 x3 x4 x5 x6 x7 o1 o2).length) id (pl4 st mo fo) tl pr (ip4K ts (20 + o.length + (sgB x0 x1 x2 x3 x4 x5 x6 x7 o1 o2).length) id (pl4 st mo fo) tl pr sa da o) sa da o ++ (sgB x0 x1 x2 x3 x4 x5 x6 x7 o1 o2))) (okE E1)) := by
  have HR := Lib.hid (fun w => (tcpRight_yes x0 x1 x2 x3 x4 x5 x6 x7 B1 n1 c1 B2 n2 c2 w hn1 h4 hn2 : Calls Try.prog 67 #[.agg (tcC x0 x1 x2 x3 x4 x5 x6 x7 B1 n1 c1 B2 n2 c2).toArray] w (RetV w (.bool true))))
  have HBy := Lib.hid (fun w (r1 : Rb w B1 n1 c1 o1) (r2 : Rb w B2 n2 c2 o2) => (tcpBytes_yes x0 x1 x2 x3 x4 x5 x6 x7 B1 n1 c1 B2 n2 c2 o1 o2 w b0 b1 b2 b3 b4 b5 b6 b7 r1 r2 hn1 h4 hn2 : Calls Try.prog 71 #[.agg (tcC x0 x1 x2 x3 x4 x5 x6 x7 B1 n1 c1 B2 n2 c2).toArray] w (RetB w (tcpB x0 x1 x2 x3 (80 + n1 / 4 * 16) x4 x5 x6 x7 o1 o2))))
  obtain ⟨dp_, p1, p2⟩ := rowH4
  replace HS := Lib.hid HS
  replace HP := Lib.hid HP
  have hsg : (sgB x0 x1 x2 x3 x4 x5 x6 x7 o1 o2) = tcpB x0 x1 x2 x3 (80 + n1 / 4 * 16) x4 x5 x6 x7 o1 o2 := by unfold sgB; rw [r1.1]
  have hsl : (sgB x0 x1 x2 x3 x4 x5 x6 x7 o1 o2).length ≤ 2060 := by rw [hsg, tcpB_len, r1.1, r2.1]; omega
  rw [← hsg] at HBy
  generalize (sgB x0 x1 x2 x3 x4 x5 x6 x7 o1 o2) = sg at *
  clear hsg
  obtain ⟨ds1, s1, s2⟩ := rowSeg
  have hS : Bk (w.alloc (.cells (tcC x0 x1 x2 x3 x4 x5 x6 x7 B1 n1 c1 B2 n2 c2).toArray 47)) w.heap.size 47 (tcC x0 x1 x2 x3 x4 x5 x6 x7 B1 n1 c1 B2 n2 c2) := Bk.new w 47 (tcC x0 x1 x2 x3 x4 x5 x6 x7 B1 n1 c1 B2 n2 c2).toArray
  have be : Below w.heap.size w (w.alloc (.cells (tcC x0 x1 x2 x3 x4 x5 x6 x7 B1 n1 c1 B2 n2 c2).toArray 47)) := Below.allocS (Below.refl _ _) _
  have zV : w.heap.size + 1 ≤ (w.alloc (.cells (tcC x0 x1 x2 x3 x4 x5 x6 x7 B1 n1 c1 B2 n2 c2).toArray 47)).heap.size := by simp
  go_enter Try.func25, Try.ntmps25
  go_upto_region 1 with (fail)
  generalize w.alloc (.cells (tcC x0 x1 x2 x3 x4 x5 x6 x7 B1 n1 c1 B2 n2 c2).toArray 47) = V at *
  refine wp_region_lit ?_
  refine wpList_ldA (t := 47) 47 (.tmp 3) rfl rfl (tcC x0 x1 x2 x3 x4 x5 x6 x7 B1 n1 c1 B2 n2 c2) rfl (hS) (whole_ _) s1 s2 (szSeg _ rfl) ?_
  simp only [Act.put, List.setIfInBounds_toArray, List.set_cons_zero, List.set_cons_succ]
  refine wpList_plain rfl (fun K hK => ?_)
  go_simp
  refine (HR.out _).mono ?_
  rintro e w1 ⟨bs0, d0, rfl, rfl⟩
  with_reducible refine hK _ _ ?_
  clear hK K
  replace hS := hS.later (below_plus V bs0 d0)
  replace be := belowP be bs0 d0
  generalize plus V bs0 d0 = V1 at *
  refine wpList_plain rfl (fun K hK => ?_)
  go_simp
  with_reducible refine hK _ _ ?_
  clear hK K
  go_upto_region 3 with (fail)
  go_wp2_with fail
  refine (HS.out _ be).mono ?_
  rintro e w1 ⟨rfl, rfl⟩
  go_upto_region 11 with (fail)
  go_wp2_with fail
  refine (HP.out _ be).mono ?_
  rintro e w1 ⟨Ao, no, ko, A1, m1, k1, bs1, d1, rfl, rfl, hro, -, -⟩
  go_upto_region 12 with (refine at_op (.store 140 (.tmp 11) (.tmp 41)) rfl ?_; refine wpList_stA (t := 140) 140 (.tmp 11) (.tmp 41) rfl rfl (h4C ts (ln : Int) id st mo (fo : Int) tl pr sm false 0 sa false 0 da Ao no ko) (h4C 0 0 0 false false 0 0 0 0 false 0 0 false 0 0 none 0 0) rfl (h4C_one _ _ _ _ _ _ _ _ _ _ _ _ _ _ _ _ _ _) rfl rfl ?_ (szH4 _ _ _ _ _ _ _ _ _ _ _ _ _ _ _ _ _ _) ?_; (· refine Bk.newK _ _ _ ?_ rfl; simp [size_plus]); intro W8 hH gr8)
  have b8 := below_grown (Below.allocS (below_plus V1 bs1 d1) _) gr8 (by simp [size_plus])
  have b9 := below_grown (Below.allocS (Below.refl _ _) _) gr8 (by simp [size_plus])
  replace be := be.trans (b8.mono be.size)
  replace hS := hS.later b8
  replace hro := hro.later b9
  clear b8 b9 gr8
  generalize V1.heap.size + bs1.length = gh at *
  by_cases hE : E1 = 0
  case neg =>
    have hE1 : (E1 != 0) = true := by rw [bne_iff_ne]; exact hE
    have hE2 : (E1 == 0) = false := by rw [beq_eq_false_iff_ne]; exact hE
    have hEh := Lib.hid hE
    clear g hE
    go_wp2
    go_ret2
    rw [okL_no hEh.out, okE_no hEh.out]
    exact RetBE.mk Rb.nil_ be
  subst hE
  obtain ⟨g1, g2, g3, g4, g5, g6, g7, g8, g9⟩ := g
  have HPK := Lib.hid (fun w A5 n5 c5 (hr : Rb w Ao no ko o) (h5 : Rb w A5 n5 c5 sg) => (by have e5 := h5.1; have e6 := hr.1; subst e5 e6; exact packet4_ok ts (ln : Int) id st mo fo tl pr sm sa da Ao _ ko o A5 _ c5 sg w hr h5 g1 g2 g4 g5 g6 g7 (by omega) g9 (by omega) (by omega) : Calls Try.prog 48 #[.agg (h4C ts (ln : Int) id st mo (fo : Int) tl pr sm false 0 sa false 0 da Ao no ko).toArray, .slice A5 n5 c5] w (RetBE w (ip4B ts (20 + o.length + sg.length) id (pl4 st mo fo) tl pr (ip4K ts (20 + o.length + sg.length) id (pl4 st mo fo) tl pr sa da o) sa da o ++ sg) 0)))
  generalize (ip4B ts (20 + o.length + sg.length) id (pl4 st mo fo) tl pr (ip4K ts (20 + o.length + sg.length) id (pl4 st mo fo) tl pr sa da o) sa da o ++ sg) = Lq at *
  go_upto_region 14 with (fail)
  go_wp2
  refine wp_relS 8 52 rfl (by kernel_rfl) (by kernel_rfl) ?_
  apply Steps.one (MP.eq _) 1 rfl
  · intro o ho FA x hO hD K hK
    obtain rfl := Option.some.inj ho.symm
    clear ho
    have e11 := hO 11 (by kernel_rfl)
    simp only [eval_tmp, List.getElem?_toArray, List.getElem?_cons_succ, List.getElem?_cons_zero, Option.getD_some] at e11
    have ev11 := Lib.hid ((eval_tmp FA 11).trans e11)
    clear hO hD
    refine wanted_if rfl ?_
    refine wp_ldA 140 (.tmp 11) rfl (h4C ts (ln : Int) id st mo (fo : Int) tl pr sm false 0 sa false 0 da Ao no ko) ev11.out (hH.later (below_plus _ _ _)) (whole_ _) p1 p2 (szH4 _ _ _ _ _ _ _ _ _ _ _ _ _ _ _ _ _ _) ?_
    exact hK.out _ _ (Ex.refl _) rfl
  apply Steps.one (MP.eq _) 2 rfl
  · intro o ho FA x hO hD K hK
    obtain rfl := Option.some.inj ho.symm
    clear ho
    have e3 := hO 3 (by kernel_rfl)
    simp only [eval_tmp, List.getElem?_toArray, List.getElem?_cons_succ, List.getElem?_cons_zero, Option.getD_some] at e3
    have ev3 := Lib.hid ((eval_tmp FA 3).trans e3)
    clear hO hD
    refine wanted_if rfl ?_
    refine wp_ldA 47 (.tmp 3) rfl (tcC x0 x1 x2 x3 x4 x5 x6 x7 B1 n1 c1 B2 n2 c2) ev3.out (hS.later (below_plus _ _ _)) (whole_ _) s1 s2 (szSeg _ rfl) ?_
    exact hK.out _ _ (Ex.refl _) rfl
  apply Steps.one (MP.rb sg) 3 rfl
  · intro o ho FA x hO hD K hK
    obtain rfl := Option.some.inj ho.symm
    clear ho
    have ev47 : FA.eval (.tmp 47) = _ := hD 1 47 (by kernel_rfl)
    have e47 := (eval_tmp FA 47).symm.trans ev47
    replace ev47 := Lib.hid ev47
    clear hO hD
    go_simp
    refine (HBy.out _ ((r1.later be).plus_ _ _) ((r2.later be).plus_ _ _)).mono ?_
    rintro e w1 ⟨A5, n5, c5, bs2, d2, rfl, rfl, ho⟩
    exact hK.out _ _ (Ex.plus_ _ _ _) ⟨_, _, _, rfl, ho.rb⟩
  apply Steps.one (MP.rbe Lq 0) 4 rfl
  · intro o ho FA x hO hD K hK
    obtain rfl := Option.some.inj ho.symm
    clear ho
    have ev46 : FA.eval (.tmp 46) = _ := hD 0 46 (by kernel_rfl)
    have e46 := (eval_tmp FA 46).symm.trans ev46
    replace ev46 := Lib.hid ev46
    have f48 := hD 2 48 (by kernel_rfl)
    generalize eu48 : FA.eval (.tmp 48) = u48 at f48
    have e48 := (eval_tmp FA 48).symm.trans eu48
    have ev48 := Lib.hid eu48
    clear eu48
    clear hO hD
    obtain ⟨A5, n5, c5, rfl, h5⟩ := f48
    go_simp
    refine (HPK.out _ _ _ _ (hro.plus_ _ _) h5).mono ?_
    rintro e w1 ⟨A6, n6, c6, bs2, d2, rfl, rfl, h6⟩
    exact hK.out _ _ (Ex.plus_ _ _ _) ⟨_, _, _, rfl, h6⟩
  apply Steps.one (MP.rb Lq) 5 rfl
  · intro o ho FA x hO hD K hK
    obtain rfl := Option.some.inj ho.symm
    clear ho
    have f49 := hD 3 49 (by kernel_rfl)
    generalize eu49 : FA.eval (.tmp 49) = u49 at f49
    have e49 := (eval_tmp FA 49).symm.trans eu49
    have ev49 := Lib.hid eu49
    clear eu49
    clear hO hD
    obtain ⟨A6, n6, c6, rfl, h6⟩ := f49
    go_simp
    exact hK.out _ _ (Ex.refl _) ⟨_, _, _, rfl, h6⟩
  apply Steps.one (MP.eq (.int .i64 0)) 6 rfl
  · intro o ho FA x hO hD K hK
    obtain rfl := Option.some.inj ho.symm
    clear ho
    have f49 := hD 3 49 (by kernel_rfl)
    generalize eu49 : FA.eval (.tmp 49) = u49 at f49
    have e49 := (eval_tmp FA 49).symm.trans eu49
    have ev49 := Lib.hid eu49
    clear eu49
    clear hO hD
    obtain ⟨A6, n6, c6, rfl, h6⟩ := f49
    go_simp
    exact hK.out _ _ (Ex.refl _) rfl
  apply Steps.one (MP.rb Lq) 7 rfl
  · intro o ho FA x hO hD K hK
    obtain rfl := Option.some.inj ho.symm
    clear ho
    have f50 := hD 4 50 (by kernel_rfl)
    generalize eu50 : FA.eval (.tmp 50) = u50 at f50
    have e50 := (eval_tmp FA 50).symm.trans eu50
    have ev50 := Lib.hid eu50
    clear eu50
    clear hO hD
    go_simp
    exact hK.out _ _ (Ex.refl _) f50
  apply Steps.one (MP.eq (.int .i64 0)) 8 rfl
  · intro o ho FA x hO hD K hK
    obtain rfl := Option.some.inj ho.symm
    clear ho
    have ev51 : FA.eval (.tmp 51) = _ := hD 5 51 (by kernel_rfl)
    have e51 := (eval_tmp FA 51).symm.trans ev51
    replace ev51 := Lib.hid ev51
    clear hO hD
    go_simp
    exact hK.out _ _ (Ex.refl _) rfl
  refine Steps.fin_ (fun vs x hp => ?_)
  have p0 : vs 0 = _ := hp 0 (by omega)
  have p1 : vs 1 = _ := hp 1 (by omega)
  have p2 := hp 2 (by omega)
  have p3 := hp 3 (by omega)
  have p4 := hp 4 (by omega)
  have p5 : vs 5 = _ := hp 5 (by omega)
  have p6 := hp 6 (by omega)
  have p7 : vs 7 = _ := hp 7 (by omega)
  clear hp
  simp only [List.take_succ_cons, List.take_zero, List.drop_succ_cons, List.drop_zero, putAll, Nat.zero_add, Nat.reduceAdd, Act.put, List.setIfInBounds_toArray, List.set_cons_zero, List.set_cons_succ, p0, p1, p5, p7]
  clear p0 p1 p5 p7
  generalize vs 2 = y2 at *
  generalize vs 3 = y3 at *
  generalize vs 4 = y4 at *
  generalize vs 6 = y6 at *
  clear vs
  obtain ⟨A6, n6, c6, rfl, h6⟩ := p6
  go_wp2
  go_ret2
  rw [okL_yes rfl, okE_yes rfl]
  exact RetBE.mk h6 (belowP be _ _)
set_option maxHeartbeats 4000000 in
set_option maxRecDepth 100000 in
theorem rw_arg (A : Option Addr) (n c : Nat) (w : World) (x0 x1 x2 x3 x4 x5 x6 x7 : Nat) (B1 : Option Addr) (n1 c1 : Nat) (B2 : Option Addr) (n2 c2 : Nat) (o1 o2 : List UInt8) (hno : 40 < n1 ∨ n1 % 4 ≠ 0) (hnm : n1 ≤ 1000000) : Calls Try.prog 27 #[.slice A n c, .agg (tcC x0 x1 x2 x3 x4 x5 x6 x7 B1 n1 c1 B2 n2 c2).toArray] w (RetBE w [] 1) := by
  have HR := Lib.hid (fun w => (refTcpRight_no x0 x1 x2 x3 x4 x5 x6 x7 B1 n1 c1 B2 n2 c2 w hno hnm : Calls Try.prog 73 #[.agg (tcC x0 x1 x2 x3 x4 x5 x6 x7 B1 n1 c1 B2 n2 c2).toArray] w (RetV w (.bool false))))
  obtain ⟨ds1, s1, s2⟩ := rowSegR
  have hS : Bk (w.alloc (.cells (tcC x0 x1 x2 x3 x4 x5 x6 x7 B1 n1 c1 B2 n2 c2).toArray 56)) w.heap.size 56 (tcC x0 x1 x2 x3 x4 x5 x6 x7 B1 n1 c1 B2 n2 c2) := Bk.new w 56 (tcC x0 x1 x2 x3 x4 x5 x6 x7 B1 n1 c1 B2 n2 c2).toArray
  have be : Below w.heap.size w (w.alloc (.cells (tcC x0 x1 x2 x3 x4 x5 x6 x7 B1 n1 c1 B2 n2 c2).toArray 56)) := Below.allocS (Below.refl _ _) _
  have zV : w.heap.size + 1 ≤ (w.alloc (.cells (tcC x0 x1 x2 x3 x4 x5 x6 x7 B1 n1 c1 B2 n2 c2).toArray 56)).heap.size := by simp
  go_enter Try.func27, Try.ntmps27
  go_upto_region 1 with (fail)
  generalize w.alloc (.cells (tcC x0 x1 x2 x3 x4 x5 x6 x7 B1 n1 c1 B2 n2 c2).toArray 56) = V at *
  refine wp_region_lit ?_
  refine wpList_ldA (t := 56) 56 (.tmp 3) rfl rfl (tcC x0 x1 x2 x3 x4 x5 x6 x7 B1 n1 c1 B2 n2 c2) rfl (hS) (whole_ _) s1 s2 (szSegR _ rfl) ?_
  simp only [Act.put, List.setIfInBounds_toArray, List.set_cons_zero, List.set_cons_succ]
  refine wpList_plain rfl (fun K hK => ?_)
  go_simp
  refine (HR.out _).mono ?_
  rintro e w1 ⟨bs0, d0, rfl, rfl⟩
  with_reducible refine hK _ _ ?_
  clear hK K
  replace hS := hS.later (below_plus V bs0 d0)
  replace be := belowP be bs0 d0
  generalize plus V bs0 d0 = V1 at *
  refine wpList_plain rfl (fun K hK => ?_)
  go_simp
  with_reducible refine hK _ _ ?_
  clear hK K
  go_wp2
  go_ret2
  exact RetBE.mk Rb.nil_ be
set_option maxHeartbeats 4000000 in
set_option maxRecDepth 100000 in
theorem rw_6 (A : Option Addr) (n c : Nat) (w : World) (x0 x1 x2 x3 x4 x5 x6 x7 : Nat) (B1 : Option Addr) (n1 c1 : Nat) (B2 : Option Addr) (n2 c2 : Nat) (o1 o2 : List UInt8) (b0 : x0 < 65536) (b1 : x1 < 65536) (b2 : x2 < 4294967296) (b3 : x3 < 4294967296) (b4 : x4 < 256) (b5 : x5 < 65536) (b6 : x6 < 65536) (b7 : x7 < 65536) (hn1 : n1 ≤ 40) (h4 : n1 % 4 = 0) (hn2 : n2 ≤ 2000) (r1 : Rb w B1 n1 c1 o1) (r2 : Rb w B2 n2 c2 o2) (cl lb ln nx ht : Nat) (s6 : Bool) (sh sl dh dl : Nat) (load : List UInt8) (E1 : Int) (g : E1 = 0 → s6 = true ∧ cl < 256 ∧ lb < 1048576 ∧ nx < 256 ∧ ht < 256 ∧ sh < 18446744073709551616 ∧ sl < 18446744073709551616 ∧ dh < 18446744073709551616 ∧ dl < 18446744073709551616) (HS : ∀ w', Below w.heap.size w w' → Calls Try.prog 75 #[.slice A n c] w' fun e w2 => e = .returned (.int .i64 (6)) ∧ w' = w2) (HP : ∀ w', Below w.heap.size w w' → Calls Try.prog 76 #[.slice A n c] w' (RetP6 w' cl lb ln nx ht s6 sh sl dh dl load E1)) : Calls Try.prog 27 #[.slice A n c, .agg (tcC x0 x1 x2 x3 x4 x5 x6 x7 B1 n1 c1 B2 n2 c2).toArray] w (RetBE w (okL E1 (ip6B cl lb (sgB x0 x1 x2 x3 x4 x5 x6 x7 o1 o2).length nx ht sh sl dh dl ++ (sgB x0 x1 x2 x3 x4 x5 x6 x7 o1 o2))) (okE E1)) := by
  have HR := Lib.hid (fun w => (refTcpRight_yes x0 x1 x2 x3 x4 x5 x6 x7 B1 n1 c1 B2 n2 c2 w hn1 h4 hn2 : Calls Try.prog 73 #[.agg (tcC x0 x1 x2 x3 x4 x5 x6 x7 B1 n1 c1 B2 n2 c2).toArray] w (RetV w (.bool true))))
  have HBy := Lib.hid (fun w (r1 : Rb w B1 n1 c1 o1) (r2 : Rb w B2 n2 c2 o2) => (refTcpBytes_any x0 x1 x2 x3 x4 x5 x6 x7 B1 n1 c1 B2 n2 c2 o1 o2 w b0 b1 b2 b3 b4 b5 b6 b7 r1 r2 hn1 (by omega) : Calls Try.prog 74 #[.agg (tcC x0 x1 x2 x3 x4 x5 x6 x7 B1 n1 c1 B2 n2 c2).toArray] w (RetB w (tcpB x0 x1 x2 x3 (80 + n1 / 4 * 16) x4 x5 x6 x7 o1 o2))))
  obtain ⟨dp_, p1, p2⟩ := rowR6
  replace HS := Lib.hid HS
  replace HP := Lib.hid HP
  have hsg : (sgB x0 x1 x2 x3 x4 x5 x6 x7 o1 o2) = tcpB x0 x1 x2 x3 (80 + n1 / 4 * 16) x4 x5 x6 x7 o1 o2 := by unfold sgB; rw [r1.1]
  have hsl : (sgB x0 x1 x2 x3 x4 x5 x6 x7 o1 o2).length ≤ 2060 := by rw [hsg, tcpB_len, r1.1, r2.1]; omega
  rw [← hsg] at HBy
  generalize (sgB x0 x1 x2 x3 x4 x5 x6 x7 o1 o2) = sg at *
  clear hsg
  obtain ⟨ds1, s1, s2⟩ := rowSegR
  have hS : Bk (w.alloc (.cells (tcC x0 x1 x2 x3 x4 x5 x6 x7 B1 n1 c1 B2 n2 c2).toArray 56)) w.heap.size 56 (tcC x0 x1 x2 x3 x4 x5 x6 x7 B1 n1 c1 B2 n2 c2) := Bk.new w 56 (tcC x0 x1 x2 x3 x4 x5 x6 x7 B1 n1 c1 B2 n2 c2).toArray
  have be : Below w.heap.size w (w.alloc (.cells (tcC x0 x1 x2 x3 x4 x5 x6 x7 B1 n1 c1 B2 n2 c2).toArray 56)) := Below.allocS (Below.refl _ _) _
  have zV : w.heap.size + 1 ≤ (w.alloc (.cells (tcC x0 x1 x2 x3 x4 x5 x6 x7 B1 n1 c1 B2 n2 c2).toArray 56)).heap.size := by simp
  go_enter Try.func27, Try.ntmps27
  go_upto_region 1 with (fail)
  generalize w.alloc (.cells (tcC x0 x1 x2 x3 x4 x5 x6 x7 B1 n1 c1 B2 n2 c2).toArray 56) = V at *
  refine wp_region_lit ?_
  refine wpList_ldA (t := 56) 56 (.tmp 3) rfl rfl (tcC x0 x1 x2 x3 x4 x5 x6 x7 B1 n1 c1 B2 n2 c2) rfl (hS) (whole_ _) s1 s2 (szSegR _ rfl) ?_
  simp only [Act.put, List.setIfInBounds_toArray, List.set_cons_zero, List.set_cons_succ]
  refine wpList_plain rfl (fun K hK => ?_)
  go_simp
  refine (HR.out _).mono ?_
  rintro e w1 ⟨bs0, d0, rfl, rfl⟩
  with_reducible refine hK _ _ ?_
  clear hK K
  replace hS := hS.later (below_plus V bs0 d0)
  replace be := belowP be bs0 d0
  generalize plus V bs0 d0 = V1 at *
  refine wpList_plain rfl (fun K hK => ?_)
  go_simp
  with_reducible refine hK _ _ ?_
  clear hK K
  go_upto_region 3 with (fail)
  refine wp_region_lit ?_
  refine wpList_ldA (t := 56) 56 (.tmp 3) rfl rfl (tcC x0 x1 x2 x3 x4 x5 x6 x7 B1 n1 c1 B2 n2 c2) rfl (hS) (whole_ _) s1 s2 (szSegR _ rfl) ?_
  simp only [Act.put, List.setIfInBounds_toArray, List.set_cons_zero, List.set_cons_succ]
  refine wpList_plain rfl (fun K hK => ?_)
  go_simp
  refine (HBy.out _ (r1.later be) (r2.later be)).mono ?_
  rintro e w1 ⟨A5, n5, c5, bs4, d4, rfl, rfl, h5⟩
  with_reducible refine hK _ _ ?_
  clear hK K
  replace be := belowP be bs4 d4
  replace h5 := h5.rb
  generalize plus V1 bs4 d4 = V2 at *
  refine wpList_plain rfl (fun K hK => ?_)
  go_simp
  with_reducible refine hK _ _ ?_
  clear hK K
  clear hS
  go_upto_region 4 with (fail)
  go_wp2_with fail
  refine (HS.out _ be).mono ?_
  rintro e w1 ⟨rfl, rfl⟩
  go_upto_region 5 with (fail)
  go_wp2_with fail
  refine (HP.out _ be).mono ?_
  rintro e w1 ⟨A1, m1, k1, bs1, d1, rfl, rfl, -, -⟩
  go_upto_region 6 with (refine at_op (.store 180 (.tmp 7) (.tmp 24)) rfl ?_; refine wpList_stA (t := 180) 180 (.tmp 7) (.tmp 24) rfl rfl (h6C cl lb (ln : Int) nx ht s6 sh sl s6 dh dl) (h6C 0 0 0 0 0 false 0 0 false 0 0) rfl (h6C_one _ _ _ _ _ _ _ _ _ _ _) rfl rfl ?_ (szR6 _ _ _ _ _ _ _ _ _ _ _) ?_; (· refine Bk.newK _ _ _ ?_ rfl; simp [size_plus]); intro W8 hH gr8)
  have b8 := below_grown (Below.allocS (below_plus V2 bs1 d1) _) gr8 (by simp [size_plus])
  have b9 := below_grown (Below.allocS (Below.refl _ _) _) gr8 (by simp [size_plus])
  replace be := be.trans (b8.mono be.size)
  replace h5 := h5.later b8
  clear b8 b9 gr8
  generalize V2.heap.size + bs1.length = gh at *
  by_cases hE : E1 = 0
  case neg =>
    have hE1 : (E1 != 0) = true := by rw [bne_iff_ne]; exact hE
    have hE2 : (E1 == 0) = false := by rw [beq_eq_false_iff_ne]; exact hE
    have hEh := Lib.hid hE
    clear g hE
    go_wp2
    go_ret2
    rw [okL_no hEh.out, okE_no hEh.out]
    exact RetBE.mk Rb.nil_ be
  subst hE
  obtain ⟨rfl, g1, g2, g3, g4, k1, k2, k3, k4⟩ := g rfl
  have HPK := Lib.hid (fun w A5 n5 c5 (h5 : Rb w A5 n5 c5 sg) => (by have e5 := h5.1; subst e5; exact refIp6Packet_yes cl lb (ln : Int) nx ht sh sl dh dl A5 _ c5 sg w g1 g2 (by omega) g3 g4 k1 k2 k3 k4 h5 : Calls Try.prog 77 #[.agg (h6C cl lb (ln : Int) nx ht true sh sl true dh dl).toArray, .slice A5 n5 c5] w (RetBE w (ip6B cl lb sg.length nx ht sh sl dh dl ++ sg) 0)))
  generalize (ip6B cl lb sg.length nx ht sh sl dh dl ++ sg) = Lq at *
  go_upto_region 8 with (fail)
  refine wp_region_lit ?_
  refine wpList_ldA (t := 180) 180 (.tmp 7) rfl rfl (h6C cl lb (ln : Int) nx ht true sh sl true dh dl) rfl (hH) (whole_ _) p1 p2 (szR6 _ _ _ _ _ _ _ _ _ _ _) ?_
  simp only [Act.put, List.setIfInBounds_toArray, List.set_cons_zero, List.set_cons_succ]
  refine wpList_plain rfl (fun K hK => ?_)
  go_simp
  with_reducible refine hK _ _ ?_
  clear hK K
  refine wpList_plain rfl (fun K hK => ?_)
  go_simp
  refine (HPK.out _ _ _ _ h5).mono ?_
  rintro e w1 ⟨A6, n6, c6, bs6, d6, rfl, rfl, h6⟩
  with_reducible refine hK _ _ ?_
  clear hK K
  refine wpList_plain rfl (fun K hK => ?_)
  go_simp
  with_reducible refine hK _ _ ?_
  clear hK K
  refine wpList_plain rfl (fun K hK => ?_)
  go_simp
  with_reducible refine hK _ _ ?_
  clear hK K
  refine wpList_plain rfl (fun K hK => ?_)
  go_simp
  with_reducible refine hK _ _ ?_
  clear hK K
  refine wpList_plain rfl (fun K hK => ?_)
  go_simp
  with_reducible refine hK _ _ ?_
  clear hK K
  go_wp2
  go_ret2
  rw [okL_yes rfl, okE_yes rfl]
  exact RetBE.mk h6 (belowP be _ _)
set_option maxHeartbeats 4000000 in
set_option maxRecDepth 100000 in
theorem rw_4 (A : Option Addr) (n c : Nat) (w : World) (x0 x1 x2 x3 x4 x5 x6 x7 : Nat) (B1 : Option Addr) (n1 c1 : Nat) (B2 : Option Addr) (n2 c2 : Nat) (o1 o2 : List UInt8) (b0 : x0 < 65536) (b1 : x1 < 65536) (b2 : x2 < 4294967296) (b3 : x3 < 4294967296) (b4 : x4 < 256) (b5 : x5 < 65536) (b6 : x6 < 65536) (b7 : x7 < 65536) (hn1 : n1 ≤ 40) (h4 : n1 % 4 = 0) (hn2 : n2 ≤ 2000) (r1 : Rb w B1 n1 c1 o1) (r2 : Rb w B2 n2 c2 o2) (ts ln id : Nat) (st mo : Bool) (fo tl pr sm sa da : Nat) (o load : List UInt8) (E1 : Int) (g : ts < 256 ∧ id < 65536 ∧ fo < 8192 ∧ tl < 256 ∧ pr < 256 ∧ sa < 4294967296 ∧ da < 4294967296 ∧ o.length ≤ 40 ∧ o.length % 4 = 0) (HS : ∀ w', Below w.heap.size w w' → Calls Try.prog 75 #[.slice A n c] w' fun e w2 => e = .returned (.int .i64 (4)) ∧ w' = w2) (HP : ∀ w', Below w.heap.size w w' → Calls Try.prog 78 #[.slice A n c] w' (RetPE w' ts ln id st mo fo tl pr sm sa da o load E1)) : Calls Try.prog 27 #[.slice A n c, .agg (tcC x0 x1 x2 x3 x4 x5 x6 x7 B1 n1 c1 B2 n2 c2).toArray] w (RetBE w (okL E1 (ip4B ts (20 + o.length + (sgB x0 x1 x2 x3 x4 x5 x6 x7 o1 o2).length) id (pl4 st mo fo) tl pr (ip4K ts (20 + o.length + (sgB x0 x1 x2 x3 x4 x5 x6 x7 o1 o2).length) id (pl4 st mo fo) tl pr sa da o) sa da o ++ (sgB x0 x1 x2 x3 x4 x5 x6 x7 o1 o2))) (okE E1)) := by
  have HR := Lib.hid (fun w => (refTcpRight_yes x0 x1 x2 x3 x4 x5 x6 x7 B1 n1 c1 B2 n2 c2 w hn1 h4 hn2 : Calls Try.prog 73 #[.agg (tcC x0 x1 x2 x3 x4 x5 x6 x7 B1 n1 c1 B2 n2 c2).toArray] w (RetV w (.bool true))))
  have HBy := Lib.hid (fun w (r1 : Rb w B1 n1 c1 o1) (r2 : Rb w B2 n2 c2 o2) => (refTcpBytes_any x0 x1 x2 x3 x4 x5 x6 x7 B1 n1 c1 B2 n2 c2 o1 o2 w b0 b1 b2 b3 b4 b5 b6 b7 r1 r2 hn1 (by omega) : Calls Try.prog 74 #[.agg (tcC x0 x1 x2 x3 x4 x5 x6 x7 B1 n1 c1 B2 n2 c2).toArray] w (RetB w (tcpB x0 x1 x2 x3 (80 + n1 / 4 * 16) x4 x5 x6 x7 o1 o2))))
  obtain ⟨dp_, p1, p2⟩ := rowR4
  replace HS := Lib.hid HS
  replace HP := Lib.hid HP
  have hsg : (sgB x0 x1 x2 x3 x4 x5 x6 x7 o1 o2) = tcpB x0 x1 x2 x3 (80 + n1 / 4 * 16) x4 x5 x6 x7 o1 o2 := by unfold sgB; rw [r1.1]
  have hsl : (sgB x0 x1 x2 x3 x4 x5 x6 x7 o1 o2).length ≤ 2060 := by rw [hsg, tcpB_len, r1.1, r2.1]; omega
  rw [← hsg] at HBy
  generalize (sgB x0 x1 x2 x3 x4 x5 x6 x7 o1 o2) = sg at *
  clear hsg
  obtain ⟨ds1, s1, s2⟩ := rowSegR
  have hS : Bk (w.alloc (.cells (tcC x0 x1 x2 x3 x4 x5 x6 x7 B1 n1 c1 B2 n2 c2).toArray 56)) w.heap.size 56 (tcC x0 x1 x2 x3 x4 x5 x6 x7 B1 n1 c1 B2 n2 c2) := Bk.new w 56 (tcC x0 x1 x2 x3 x4 x5 x6 x7 B1 n1 c1 B2 n2 c2).toArray
  have be : Below w.heap.size w (w.alloc (.cells (tcC x0 x1 x2 x3 x4 x5 x6 x7 B1 n1 c1 B2 n2 c2).toArray 56)) := Below.allocS (Below.refl _ _) _
  have zV : w.heap.size + 1 ≤ (w.alloc (.cells (tcC x0 x1 x2 x3 x4 x5 x6 x7 B1 n1 c1 B2 n2 c2).toArray 56)).heap.size := by simp
  go_enter Try.func27, Try.ntmps27
  go_upto_region 1 with (fail)
  generalize w.alloc (.cells (tcC x0 x1 x2 x3 x4 x5 x6 x7 B1 n1 c1 B2 n2 c2).toArray 56) = V at *
  refine wp_region_lit ?_
  refine wpList_ldA (t := 56) 56 (.tmp 3) rfl rfl (tcC x0 x1 x2 x3 x4 x5 x6 x7 B1 n1 c1 B2 n2 c2) rfl (hS) (whole_ _) s1 s2 (szSegR _ rfl) ?_
  simp only [Act.put, List.setIfInBounds_toArray, List.set_cons_zero, List.set_cons_succ]
  refine wpList_plain rfl (fun K hK => ?_)
  go_simp
  refine (HR.out _).mono ?_
  rintro e w1 ⟨bs0, d0, rfl, rfl⟩
  with_reducible refine hK _ _ ?_
  clear hK K
  replace hS := hS.later (below_plus V bs0 d0)
  replace be := belowP be bs0 d0
  generalize plus V bs0 d0 = V1 at *
  refine wpList_plain rfl (fun K hK => ?_)
  go_simp
  with_reducible refine hK _ _ ?_
  clear hK K
  go_upto_region 3 with (fail)
  refine wp_region_lit ?_
  refine wpList_ldA (t := 56) 56 (.tmp 3) rfl rfl (tcC x0 x1 x2 x3 x4 x5 x6 x7 B1 n1 c1 B2 n2 c2) rfl (hS) (whole_ _) s1 s2 (szSegR _ rfl) ?_
  simp only [Act.put, List.setIfInBounds_toArray, List.set_cons_zero, List.set_cons_succ]
  refine wpList_plain rfl (fun K hK => ?_)
  go_simp
  refine (HBy.out _ (r1.later be) (r2.later be)).mono ?_
  rintro e w1 ⟨A5, n5, c5, bs4, d4, rfl, rfl, h5⟩
  with_reducible refine hK _ _ ?_
  clear hK K
  replace be := belowP be bs4 d4
  replace h5 := h5.rb
  generalize plus V1 bs4 d4 = V2 at *
  refine wpList_plain rfl (fun K hK => ?_)
  go_simp
  with_reducible refine hK _ _ ?_
  clear hK K
  clear hS
  go_upto_region 4 with (fail)
  go_wp2_with fail
  refine (HS.out _ be).mono ?_
  rintro e w1 ⟨rfl, rfl⟩
  go_upto_region 9 with (fail)
  go_wp2_with fail
  refine (HP.out _ be).mono ?_
  rintro e w1 ⟨Ao, no, ko, A1, m1, k1, bs1, d1, rfl, rfl, hro, -, -⟩
  go_upto_region 10 with (refine at_op (.store 184 (.tmp 10) (.tmp 37)) rfl ?_; refine wpList_stA (t := 184) 184 (.tmp 10) (.tmp 37) rfl rfl (h4C ts (ln : Int) id st mo (fo : Int) tl pr sm false 0 sa false 0 da Ao no ko) (h4C 0 0 0 false false 0 0 0 0 false 0 0 false 0 0 none 0 0) rfl (h4C_one _ _ _ _ _ _ _ _ _ _ _ _ _ _ _ _ _ _) rfl rfl ?_ (szR4 _ _ _ _ _ _ _ _ _ _ _ _ _ _ _ _ _ _) ?_; (· refine Bk.newK _ _ _ ?_ rfl; simp [size_plus]); intro W8 hH gr8)
  have b8 := below_grown (Below.allocS (below_plus V2 bs1 d1) _) gr8 (by simp [size_plus])
  have b9 := below_grown (Below.allocS (Below.refl _ _) _) gr8 (by simp [size_plus])
  replace be := be.trans (b8.mono be.size)
  replace h5 := h5.later b8
  replace hro := hro.later b9
  clear b8 b9 gr8
  generalize V2.heap.size + bs1.length = gh at *
  by_cases hE : E1 = 0
  case neg =>
    have hE1 : (E1 != 0) = true := by rw [bne_iff_ne]; exact hE
    have hE2 : (E1 == 0) = false := by rw [beq_eq_false_iff_ne]; exact hE
    have hEh := Lib.hid hE
    clear g hE
    go_wp2
    go_ret2
    rw [okL_no hEh.out, okE_no hEh.out]
    exact RetBE.mk Rb.nil_ be
  subst hE
  obtain ⟨g1, g2, g3, g4, g5, g6, g7, g8, g9⟩ := g
  have HPK := Lib.hid (fun w A5 n5 c5 (hr : Rb w Ao no ko o) (h5 : Rb w A5 n5 c5 sg) => (by have e5 := h5.1; have e6 := hr.1; subst e5 e6; exact refPacket4_ok ts (ln : Int) id st mo fo tl pr sm sa da Ao _ ko o A5 _ c5 sg w hr h5 g1 g2 g4 g5 g6 g7 (by omega) g9 (by omega) (by omega) : Calls Try.prog 79 #[.agg (h4C ts (ln : Int) id st mo (fo : Int) tl pr sm false 0 sa false 0 da Ao no ko).toArray, .slice A5 n5 c5] w (RetBE w (ip4B ts (20 + o.length + sg.length) id (pl4 st mo fo) tl pr (ip4K ts (20 + o.length + sg.length) id (pl4 st mo fo) tl pr sa da o) sa da o ++ sg) 0)))
  generalize (ip4B ts (20 + o.length + sg.length) id (pl4 st mo fo) tl pr (ip4K ts (20 + o.length + sg.length) id (pl4 st mo fo) tl pr sa da o) sa da o ++ sg) = Lq at *
  go_upto_region 10 with (fail)
  refine wp_region_lit ?_
  refine wpList_plain rfl (fun K hK => ?_)
  go_simp
  with_reducible refine hK _ _ ?_
  clear hK K
  refine wpList_plain rfl (fun K hK => ?_)
  go_simp
  with_reducible refine hK _ _ ?_
  clear hK K
  refine wpList_plain rfl (fun K hK => ?_)
  go_simp
  with_reducible refine hK _ _ ?_
  clear hK K
  refine wpList_step (fun K hK => ?_)
  go_simp
  with_reducible refine hK _ _ ?_
  clear hK K
  refine wpList_step (fun K hK => ?_)
  go_simp
  refine (HS.out _ be).mono ?_
  rintro e w1 ⟨rfl, rfl⟩
  with_reducible refine hK _ _ ?_
  clear hK K
  refine wpList_step (fun K hK => ?_)
  go_simp
  with_reducible refine hK _ _ ?_
  clear hK K
  refine wpList_plain rfl (fun K hK => ?_)
  go_simp
  with_reducible refine hK _ _ ?_
  clear hK K
  go_upto_region 12 with (fail)
  refine wp_region_lit ?_
  refine wpList_ldA (t := 184) 184 (.tmp 10) rfl rfl (h4C ts (ln : Int) id st mo (fo : Int) tl pr sm false 0 sa false 0 da Ao no ko) rfl (hH) (whole_ _) p1 p2 (szR4 _ _ _ _ _ _ _ _ _ _ _ _ _ _ _ _ _ _) ?_
  simp only [Act.put, List.setIfInBounds_toArray, List.set_cons_zero, List.set_cons_succ]
  refine wpList_plain rfl (fun K hK => ?_)
  go_simp
  with_reducible refine hK _ _ ?_
  clear hK K
  refine wpList_plain rfl (fun K hK => ?_)
  go_simp
  refine (HPK.out _ _ _ _ hro h5).mono ?_
  rintro e w1 ⟨A6, n6, c6, bs6, d6, rfl, rfl, h6⟩
  with_reducible refine hK _ _ ?_
  clear hK K
  refine wpList_plain rfl (fun K hK => ?_)
  go_simp
  with_reducible refine hK _ _ ?_
  clear hK K
  refine wpList_plain rfl (fun K hK => ?_)
  go_simp
  with_reducible refine hK _ _ ?_
  clear hK K
  refine wpList_plain rfl (fun K hK => ?_)
  go_simp
  with_reducible refine hK _ _ ?_
  clear hK K
  refine wpList_plain rfl (fun K hK => ?_)
  go_simp
  with_reducible refine hK _ _ ?_
  clear hK K
  go_wp2
  go_ret2
  rw [okL_yes rfl, okE_yes rfl]
  exact RetBE.mk h6 (belowP be _ _)
set_option maxHeartbeats 4000000 in
set_option maxRecDepth 100000 in
theorem rw_n (A : Option Addr) (n c : Nat) (w : World) (x0 x1 x2 x3 x4 x5 x6 x7 : Nat) (B1 : Option Addr) (n1 c1 : Nat) (B2 : Option Addr) (n2 c2 : Nat) (o1 o2 : List UInt8) (b0 : x0 < 65536) (b1 : x1 < 65536) (b2 : x2 < 4294967296) (b3 : x3 < 4294967296) (b4 : x4 < 256) (b5 : x5 < 65536) (b6 : x6 < 65536) (b7 : x7 < 65536) (hn1 : n1 ≤ 40) (h4 : n1 % 4 = 0) (hn2 : n2 ≤ 2000) (r1 : Rb w B1 n1 c1 o1) (r2 : Rb w B2 n2 c2 o2) (ts ln id : Nat) (st mo : Bool) (fo tl pr sm sa da : Nat) (o load : List UInt8) (E1 : Int) (N : Int) (hN6 : (N == 6) = false) (hN4 : (N != 4) = true) (HS : ∀ w', Below w.heap.size w w' → Calls Try.prog 75 #[.slice A n c] w' fun e w2 => e = .returned (.int .i64 (N)) ∧ w' = w2) (HP : ∀ w', Below w.heap.size w w' → Calls Try.prog 78 #[.slice A n c] w' (RetPE w' ts ln id st mo fo tl pr sm sa da o load E1)) : Calls Try.prog 27 #[.slice A n c, .agg (tcC x0 x1 x2 x3 x4 x5 x6 x7 B1 n1 c1 B2 n2 c2).toArray] w (RetBE w [] 21) := by
  have HR := Lib.hid (fun w => (refTcpRight_yes x0 x1 x2 x3 x4 x5 x6 x7 B1 n1 c1 B2 n2 c2 w hn1 h4 hn2 : Calls Try.prog 73 #[.agg (tcC x0 x1 x2 x3 x4 x5 x6 x7 B1 n1 c1 B2 n2 c2).toArray] w (RetV w (.bool true))))
  have HBy := Lib.hid (fun w (r1 : Rb w B1 n1 c1 o1) (r2 : Rb w B2 n2 c2 o2) => (refTcpBytes_any x0 x1 x2 x3 x4 x5 x6 x7 B1 n1 c1 B2 n2 c2 o1 o2 w b0 b1 b2 b3 b4 b5 b6 b7 r1 r2 hn1 (by omega) : Calls Try.prog 74 #[.agg (tcC x0 x1 x2 x3 x4 x5 x6 x7 B1 n1 c1 B2 n2 c2).toArray] w (RetB w (tcpB x0 x1 x2 x3 (80 + n1 / 4 * 16) x4 x5 x6 x7 o1 o2))))
  obtain ⟨dp_, p1, p2⟩ := rowR4
  replace HS := Lib.hid HS
  replace HP := Lib.hid HP
  have hsg : (sgB x0 x1 x2 x3 x4 x5 x6 x7 o1 o2) = tcpB x0 x1 x2 x3 (80 + n1 / 4 * 16) x4 x5 x6 x7 o1 o2 := by unfold sgB; rw [r1.1]
  have hsl : (sgB x0 x1 x2 x3 x4 x5 x6 x7 o1 o2).length ≤ 2060 := by rw [hsg, tcpB_len, r1.1, r2.1]; omega
  rw [← hsg] at HBy
  generalize (sgB x0 x1 x2 x3 x4 x5 x6 x7 o1 o2) = sg at *
  clear hsg
  obtain ⟨ds1, s1, s2⟩ := rowSegR
  have hS : Bk (w.alloc (.cells (tcC x0 x1 x2 x3 x4 x5 x6 x7 B1 n1 c1 B2 n2 c2).toArray 56)) w.heap.size 56 (tcC x0 x1 x2 x3 x4 x5 x6 x7 B1 n1 c1 B2 n2 c2) := Bk.new w 56 (tcC x0 x1 x2 x3 x4 x5 x6 x7 B1 n1 c1 B2 n2 c2).toArray
  have be : Below w.heap.size w (w.alloc (.cells (tcC x0 x1 x2 x3 x4 x5 x6 x7 B1 n1 c1 B2 n2 c2).toArray 56)) := Below.allocS (Below.refl _ _) _
  have zV : w.heap.size + 1 ≤ (w.alloc (.cells (tcC x0 x1 x2 x3 x4 x5 x6 x7 B1 n1 c1 B2 n2 c2).toArray 56)).heap.size := by simp
  go_enter Try.func27, Try.ntmps27
  go_upto_region 1 with (fail)
  generalize w.alloc (.cells (tcC x0 x1 x2 x3 x4 x5 x6 x7 B1 n1 c1 B2 n2 c2).toArray 56) = V at *
  refine wp_region_lit ?_
  refine wpList_ldA (t := 56) 56 (.tmp 3) rfl rfl (tcC x0 x1 x2 x3 x4 x5 x6 x7 B1 n1 c1 B2 n2 c2) rfl (hS) (whole_ _) s1 s2 (szSegR _ rfl) ?_
  simp only [Act.put, List.setIfInBounds_toArray, List.set_cons_zero, List.set_cons_succ]
  refine wpList_plain rfl (fun K hK => ?_)
  go_simp
  refine (HR.out _).mono ?_
  rintro e w1 ⟨bs0, d0, rfl, rfl⟩
  with_reducible refine hK _ _ ?_
  clear hK K
  replace hS := hS.later (below_plus V bs0 d0)
  replace be := belowP be bs0 d0
  generalize plus V bs0 d0 = V1 at *
  refine wpList_plain rfl (fun K hK => ?_)
  go_simp
  with_reducible refine hK _ _ ?_
  clear hK K
  go_upto_region 3 with (fail)
  refine wp_region_lit ?_
  refine wpList_ldA (t := 56) 56 (.tmp 3) rfl rfl (tcC x0 x1 x2 x3 x4 x5 x6 x7 B1 n1 c1 B2 n2 c2) rfl (hS) (whole_ _) s1 s2 (szSegR _ rfl) ?_
  simp only [Act.put, List.setIfInBounds_toArray, List.set_cons_zero, List.set_cons_succ]
  refine wpList_plain rfl (fun K hK => ?_)
  go_simp
  refine (HBy.out _ (r1.later be) (r2.later be)).mono ?_
  rintro e w1 ⟨A5, n5, c5, bs4, d4, rfl, rfl, h5⟩
  with_reducible refine hK _ _ ?_
  clear hK K
  replace be := belowP be bs4 d4
  replace h5 := h5.rb
  generalize plus V1 bs4 d4 = V2 at *
  refine wpList_plain rfl (fun K hK => ?_)
  go_simp
  with_reducible refine hK _ _ ?_
  clear hK K
  clear hS
  go_upto_region 4 with (fail)
  go_wp2_with fail
  refine (HS.out _ be).mono ?_
  rintro e w1 ⟨rfl, rfl⟩
  go_upto_region 9 with (fail)
  go_wp2_with fail
  refine (HP.out _ be).mono ?_
  rintro e w1 ⟨Ao, no, ko, A1, m1, k1, bs1, d1, rfl, rfl, hro, -, -⟩
  go_upto_region 10 with (refine at_op (.store 184 (.tmp 10) (.tmp 37)) rfl ?_; refine wpList_stA (t := 184) 184 (.tmp 10) (.tmp 37) rfl rfl (h4C ts (ln : Int) id st mo (fo : Int) tl pr sm false 0 sa false 0 da Ao no ko) (h4C 0 0 0 false false 0 0 0 0 false 0 0 false 0 0 none 0 0) rfl (h4C_one _ _ _ _ _ _ _ _ _ _ _ _ _ _ _ _ _ _) rfl rfl ?_ (szR4 _ _ _ _ _ _ _ _ _ _ _ _ _ _ _ _ _ _) ?_; (· refine Bk.newK _ _ _ ?_ rfl; simp [size_plus]); intro W8 hH gr8)
  have b8 := below_grown (Below.allocS (below_plus V2 bs1 d1) _) gr8 (by simp [size_plus])
  have b9 := below_grown (Below.allocS (Below.refl _ _) _) gr8 (by simp [size_plus])
  replace be := be.trans (b8.mono be.size)
  replace h5 := h5.later b8
  replace hro := hro.later b9
  clear b8 b9 gr8
  generalize V2.heap.size + bs1.length = gh at *
  by_cases hE : E1 = 0
  case neg =>
    have hE1 : (E1 != 0) = true := by rw [bne_iff_ne]; exact hE
    have hE2 : (E1 == 0) = false := by rw [beq_eq_false_iff_ne]; exact hE
    have hEh := Lib.hid hE
    clear hE
    go_wp2
    go_ret2
    exact RetBE.mk Rb.nil_ be
  subst hE
  go_upto_region 10 with (fail)
  refine wp_region_lit ?_
  refine wpList_plain rfl (fun K hK => ?_)
  go_simp
  with_reducible refine hK _ _ ?_
  clear hK K
  refine wpList_plain rfl (fun K hK => ?_)
  go_simp
  with_reducible refine hK _ _ ?_
  clear hK K
  refine wpList_plain rfl (fun K hK => ?_)
  go_simp
  with_reducible refine hK _ _ ?_
  clear hK K
  refine wpList_step (fun K hK => ?_)
  go_simp
  with_reducible refine hK _ _ ?_
  clear hK K
  refine wpList_step (fun K hK => ?_)
  go_simp
  refine (HS.out _ be).mono ?_
  rintro e w1 ⟨rfl, rfl⟩
  with_reducible refine hK _ _ ?_
  clear hK K
  refine wpList_step (fun K hK => ?_)
  go_simp
  with_reducible refine hK _ _ ?_
  clear hK K
  refine wpList_plain rfl (fun K hK => ?_)
  go_simp
  with_reducible refine hK _ _ ?_
  clear hK K
  go_wp2
  go_ret2
  exact RetBE.mk Rb.nil_ be
end Go.Proofs.Ytfmkndemkpecpaa

/- The law PacketCarries (chapter 28). -/
namespace Go.Proofs.Ytfmkndemkpecpaa
open Go.RowKit
set_option linter.unusedVariables false
set_option linter.unusedSimpArgs false
attribute [local go_sem ↓] sliced_cut

attribute [local go_sem] cutA_zero

set_option maxRecDepth 100000 in
theorem segV (x0 x1 x2 x3 x4 x5 x6 x7 : Nat) (B1 : Option Addr) (n1 c1 : Nat) (B2 : Option Addr) (n2 c2 : Nat) (w : World) : Calls Try.prog 26 #[.agg (tcC x0 x1 x2 x3 x4 x5 x6 x7 B1 n1 c1 B2 n2 c2).toArray] w (RetV w (.agg (tcC x0 x1 x2 x3 x4 x5 x6 x7 B1 n1 c1 B2 n2 c2).toArray)) := by
  unfold tcC
  go_enter Try.func26, Try.ntmps26
  go_wp2
  refine bodyPost_ret (v := .agg #[.int .u16 (x0 : Int), .int .u16 (x1 : Int), .int .u32 (x2 : Int), .int .u32 (x3 : Int), .int .u8 (x4 : Int), .int .u16 (x5 : Int), .int .u16 (x6 : Int), .int .u16 (x7 : Int), .slice B1 n1 c1, .slice B2 n2 c2]) (by simp [results, Try.results26, go_sem]) rfl (RetV.mk ?_)
  exact Below.allocS (Below.allocS (Below.refl _ _) _) _
/-- both sides carry alike -/
theorem carriesBoth (A : Option Addr) (n c : Nat) (l : List UInt8) (w : World) (x0 x1 x2 x3 x4 x5 x6 x7 : Nat) (B1 : Option Addr) (n1 c1 : Nat) (B2 : Option Addr) (n2 c2 : Nat) (o1 o2 : List UInt8) (b0 : x0 < 65536) (b1 : x1 < 65536) (b2 : x2 < 4294967296) (b3 : x3 < 4294967296) (b4 : x4 < 256) (b5 : x5 < 65536) (b6 : x6 < 65536) (b7 : x7 < 65536) (r1 : Rb w B1 n1 c1 o1) (r2 : Rb w B2 n2 c2 o2) (h : Rb w A n c l) (hm : n ≤ 3000) (m1 : n1 ≤ 100) (m2 : n2 ≤ 2000) : ∃ (L : List UInt8) (E : Int),
    (∀ w', Below w.heap.size w w' → Calls Try.prog 25 #[.slice A n c, .agg (tcC x0 x1 x2 x3 x4 x5 x6 x7 B1 n1 c1 B2 n2 c2).toArray] w' (RetBE w' L E)) ∧ (∀ w', Below w.heap.size w w' → Calls Try.prog 27 #[.slice A n c, .agg (tcC x0 x1 x2 x3 x4 x5 x6 x7 B1 n1 c1 B2 n2 c2).toArray] w' (RetBE w' L E)) := by
  have up : ∀ w1, Below w.heap.size w w1 → ∀ w2, Below w1.heap.size w1 w2 → Below w.heap.size w w2 := fun w1 h1 w2 h2 => h1.trans (h2.mono h1.size)
  by_cases hr : n1 ≤ 40 ∧ n1 % 4 = 0
  case neg => exact ⟨[], 1, fun w1 hb => pw_arg A n c w1 x0 x1 x2 x3 x4 x5 x6 x7 B1 n1 c1 B2 n2 c2 o1 o2 (by omega) (by omega), fun w1 hb => rw_arg A n c w1 x0 x1 x2 x3 x4 x5 x6 x7 B1 n1 c1 B2 n2 c2 o1 o2 (by omega) (by omega)⟩
  obtain ⟨hn1, h4⟩ := hr
  obtain ⟨N, B, E, s⟩ := sx_any l
  have HS : ∀ w1, Below w.heap.size w w1 → ∀ w', Below w1.heap.size w1 w' → Calls Try.prog 68 #[.slice A n c] w' fun e w2 => e = .returned (.tuple #[.bool B, .int .i64 E]) ∧ w' = w2 := fun w1 h1 w2 h2 => tunSix A n c l w2 (h.later (up w1 h1 w2 h2)) N B E s
  have HR : ∀ w1, Below w.heap.size w w1 → ∀ w', Below w1.heap.size w1 w' → Calls Try.prog 75 #[.slice A n c] w' fun e w2 => e = .returned (.int .i64 N) ∧ w' = w2 := fun w1 h1 w2 h2 => refSix A n c l w2 (h.later (up w1 h1 w2 h2)) N B E s
  cases s
  case none_ =>
    obtain ⟨ts, ln, id, st, mo, fo, tl, pr, sm, sa, da, o, load, E1, F, G1, G2⟩ := reads4F A n c _ w h (by omega)
    obtain ⟨f1, f2, f3, f4, f5, f6, f7, f8, f9, f10, f11⟩ := F.b
    exact ⟨[], 21, fun w1 hb => pw_six A n c w1 x0 x1 x2 x3 x4 x5 x6 x7 B1 n1 c1 B2 n2 c2 o1 o2 b0 b1 b2 b3 b4 b5 b6 b7 hn1 h4 m2 (r1.later hb) (r2.later hb) _ _ rfl (HS w1 hb), fun w1 hb => rw_n A n c w1 x0 x1 x2 x3 x4 x5 x6 x7 B1 n1 c1 B2 n2 c2 o1 o2 b0 b1 b2 b3 b4 b5 b6 b7 hn1 h4 m2 (r1.later hb) (r2.later hb) ts ln id st mo fo tl pr sm sa da o load E1 _ rfl rfl (HR w1 hb) (fun w2 hb2 => G2 w2 (up w1 hb w2 hb2))⟩
  case other =>
    obtain ⟨ts, ln, id, st, mo, fo, tl, pr, sm, sa, da, o, load, E1, F, G1, G2⟩ := reads4F A n c _ w h (by omega)
    obtain ⟨f1, f2, f3, f4, f5, f6, f7, f8, f9, f10, f11⟩ := F.b
    exact ⟨[], 21, fun w1 hb => pw_six A n c w1 x0 x1 x2 x3 x4 x5 x6 x7 B1 n1 c1 B2 n2 c2 o1 o2 b0 b1 b2 b3 b4 b5 b6 b7 hn1 h4 m2 (r1.later hb) (r2.later hb) _ _ rfl (HS w1 hb), fun w1 hb => rw_n A n c w1 x0 x1 x2 x3 x4 x5 x6 x7 B1 n1 c1 B2 n2 c2 o1 o2 b0 b1 b2 b3 b4 b5 b6 b7 hn1 h4 m2 (r1.later hb) (r2.later hb) ts ln id st mo fo tl pr sm sa da o load E1 _ rfl rfl (HR w1 hb) (fun w2 hb2 => G2 w2 (up w1 hb w2 hb2))⟩
  case four =>
    obtain ⟨ts, ln, id, st, mo, fo, tl, pr, sm, sa, da, o, load, E1, F, G1, G2⟩ := reads4F A n c _ w h (by omega)
    obtain ⟨f1, f2, f3, f4, f5, f6, f7, f8, f9, f10, f11⟩ := F.b
    exact ⟨_, _, fun w1 hb => pw_4 A n c w1 x0 x1 x2 x3 x4 x5 x6 x7 B1 n1 c1 B2 n2 c2 o1 o2 b0 b1 b2 b3 b4 b5 b6 b7 hn1 h4 m2 (r1.later hb) (r2.later hb) ts ln id st mo fo tl pr sm sa da o load E1 ⟨f1, f2, f3, f4, f5, f7, f8, f9, f10⟩ (HS w1 hb) (fun w2 hb2 => G1 w2 (up w1 hb w2 hb2)), fun w1 hb => rw_4 A n c w1 x0 x1 x2 x3 x4 x5 x6 x7 B1 n1 c1 B2 n2 c2 o1 o2 b0 b1 b2 b3 b4 b5 b6 b7 hn1 h4 m2 (r1.later hb) (r2.later hb) ts ln id st mo fo tl pr sm sa da o load E1 ⟨f1, f2, f3, f4, f5, f7, f8, f9, f10⟩ (HR w1 hb) (fun w2 hb2 => G2 w2 (up w1 hb w2 hb2))⟩
  case six =>
    obtain ⟨cl, lb, ln, nx, ht, s6, sh, sl, dh, dl, load, E1, F, ⟨f1, f2, f3, f4, f5, f6, f7⟩, G1, G2⟩ := reads6F A n c _ w h (by omega)
    have g : E1 = 0 → s6 = true ∧ cl < 256 ∧ lb < 1048576 ∧ nx < 256 ∧ ht < 256 ∧ sh < 18446744073709551616 ∧ sl < 18446744073709551616 ∧ dh < 18446744073709551616 ∧ dl < 18446744073709551616 := fun hE => ⟨(F.c hE).2.2.1, F.c1, F.c2, f1, f2, f3, f4, f5, f6⟩
    exact ⟨_, _, fun w1 hb => pw_6 A n c w1 x0 x1 x2 x3 x4 x5 x6 x7 B1 n1 c1 B2 n2 c2 o1 o2 b0 b1 b2 b3 b4 b5 b6 b7 hn1 h4 m2 (r1.later hb) (r2.later hb) cl lb ln nx ht s6 sh sl dh dl load E1 g (HS w1 hb) (fun w2 hb2 => G1 w2 (up w1 hb w2 hb2)), fun w1 hb => rw_6 A n c w1 x0 x1 x2 x3 x4 x5 x6 x7 B1 n1 c1 B2 n2 c2 o1 o2 b0 b1 b2 b3 b4 b5 b6 b7 hn1 h4 m2 (r1.later hb) (r2.later hb) cl lb ln nx ht s6 sh sl dh dl load E1 g (HR w1 hb) (fun w2 hb2 => G2 w2 (up w1 hb w2 hb2))⟩
set_option maxHeartbeats 4000000 in
set_option maxRecDepth 100000 in
theorem packetCarries_walk (w : World) (A : Option Addr) (n c : Nat) (l : List UInt8) (x0 x1 x2 x3 x4 x5 x6 x7 : Nat) (B1 : Option Addr) (n1 c1 : Nat) (B2 : Option Addr) (n2 c2 : Nat) (o1 o2 : List UInt8) (b0 : x0 < 65536) (b1 : x1 < 65536) (b2 : x2 < 4294967296) (b3 : x3 < 4294967296) (b4 : x4 < 256) (b5 : x5 < 65536) (b6 : x6 < 65536) (b7 : x7 < 65536) (r1 : Rb w B1 n1 c1 o1) (r2 : Rb w B2 n2 c2 o2) (h : Rb w A n c l) (hc : c ≤ maxLen) (hc1 : c1 ≤ maxLen) (hc2 : c2 ≤ maxLen) : Calls Try.prog 6 #[.slice A n c, .agg (tcC x0 x1 x2 x3 x4 x5 x6 x7 B1 n1 c1 B2 n2 c2).toArray] w fun e w' => e = .returned (.bool true) ∧ Below w.heap.size w w' := by
  have HAW := Lib.hid awake28
  have hcn := h.2.1
  have hcn1 := r1.2.1
  have hcn2 := r2.2.1
  simp only [maxLen] at hc hc1 hc2
  by_cases hbig : 3000 < n ∨ 100 < n1 ∨ 2000 < n2
  · have hdd : decide (3000 < (n : Int)) = true ∨ (decide (3000 < (n : Int)) = false ∧ decide (100 < (n1 : Int)) = true) ∨ (decide (3000 < (n : Int)) = false ∧ decide (100 < (n1 : Int)) = false ∧ decide (2000 < (n2 : Int)) = true) := by
      by_cases k1 : 3000 < n
      · exact .inl (by simp only [decide_eq_true_eq]; omega)
      · by_cases k2 : 100 < n1
        · exact .inr (.inl ⟨by simp only [decide_eq_false_iff_not]; omega, by simp only [decide_eq_true_eq]; omega⟩)
        · exact .inr (.inr ⟨by simp only [decide_eq_false_iff_not]; omega, by simp only [decide_eq_false_iff_not]; omega, by simp only [decide_eq_true_eq]; omega⟩)
    clear hbig
    obtain ⟨ds1, s1, s2⟩ := rowSegR
    have hS : Bk (w.alloc (.cells (tcC x0 x1 x2 x3 x4 x5 x6 x7 B1 n1 c1 B2 n2 c2).toArray 56)) w.heap.size 56 (tcC x0 x1 x2 x3 x4 x5 x6 x7 B1 n1 c1 B2 n2 c2) := Bk.new w 56 (tcC x0 x1 x2 x3 x4 x5 x6 x7 B1 n1 c1 B2 n2 c2).toArray
    have be : Below w.heap.size w (w.alloc (.cells (tcC x0 x1 x2 x3 x4 x5 x6 x7 B1 n1 c1 B2 n2 c2).toArray 56)) := Below.allocS (Below.refl _ _) _
    have zV : w.heap.size + 1 ≤ (w.alloc (.cells (tcC x0 x1 x2 x3 x4 x5 x6 x7 B1 n1 c1 B2 n2 c2).toArray 56)).heap.size := by simp
    go_enter Try.func6, Try.ntmps6
    go_upto_region 1 with (fail)
    generalize w.alloc (.cells (tcC x0 x1 x2 x3 x4 x5 x6 x7 B1 n1 c1 B2 n2 c2).toArray 56) = V at *
    rcases hdd with d1 | ⟨d1, d2⟩ | ⟨d1, d2, d3⟩
    · have d1' : decide (3000 < n) = true := by rw [decide_eq_true_eq] at d1 ⊢; omega
      refine wp_region_lit ?_
      refine wpList_plain rfl (fun K hK => ?_)
      go_simp
      with_reducible refine hK _ _ ?_
      clear hK K
      refine wpList_plain rfl (fun K hK => ?_)
      go_simp
      with_reducible refine hK _ _ ?_
      clear hK K
      refine wpList_plain rfl (fun K hK => ?_)
      go_simp
      with_reducible refine hK _ _ ?_
      clear hK K
      refine wpList_plain rfl (fun K hK => ?_)
      go_simp
      with_reducible refine hK _ _ ?_
      clear hK K
      with_reducible refine wpList_skip ?_ ?_
      · first | (go_simp; done) | (go_simp; intro h; cases h)
      simp only [Act.put, List.setIfInBounds_toArray, List.set_cons_zero, List.set_cons_succ]
      with_reducible refine wpList_skip ?_ ?_
      · first | (go_simp; done) | (go_simp; intro h; cases h)
      simp only [Act.put, List.setIfInBounds_toArray, List.set_cons_zero, List.set_cons_succ]
      with_reducible refine wpList_skip ?_ ?_
      · first | (go_simp; done) | (go_simp; intro h; cases h)
      simp only [Act.put, List.setIfInBounds_toArray, List.set_cons_zero, List.set_cons_succ]
      with_reducible refine wpList_skip ?_ ?_
      · first | (go_simp; done) | (go_simp; intro h; cases h)
      simp only [Act.put, List.setIfInBounds_toArray, List.set_cons_zero, List.set_cons_succ]
      refine wpList_plain rfl (fun K hK => ?_)
      go_simp
      with_reducible refine hK _ _ ?_
      clear hK K
      refine wpList_plain rfl (fun K hK => ?_)
      go_simp
      with_reducible refine hK _ _ ?_
      clear hK K
      with_reducible refine wpList_skip ?_ ?_
      · first | (go_simp; done) | (go_simp; intro h; cases h)
      simp only [Act.put, List.setIfInBounds_toArray, List.set_cons_zero, List.set_cons_succ]
      with_reducible refine wpList_skip ?_ ?_
      · first | (go_simp; done) | (go_simp; intro h; cases h)
      simp only [Act.put, List.setIfInBounds_toArray, List.set_cons_zero, List.set_cons_succ]
      with_reducible refine wpList_skip ?_ ?_
      · first | (go_simp; done) | (go_simp; intro h; cases h)
      simp only [Act.put, List.setIfInBounds_toArray, List.set_cons_zero, List.set_cons_succ]
      with_reducible refine wpList_skip ?_ ?_
      · first | (go_simp; done) | (go_simp; intro h; cases h)
      simp only [Act.put, List.setIfInBounds_toArray, List.set_cons_zero, List.set_cons_succ]
      refine wpList_plain rfl (fun K hK => ?_)
      go_simp
      with_reducible refine hK _ _ ?_
      clear hK K
      go_wp2_with (go_at_call 19; refine (HAW.out _).mono ?_; rintro e w1 ⟨bs9, d9, rfl, rfl⟩)
      go_ret
      exact ⟨rfl, belowP be _ _⟩
    · have d1' : decide (3000 < n) = false := by rw [decide_eq_false_iff_not] at d1 ⊢; omega
      have d2' : decide (100 < n1) = true := by rw [decide_eq_true_eq] at d2 ⊢; omega
      refine wp_region_lit ?_
      refine wpList_plain rfl (fun K hK => ?_)
      go_simp
      with_reducible refine hK _ _ ?_
      clear hK K
      refine wpList_plain rfl (fun K hK => ?_)
      go_simp
      with_reducible refine hK _ _ ?_
      clear hK K
      refine wpList_plain rfl (fun K hK => ?_)
      go_simp
      with_reducible refine hK _ _ ?_
      clear hK K
      refine wpList_plain rfl (fun K hK => ?_)
      go_simp
      with_reducible refine hK _ _ ?_
      clear hK K
      refine wpList_step (fun K hK => ?_)
      go_simp
      with_reducible refine hK _ _ ?_
      clear hK K
      refine wpList_ld1 (t := 56) (cs := tcC x0 x1 x2 x3 x4 x5 x6 x7 B1 n1 c1 B2 n2 c2) 22 (.tmp 13) rfl (by go_simp) rfl (hS) rfl Try.underlying22 rfl ?_
      simp only [Act.put, List.setIfInBounds_toArray, List.set_cons_zero, List.set_cons_succ]
      refine wpList_step (fun K hK => ?_)
      go_simp
      with_reducible refine hK _ _ ?_
      clear hK K
      refine wpList_step (fun K hK => ?_)
      go_simp
      with_reducible refine hK _ _ ?_
      clear hK K
      refine wpList_plain rfl (fun K hK => ?_)
      go_simp
      with_reducible refine hK _ _ ?_
      clear hK K
      refine wpList_plain rfl (fun K hK => ?_)
      go_simp
      with_reducible refine hK _ _ ?_
      clear hK K
      with_reducible refine wpList_skip ?_ ?_
      · first | (go_simp; done) | (go_simp; intro h; cases h)
      simp only [Act.put, List.setIfInBounds_toArray, List.set_cons_zero, List.set_cons_succ]
      with_reducible refine wpList_skip ?_ ?_
      · first | (go_simp; done) | (go_simp; intro h; cases h)
      simp only [Act.put, List.setIfInBounds_toArray, List.set_cons_zero, List.set_cons_succ]
      with_reducible refine wpList_skip ?_ ?_
      · first | (go_simp; done) | (go_simp; intro h; cases h)
      simp only [Act.put, List.setIfInBounds_toArray, List.set_cons_zero, List.set_cons_succ]
      with_reducible refine wpList_skip ?_ ?_
      · first | (go_simp; done) | (go_simp; intro h; cases h)
      simp only [Act.put, List.setIfInBounds_toArray, List.set_cons_zero, List.set_cons_succ]
      refine wpList_plain rfl (fun K hK => ?_)
      go_simp
      with_reducible refine hK _ _ ?_
      clear hK K
      go_wp2_with (go_at_call 19; refine (HAW.out _).mono ?_; rintro e w1 ⟨bs9, d9, rfl, rfl⟩)
      go_ret
      exact ⟨rfl, belowP be _ _⟩
    · have d1' : decide (3000 < n) = false := by rw [decide_eq_false_iff_not] at d1 ⊢; omega
      have d2' : decide (100 < n1) = false := by rw [decide_eq_false_iff_not] at d2 ⊢; omega
      have d3' : decide (2000 < n2) = true := by rw [decide_eq_true_eq] at d3 ⊢; omega
      refine wp_region_lit ?_
      refine wpList_plain rfl (fun K hK => ?_)
      go_simp
      with_reducible refine hK _ _ ?_
      clear hK K
      refine wpList_plain rfl (fun K hK => ?_)
      go_simp
      with_reducible refine hK _ _ ?_
      clear hK K
      refine wpList_plain rfl (fun K hK => ?_)
      go_simp
      with_reducible refine hK _ _ ?_
      clear hK K
      refine wpList_plain rfl (fun K hK => ?_)
      go_simp
      with_reducible refine hK _ _ ?_
      clear hK K
      refine wpList_step (fun K hK => ?_)
      go_simp
      with_reducible refine hK _ _ ?_
      clear hK K
      refine wpList_ld1 (t := 56) (cs := tcC x0 x1 x2 x3 x4 x5 x6 x7 B1 n1 c1 B2 n2 c2) 22 (.tmp 13) rfl (by go_simp) rfl (hS) rfl Try.underlying22 rfl ?_
      simp only [Act.put, List.setIfInBounds_toArray, List.set_cons_zero, List.set_cons_succ]
      refine wpList_step (fun K hK => ?_)
      go_simp
      with_reducible refine hK _ _ ?_
      clear hK K
      refine wpList_step (fun K hK => ?_)
      go_simp
      with_reducible refine hK _ _ ?_
      clear hK K
      refine wpList_plain rfl (fun K hK => ?_)
      go_simp
      with_reducible refine hK _ _ ?_
      clear hK K
      refine wpList_plain rfl (fun K hK => ?_)
      go_simp
      with_reducible refine hK _ _ ?_
      clear hK K
      refine wpList_step (fun K hK => ?_)
      go_simp
      with_reducible refine hK _ _ ?_
      clear hK K
      refine wpList_ld1 (t := 56) (cs := tcC x0 x1 x2 x3 x4 x5 x6 x7 B1 n1 c1 B2 n2 c2) 22 (.tmp 19) rfl (by go_simp) rfl (hS) rfl Try.underlying22 rfl ?_
      simp only [Act.put, List.setIfInBounds_toArray, List.set_cons_zero, List.set_cons_succ]
      refine wpList_step (fun K hK => ?_)
      go_simp
      with_reducible refine hK _ _ ?_
      clear hK K
      refine wpList_step (fun K hK => ?_)
      go_simp
      with_reducible refine hK _ _ ?_
      clear hK K
      refine wpList_plain rfl (fun K hK => ?_)
      go_simp
      with_reducible refine hK _ _ ?_
      clear hK K
      go_wp2_with (go_at_call 19; refine (HAW.out _).mono ?_; rintro e w1 ⟨bs9, d9, rfl, rfl⟩)
      go_ret
      exact ⟨rfl, belowP be _ _⟩
  have d1 : decide (3000 < (n : Int)) = false := by simp only [decide_eq_false_iff_not]; omega
  have d2 : decide (100 < (n1 : Int)) = false := by simp only [decide_eq_false_iff_not]; omega
  have d3 : decide (2000 < (n2 : Int)) = false := by simp only [decide_eq_false_iff_not]; omega
  have d1' : decide (3000 < n) = false := by simp only [decide_eq_false_iff_not]; omega
  have d2' : decide (100 < n1) = false := by simp only [decide_eq_false_iff_not]; omega
  have d3' : decide (2000 < n2) = false := by simp only [decide_eq_false_iff_not]; omega
  obtain ⟨L, E, H1, H2⟩ := carriesBoth A n c l w x0 x1 x2 x3 x4 x5 x6 x7 B1 n1 c1 B2 n2 c2 o1 o2 b0 b1 b2 b3 b4 b5 b6 b7 r1 r2 h (by omega) (by omega) (by omega)
  replace H1 := Lib.hid H1
  replace H2 := Lib.hid H2
  clear hbig r1 r2 h
  obtain ⟨ds1, s1, s2⟩ := rowSegR
  have hS : Bk (w.alloc (.cells (tcC x0 x1 x2 x3 x4 x5 x6 x7 B1 n1 c1 B2 n2 c2).toArray 56)) w.heap.size 56 (tcC x0 x1 x2 x3 x4 x5 x6 x7 B1 n1 c1 B2 n2 c2) := Bk.new w 56 (tcC x0 x1 x2 x3 x4 x5 x6 x7 B1 n1 c1 B2 n2 c2).toArray
  have be : Below w.heap.size w (w.alloc (.cells (tcC x0 x1 x2 x3 x4 x5 x6 x7 B1 n1 c1 B2 n2 c2).toArray 56)) := Below.allocS (Below.refl _ _) _
  have zV : w.heap.size + 1 ≤ (w.alloc (.cells (tcC x0 x1 x2 x3 x4 x5 x6 x7 B1 n1 c1 B2 n2 c2).toArray 56)).heap.size := by simp
  go_enter Try.func6, Try.ntmps6
  go_upto_region 1 with (fail)
  generalize w.alloc (.cells (tcC x0 x1 x2 x3 x4 x5 x6 x7 B1 n1 c1 B2 n2 c2).toArray 56) = V at *
  refine wp_region_lit ?_
  refine wpList_plain rfl (fun K hK => ?_)
  go_simp
  with_reducible refine hK _ _ ?_
  clear hK K
  refine wpList_plain rfl (fun K hK => ?_)
  go_simp
  with_reducible refine hK _ _ ?_
  clear hK K
  refine wpList_plain rfl (fun K hK => ?_)
  go_simp
  with_reducible refine hK _ _ ?_
  clear hK K
  refine wpList_plain rfl (fun K hK => ?_)
  go_simp
  with_reducible refine hK _ _ ?_
  clear hK K
  refine wpList_step (fun K hK => ?_)
  go_simp
  with_reducible refine hK _ _ ?_
  clear hK K
  refine wpList_ld1 (t := 56) (cs := tcC x0 x1 x2 x3 x4 x5 x6 x7 B1 n1 c1 B2 n2 c2) 22 (.tmp 13) rfl (by go_simp) rfl (hS) rfl Try.underlying22 rfl ?_
  simp only [Act.put, List.setIfInBounds_toArray, List.set_cons_zero, List.set_cons_succ]
  refine wpList_step (fun K hK => ?_)
  go_simp
  with_reducible refine hK _ _ ?_
  clear hK K
  refine wpList_step (fun K hK => ?_)
  go_simp
  with_reducible refine hK _ _ ?_
  clear hK K
  refine wpList_plain rfl (fun K hK => ?_)
  go_simp
  with_reducible refine hK _ _ ?_
  clear hK K
  refine wpList_plain rfl (fun K hK => ?_)
  go_simp
  with_reducible refine hK _ _ ?_
  clear hK K
  refine wpList_step (fun K hK => ?_)
  go_simp
  with_reducible refine hK _ _ ?_
  clear hK K
  refine wpList_ld1 (t := 56) (cs := tcC x0 x1 x2 x3 x4 x5 x6 x7 B1 n1 c1 B2 n2 c2) 22 (.tmp 19) rfl (by go_simp) rfl (hS) rfl Try.underlying22 rfl ?_
  simp only [Act.put, List.setIfInBounds_toArray, List.set_cons_zero, List.set_cons_succ]
  refine wpList_step (fun K hK => ?_)
  go_simp
  with_reducible refine hK _ _ ?_
  clear hK K
  refine wpList_step (fun K hK => ?_)
  go_simp
  with_reducible refine hK _ _ ?_
  clear hK K
  refine wpList_plain rfl (fun K hK => ?_)
  go_simp
  with_reducible refine hK _ _ ?_
  clear hK K
  go_upto_region 3 with (fail)
  refine wp_region_lit ?_
  refine wpList_plain rfl (fun K hK => ?_)
  go_simp
  with_reducible refine hK _ _ ?_
  clear hK K
  refine wpList_ldA (t := 56) 56 (.tmp 3) rfl rfl (tcC x0 x1 x2 x3 x4 x5 x6 x7 B1 n1 c1 B2 n2 c2) rfl (hS) (whole_ _) s1 s2 (szSegR _ rfl) ?_
  simp only [Act.put, List.setIfInBounds_toArray, List.set_cons_zero, List.set_cons_succ]
  refine wpList_plain rfl (fun K hK => ?_)
  go_simp
  refine (segV _ _ _ _ _ _ _ _ _ _ _ _ _ _ _).mono ?_
  rintro e w1 ⟨bs1, d1, rfl, rfl⟩
  with_reducible refine hK _ _ ?_
  clear hK K
  replace be := belowP be bs1 d1
  replace hS := hS.later (below_plus V bs1 d1)
  generalize plus V bs1 d1 = V1 at *
  refine wpList_plain rfl (fun K hK => ?_)
  go_simp
  refine (H1.out _ be).mono ?_
  rintro e w1 ⟨A5, n5, c5, bs2, d2, rfl, rfl, q1⟩
  with_reducible refine hK _ _ ?_
  clear hK K
  replace be := belowP be bs2 d2
  replace hS := hS.later (below_plus V1 bs2 d2)
  generalize plus V1 bs2 d2 = V2 at *
  refine wpList_plain rfl (fun K hK => ?_)
  go_simp
  with_reducible refine hK _ _ ?_
  clear hK K
  refine wpList_plain rfl (fun K hK => ?_)
  go_simp
  with_reducible refine hK _ _ ?_
  clear hK K
  refine wpList_plain rfl (fun K hK => ?_)
  go_simp
  with_reducible refine hK _ _ ?_
  clear hK K
  refine wpList_plain rfl (fun K hK => ?_)
  go_simp
  with_reducible refine hK _ _ ?_
  clear hK K
  refine wpList_plain rfl (fun K hK => ?_)
  go_simp
  with_reducible refine hK _ _ ?_
  clear hK K
  go_upto_region 4 with (fail)
  refine wp_region_lit ?_
  refine wpList_plain rfl (fun K hK => ?_)
  go_simp
  with_reducible refine hK _ _ ?_
  clear hK K
  refine wpList_ldA (t := 56) 56 (.tmp 3) rfl rfl (tcC x0 x1 x2 x3 x4 x5 x6 x7 B1 n1 c1 B2 n2 c2) rfl (hS) (whole_ _) s1 s2 (szSegR _ rfl) ?_
  simp only [Act.put, List.setIfInBounds_toArray, List.set_cons_zero, List.set_cons_succ]
  refine wpList_plain rfl (fun K hK => ?_)
  go_simp
  refine (H2.out _ be).mono ?_
  rintro e w1 ⟨A6, n6, c6, bs3, d3, rfl, rfl, q2⟩
  with_reducible refine hK _ _ ?_
  clear hK K
  replace be := belowP be bs3 d3
  replace q1 := q1.plus_ bs3 d3
  generalize plus V2 bs3 d3 = V3 at *
  refine wpList_plain rfl (fun K hK => ?_)
  go_simp
  with_reducible refine hK _ _ ?_
  clear hK K
  refine wpList_plain rfl (fun K hK => ?_)
  go_simp
  with_reducible refine hK _ _ ?_
  clear hK K
  refine wpList_plain rfl (fun K hK => ?_)
  go_simp
  with_reducible refine hK _ _ ?_
  clear hK K
  refine wpList_plain rfl (fun K hK => ?_)
  go_simp
  with_reducible refine hK _ _ ?_
  clear hK K
  refine wpList_plain rfl (fun K hK => ?_)
  go_simp
  with_reducible refine hK _ _ ?_
  clear hK K
  go_upto_region 5 with (fail)
  refine wp_region_lit ?_
  refine wpList_plain rfl (fun K hK => ?_)
  go_simp
  with_reducible refine hK _ _ ?_
  clear hK K
  have es := run_str bt Try.underlying9 q1
  refine wpList_step (fun K hK => ?_)
  go_simp
  with_reducible refine hK _ _ ?_
  clear hK K es
  refine wpList_plain rfl (fun K hK => ?_)
  go_simp
  with_reducible refine hK _ _ ?_
  clear hK K
  have es := run_str bt Try.underlying9 q2
  refine wpList_step (fun K hK => ?_)
  go_simp
  with_reducible refine hK _ _ ?_
  clear hK K es
  refine wpList_plain rfl (fun K hK => ?_)
  go_simp
  with_reducible refine hK _ _ ?_
  clear hK K
  refine wpList_plain rfl (fun K hK => ?_)
  go_simp
  with_reducible refine hK _ _ ?_
  clear hK K
  refine wpList_step (fun K hK => ?_)
  go_simp
  with_reducible refine hK _ _ ?_
  clear hK K
  refine wpList_step (fun K hK => ?_)
  go_simp
  with_reducible refine hK _ _ ?_
  clear hK K
  refine wpList_step (fun K hK => ?_)
  go_simp
  with_reducible refine hK _ _ ?_
  clear hK K
  refine wpList_plain rfl (fun K hK => ?_)
  go_simp
  with_reducible refine hK _ _ ?_
  clear hK K
  refine wpList_plain rfl (fun K hK => ?_)
  go_simp
  with_reducible refine hK _ _ ?_
  clear hK K
  refine wpList_step (fun K hK => ?_)
  go_simp
  refine (HAW.out _).mono ?_
  rintro e w1 ⟨b9, d9, rfl, rfl⟩
  with_reducible refine hK _ _ ?_
  clear hK K
  refine wpList_plain rfl (fun K hK => ?_)
  go_simp
  with_reducible refine hK _ _ ?_
  clear hK K
  refine wpList_plain rfl (fun K hK => ?_)
  go_simp
  with_reducible refine hK _ _ ?_
  clear hK K
  go_wp2
  go_ret
  exact ⟨rfl, belowP be _ _⟩
theorem packetCarries_row (w : World) (A : Option Addr) (c : Nat) (l : List UInt8) (hl : l.length ≤ c) (hc : c ≤ maxLen) (hr : Rd w w.heap.size A (bcs l)) (a b c0 d f wi sm ur : Nat) (B1 : Option Addr) (n1 c1 : Nat) (B2 : Option Addr) (n2 c2 : Nat) (o1 o2 : List UInt8) (b0 : a < 65536) (b1 : b < 65536) (b2 : c0 < 4294967296) (b3 : d < 4294967296) (b4 : f < 256) (b5 : wi < 65536) (b6 : sm < 65536) (b7 : ur < 65536) (r1 : Rb w B1 n1 c1 o1) (r2 : Rb w B2 n2 c2 o2) (h1 : c1 ≤ maxLen) (h2 : c2 ≤ maxLen) : Calls Try.prog 6 #[.slice A l.length c, .agg (segC a b c0 d f wi sm ur B1 n1 c1 B2 n2 c2).toArray] w fun e w' => e = .returned (.bool true) ∧ Below w.heap.size w w' :=
  packetCarries_walk w A l.length c l a b c0 d f wi sm ur B1 n1 c1 B2 n2 c2 o1 o2 b0 b1 b2 b3 b4 b5 b6 b7 r1 r2 ⟨rfl, hl, hr⟩ hc h1 h2
end Go.Proofs.Ytfmkndemkpecpaa

