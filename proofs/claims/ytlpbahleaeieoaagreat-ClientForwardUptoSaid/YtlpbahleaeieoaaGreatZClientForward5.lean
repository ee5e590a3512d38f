/- Texts of the law ClientForward, part 5. -/
import Derived.Test.YtlpbahleaeieoaaGreatZClientForward4
set_option linter.unusedVariables false
set_option linter.unusedSimpArgs false
namespace Go.Proofs.YtlpbahleaeieoaaGreat
section
open Go.RowKit
attribute [local go_sem ↓] sliced_cut
attribute [local go_sem] cutA_zero
def ip4R (x0 ts ln id p tl pr : Nat) (s6 : Bool) (sh sl : Nat) (d6 : Bool) (dh dl : Nat) (o : List UInt8) : List UInt8 := ([[UInt8.ofNat x0, UInt8.ofNat ts], (dig (ln) 2), (dig (id) 2), (dig (p) 2), [UInt8.ofNat (tl), UInt8.ofNat (pr), UInt8.ofNat (0), UInt8.ofNat (0)], (adrB s6 sh sl), (adrB d6 dh dl), o]).flatten
theorem ip4R_B (ts ln id p tl pr sl dl : Nat) (o : List UInt8) (h1 : o.length ≤ 40) (b1 : ts < 256) (b3 : tl < 256) (b4 : pr < 256) : ip4R (69 + o.length / 4) ts ln id p tl pr false 0 sl false 0 dl o = ip4B ts ln id p tl pr 0 sl dl o := by
 unfold ip4R ip4B
 rw [dig1 _ (show 69 + o.length / 4 < 256 by omega), dig1 ts b1, dig1 tl b3, dig1 pr b4]
 simp [adrB, dig]
set_option maxHeartbeats 4000000
set_option maxRecDepth 100000
theorem refIp4Bytes_nn (ts ln id : Nat) (fo tl pr sm : Nat) (s6 : Bool) (sh sl : Nat) (d6 : Bool) (dh dl : Nat) (A : Option Addr) (n k : Nat) (o : List UInt8) (w : World) (hr : Rb w A n k o) (b1 : ts < 256) (b2 : id < 65536) (b3 : tl < 256) (b4 : pr < 256) (k1 : sh < 18446744073709551616) (k2 : sl < 18446744073709551616) (k3 : dh < 18446744073709551616) (k4 : dl < 18446744073709551616) (c1 : n ≤ 40) (c4 : ln ≤ 65535) (c5 : fo ≤ 8191) : Calls Tryz.prog 84 #[.agg (h4C ts (ln : Int) id false false (fo : Int) tl pr sm s6 sh sl d6 dh dl A n k).toArray] w (RetB w (setB (ip4R (69 + o.length / 4) ts ln id (pl4 false false fo) tl pr s6 sh sl d6 dh dl o) 10 (dig (65535 - fd (tot false (ip4R (69 + o.length / 4) ts ln id (pl4 false false fo) tl pr s6 sh sl d6 dh dl o))) 2))) := by
 have z1 := adrB_length s6 sh sl
 have z2 := adrB_length d6 dh dl
 obtain ⟨p, hp⟩ : ∃ p : Nat, p = fo + 0 := ⟨_, rfl⟩
 have hpl : pl4 false false fo = p := by simp [pl4]; omega
 obtain ⟨q, hq⟩ : ∃ q : Nat, q = n / 4 := ⟨_, rfl⟩
 obtain ⟨x0, hx⟩ : ∃ x : Nat, x = 69 + q := ⟨_, rfl⟩
 have e0 : (n : Int).tdiv 4 = (q : Int) := by rw [Int.tdiv_eq_ediv_of_nonneg (by omega)]; omega
 have e1 : IntKind.i64.wrap (q : Int) = (q : Int) := IntWalk.i64_in _ (by omega)
 have e2 : IntKind.i64.wrap (69 + (q : Int)) = (x0 : Int) := by rw [IntWalk.i64_in _ (by omega)]; omega
 have e3 : IntKind.u8.wrap (x0 : Int) = (x0 : Int) := IntWalk.u8_in _ (by omega)
 have l0 : x0 < 256 := by omega
 have lp : p < 65536 := by omega
 have fp : IntKind.u64.wrap (fo : Int) = (p : Int) := by rw [IntWalk.u64_in _ (by omega)]; omega
 rw [hpl, show 69 + o.length / 4 = x0 from by rw [hr.1]; omega]
 have HT : ([[UInt8.ofNat x0, UInt8.ofNat ts], (dig (ln) 2), (dig (id) 2), (dig (p) 2), [UInt8.ofNat (tl), UInt8.ofNat (pr), UInt8.ofNat (0), UInt8.ofNat (0)], (adrB s6 sh sl), (adrB d6 dh dl), o]).flatten.length ≤ 549755813888 := by simp [dig_length, hr.1]; omega
 have HL : (ip4R x0 ts ln id p tl pr s6 sh sl d6 dh dl o).length ≤ 1000 := by simp [ip4R, dig_length, hr.1]; omega
 have HL2 : 12 ≤ (ip4R x0 ts ln id p tl pr s6 sh sl d6 dh dl o).length := by simp [ip4R, dig_length, hr.1]; omega
 clear hpl hp hq hx
 replace HT := Lib.hid HT
 have hr3 : Rb ((w.alloc (.cells #[.int .u8 (ts : Int), .int .i64 (ln : Int), .int .u16 (id : Int), .bool false, .bool false, .int .i64 (fo : Int), .int .u8 (tl : Int), .int .u8 (pr : Int), .int .u16 (sm : Int), .bool s6, .int .u64 (sh : Int), .int .u64 (sl : Int), .bool d6, .int .u64 (dh : Int), .int .u64 (dl : Int), .slice A n k] 122)).alloc (.cells #[.int .u8 (x0 : Int), .int .u8 (ts : Int)] 5)) (some ⟨w.heap.size + 1, 0, none⟩) 2 2 [UInt8.ofNat x0, UInt8.ofNat ts] := Rb.litW _ _ (by simp) rfl (by decide) (by simp [bcs]; omega)
 have hr4 : Rb ((w.alloc (.cells #[.int .u8 (ts : Int), .int .i64 (ln : Int), .int .u16 (id : Int), .bool false, .bool false, .int .i64 (fo : Int), .int .u8 (tl : Int), .int .u8 (pr : Int), .int .u16 (sm : Int), .bool s6, .int .u64 (sh : Int), .int .u64 (sl : Int), .bool d6, .int .u64 (dh : Int), .int .u64 (dl : Int), .slice A n k] 122)).alloc (.cells #[.int .u8 (x0 : Int), .int .u8 (ts : Int)] 5)) A n k o := (hr.alloc _).alloc _
 have be : Below w.heap.size w ((w.alloc (.cells #[.int .u8 (ts : Int), .int .i64 (ln : Int), .int .u16 (id : Int), .bool false, .bool false, .int .i64 (fo : Int), .int .u8 (tl : Int), .int .u8 (pr : Int), .int .u16 (sm : Int), .bool s6, .int .u64 (sh : Int), .int .u64 (sl : Int), .bool d6, .int .u64 (dh : Int), .int .u64 (dl : Int), .slice A n k] 122)).alloc (.cells #[.int .u8 (x0 : Int), .int .u8 (ts : Int)] 5)) := Below.allocS (Below.allocS (Below.refl _ _) _) _
 have g0 : IntKind.u64.wrap (ln : Int) = (ln : Int) := IntWalk.u64_in _ (by omega)
 have g1 : IntKind.u64.wrap (id : Int) = (id : Int) := IntWalk.u64_in _ (by omega)
 unfold h4C
 go_enter Tryz.func84, Tryz.ntmps84
 go_wp2
 refine wp_rel 26 57 rfl (by kernel_rfl) (by kernel_rfl) (fun i => match i with | 0 => MP.eq (.slice (some ⟨w.heap.size + 1, 0, none⟩) 2 2) | 1 => MP.eq (.pointer (some ⟨w.heap.size, 1, none⟩)) | 2 => MP.eq (.int .i64 (ln : Int)) | 3 => MP.eq (.int .u64 (ln : Int)) | 4 => MP.rb (dig (ln) 2) | 5 => MP.eq (.pointer (some ⟨w.heap.size, 2, none⟩)) | 6 => MP.eq (.int .u16 (id : Int)) | 7 => MP.eq (.int .u64 (id : Int)) | 8 => MP.rb (dig (id) 2) | 9 => MP.eq (.int .u64 (p : Int)) | 10 => MP.rb (dig (p) 2) | 11 => MP.eq (.pointer (some ⟨w.heap.size, 6, none⟩)) | 12 => MP.eq (.int .u8 (tl : Int)) | 13 => MP.eq (.pointer (some ⟨w.heap.size, 7, none⟩)) | 14 => MP.eq (.int .u8 (pr : Int)) | 15 => MP.rb [UInt8.ofNat (tl), UInt8.ofNat (pr), UInt8.ofNat (0), UInt8.ofNat (0)] | 16 => MP.eq (.pointer (some ⟨w.heap.size, 9, none⟩)) | 17 => MP.eq (.agg #[.bool s6, .int .u64 (sh : Int), .int .u64 (sl : Int)]) | 18 => MP.ob w.heap.size (adrB s6 sh sl) | 19 => MP.eq (.pointer (some ⟨w.heap.size, 12, none⟩)) | 20 => MP.eq (.agg #[.bool d6, .int .u64 (dh : Int), .int .u64 (dl : Int)]) | 21 => MP.ob w.heap.size (adrB d6 dh dl) | 22 => MP.eq (.pointer (some ⟨w.heap.size, 15, none⟩)) | 23 => MP.eq (.slice A n k) | 24 => MP.rdl [[UInt8.ofNat x0, UInt8.ofNat ts], (dig (ln) 2), (dig (id) 2), (dig (p) 2), [UInt8.ofNat (tl), UInt8.ofNat (pr), UInt8.ofNat (0), UInt8.ofNat (0)], (adrB s6 sh sl), (adrB d6 dh dl), o] | 25 => MP.ob w.heap.size ([[UInt8.ofNat x0, UInt8.ofNat ts], (dig (ln) 2), (dig (id) 2), (dig (p) 2), [UInt8.ofNat (tl), UInt8.ofNat (pr), UInt8.ofNat (0), UInt8.ofNat (0)], (adrB s6 sh sl), (adrB d6 dh dl), o]).flatten | _ => MP.any) ?_ ?_
 ·intro i hi o ho FA x hO hD K hK
  match i, hi, ho, hO, hD, hK with
  | 0, _, ho, hO, hD, hK => 
   obtain rfl := qoi ho
   have ev4 : FA.eval (.tmp 4) = .slice (some ⟨w.heap.size + 1, 0, none⟩) 2 2 := hO 4 (by kernel_rfl)
   have e4 : FA.tmps[4]?.getD undef = .slice (some ⟨w.heap.size + 1, 0, none⟩) 2 2 := by simpa [Act.eval] using ev4
   replace ev4 := Lib.hid ev4
   clear hO hD ho
   go_simp
   exact hK.out _ _ (Ex.refl _) rfl
  | 1, _, ho, hO, hD, hK => 
   obtain rfl := qoi ho
   have ev1 : FA.eval (.tmp 1) = .pointer (some ⟨w.heap.size, 0, none⟩) := hO 1 (by kernel_rfl)
   have e1 : FA.tmps[1]?.getD undef = .pointer (some ⟨w.heap.size, 0, none⟩) := by simpa [Act.eval] using ev1
   replace ev1 := Lib.hid ev1
   clear hO hD ho
   go_simp
   exact hK.out _ _ (Ex.refl _) rfl
  | 2, _, ho, hO, hD, hK => 
   obtain rfl := qoi ho
   have ev26 : FA.eval (.tmp 26) = .pointer (some ⟨w.heap.size, 1, none⟩) := hD 1 26 (by kernel_rfl)
   have e26 : FA.tmps[26]?.getD undef = .pointer (some ⟨w.heap.size, 1, none⟩) := by simpa [Act.eval] using ev26
   replace ev26 := Lib.hid ev26
   clear hO hD ho
   go_simp
   exact hK.out _ _ (Ex.refl _) rfl
  | 3, _, ho, hO, hD, hK => 
   obtain rfl := qoi ho
   have ev27 : FA.eval (.tmp 27) = .int .i64 (ln : Int) := hD 2 27 (by kernel_rfl)
   have e27 : FA.tmps[27]?.getD undef = .int .i64 (ln : Int) := by simpa [Act.eval] using ev27
   replace ev27 := Lib.hid ev27
   clear hO hD ho
   go_simp
   exact hK.out _ _ (Ex.refl _) rfl
  | 4, _, ho, hO, hD, hK => 
   obtain rfl := qoi ho
   have ev28 : FA.eval (.tmp 28) = .int .u64 (ln : Int) := hD 3 28 (by kernel_rfl)
   have e28 : FA.tmps[28]?.getD undef = .int .u64 (ln : Int) := by simpa [Act.eval] using ev28
   replace ev28 := Lib.hid ev28
   clear hO hD ho
   go_simp
   refine (refBytes_any (ln) 2 _ (by omega) (by omega)).mono ?_
   rintro e w1 ⟨A2, n2, c2, bs2, d2, rfl, rfl, ho2⟩
   exact hK.out _ _ (Ex.plus_ _ _ _) ⟨_, _, _, rfl, ho2.rb⟩
  | 5, _, ho, hO, hD, hK => 
   obtain rfl := qoi ho
   have ev1 : FA.eval (.tmp 1) = .pointer (some ⟨w.heap.size, 0, none⟩) := hO 1 (by kernel_rfl)
   have e1 : FA.tmps[1]?.getD undef = .pointer (some ⟨w.heap.size, 0, none⟩) := by simpa [Act.eval] using ev1
   replace ev1 := Lib.hid ev1
   clear hO hD ho
   go_simp
   exact hK.out _ _ (Ex.refl _) rfl
  | 6, _, ho, hO, hD, hK => 
   obtain rfl := qoi ho
   have ev30 : FA.eval (.tmp 30) = .pointer (some ⟨w.heap.size, 2, none⟩) := hD 5 30 (by kernel_rfl)
   have e30 : FA.tmps[30]?.getD undef = .pointer (some ⟨w.heap.size, 2, none⟩) := by simpa [Act.eval] using ev30
   replace ev30 := Lib.hid ev30
   clear hO hD ho
   go_simp
   exact hK.out _ _ (Ex.refl _) rfl
  | 7, _, ho, hO, hD, hK => 
   obtain rfl := qoi ho
   have ev31 : FA.eval (.tmp 31) = .int .u16 (id : Int) := hD 6 31 (by kernel_rfl)
   have e31 : FA.tmps[31]?.getD undef = .int .u16 (id : Int) := by simpa [Act.eval] using ev31
   replace ev31 := Lib.hid ev31
   clear hO hD ho
   go_simp
   exact hK.out _ _ (Ex.refl _) rfl
  | 8, _, ho, hO, hD, hK => 
   obtain rfl := qoi ho
   have ev32 : FA.eval (.tmp 32) = .int .u64 (id : Int) := hD 7 32 (by kernel_rfl)
   have e32 : FA.tmps[32]?.getD undef = .int .u64 (id : Int) := by simpa [Act.eval] using ev32
   replace ev32 := Lib.hid ev32
   clear hO hD ho
   go_simp
   refine (refBytes_any (id) 2 _ (by omega) (by omega)).mono ?_
   rintro e w1 ⟨A2, n2, c2, bs2, d2, rfl, rfl, ho2⟩
   exact hK.out _ _ (Ex.plus_ _ _ _) ⟨_, _, _, rfl, ho2.rb⟩
  | 9, _, ho, hO, hD, hK => 
   obtain rfl := qoi ho
   have ev3 : FA.eval (.tmp 3) = .int .u64 (p : Int) := hO 3 (by kernel_rfl)
   have e3 : FA.tmps[3]?.getD undef = .int .u64 (p : Int) := by simpa [Act.eval] using ev3
   replace ev3 := Lib.hid ev3
   clear hO hD ho
   go_simp
   exact hK.out _ _ (Ex.refl _) rfl
  | 10, _, ho, hO, hD, hK => 
   obtain rfl := qoi ho
   have ev34 : FA.eval (.tmp 34) = .int .u64 (p : Int) := hD 9 34 (by kernel_rfl)
   have e34 : FA.tmps[34]?.getD undef = .int .u64 (p : Int) := by simpa [Act.eval] using ev34
   replace ev34 := Lib.hid ev34
   clear hO hD ho
   go_simp
   refine (refBytes_any (p) 2 _ (by omega) (by omega)).mono ?_
   rintro e w1 ⟨A2, n2, c2, bs2, d2, rfl, rfl, ho2⟩
   exact hK.out _ _ (Ex.plus_ _ _ _) ⟨_, _, _, rfl, ho2.rb⟩
  | 11, _, ho, hO, hD, hK => 
   obtain rfl := qoi ho
   have ev1 : FA.eval (.tmp 1) = .pointer (some ⟨w.heap.size, 0, none⟩) := hO 1 (by kernel_rfl)
   have e1 : FA.tmps[1]?.getD undef = .pointer (some ⟨w.heap.size, 0, none⟩) := by simpa [Act.eval] using ev1
   replace ev1 := Lib.hid ev1
   clear hO hD ho
   go_simp
   exact hK.out _ _ (Ex.refl _) rfl
  | 12, _, ho, hO, hD, hK => 
   obtain rfl := qoi ho
   have ev36 : FA.eval (.tmp 36) = .pointer (some ⟨w.heap.size, 6, none⟩) := hD 11 36 (by kernel_rfl)
   have e36 : FA.tmps[36]?.getD undef = .pointer (some ⟨w.heap.size, 6, none⟩) := by simpa [Act.eval] using ev36
   replace ev36 := Lib.hid ev36
   clear hO hD ho
   go_simp
   exact hK.out _ _ (Ex.refl _) rfl
  | 13, _, ho, hO, hD, hK => 
   obtain rfl := qoi ho
   have ev1 : FA.eval (.tmp 1) = .pointer (some ⟨w.heap.size, 0, none⟩) := hO 1 (by kernel_rfl)
   have e1 : FA.tmps[1]?.getD undef = .pointer (some ⟨w.heap.size, 0, none⟩) := by simpa [Act.eval] using ev1
   replace ev1 := Lib.hid ev1
   clear hO hD ho
   go_simp
   exact hK.out _ _ (Ex.refl _) rfl
  | 14, _, ho, hO, hD, hK => 
   obtain rfl := qoi ho
   have ev38 : FA.eval (.tmp 38) = .pointer (some ⟨w.heap.size, 7, none⟩) := hD 13 38 (by kernel_rfl)
   have e38 : FA.tmps[38]?.getD undef = .pointer (some ⟨w.heap.size, 7, none⟩) := by simpa [Act.eval] using ev38
   replace ev38 := Lib.hid ev38
   clear hO hD ho
   go_simp
   exact hK.out _ _ (Ex.refl _) rfl
  | 15, _, ho, hO, hD, hK => 
   obtain rfl := qoi ho
   have ev37 : FA.eval (.tmp 37) = .int .u8 (tl : Int) := hD 12 37 (by kernel_rfl)
   have e37 : FA.tmps[37]?.getD undef = .int .u8 (tl : Int) := by simpa [Act.eval] using ev37
   replace ev37 := Lib.hid ev37
   have ev39 : FA.eval (.tmp 39) = .int .u8 (pr : Int) := hD 14 39 (by kernel_rfl)
   have e39 : FA.tmps[39]?.getD undef = .int .u8 (pr : Int) := by simpa [Act.eval] using ev39
   replace ev39 := Lib.hid ev39
   clear hO hD ho
   go_simp
   refine hK.out _ _ (Ex.alloc _ _) ⟨_, _, _, rfl, ?_⟩
   refine Rb.litW _ [UInt8.ofNat (tl), UInt8.ofNat (pr), UInt8.ofNat (0), UInt8.ofNat (0)] ?_ rfl (by decide) ?_
   ·simp [size_plus]
   ·simp [bcs]; try omega
  | 16, _, ho, hO, hD, hK => 
   obtain rfl := qoi ho
   have ev1 : FA.eval (.tmp 1) = .pointer (some ⟨w.heap.size, 0, none⟩) := hO 1 (by kernel_rfl)
   have e1 : FA.tmps[1]?.getD undef = .pointer (some ⟨w.heap.size, 0, none⟩) := by simpa [Act.eval] using ev1
   replace ev1 := Lib.hid ev1
   clear hO hD ho
   go_simp
   exact hK.out _ _ (Ex.refl _) rfl
  | 17, _, ho, hO, hD, hK => 
   obtain rfl := qoi ho
   have ev41 : FA.eval (.tmp 41) = .pointer (some ⟨w.heap.size, 9, none⟩) := hD 16 41 (by kernel_rfl)
   have e41 : FA.tmps[41]?.getD undef = .pointer (some ⟨w.heap.size, 9, none⟩) := by simpa [Act.eval] using ev41
   replace ev41 := Lib.hid ev41
   clear hO hD ho
   go_simp
   exact hK.out _ _ (Ex.refl _) rfl
  | 18, _, ho, hO, hD, hK => 
   obtain rfl := qoi ho
   have ev42 : FA.eval (.tmp 42) = .agg #[.bool s6, .int .u64 (sh : Int), .int .u64 (sl : Int)] := hD 17 42 (by kernel_rfl)
   have e42 : FA.tmps[42]?.getD undef = .agg #[.bool s6, .int .u64 (sh : Int), .int .u64 (sl : Int)] := by simpa [Act.eval] using ev42
   replace ev42 := Lib.hid ev42
   clear hO hD ho
   go_simp
   refine (refAdrBytes s6 sh sl _ (by omega) (by omega)).mono ?_
   rintro e w1 ⟨A2, n2, c2, bs2, d2, rfl, rfl, ho2⟩
   exact hK.out _ _ (Ex.plus_ _ _ _) ⟨_, _, _, rfl, ho2.mono (by have := be.size; simp [size_plus]; omega)⟩
  | 19, _, ho, hO, hD, hK => 
   obtain rfl := qoi ho
   have ev1 : FA.eval (.tmp 1) = .pointer (some ⟨w.heap.size, 0, none⟩) := hO 1 (by kernel_rfl)
   have e1 : FA.tmps[1]?.getD undef = .pointer (some ⟨w.heap.size, 0, none⟩) := by simpa [Act.eval] using ev1
   replace ev1 := Lib.hid ev1
   clear hO hD ho
   go_simp
   exact hK.out _ _ (Ex.refl _) rfl
  | 20, _, ho, hO, hD, hK => 
   obtain rfl := qoi ho
   have ev44 : FA.eval (.tmp 44) = .pointer (some ⟨w.heap.size, 12, none⟩) := hD 19 44 (by kernel_rfl)
   have e44 : FA.tmps[44]?.getD undef = .pointer (some ⟨w.heap.size, 12, none⟩) := by simpa [Act.eval] using ev44
   replace ev44 := Lib.hid ev44
   clear hO hD ho
   go_simp
   exact hK.out _ _ (Ex.refl _) rfl
  | 21, _, ho, hO, hD, hK => 
   obtain rfl := qoi ho
   have ev45 : FA.eval (.tmp 45) = .agg #[.bool d6, .int .u64 (dh : Int), .int .u64 (dl : Int)] := hD 20 45 (by kernel_rfl)
   have e45 : FA.tmps[45]?.getD undef = .agg #[.bool d6, .int .u64 (dh : Int), .int .u64 (dl : Int)] := by simpa [Act.eval] using ev45
   replace ev45 := Lib.hid ev45
   clear hO hD ho
   go_simp
   refine (refAdrBytes d6 dh dl _ (by omega) (by omega)).mono ?_
   rintro e w1 ⟨A2, n2, c2, bs2, d2, rfl, rfl, ho2⟩
   exact hK.out _ _ (Ex.plus_ _ _ _) ⟨_, _, _, rfl, ho2.mono (by have := be.size; simp [size_plus]; omega)⟩
  | 22, _, ho, hO, hD, hK => 
   obtain rfl := qoi ho
   have ev1 : FA.eval (.tmp 1) = .pointer (some ⟨w.heap.size, 0, none⟩) := hO 1 (by kernel_rfl)
   have e1 : FA.tmps[1]?.getD undef = .pointer (some ⟨w.heap.size, 0, none⟩) := by simpa [Act.eval] using ev1
   replace ev1 := Lib.hid ev1
   clear hO hD ho
   go_simp
   exact hK.out _ _ (Ex.refl _) rfl
  | 23, _, ho, hO, hD, hK => 
   obtain rfl := qoi ho
   have ev47 : FA.eval (.tmp 47) = .pointer (some ⟨w.heap.size, 15, none⟩) := hD 22 47 (by kernel_rfl)
   have e47 : FA.tmps[47]?.getD undef = .pointer (some ⟨w.heap.size, 15, none⟩) := by simpa [Act.eval] using ev47
   replace ev47 := Lib.hid ev47
   clear hO hD ho
   go_simp
   exact hK.out _ _ (Ex.refl _) rfl
  | 24, _, ho, hO, hD, hK => 
   obtain rfl := qoi ho
   have ev25 : FA.eval (.tmp 25) = .slice (some ⟨w.heap.size + 1, 0, none⟩) 2 2 := hD 0 25 (by kernel_rfl)
   have e25 : FA.tmps[25]?.getD undef = .slice (some ⟨w.heap.size + 1, 0, none⟩) 2 2 := by simpa [Act.eval] using ev25
   replace ev25 := Lib.hid ev25
   have f29 := hD 4 29 (by kernel_rfl)
   generalize eu29 : FA.eval (.tmp 29) = u29 at f29
   have e29 : FA.tmps[29]?.getD undef = u29 := by rw [← eu29]; simp [Act.eval]
   have ev29 := Lib.hid eu29
   clear eu29
   have f33 := hD 8 33 (by kernel_rfl)
   generalize eu33 : FA.eval (.tmp 33) = u33 at f33
   have e33 : FA.tmps[33]?.getD undef = u33 := by rw [← eu33]; simp [Act.eval]
   have ev33 := Lib.hid eu33
   clear eu33
   have f35 := hD 10 35 (by kernel_rfl)
   generalize eu35 : FA.eval (.tmp 35) = u35 at f35
   have e35 : FA.tmps[35]?.getD undef = u35 := by rw [← eu35]; simp [Act.eval]
   have ev35 := Lib.hid eu35
   clear eu35
   have f40 := hD 15 40 (by kernel_rfl)
   generalize eu40 : FA.eval (.tmp 40) = u40 at f40
   have e40 : FA.tmps[40]?.getD undef = u40 := by rw [← eu40]; simp [Act.eval]
   have ev40 := Lib.hid eu40
   clear eu40
   have f43 := hD 18 43 (by kernel_rfl)
   generalize eu43 : FA.eval (.tmp 43) = u43 at f43
   have e43 : FA.tmps[43]?.getD undef = u43 := by rw [← eu43]; simp [Act.eval]
   have ev43 := Lib.hid eu43
   clear eu43
   have f46 := hD 21 46 (by kernel_rfl)
   generalize eu46 : FA.eval (.tmp 46) = u46 at f46
   have e46 : FA.tmps[46]?.getD undef = u46 := by rw [← eu46]; simp [Act.eval]
   have ev46 := Lib.hid eu46
   clear eu46
   have ev48 : FA.eval (.tmp 48) = .slice A n k := hD 23 48 (by kernel_rfl)
   have e48 : FA.tmps[48]?.getD undef = .slice A n k := by simpa [Act.eval] using ev48
   replace ev48 := Lib.hid ev48
   clear hO hD ho
   obtain ⟨A29, n29, c29, rfl, h29⟩ := f29
   obtain ⟨A33, n33, c33, rfl, h33⟩ := f33
   obtain ⟨A35, n35, c35, rfl, h35⟩ := f35
   obtain ⟨A40, n40, c40, rfl, h40⟩ := f40
   obtain ⟨A43, n43, c43, rfl, h43⟩ := f43
   obtain ⟨A46, n46, c46, rfl, h46⟩ := f46
   go_simp
   refine hK.out _ _ (Ex.alloc _ _) ⟨_, _, _, rfl, ?_⟩
   refine RdL.litW _ _ ?_ ?_
   ·simp [size_plus]
   ·exact .cons ⟨_, _, _, rfl, hr3.plus_ _ _⟩ (.cons ⟨_, _, _, rfl, h29⟩ (.cons ⟨_, _, _, rfl, h33⟩ (.cons ⟨_, _, _, rfl, h35⟩ (.cons ⟨_, _, _, rfl, h40⟩ (.cons ⟨_, _, _, rfl, h43.rb⟩ (.cons ⟨_, _, _, rfl, h46.rb⟩ (.cons ⟨_, _, _, rfl, hr4.plus_ _ _⟩ (.nil))))))))
  | 25, _, ho, hO, hD, hK => 
   obtain rfl := qoi ho
   have f49 := hD 24 49 (by kernel_rfl)
   generalize eu49 : FA.eval (.tmp 49) = u49 at f49
   have e49 : FA.tmps[49]?.getD undef = u49 := by rw [← eu49]; simp [Act.eval]
   have ev49 := Lib.hid eu49
   clear eu49
   clear hO hD ho
   obtain ⟨A1, m1, c1, rfl, hl1⟩ := f49
   have hm1 : m1 ≤ 100 := by obtain ⟨_, _, h2, _⟩ := hl1; simp only [List.length_cons, List.length_nil] at h2; omega
   go_simp
   refine (refJoin_any A1 m1 c1 _ _ hl1 (by omega) HT.out).mono ?_
   rintro e w1 ⟨A2, n2, c2, bs2, d2, rfl, rfl, ho2⟩
   exact hK.out _ _ (Ex.plus_ _ _ _) ⟨_, _, _, rfl, ho2.mono (by simp [size_plus]; omega)⟩
  | (k + 26), hi, _, _, _, _ => exact absurd hi (by omega)
 intro vs x hp
 have p0 : vs 0 = .slice (some ⟨w.heap.size + 1, 0, none⟩) 2 2 := hp 0 (by omega)
 have p1 : vs 1 = .pointer (some ⟨w.heap.size, 1, none⟩) := hp 1 (by omega)
 have p2 : vs 2 = .int .i64 (ln : Int) := hp 2 (by omega)
 have p3 : vs 3 = .int .u64 (ln : Int) := hp 3 (by omega)
 have p4 := hp 4 (by omega)
 have p5 : vs 5 = .pointer (some ⟨w.heap.size, 2, none⟩) := hp 5 (by omega)
 have p6 : vs 6 = .int .u16 (id : Int) := hp 6 (by omega)
 have p7 : vs 7 = .int .u64 (id : Int) := hp 7 (by omega)
 have p8 := hp 8 (by omega)
 have p9 : vs 9 = .int .u64 (p : Int) := hp 9 (by omega)
 have p10 := hp 10 (by omega)
 have p11 : vs 11 = .pointer (some ⟨w.heap.size, 6, none⟩) := hp 11 (by omega)
 have p12 : vs 12 = .int .u8 (tl : Int) := hp 12 (by omega)
 have p13 : vs 13 = .pointer (some ⟨w.heap.size, 7, none⟩) := hp 13 (by omega)
 have p14 : vs 14 = .int .u8 (pr : Int) := hp 14 (by omega)
 have p15 := hp 15 (by omega)
 have p16 : vs 16 = .pointer (some ⟨w.heap.size, 9, none⟩) := hp 16 (by omega)
 have p17 : vs 17 = .agg #[.bool s6, .int .u64 (sh : Int), .int .u64 (sl : Int)] := hp 17 (by omega)
 have p18 := hp 18 (by omega)
 have p19 : vs 19 = .pointer (some ⟨w.heap.size, 12, none⟩) := hp 19 (by omega)
 have p20 : vs 20 = .agg #[.bool d6, .int .u64 (dh : Int), .int .u64 (dl : Int)] := hp 20 (by omega)
 have p21 := hp 21 (by omega)
 have p22 : vs 22 = .pointer (some ⟨w.heap.size, 15, none⟩) := hp 22 (by omega)
 have p23 : vs 23 = .slice A n k := hp 23 (by omega)
 have p24 := hp 24 (by omega)
 have p25 := hp 25 (by omega)
 clear hp
 simp only [List.take_succ_cons, List.take_zero, List.drop_succ_cons, List.drop_zero, putAll, Nat.zero_add, Nat.reduceAdd, Act.put, qsT, qsZ, qsS, p0, p1, p2, p3, p5, p6, p7, p9, p11, p12, p13, p14, p16, p17, p19, p20, p22, p23]
 clear p0 p1 p2 p3 p5 p6 p7 p9 p11 p12 p13 p14 p16 p17 p19 p20 p22 p23
 generalize vs 4 = y4 at *
 generalize vs 8 = y8 at *
 generalize vs 10 = y10 at *
 generalize vs 15 = y15 at *
 generalize vs 18 = y18 at *
 generalize vs 21 = y21 at *
 generalize vs 24 = y24 at *
 generalize vs 25 = y25 at *
 clear vs
 obtain ⟨A9, n9, c9, rfl, h9⟩ := p25
 replace be := belowP be x.bs x.d
 have HF : Hid (ip4R x0 ts ln id p tl pr s6 sh sl d6 dh dl o = ([[UInt8.ofNat x0, UInt8.ofNat ts], (dig (ln) 2), (dig (id) 2), (dig (p) 2), [UInt8.ofNat (tl), UInt8.ofNat (pr), UInt8.ofNat (0), UInt8.ofNat (0)], (adrB s6 sh sl), (adrB d6 dh dl), o]).flatten) := Lib.hid rfl
 rw [← HF.out] at h9
 have h9' := h9.1
 generalize plus ((w.alloc (.cells #[.int .u8 (ts : Int), .int .i64 (ln : Int), .int .u16 (id : Int), .bool false, .bool false, .int .i64 (fo : Int), .int .u8 (tl : Int), .int .u8 (pr : Int), .int .u16 (sm : Int), .bool s6, .int .u64 (sh : Int), .int .u64 (sl : Int), .bool d6, .int .u64 (dh : Int), .int .u64 (dl : Int), .slice A n k] 122)).alloc (.cells #[.int .u8 (x0 : Int), .int .u8 (ts : Int)] 5)) x.bs x.d = W at *
 clear HF
 generalize hLL : ip4R x0 ts ln id p tl pr s6 sh sl d6 dh dl o = LL at *
 replace hLL := Lib.hid hLL
 have HS := Lib.hid (fun w (h : Rb w A9 n9 c9 LL) => refSumOf A9 n9 c9 LL w h (by omega))
 have hs1 : 65535 - fd (tot false LL) ≤ 65535 := Nat.sub_le _ _
 generalize hss : 65535 - fd (tot false LL) = s at *
 replace hss := Lib.hid hss
 have gs : IntKind.u64.wrap (s : Int) = (s : Int) := IntWalk.u64_in _ (by omega)
 have hn9 : 12 ≤ n9 := by omega
 have hn9' : n9 ≤ 1000 := by omega
 go_wp2_with fail
 refine (HS.out _ h9.rb).mono ?_
 rintro e w1 ⟨rfl, rfl⟩
 go_wp2_with fail
 refine (refBytes_any s 2 _ (by omega) (by decide)).mono ?_
 rintro e w1 ⟨A3, n3, c3, bs3, d3, rfl, rfl, ho3⟩
 obtain rfl : n3 = 2 := by rw [← ho3.1, dig_length]
 go_wp2_with fail
 refine (refSet _ _ _ LL 10 _ _ _ _ _ (h9.rb.plus_ _ _) ho3.rb (by omega) (by omega) (by omega)).mono ?_
 rintro e w1 ⟨A4, n4, c4, bs4, d4, rfl, rfl, ho4⟩
 go_wp2
 go_ret
 try rw [hLL.out]
 try rw [hss.out]
 refine RetB.mk (ho4.mono ?_) ?_
 ·have := be.size; simp [size_plus]; omega
 ·with_reducible repeat (first | exact be | refine belowP ?_ _ _)
theorem refIp4Bytes_ny (ts ln id : Nat) (fo tl pr sm : Nat) (s6 : Bool) (sh sl : Nat) (d6 : Bool) (dh dl : Nat) (A : Option Addr) (n k : Nat) (o : List UInt8) (w : World) (hr : Rb w A n k o) (b1 : ts < 256) (b2 : id < 65536) (b3 : tl < 256) (b4 : pr < 256) (k1 : sh < 18446744073709551616) (k2 : sl < 18446744073709551616) (k3 : dh < 18446744073709551616) (k4 : dl < 18446744073709551616) (c1 : n ≤ 40) (c4 : ln ≤ 65535) (c5 : fo ≤ 8191) : Calls Tryz.prog 84 #[.agg (h4C ts (ln : Int) id false true (fo : Int) tl pr sm s6 sh sl d6 dh dl A n k).toArray] w (RetB w (setB (ip4R (69 + o.length / 4) ts ln id (pl4 false true fo) tl pr s6 sh sl d6 dh dl o) 10 (dig (65535 - fd (tot false (ip4R (69 + o.length / 4) ts ln id (pl4 false true fo) tl pr s6 sh sl d6 dh dl o))) 2))) := by
 have z1 := adrB_length s6 sh sl
 have z2 := adrB_length d6 dh dl
 obtain ⟨p, hp⟩ : ∃ p : Nat, p = fo + 8192 := ⟨_, rfl⟩
 have hpl : pl4 false true fo = p := by simp [pl4]; omega
 obtain ⟨q, hq⟩ : ∃ q : Nat, q = n / 4 := ⟨_, rfl⟩
 obtain ⟨x0, hx⟩ : ∃ x : Nat, x = 69 + q := ⟨_, rfl⟩
 have e0 : (n : Int).tdiv 4 = (q : Int) := by rw [Int.tdiv_eq_ediv_of_nonneg (by omega)]; omega
 have e1 : IntKind.i64.wrap (q : Int) = (q : Int) := IntWalk.i64_in _ (by omega)
 have e2 : IntKind.i64.wrap (69 + (q : Int)) = (x0 : Int) := by rw [IntWalk.i64_in _ (by omega)]; omega
 have e3 : IntKind.u8.wrap (x0 : Int) = (x0 : Int) := IntWalk.u8_in _ (by omega)
 have l0 : x0 < 256 := by omega
 have lp : p < 65536 := by omega
 have fp : IntKind.u64.wrap (fo : Int) = (fo : Int) := IntWalk.u64_in _ (by omega)
 have f1 : IntKind.u64.wrap ((fo : Int) + 8192) = (p : Int) := by rw [IntWalk.u64_in _ (by omega)]; omega
 rw [hpl, show 69 + o.length / 4 = x0 from by rw [hr.1]; omega]
 have HT : ([[UInt8.ofNat x0, UInt8.ofNat ts], (dig (ln) 2), (dig (id) 2), (dig (p) 2), [UInt8.ofNat (tl), UInt8.ofNat (pr), UInt8.ofNat (0), UInt8.ofNat (0)], (adrB s6 sh sl), (adrB d6 dh dl), o]).flatten.length ≤ 549755813888 := by simp [dig_length, hr.1]; omega
 have HL : (ip4R x0 ts ln id p tl pr s6 sh sl d6 dh dl o).length ≤ 1000 := by simp [ip4R, dig_length, hr.1]; omega
 have HL2 : 12 ≤ (ip4R x0 ts ln id p tl pr s6 sh sl d6 dh dl o).length := by simp [ip4R, dig_length, hr.1]; omega
 clear hpl hp hq hx
 replace HT := Lib.hid HT
 have hr3 : Rb ((w.alloc (.cells #[.int .u8 (ts : Int), .int .i64 (ln : Int), .int .u16 (id : Int), .bool false, .bool true, .int .i64 (fo : Int), .int .u8 (tl : Int), .int .u8 (pr : Int), .int .u16 (sm : Int), .bool s6, .int .u64 (sh : Int), .int .u64 (sl : Int), .bool d6, .int .u64 (dh : Int), .int .u64 (dl : Int), .slice A n k] 122)).alloc (.cells #[.int .u8 (x0 : Int), .int .u8 (ts : Int)] 5)) (some ⟨w.heap.size + 1, 0, none⟩) 2 2 [UInt8.ofNat x0, UInt8.ofNat ts] := Rb.litW _ _ (by simp) rfl (by decide) (by simp [bcs]; omega)
 have hr4 : Rb ((w.alloc (.cells #[.int .u8 (ts : Int), .int .i64 (ln : Int), .int .u16 (id : Int), .bool false, .bool true, .int .i64 (fo : Int), .int .u8 (tl : Int), .int .u8 (pr : Int), .int .u16 (sm : Int), .bool s6, .int .u64 (sh : Int), .int .u64 (sl : Int), .bool d6, .int .u64 (dh : Int), .int .u64 (dl : Int), .slice A n k] 122)).alloc (.cells #[.int .u8 (x0 : Int), .int .u8 (ts : Int)] 5)) A n k o := (hr.alloc _).alloc _
 have be : Below w.heap.size w ((w.alloc (.cells #[.int .u8 (ts : Int), .int .i64 (ln : Int), .int .u16 (id : Int), .bool false, .bool true, .int .i64 (fo : Int), .int .u8 (tl : Int), .int .u8 (pr : Int), .int .u16 (sm : Int), .bool s6, .int .u64 (sh : Int), .int .u64 (sl : Int), .bool d6, .int .u64 (dh : Int), .int .u64 (dl : Int), .slice A n k] 122)).alloc (.cells #[.int .u8 (x0 : Int), .int .u8 (ts : Int)] 5)) := Below.allocS (Below.allocS (Below.refl _ _) _) _
 have g0 : IntKind.u64.wrap (ln : Int) = (ln : Int) := IntWalk.u64_in _ (by omega)
 have g1 : IntKind.u64.wrap (id : Int) = (id : Int) := IntWalk.u64_in _ (by omega)
 unfold h4C
 go_enter Tryz.func84, Tryz.ntmps84
 go_wp2
 refine wp_rel 26 57 rfl (by kernel_rfl) (by kernel_rfl) (fun i => match i with | 0 => MP.eq (.slice (some ⟨w.heap.size + 1, 0, none⟩) 2 2) | 1 => MP.eq (.pointer (some ⟨w.heap.size, 1, none⟩)) | 2 => MP.eq (.int .i64 (ln : Int)) | 3 => MP.eq (.int .u64 (ln : Int)) | 4 => MP.rb (dig (ln) 2) | 5 => MP.eq (.pointer (some ⟨w.heap.size, 2, none⟩)) | 6 => MP.eq (.int .u16 (id : Int)) | 7 => MP.eq (.int .u64 (id : Int)) | 8 => MP.rb (dig (id) 2) | 9 => MP.eq (.int .u64 (p : Int)) | 10 => MP.rb (dig (p) 2) | 11 => MP.eq (.pointer (some ⟨w.heap.size, 6, none⟩)) | 12 => MP.eq (.int .u8 (tl : Int)) | 13 => MP.eq (.pointer (some ⟨w.heap.size, 7, none⟩)) | 14 => MP.eq (.int .u8 (pr : Int)) | 15 => MP.rb [UInt8.ofNat (tl), UInt8.ofNat (pr), UInt8.ofNat (0), UInt8.ofNat (0)] | 16 => MP.eq (.pointer (some ⟨w.heap.size, 9, none⟩)) | 17 => MP.eq (.agg #[.bool s6, .int .u64 (sh : Int), .int .u64 (sl : Int)]) | 18 => MP.ob w.heap.size (adrB s6 sh sl) | 19 => MP.eq (.pointer (some ⟨w.heap.size, 12, none⟩)) | 20 => MP.eq (.agg #[.bool d6, .int .u64 (dh : Int), .int .u64 (dl : Int)]) | 21 => MP.ob w.heap.size (adrB d6 dh dl) | 22 => MP.eq (.pointer (some ⟨w.heap.size, 15, none⟩)) | 23 => MP.eq (.slice A n k) | 24 => MP.rdl [[UInt8.ofNat x0, UInt8.ofNat ts], (dig (ln) 2), (dig (id) 2), (dig (p) 2), [UInt8.ofNat (tl), UInt8.ofNat (pr), UInt8.ofNat (0), UInt8.ofNat (0)], (adrB s6 sh sl), (adrB d6 dh dl), o] | 25 => MP.ob w.heap.size ([[UInt8.ofNat x0, UInt8.ofNat ts], (dig (ln) 2), (dig (id) 2), (dig (p) 2), [UInt8.ofNat (tl), UInt8.ofNat (pr), UInt8.ofNat (0), UInt8.ofNat (0)], (adrB s6 sh sl), (adrB d6 dh dl), o]).flatten | _ => MP.any) ?_ ?_
 ·intro i hi o ho FA x hO hD K hK
  match i, hi, ho, hO, hD, hK with
  | 0, _, ho, hO, hD, hK => 
   obtain rfl := qoi ho
   have ev4 : FA.eval (.tmp 4) = .slice (some ⟨w.heap.size + 1, 0, none⟩) 2 2 := hO 4 (by kernel_rfl)
   have e4 : FA.tmps[4]?.getD undef = .slice (some ⟨w.heap.size + 1, 0, none⟩) 2 2 := by simpa [Act.eval] using ev4
   replace ev4 := Lib.hid ev4
   clear hO hD ho
   go_simp
   exact hK.out _ _ (Ex.refl _) rfl
  | 1, _, ho, hO, hD, hK => 
   obtain rfl := qoi ho
   have ev1 : FA.eval (.tmp 1) = .pointer (some ⟨w.heap.size, 0, none⟩) := hO 1 (by kernel_rfl)
   have e1 : FA.tmps[1]?.getD undef = .pointer (some ⟨w.heap.size, 0, none⟩) := by simpa [Act.eval] using ev1
   replace ev1 := Lib.hid ev1
   clear hO hD ho
   go_simp
   exact hK.out _ _ (Ex.refl _) rfl
  | 2, _, ho, hO, hD, hK => 
   obtain rfl := qoi ho
   have ev26 : FA.eval (.tmp 26) = .pointer (some ⟨w.heap.size, 1, none⟩) := hD 1 26 (by kernel_rfl)
   have e26 : FA.tmps[26]?.getD undef = .pointer (some ⟨w.heap.size, 1, none⟩) := by simpa [Act.eval] using ev26
   replace ev26 := Lib.hid ev26
   clear hO hD ho
   go_simp
   exact hK.out _ _ (Ex.refl _) rfl
  | 3, _, ho, hO, hD, hK => 
   obtain rfl := qoi ho
   have ev27 : FA.eval (.tmp 27) = .int .i64 (ln : Int) := hD 2 27 (by kernel_rfl)
   have e27 : FA.tmps[27]?.getD undef = .int .i64 (ln : Int) := by simpa [Act.eval] using ev27
   replace ev27 := Lib.hid ev27
   clear hO hD ho
   go_simp
   exact hK.out _ _ (Ex.refl _) rfl
  | 4, _, ho, hO, hD, hK => 
   obtain rfl := qoi ho
   have ev28 : FA.eval (.tmp 28) = .int .u64 (ln : Int) := hD 3 28 (by kernel_rfl)
   have e28 : FA.tmps[28]?.getD undef = .int .u64 (ln : Int) := by simpa [Act.eval] using ev28
   replace ev28 := Lib.hid ev28
   clear hO hD ho
   go_simp
   refine (refBytes_any (ln) 2 _ (by omega) (by omega)).mono ?_
   rintro e w1 ⟨A2, n2, c2, bs2, d2, rfl, rfl, ho2⟩
   exact hK.out _ _ (Ex.plus_ _ _ _) ⟨_, _, _, rfl, ho2.rb⟩
  | 5, _, ho, hO, hD, hK => 
   obtain rfl := qoi ho
   have ev1 : FA.eval (.tmp 1) = .pointer (some ⟨w.heap.size, 0, none⟩) := hO 1 (by kernel_rfl)
   have e1 : FA.tmps[1]?.getD undef = .pointer (some ⟨w.heap.size, 0, none⟩) := by simpa [Act.eval] using ev1
   replace ev1 := Lib.hid ev1
   clear hO hD ho
   go_simp
   exact hK.out _ _ (Ex.refl _) rfl
  | 6, _, ho, hO, hD, hK => 
   obtain rfl := qoi ho
   have ev30 : FA.eval (.tmp 30) = .pointer (some ⟨w.heap.size, 2, none⟩) := hD 5 30 (by kernel_rfl)
   have e30 : FA.tmps[30]?.getD undef = .pointer (some ⟨w.heap.size, 2, none⟩) := by simpa [Act.eval] using ev30
   replace ev30 := Lib.hid ev30
   clear hO hD ho
   go_simp
   exact hK.out _ _ (Ex.refl _) rfl
  | 7, _, ho, hO, hD, hK => 
   obtain rfl := qoi ho
   have ev31 : FA.eval (.tmp 31) = .int .u16 (id : Int) := hD 6 31 (by kernel_rfl)
   have e31 : FA.tmps[31]?.getD undef = .int .u16 (id : Int) := by simpa [Act.eval] using ev31
   replace ev31 := Lib.hid ev31
   clear hO hD ho
   go_simp
   exact hK.out _ _ (Ex.refl _) rfl
  | 8, _, ho, hO, hD, hK => 
   obtain rfl := qoi ho
   have ev32 : FA.eval (.tmp 32) = .int .u64 (id : Int) := hD 7 32 (by kernel_rfl)
   have e32 : FA.tmps[32]?.getD undef = .int .u64 (id : Int) := by simpa [Act.eval] using ev32
   replace ev32 := Lib.hid ev32
   clear hO hD ho
   go_simp
   refine (refBytes_any (id) 2 _ (by omega) (by omega)).mono ?_
   rintro e w1 ⟨A2, n2, c2, bs2, d2, rfl, rfl, ho2⟩
   exact hK.out _ _ (Ex.plus_ _ _ _) ⟨_, _, _, rfl, ho2.rb⟩
  | 9, _, ho, hO, hD, hK => 
   obtain rfl := qoi ho
   have ev3 : FA.eval (.tmp 3) = .int .u64 (p : Int) := hO 3 (by kernel_rfl)
   have e3 : FA.tmps[3]?.getD undef = .int .u64 (p : Int) := by simpa [Act.eval] using ev3
   replace ev3 := Lib.hid ev3
   clear hO hD ho
   go_simp
   exact hK.out _ _ (Ex.refl _) rfl
  | 10, _, ho, hO, hD, hK => 
   obtain rfl := qoi ho
   have ev34 : FA.eval (.tmp 34) = .int .u64 (p : Int) := hD 9 34 (by kernel_rfl)
   have e34 : FA.tmps[34]?.getD undef = .int .u64 (p : Int) := by simpa [Act.eval] using ev34
   replace ev34 := Lib.hid ev34
   clear hO hD ho
   go_simp
   refine (refBytes_any (p) 2 _ (by omega) (by omega)).mono ?_
   rintro e w1 ⟨A2, n2, c2, bs2, d2, rfl, rfl, ho2⟩
   exact hK.out _ _ (Ex.plus_ _ _ _) ⟨_, _, _, rfl, ho2.rb⟩
  | 11, _, ho, hO, hD, hK => 
   obtain rfl := qoi ho
   have ev1 : FA.eval (.tmp 1) = .pointer (some ⟨w.heap.size, 0, none⟩) := hO 1 (by kernel_rfl)
   have e1 : FA.tmps[1]?.getD undef = .pointer (some ⟨w.heap.size, 0, none⟩) := by simpa [Act.eval] using ev1
   replace ev1 := Lib.hid ev1
   clear hO hD ho
   go_simp
   exact hK.out _ _ (Ex.refl _) rfl
  | 12, _, ho, hO, hD, hK => 
   obtain rfl := qoi ho
   have ev36 : FA.eval (.tmp 36) = .pointer (some ⟨w.heap.size, 6, none⟩) := hD 11 36 (by kernel_rfl)
   have e36 : FA.tmps[36]?.getD undef = .pointer (some ⟨w.heap.size, 6, none⟩) := by simpa [Act.eval] using ev36
   replace ev36 := Lib.hid ev36
   clear hO hD ho
   go_simp
   exact hK.out _ _ (Ex.refl _) rfl
  | 13, _, ho, hO, hD, hK => 
   obtain rfl := qoi ho
   have ev1 : FA.eval (.tmp 1) = .pointer (some ⟨w.heap.size, 0, none⟩) := hO 1 (by kernel_rfl)
   have e1 : FA.tmps[1]?.getD undef = .pointer (some ⟨w.heap.size, 0, none⟩) := by simpa [Act.eval] using ev1
   replace ev1 := Lib.hid ev1
   clear hO hD ho
   go_simp
   exact hK.out _ _ (Ex.refl _) rfl
  | 14, _, ho, hO, hD, hK => 
   obtain rfl := qoi ho
   have ev38 : FA.eval (.tmp 38) = .pointer (some ⟨w.heap.size, 7, none⟩) := hD 13 38 (by kernel_rfl)
   have e38 : FA.tmps[38]?.getD undef = .pointer (some ⟨w.heap.size, 7, none⟩) := by simpa [Act.eval] using ev38
   replace ev38 := Lib.hid ev38
   clear hO hD ho
   go_simp
   exact hK.out _ _ (Ex.refl _) rfl
  | 15, _, ho, hO, hD, hK => 
   obtain rfl := qoi ho
   have ev37 : FA.eval (.tmp 37) = .int .u8 (tl : Int) := hD 12 37 (by kernel_rfl)
   have e37 : FA.tmps[37]?.getD undef = .int .u8 (tl : Int) := by simpa [Act.eval] using ev37
   replace ev37 := Lib.hid ev37
   have ev39 : FA.eval (.tmp 39) = .int .u8 (pr : Int) := hD 14 39 (by kernel_rfl)
   have e39 : FA.tmps[39]?.getD undef = .int .u8 (pr : Int) := by simpa [Act.eval] using ev39
   replace ev39 := Lib.hid ev39
   clear hO hD ho
   go_simp
   refine hK.out _ _ (Ex.alloc _ _) ⟨_, _, _, rfl, ?_⟩
   refine Rb.litW _ [UInt8.ofNat (tl), UInt8.ofNat (pr), UInt8.ofNat (0), UInt8.ofNat (0)] ?_ rfl (by decide) ?_
   ·simp [size_plus]
   ·simp [bcs]; try omega
  | 16, _, ho, hO, hD, hK => 
   obtain rfl := qoi ho
   have ev1 : FA.eval (.tmp 1) = .pointer (some ⟨w.heap.size, 0, none⟩) := hO 1 (by kernel_rfl)
   have e1 : FA.tmps[1]?.getD undef = .pointer (some ⟨w.heap.size, 0, none⟩) := by simpa [Act.eval] using ev1
   replace ev1 := Lib.hid ev1
   clear hO hD ho
   go_simp
   exact hK.out _ _ (Ex.refl _) rfl
  | 17, _, ho, hO, hD, hK => 
   obtain rfl := qoi ho
   have ev41 : FA.eval (.tmp 41) = .pointer (some ⟨w.heap.size, 9, none⟩) := hD 16 41 (by kernel_rfl)
   have e41 : FA.tmps[41]?.getD undef = .pointer (some ⟨w.heap.size, 9, none⟩) := by simpa [Act.eval] using ev41
   replace ev41 := Lib.hid ev41
   clear hO hD ho
   go_simp
   exact hK.out _ _ (Ex.refl _) rfl
  | 18, _, ho, hO, hD, hK => 
   obtain rfl := qoi ho
   have ev42 : FA.eval (.tmp 42) = .agg #[.bool s6, .int .u64 (sh : Int), .int .u64 (sl : Int)] := hD 17 42 (by kernel_rfl)
   have e42 : FA.tmps[42]?.getD undef = .agg #[.bool s6, .int .u64 (sh : Int), .int .u64 (sl : Int)] := by simpa [Act.eval] using ev42
   replace ev42 := Lib.hid ev42
   clear hO hD ho
   go_simp
   refine (refAdrBytes s6 sh sl _ (by omega) (by omega)).mono ?_
   rintro e w1 ⟨A2, n2, c2, bs2, d2, rfl, rfl, ho2⟩
   exact hK.out _ _ (Ex.plus_ _ _ _) ⟨_, _, _, rfl, ho2.mono (by have := be.size; simp [size_plus]; omega)⟩
  | 19, _, ho, hO, hD, hK => 
   obtain rfl := qoi ho
   have ev1 : FA.eval (.tmp 1) = .pointer (some ⟨w.heap.size, 0, none⟩) := hO 1 (by kernel_rfl)
   have e1 : FA.tmps[1]?.getD undef = .pointer (some ⟨w.heap.size, 0, none⟩) := by simpa [Act.eval] using ev1
   replace ev1 := Lib.hid ev1
   clear hO hD ho
   go_simp
   exact hK.out _ _ (Ex.refl _) rfl
  | 20, _, ho, hO, hD, hK => 
   obtain rfl := qoi ho
   have ev44 : FA.eval (.tmp 44) = .pointer (some ⟨w.heap.size, 12, none⟩) := hD 19 44 (by kernel_rfl)
   have e44 : FA.tmps[44]?.getD undef = .pointer (some ⟨w.heap.size, 12, none⟩) := by simpa [Act.eval] using ev44
   replace ev44 := Lib.hid ev44
   clear hO hD ho
   go_simp
   exact hK.out _ _ (Ex.refl _) rfl
  | 21, _, ho, hO, hD, hK => 
   obtain rfl := qoi ho
   have ev45 : FA.eval (.tmp 45) = .agg #[.bool d6, .int .u64 (dh : Int), .int .u64 (dl : Int)] := hD 20 45 (by kernel_rfl)
   have e45 : FA.tmps[45]?.getD undef = .agg #[.bool d6, .int .u64 (dh : Int), .int .u64 (dl : Int)] := by simpa [Act.eval] using ev45
   replace ev45 := Lib.hid ev45
   clear hO hD ho
   go_simp
   refine (refAdrBytes d6 dh dl _ (by omega) (by omega)).mono ?_
   rintro e w1 ⟨A2, n2, c2, bs2, d2, rfl, rfl, ho2⟩
   exact hK.out _ _ (Ex.plus_ _ _ _) ⟨_, _, _, rfl, ho2.mono (by have := be.size; simp [size_plus]; omega)⟩
  | 22, _, ho, hO, hD, hK => 
   obtain rfl := qoi ho
   have ev1 : FA.eval (.tmp 1) = .pointer (some ⟨w.heap.size, 0, none⟩) := hO 1 (by kernel_rfl)
   have e1 : FA.tmps[1]?.getD undef = .pointer (some ⟨w.heap.size, 0, none⟩) := by simpa [Act.eval] using ev1
   replace ev1 := Lib.hid ev1
   clear hO hD ho
   go_simp
   exact hK.out _ _ (Ex.refl _) rfl
  | 23, _, ho, hO, hD, hK => 
   obtain rfl := qoi ho
   have ev47 : FA.eval (.tmp 47) = .pointer (some ⟨w.heap.size, 15, none⟩) := hD 22 47 (by kernel_rfl)
   have e47 : FA.tmps[47]?.getD undef = .pointer (some ⟨w.heap.size, 15, none⟩) := by simpa [Act.eval] using ev47
   replace ev47 := Lib.hid ev47
   clear hO hD ho
   go_simp
   exact hK.out _ _ (Ex.refl _) rfl
  | 24, _, ho, hO, hD, hK => 
   obtain rfl := qoi ho
   have ev25 : FA.eval (.tmp 25) = .slice (some ⟨w.heap.size + 1, 0, none⟩) 2 2 := hD 0 25 (by kernel_rfl)
   have e25 : FA.tmps[25]?.getD undef = .slice (some ⟨w.heap.size + 1, 0, none⟩) 2 2 := by simpa [Act.eval] using ev25
   replace ev25 := Lib.hid ev25
   have f29 := hD 4 29 (by kernel_rfl)
   generalize eu29 : FA.eval (.tmp 29) = u29 at f29
   have e29 : FA.tmps[29]?.getD undef = u29 := by rw [← eu29]; simp [Act.eval]
   have ev29 := Lib.hid eu29
   clear eu29
   have f33 := hD 8 33 (by kernel_rfl)
   generalize eu33 : FA.eval (.tmp 33) = u33 at f33
   have e33 : FA.tmps[33]?.getD undef = u33 := by rw [← eu33]; simp [Act.eval]
   have ev33 := Lib.hid eu33
   clear eu33
   have f35 := hD 10 35 (by kernel_rfl)
   generalize eu35 : FA.eval (.tmp 35) = u35 at f35
   have e35 : FA.tmps[35]?.getD undef = u35 := by rw [← eu35]; simp [Act.eval]
   have ev35 := Lib.hid eu35
   clear eu35
   have f40 := hD 15 40 (by kernel_rfl)
   generalize eu40 : FA.eval (.tmp 40) = u40 at f40
   have e40 : FA.tmps[40]?.getD undef = u40 := by rw [← eu40]; simp [Act.eval]
   have ev40 := Lib.hid eu40
   clear eu40
   have f43 := hD 18 43 (by kernel_rfl)
   generalize eu43 : FA.eval (.tmp 43) = u43 at f43
   have e43 : FA.tmps[43]?.getD undef = u43 := by rw [← eu43]; simp [Act.eval]
   have ev43 := Lib.hid eu43
   clear eu43
   have f46 := hD 21 46 (by kernel_rfl)
   generalize eu46 : FA.eval (.tmp 46) = u46 at f46
   have e46 : FA.tmps[46]?.getD undef = u46 := by rw [← eu46]; simp [Act.eval]
   have ev46 := Lib.hid eu46
   clear eu46
   have ev48 : FA.eval (.tmp 48) = .slice A n k := hD 23 48 (by kernel_rfl)
   have e48 : FA.tmps[48]?.getD undef = .slice A n k := by simpa [Act.eval] using ev48
   replace ev48 := Lib.hid ev48
   clear hO hD ho
   obtain ⟨A29, n29, c29, rfl, h29⟩ := f29
   obtain ⟨A33, n33, c33, rfl, h33⟩ := f33
   obtain ⟨A35, n35, c35, rfl, h35⟩ := f35
   obtain ⟨A40, n40, c40, rfl, h40⟩ := f40
   obtain ⟨A43, n43, c43, rfl, h43⟩ := f43
   obtain ⟨A46, n46, c46, rfl, h46⟩ := f46
   go_simp
   refine hK.out _ _ (Ex.alloc _ _) ⟨_, _, _, rfl, ?_⟩
   refine RdL.litW _ _ ?_ ?_
   ·simp [size_plus]
   ·exact .cons ⟨_, _, _, rfl, hr3.plus_ _ _⟩ (.cons ⟨_, _, _, rfl, h29⟩ (.cons ⟨_, _, _, rfl, h33⟩ (.cons ⟨_, _, _, rfl, h35⟩ (.cons ⟨_, _, _, rfl, h40⟩ (.cons ⟨_, _, _, rfl, h43.rb⟩ (.cons ⟨_, _, _, rfl, h46.rb⟩ (.cons ⟨_, _, _, rfl, hr4.plus_ _ _⟩ (.nil))))))))
  | 25, _, ho, hO, hD, hK => 
   obtain rfl := qoi ho
   have f49 := hD 24 49 (by kernel_rfl)
   generalize eu49 : FA.eval (.tmp 49) = u49 at f49
   have e49 : FA.tmps[49]?.getD undef = u49 := by rw [← eu49]; simp [Act.eval]
   have ev49 := Lib.hid eu49
   clear eu49
   clear hO hD ho
   obtain ⟨A1, m1, c1, rfl, hl1⟩ := f49
   have hm1 : m1 ≤ 100 := by obtain ⟨_, _, h2, _⟩ := hl1; simp only [List.length_cons, List.length_nil] at h2; omega
   go_simp
   refine (refJoin_any A1 m1 c1 _ _ hl1 (by omega) HT.out).mono ?_
   rintro e w1 ⟨A2, n2, c2, bs2, d2, rfl, rfl, ho2⟩
   exact hK.out _ _ (Ex.plus_ _ _ _) ⟨_, _, _, rfl, ho2.mono (by simp [size_plus]; omega)⟩
  | (k + 26), hi, _, _, _, _ => exact absurd hi (by omega)
 intro vs x hp
 have p0 : vs 0 = .slice (some ⟨w.heap.size + 1, 0, none⟩) 2 2 := hp 0 (by omega)
 have p1 : vs 1 = .pointer (some ⟨w.heap.size, 1, none⟩) := hp 1 (by omega)
 have p2 : vs 2 = .int .i64 (ln : Int) := hp 2 (by omega)
 have p3 : vs 3 = .int .u64 (ln : Int) := hp 3 (by omega)
 have p4 := hp 4 (by omega)
 have p5 : vs 5 = .pointer (some ⟨w.heap.size, 2, none⟩) := hp 5 (by omega)
 have p6 : vs 6 = .int .u16 (id : Int) := hp 6 (by omega)
 have p7 : vs 7 = .int .u64 (id : Int) := hp 7 (by omega)
 have p8 := hp 8 (by omega)
 have p9 : vs 9 = .int .u64 (p : Int) := hp 9 (by omega)
 have p10 := hp 10 (by omega)
 have p11 : vs 11 = .pointer (some ⟨w.heap.size, 6, none⟩) := hp 11 (by omega)
 have p12 : vs 12 = .int .u8 (tl : Int) := hp 12 (by omega)
 have p13 : vs 13 = .pointer (some ⟨w.heap.size, 7, none⟩) := hp 13 (by omega)
 have p14 : vs 14 = .int .u8 (pr : Int) := hp 14 (by omega)
 have p15 := hp 15 (by omega)
 have p16 : vs 16 = .pointer (some ⟨w.heap.size, 9, none⟩) := hp 16 (by omega)
 have p17 : vs 17 = .agg #[.bool s6, .int .u64 (sh : Int), .int .u64 (sl : Int)] := hp 17 (by omega)
 have p18 := hp 18 (by omega)
 have p19 : vs 19 = .pointer (some ⟨w.heap.size, 12, none⟩) := hp 19 (by omega)
 have p20 : vs 20 = .agg #[.bool d6, .int .u64 (dh : Int), .int .u64 (dl : Int)] := hp 20 (by omega)
 have p21 := hp 21 (by omega)
 have p22 : vs 22 = .pointer (some ⟨w.heap.size, 15, none⟩) := hp 22 (by omega)
 have p23 : vs 23 = .slice A n k := hp 23 (by omega)
 have p24 := hp 24 (by omega)
 have p25 := hp 25 (by omega)
 clear hp
 simp only [List.take_succ_cons, List.take_zero, List.drop_succ_cons, List.drop_zero, putAll, Nat.zero_add, Nat.reduceAdd, Act.put, qsT, qsZ, qsS, p0, p1, p2, p3, p5, p6, p7, p9, p11, p12, p13, p14, p16, p17, p19, p20, p22, p23]
 clear p0 p1 p2 p3 p5 p6 p7 p9 p11 p12 p13 p14 p16 p17 p19 p20 p22 p23
 generalize vs 4 = y4 at *
 generalize vs 8 = y8 at *
 generalize vs 10 = y10 at *
 generalize vs 15 = y15 at *
 generalize vs 18 = y18 at *
 generalize vs 21 = y21 at *
 generalize vs 24 = y24 at *
 generalize vs 25 = y25 at *
 clear vs
 obtain ⟨A9, n9, c9, rfl, h9⟩ := p25
 replace be := belowP be x.bs x.d
 have HF : Hid (ip4R x0 ts ln id p tl pr s6 sh sl d6 dh dl o = ([[UInt8.ofNat x0, UInt8.ofNat ts], (dig (ln) 2), (dig (id) 2), (dig (p) 2), [UInt8.ofNat (tl), UInt8.ofNat (pr), UInt8.ofNat (0), UInt8.ofNat (0)], (adrB s6 sh sl), (adrB d6 dh dl), o]).flatten) := Lib.hid rfl
 rw [← HF.out] at h9
 have h9' := h9.1
 generalize plus ((w.alloc (.cells #[.int .u8 (ts : Int), .int .i64 (ln : Int), .int .u16 (id : Int), .bool false, .bool true, .int .i64 (fo : Int), .int .u8 (tl : Int), .int .u8 (pr : Int), .int .u16 (sm : Int), .bool s6, .int .u64 (sh : Int), .int .u64 (sl : Int), .bool d6, .int .u64 (dh : Int), .int .u64 (dl : Int), .slice A n k] 122)).alloc (.cells #[.int .u8 (x0 : Int), .int .u8 (ts : Int)] 5)) x.bs x.d = W at *
 clear HF
 generalize hLL : ip4R x0 ts ln id p tl pr s6 sh sl d6 dh dl o = LL at *
 replace hLL := Lib.hid hLL
 have HS := Lib.hid (fun w (h : Rb w A9 n9 c9 LL) => refSumOf A9 n9 c9 LL w h (by omega))
 have hs1 : 65535 - fd (tot false LL) ≤ 65535 := Nat.sub_le _ _
 generalize hss : 65535 - fd (tot false LL) = s at *
 replace hss := Lib.hid hss
 have gs : IntKind.u64.wrap (s : Int) = (s : Int) := IntWalk.u64_in _ (by omega)
 have hn9 : 12 ≤ n9 := by omega
 have hn9' : n9 ≤ 1000 := by omega
 go_wp2_with fail
 refine (HS.out _ h9.rb).mono ?_
 rintro e w1 ⟨rfl, rfl⟩
 go_wp2_with fail
 refine (refBytes_any s 2 _ (by omega) (by decide)).mono ?_
 rintro e w1 ⟨A3, n3, c3, bs3, d3, rfl, rfl, ho3⟩
 obtain rfl : n3 = 2 := by rw [← ho3.1, dig_length]
 go_wp2_with fail
 refine (refSet _ _ _ LL 10 _ _ _ _ _ (h9.rb.plus_ _ _) ho3.rb (by omega) (by omega) (by omega)).mono ?_
 rintro e w1 ⟨A4, n4, c4, bs4, d4, rfl, rfl, ho4⟩
 go_wp2
 go_ret
 try rw [hLL.out]
 try rw [hss.out]
 refine RetB.mk (ho4.mono ?_) ?_
 ·have := be.size; simp [size_plus]; omega
 ·with_reducible repeat (first | exact be | refine belowP ?_ _ _)
theorem refIp4Bytes_yn (ts ln id : Nat) (fo tl pr sm : Nat) (s6 : Bool) (sh sl : Nat) (d6 : Bool) (dh dl : Nat) (A : Option Addr) (n k : Nat) (o : List UInt8) (w : World) (hr : Rb w A n k o) (b1 : ts < 256) (b2 : id < 65536) (b3 : tl < 256) (b4 : pr < 256) (k1 : sh < 18446744073709551616) (k2 : sl < 18446744073709551616) (k3 : dh < 18446744073709551616) (k4 : dl < 18446744073709551616) (c1 : n ≤ 40) (c4 : ln ≤ 65535) (c5 : fo ≤ 8191) : Calls Tryz.prog 84 #[.agg (h4C ts (ln : Int) id true false (fo : Int) tl pr sm s6 sh sl d6 dh dl A n k).toArray] w (RetB w (setB (ip4R (69 + o.length / 4) ts ln id (pl4 true false fo) tl pr s6 sh sl d6 dh dl o) 10 (dig (65535 - fd (tot false (ip4R (69 + o.length / 4) ts ln id (pl4 true false fo) tl pr s6 sh sl d6 dh dl o))) 2))) := by
 have z1 := adrB_length s6 sh sl
 have z2 := adrB_length d6 dh dl
 obtain ⟨p, hp⟩ : ∃ p : Nat, p = fo + 16384 := ⟨_, rfl⟩
 have hpl : pl4 true false fo = p := by simp [pl4]; omega
 obtain ⟨q, hq⟩ : ∃ q : Nat, q = n / 4 := ⟨_, rfl⟩
 obtain ⟨x0, hx⟩ : ∃ x : Nat, x = 69 + q := ⟨_, rfl⟩
 have e0 : (n : Int).tdiv 4 = (q : Int) := by rw [Int.tdiv_eq_ediv_of_nonneg (by omega)]; omega
 have e1 : IntKind.i64.wrap (q : Int) = (q : Int) := IntWalk.i64_in _ (by omega)
 have e2 : IntKind.i64.wrap (69 + (q : Int)) = (x0 : Int) := by rw [IntWalk.i64_in _ (by omega)]; omega
 have e3 : IntKind.u8.wrap (x0 : Int) = (x0 : Int) := IntWalk.u8_in _ (by omega)
 have l0 : x0 < 256 := by omega
 have lp : p < 65536 := by omega
 have fp : IntKind.u64.wrap (fo : Int) = (fo : Int) := IntWalk.u64_in _ (by omega)
 have f1 : IntKind.u64.wrap ((fo : Int) + 16384) = (p : Int) := by rw [IntWalk.u64_in _ (by omega)]; omega
 rw [hpl, show 69 + o.length / 4 = x0 from by rw [hr.1]; omega]
 have HT : ([[UInt8.ofNat x0, UInt8.ofNat ts], (dig (ln) 2), (dig (id) 2), (dig (p) 2), [UInt8.ofNat (tl), UInt8.ofNat (pr), UInt8.ofNat (0), UInt8.ofNat (0)], (adrB s6 sh sl), (adrB d6 dh dl), o]).flatten.length ≤ 549755813888 := by simp [dig_length, hr.1]; omega
 have HL : (ip4R x0 ts ln id p tl pr s6 sh sl d6 dh dl o).length ≤ 1000 := by simp [ip4R, dig_length, hr.1]; omega
 have HL2 : 12 ≤ (ip4R x0 ts ln id p tl pr s6 sh sl d6 dh dl o).length := by simp [ip4R, dig_length, hr.1]; omega
 clear hpl hp hq hx
 replace HT := Lib.hid HT
 have hr3 : Rb ((w.alloc (.cells #[.int .u8 (ts : Int), .int .i64 (ln : Int), .int .u16 (id : Int), .bool true, .bool false, .int .i64 (fo : Int), .int .u8 (tl : Int), .int .u8 (pr : Int), .int .u16 (sm : Int), .bool s6, .int .u64 (sh : Int), .int .u64 (sl : Int), .bool d6, .int .u64 (dh : Int), .int .u64 (dl : Int), .slice A n k] 122)).alloc (.cells #[.int .u8 (x0 : Int), .int .u8 (ts : Int)] 5)) (some ⟨w.heap.size + 1, 0, none⟩) 2 2 [UInt8.ofNat x0, UInt8.ofNat ts] := Rb.litW _ _ (by simp) rfl (by decide) (by simp [bcs]; omega)
 have hr4 : Rb ((w.alloc (.cells #[.int .u8 (ts : Int), .int .i64 (ln : Int), .int .u16 (id : Int), .bool true, .bool false, .int .i64 (fo : Int), .int .u8 (tl : Int), .int .u8 (pr : Int), .int .u16 (sm : Int), .bool s6, .int .u64 (sh : Int), .int .u64 (sl : Int), .bool d6, .int .u64 (dh : Int), .int .u64 (dl : Int), .slice A n k] 122)).alloc (.cells #[.int .u8 (x0 : Int), .int .u8 (ts : Int)] 5)) A n k o := (hr.alloc _).alloc _
 have be : Below w.heap.size w ((w.alloc (.cells #[.int .u8 (ts : Int), .int .i64 (ln : Int), .int .u16 (id : Int), .bool true, .bool false, .int .i64 (fo : Int), .int .u8 (tl : Int), .int .u8 (pr : Int), .int .u16 (sm : Int), .bool s6, .int .u64 (sh : Int), .int .u64 (sl : Int), .bool d6, .int .u64 (dh : Int), .int .u64 (dl : Int), .slice A n k] 122)).alloc (.cells #[.int .u8 (x0 : Int), .int .u8 (ts : Int)] 5)) := Below.allocS (Below.allocS (Below.refl _ _) _) _
 have g0 : IntKind.u64.wrap (ln : Int) = (ln : Int) := IntWalk.u64_in _ (by omega)
 have g1 : IntKind.u64.wrap (id : Int) = (id : Int) := IntWalk.u64_in _ (by omega)
 unfold h4C
 go_enter Tryz.func84, Tryz.ntmps84
 go_wp2
 refine wp_rel 26 57 rfl (by kernel_rfl) (by kernel_rfl) (fun i => match i with | 0 => MP.eq (.slice (some ⟨w.heap.size + 1, 0, none⟩) 2 2) | 1 => MP.eq (.pointer (some ⟨w.heap.size, 1, none⟩)) | 2 => MP.eq (.int .i64 (ln : Int)) | 3 => MP.eq (.int .u64 (ln : Int)) | 4 => MP.rb (dig (ln) 2) | 5 => MP.eq (.pointer (some ⟨w.heap.size, 2, none⟩)) | 6 => MP.eq (.int .u16 (id : Int)) | 7 => MP.eq (.int .u64 (id : Int)) | 8 => MP.rb (dig (id) 2) | 9 => MP.eq (.int .u64 (p : Int)) | 10 => MP.rb (dig (p) 2) | 11 => MP.eq (.pointer (some ⟨w.heap.size, 6, none⟩)) | 12 => MP.eq (.int .u8 (tl : Int)) | 13 => MP.eq (.pointer (some ⟨w.heap.size, 7, none⟩)) | 14 => MP.eq (.int .u8 (pr : Int)) | 15 => MP.rb [UInt8.ofNat (tl), UInt8.ofNat (pr), UInt8.ofNat (0), UInt8.ofNat (0)] | 16 => MP.eq (.pointer (some ⟨w.heap.size, 9, none⟩)) | 17 => MP.eq (.agg #[.bool s6, .int .u64 (sh : Int), .int .u64 (sl : Int)]) | 18 => MP.ob w.heap.size (adrB s6 sh sl) | 19 => MP.eq (.pointer (some ⟨w.heap.size, 12, none⟩)) | 20 => MP.eq (.agg #[.bool d6, .int .u64 (dh : Int), .int .u64 (dl : Int)]) | 21 => MP.ob w.heap.size (adrB d6 dh dl) | 22 => MP.eq (.pointer (some ⟨w.heap.size, 15, none⟩)) | 23 => MP.eq (.slice A n k) | 24 => MP.rdl [[UInt8.ofNat x0, UInt8.ofNat ts], (dig (ln) 2), (dig (id) 2), (dig (p) 2), [UInt8.ofNat (tl), UInt8.ofNat (pr), UInt8.ofNat (0), UInt8.ofNat (0)], (adrB s6 sh sl), (adrB d6 dh dl), o] | 25 => MP.ob w.heap.size ([[UInt8.ofNat x0, UInt8.ofNat ts], (dig (ln) 2), (dig (id) 2), (dig (p) 2), [UInt8.ofNat (tl), UInt8.ofNat (pr), UInt8.ofNat (0), UInt8.ofNat (0)], (adrB s6 sh sl), (adrB d6 dh dl), o]).flatten | _ => MP.any) ?_ ?_
 ·intro i hi o ho FA x hO hD K hK
  match i, hi, ho, hO, hD, hK with
  | 0, _, ho, hO, hD, hK => 
   obtain rfl := qoi ho
   have ev4 : FA.eval (.tmp 4) = .slice (some ⟨w.heap.size + 1, 0, none⟩) 2 2 := hO 4 (by kernel_rfl)
   have e4 : FA.tmps[4]?.getD undef = .slice (some ⟨w.heap.size + 1, 0, none⟩) 2 2 := by simpa [Act.eval] using ev4
   replace ev4 := Lib.hid ev4
   clear hO hD ho
   go_simp
   exact hK.out _ _ (Ex.refl _) rfl
  | 1, _, ho, hO, hD, hK => 
   obtain rfl := qoi ho
   have ev1 : FA.eval (.tmp 1) = .pointer (some ⟨w.heap.size, 0, none⟩) := hO 1 (by kernel_rfl)
   have e1 : FA.tmps[1]?.getD undef = .pointer (some ⟨w.heap.size, 0, none⟩) := by simpa [Act.eval] using ev1
   replace ev1 := Lib.hid ev1
   clear hO hD ho
   go_simp
   exact hK.out _ _ (Ex.refl _) rfl
  | 2, _, ho, hO, hD, hK => 
   obtain rfl := qoi ho
   have ev26 : FA.eval (.tmp 26) = .pointer (some ⟨w.heap.size, 1, none⟩) := hD 1 26 (by kernel_rfl)
   have e26 : FA.tmps[26]?.getD undef = .pointer (some ⟨w.heap.size, 1, none⟩) := by simpa [Act.eval] using ev26
   replace ev26 := Lib.hid ev26
   clear hO hD ho
   go_simp
   exact hK.out _ _ (Ex.refl _) rfl
  | 3, _, ho, hO, hD, hK => 
   obtain rfl := qoi ho
   have ev27 : FA.eval (.tmp 27) = .int .i64 (ln : Int) := hD 2 27 (by kernel_rfl)
   have e27 : FA.tmps[27]?.getD undef = .int .i64 (ln : Int) := by simpa [Act.eval] using ev27
   replace ev27 := Lib.hid ev27
   clear hO hD ho
   go_simp
   exact hK.out _ _ (Ex.refl _) rfl
  | 4, _, ho, hO, hD, hK => 
   obtain rfl := qoi ho
   have ev28 : FA.eval (.tmp 28) = .int .u64 (ln : Int) := hD 3 28 (by kernel_rfl)
   have e28 : FA.tmps[28]?.getD undef = .int .u64 (ln : Int) := by simpa [Act.eval] using ev28
   replace ev28 := Lib.hid ev28
   clear hO hD ho
   go_simp
   refine (refBytes_any (ln) 2 _ (by omega) (by omega)).mono ?_
   rintro e w1 ⟨A2, n2, c2, bs2, d2, rfl, rfl, ho2⟩
   exact hK.out _ _ (Ex.plus_ _ _ _) ⟨_, _, _, rfl, ho2.rb⟩
  | 5, _, ho, hO, hD, hK => 
   obtain rfl := qoi ho
   have ev1 : FA.eval (.tmp 1) = .pointer (some ⟨w.heap.size, 0, none⟩) := hO 1 (by kernel_rfl)
   have e1 : FA.tmps[1]?.getD undef = .pointer (some ⟨w.heap.size, 0, none⟩) := by simpa [Act.eval] using ev1
   replace ev1 := Lib.hid ev1
   clear hO hD ho
   go_simp
   exact hK.out _ _ (Ex.refl _) rfl
  | 6, _, ho, hO, hD, hK => 
   obtain rfl := qoi ho
   have ev30 : FA.eval (.tmp 30) = .pointer (some ⟨w.heap.size, 2, none⟩) := hD 5 30 (by kernel_rfl)
   have e30 : FA.tmps[30]?.getD undef = .pointer (some ⟨w.heap.size, 2, none⟩) := by simpa [Act.eval] using ev30
   replace ev30 := Lib.hid ev30
   clear hO hD ho
   go_simp
   exact hK.out _ _ (Ex.refl _) rfl
  | 7, _, ho, hO, hD, hK => 
   obtain rfl := qoi ho
   have ev31 : FA.eval (.tmp 31) = .int .u16 (id : Int) := hD 6 31 (by kernel_rfl)
   have e31 : FA.tmps[31]?.getD undef = .int .u16 (id : Int) := by simpa [Act.eval] using ev31
   replace ev31 := Lib.hid ev31
   clear hO hD ho
   go_simp
   exact hK.out _ _ (Ex.refl _) rfl
  | 8, _, ho, hO, hD, hK => 
   obtain rfl := qoi ho
   have ev32 : FA.eval (.tmp 32) = .int .u64 (id : Int) := hD 7 32 (by kernel_rfl)
   have e32 : FA.tmps[32]?.getD undef = .int .u64 (id : Int) := by simpa [Act.eval] using ev32
   replace ev32 := Lib.hid ev32
   clear hO hD ho
   go_simp
   refine (refBytes_any (id) 2 _ (by omega) (by omega)).mono ?_
   rintro e w1 ⟨A2, n2, c2, bs2, d2, rfl, rfl, ho2⟩
   exact hK.out _ _ (Ex.plus_ _ _ _) ⟨_, _, _, rfl, ho2.rb⟩
  | 9, _, ho, hO, hD, hK => 
   obtain rfl := qoi ho
   have ev3 : FA.eval (.tmp 3) = .int .u64 (p : Int) := hO 3 (by kernel_rfl)
   have e3 : FA.tmps[3]?.getD undef = .int .u64 (p : Int) := by simpa [Act.eval] using ev3
   replace ev3 := Lib.hid ev3
   clear hO hD ho
   go_simp
   exact hK.out _ _ (Ex.refl _) rfl
  | 10, _, ho, hO, hD, hK => 
   obtain rfl := qoi ho
   have ev34 : FA.eval (.tmp 34) = .int .u64 (p : Int) := hD 9 34 (by kernel_rfl)
   have e34 : FA.tmps[34]?.getD undef = .int .u64 (p : Int) := by simpa [Act.eval] using ev34
   replace ev34 := Lib.hid ev34
   clear hO hD ho
   go_simp
   refine (refBytes_any (p) 2 _ (by omega) (by omega)).mono ?_
   rintro e w1 ⟨A2, n2, c2, bs2, d2, rfl, rfl, ho2⟩
   exact hK.out _ _ (Ex.plus_ _ _ _) ⟨_, _, _, rfl, ho2.rb⟩
  | 11, _, ho, hO, hD, hK => 
   obtain rfl := qoi ho
   have ev1 : FA.eval (.tmp 1) = .pointer (some ⟨w.heap.size, 0, none⟩) := hO 1 (by kernel_rfl)
   have e1 : FA.tmps[1]?.getD undef = .pointer (some ⟨w.heap.size, 0, none⟩) := by simpa [Act.eval] using ev1
   replace ev1 := Lib.hid ev1
   clear hO hD ho
   go_simp
   exact hK.out _ _ (Ex.refl _) rfl
  | 12, _, ho, hO, hD, hK => 
   obtain rfl := qoi ho
   have ev36 : FA.eval (.tmp 36) = .pointer (some ⟨w.heap.size, 6, none⟩) := hD 11 36 (by kernel_rfl)
   have e36 : FA.tmps[36]?.getD undef = .pointer (some ⟨w.heap.size, 6, none⟩) := by simpa [Act.eval] using ev36
   replace ev36 := Lib.hid ev36
   clear hO hD ho
   go_simp
   exact hK.out _ _ (Ex.refl _) rfl
  | 13, _, ho, hO, hD, hK => 
   obtain rfl := qoi ho
   have ev1 : FA.eval (.tmp 1) = .pointer (some ⟨w.heap.size, 0, none⟩) := hO 1 (by kernel_rfl)
   have e1 : FA.tmps[1]?.getD undef = .pointer (some ⟨w.heap.size, 0, none⟩) := by simpa [Act.eval] using ev1
   replace ev1 := Lib.hid ev1
   clear hO hD ho
   go_simp
   exact hK.out _ _ (Ex.refl _) rfl
  | 14, _, ho, hO, hD, hK => 
   obtain rfl := qoi ho
   have ev38 : FA.eval (.tmp 38) = .pointer (some ⟨w.heap.size, 7, none⟩) := hD 13 38 (by kernel_rfl)
   have e38 : FA.tmps[38]?.getD undef = .pointer (some ⟨w.heap.size, 7, none⟩) := by simpa [Act.eval] using ev38
   replace ev38 := Lib.hid ev38
   clear hO hD ho
   go_simp
   exact hK.out _ _ (Ex.refl _) rfl
  | 15, _, ho, hO, hD, hK => 
   obtain rfl := qoi ho
   have ev37 : FA.eval (.tmp 37) = .int .u8 (tl : Int) := hD 12 37 (by kernel_rfl)
   have e37 : FA.tmps[37]?.getD undef = .int .u8 (tl : Int) := by simpa [Act.eval] using ev37
   replace ev37 := Lib.hid ev37
   have ev39 : FA.eval (.tmp 39) = .int .u8 (pr : Int) := hD 14 39 (by kernel_rfl)
   have e39 : FA.tmps[39]?.getD undef = .int .u8 (pr : Int) := by simpa [Act.eval] using ev39
   replace ev39 := Lib.hid ev39
   clear hO hD ho
   go_simp
   refine hK.out _ _ (Ex.alloc _ _) ⟨_, _, _, rfl, ?_⟩
   refine Rb.litW _ [UInt8.ofNat (tl), UInt8.ofNat (pr), UInt8.ofNat (0), UInt8.ofNat (0)] ?_ rfl (by decide) ?_
   ·simp [size_plus]
   ·simp [bcs]; try omega
  | 16, _, ho, hO, hD, hK => 
   obtain rfl := qoi ho
   have ev1 : FA.eval (.tmp 1) = .pointer (some ⟨w.heap.size, 0, none⟩) := hO 1 (by kernel_rfl)
   have e1 : FA.tmps[1]?.getD undef = .pointer (some ⟨w.heap.size, 0, none⟩) := by simpa [Act.eval] using ev1
   replace ev1 := Lib.hid ev1
   clear hO hD ho
   go_simp
   exact hK.out _ _ (Ex.refl _) rfl
  | 17, _, ho, hO, hD, hK => 
   obtain rfl := qoi ho
   have ev41 : FA.eval (.tmp 41) = .pointer (some ⟨w.heap.size, 9, none⟩) := hD 16 41 (by kernel_rfl)
   have e41 : FA.tmps[41]?.getD undef = .pointer (some ⟨w.heap.size, 9, none⟩) := by simpa [Act.eval] using ev41
   replace ev41 := Lib.hid ev41
   clear hO hD ho
   go_simp
   exact hK.out _ _ (Ex.refl _) rfl
  | 18, _, ho, hO, hD, hK => 
   obtain rfl := qoi ho
   have ev42 : FA.eval (.tmp 42) = .agg #[.bool s6, .int .u64 (sh : Int), .int .u64 (sl : Int)] := hD 17 42 (by kernel_rfl)
   have e42 : FA.tmps[42]?.getD undef = .agg #[.bool s6, .int .u64 (sh : Int), .int .u64 (sl : Int)] := by simpa [Act.eval] using ev42
   replace ev42 := Lib.hid ev42
   clear hO hD ho
   go_simp
   refine (refAdrBytes s6 sh sl _ (by omega) (by omega)).mono ?_
   rintro e w1 ⟨A2, n2, c2, bs2, d2, rfl, rfl, ho2⟩
   exact hK.out _ _ (Ex.plus_ _ _ _) ⟨_, _, _, rfl, ho2.mono (by have := be.size; simp [size_plus]; omega)⟩
  | 19, _, ho, hO, hD, hK => 
   obtain rfl := qoi ho
   have ev1 : FA.eval (.tmp 1) = .pointer (some ⟨w.heap.size, 0, none⟩) := hO 1 (by kernel_rfl)
   have e1 : FA.tmps[1]?.getD undef = .pointer (some ⟨w.heap.size, 0, none⟩) := by simpa [Act.eval] using ev1
   replace ev1 := Lib.hid ev1
   clear hO hD ho
   go_simp
   exact hK.out _ _ (Ex.refl _) rfl
  | 20, _, ho, hO, hD, hK => 
   obtain rfl := qoi ho
   have ev44 : FA.eval (.tmp 44) = .pointer (some ⟨w.heap.size, 12, none⟩) := hD 19 44 (by kernel_rfl)
   have e44 : FA.tmps[44]?.getD undef = .pointer (some ⟨w.heap.size, 12, none⟩) := by simpa [Act.eval] using ev44
   replace ev44 := Lib.hid ev44
   clear hO hD ho
   go_simp
   exact hK.out _ _ (Ex.refl _) rfl
  | 21, _, ho, hO, hD, hK => 
   obtain rfl := qoi ho
   have ev45 : FA.eval (.tmp 45) = .agg #[.bool d6, .int .u64 (dh : Int), .int .u64 (dl : Int)] := hD 20 45 (by kernel_rfl)
   have e45 : FA.tmps[45]?.getD undef = .agg #[.bool d6, .int .u64 (dh : Int), .int .u64 (dl : Int)] := by simpa [Act.eval] using ev45
   replace ev45 := Lib.hid ev45
   clear hO hD ho
   go_simp
   refine (refAdrBytes d6 dh dl _ (by omega) (by omega)).mono ?_
   rintro e w1 ⟨A2, n2, c2, bs2, d2, rfl, rfl, ho2⟩
   exact hK.out _ _ (Ex.plus_ _ _ _) ⟨_, _, _, rfl, ho2.mono (by have := be.size; simp [size_plus]; omega)⟩
  | 22, _, ho, hO, hD, hK => 
   obtain rfl := qoi ho
   have ev1 : FA.eval (.tmp 1) = .pointer (some ⟨w.heap.size, 0, none⟩) := hO 1 (by kernel_rfl)
   have e1 : FA.tmps[1]?.getD undef = .pointer (some ⟨w.heap.size, 0, none⟩) := by simpa [Act.eval] using ev1
   replace ev1 := Lib.hid ev1
   clear hO hD ho
   go_simp
   exact hK.out _ _ (Ex.refl _) rfl
  | 23, _, ho, hO, hD, hK => 
   obtain rfl := qoi ho
   have ev47 : FA.eval (.tmp 47) = .pointer (some ⟨w.heap.size, 15, none⟩) := hD 22 47 (by kernel_rfl)
   have e47 : FA.tmps[47]?.getD undef = .pointer (some ⟨w.heap.size, 15, none⟩) := by simpa [Act.eval] using ev47
   replace ev47 := Lib.hid ev47
   clear hO hD ho
   go_simp
   exact hK.out _ _ (Ex.refl _) rfl
  | 24, _, ho, hO, hD, hK => 
   obtain rfl := qoi ho
   have ev25 : FA.eval (.tmp 25) = .slice (some ⟨w.heap.size + 1, 0, none⟩) 2 2 := hD 0 25 (by kernel_rfl)
   have e25 : FA.tmps[25]?.getD undef = .slice (some ⟨w.heap.size + 1, 0, none⟩) 2 2 := by simpa [Act.eval] using ev25
   replace ev25 := Lib.hid ev25
   have f29 := hD 4 29 (by kernel_rfl)
   generalize eu29 : FA.eval (.tmp 29) = u29 at f29
   have e29 : FA.tmps[29]?.getD undef = u29 := by rw [← eu29]; simp [Act.eval]
   have ev29 := Lib.hid eu29
   clear eu29
   have f33 := hD 8 33 (by kernel_rfl)
   generalize eu33 : FA.eval (.tmp 33) = u33 at f33
   have e33 : FA.tmps[33]?.getD undef = u33 := by rw [← eu33]; simp [Act.eval]
   have ev33 := Lib.hid eu33
   clear eu33
   have f35 := hD 10 35 (by kernel_rfl)
   generalize eu35 : FA.eval (.tmp 35) = u35 at f35
   have e35 : FA.tmps[35]?.getD undef = u35 := by rw [← eu35]; simp [Act.eval]
   have ev35 := Lib.hid eu35
   clear eu35
   have f40 := hD 15 40 (by kernel_rfl)
   generalize eu40 : FA.eval (.tmp 40) = u40 at f40
   have e40 : FA.tmps[40]?.getD undef = u40 := by rw [← eu40]; simp [Act.eval]
   have ev40 := Lib.hid eu40
   clear eu40
   have f43 := hD 18 43 (by kernel_rfl)
   generalize eu43 : FA.eval (.tmp 43) = u43 at f43
   have e43 : FA.tmps[43]?.getD undef = u43 := by rw [← eu43]; simp [Act.eval]
   have ev43 := Lib.hid eu43
   clear eu43
   have f46 := hD 21 46 (by kernel_rfl)
   generalize eu46 : FA.eval (.tmp 46) = u46 at f46
   have e46 : FA.tmps[46]?.getD undef = u46 := by rw [← eu46]; simp [Act.eval]
   have ev46 := Lib.hid eu46
   clear eu46
   have ev48 : FA.eval (.tmp 48) = .slice A n k := hD 23 48 (by kernel_rfl)
   have e48 : FA.tmps[48]?.getD undef = .slice A n k := by simpa [Act.eval] using ev48
   replace ev48 := Lib.hid ev48
   clear hO hD ho
   obtain ⟨A29, n29, c29, rfl, h29⟩ := f29
   obtain ⟨A33, n33, c33, rfl, h33⟩ := f33
   obtain ⟨A35, n35, c35, rfl, h35⟩ := f35
   obtain ⟨A40, n40, c40, rfl, h40⟩ := f40
   obtain ⟨A43, n43, c43, rfl, h43⟩ := f43
   obtain ⟨A46, n46, c46, rfl, h46⟩ := f46
   go_simp
   refine hK.out _ _ (Ex.alloc _ _) ⟨_, _, _, rfl, ?_⟩
   refine RdL.litW _ _ ?_ ?_
   ·simp [size_plus]
   ·exact .cons ⟨_, _, _, rfl, hr3.plus_ _ _⟩ (.cons ⟨_, _, _, rfl, h29⟩ (.cons ⟨_, _, _, rfl, h33⟩ (.cons ⟨_, _, _, rfl, h35⟩ (.cons ⟨_, _, _, rfl, h40⟩ (.cons ⟨_, _, _, rfl, h43.rb⟩ (.cons ⟨_, _, _, rfl, h46.rb⟩ (.cons ⟨_, _, _, rfl, hr4.plus_ _ _⟩ (.nil))))))))
  | 25, _, ho, hO, hD, hK => 
   obtain rfl := qoi ho
   have f49 := hD 24 49 (by kernel_rfl)
   generalize eu49 : FA.eval (.tmp 49) = u49 at f49
   have e49 : FA.tmps[49]?.getD undef = u49 := by rw [← eu49]; simp [Act.eval]
   have ev49 := Lib.hid eu49
   clear eu49
   clear hO hD ho
   obtain ⟨A1, m1, c1, rfl, hl1⟩ := f49
   have hm1 : m1 ≤ 100 := by obtain ⟨_, _, h2, _⟩ := hl1; simp only [List.length_cons, List.length_nil] at h2; omega
   go_simp
   refine (refJoin_any A1 m1 c1 _ _ hl1 (by omega) HT.out).mono ?_
   rintro e w1 ⟨A2, n2, c2, bs2, d2, rfl, rfl, ho2⟩
   exact hK.out _ _ (Ex.plus_ _ _ _) ⟨_, _, _, rfl, ho2.mono (by simp [size_plus]; omega)⟩
  | (k + 26), hi, _, _, _, _ => exact absurd hi (by omega)
 intro vs x hp
 have p0 : vs 0 = .slice (some ⟨w.heap.size + 1, 0, none⟩) 2 2 := hp 0 (by omega)
 have p1 : vs 1 = .pointer (some ⟨w.heap.size, 1, none⟩) := hp 1 (by omega)
 have p2 : vs 2 = .int .i64 (ln : Int) := hp 2 (by omega)
 have p3 : vs 3 = .int .u64 (ln : Int) := hp 3 (by omega)
 have p4 := hp 4 (by omega)
 have p5 : vs 5 = .pointer (some ⟨w.heap.size, 2, none⟩) := hp 5 (by omega)
 have p6 : vs 6 = .int .u16 (id : Int) := hp 6 (by omega)
 have p7 : vs 7 = .int .u64 (id : Int) := hp 7 (by omega)
 have p8 := hp 8 (by omega)
 have p9 : vs 9 = .int .u64 (p : Int) := hp 9 (by omega)
 have p10 := hp 10 (by omega)
 have p11 : vs 11 = .pointer (some ⟨w.heap.size, 6, none⟩) := hp 11 (by omega)
 have p12 : vs 12 = .int .u8 (tl : Int) := hp 12 (by omega)
 have p13 : vs 13 = .pointer (some ⟨w.heap.size, 7, none⟩) := hp 13 (by omega)
 have p14 : vs 14 = .int .u8 (pr : Int) := hp 14 (by omega)
 have p15 := hp 15 (by omega)
 have p16 : vs 16 = .pointer (some ⟨w.heap.size, 9, none⟩) := hp 16 (by omega)
 have p17 : vs 17 = .agg #[.bool s6, .int .u64 (sh : Int), .int .u64 (sl : Int)] := hp 17 (by omega)
 have p18 := hp 18 (by omega)
 have p19 : vs 19 = .pointer (some ⟨w.heap.size, 12, none⟩) := hp 19 (by omega)
 have p20 : vs 20 = .agg #[.bool d6, .int .u64 (dh : Int), .int .u64 (dl : Int)] := hp 20 (by omega)
 have p21 := hp 21 (by omega)
 have p22 : vs 22 = .pointer (some ⟨w.heap.size, 15, none⟩) := hp 22 (by omega)
 have p23 : vs 23 = .slice A n k := hp 23 (by omega)
 have p24 := hp 24 (by omega)
 have p25 := hp 25 (by omega)
 clear hp
 simp only [List.take_succ_cons, List.take_zero, List.drop_succ_cons, List.drop_zero, putAll, Nat.zero_add, Nat.reduceAdd, Act.put, qsT, qsZ, qsS, p0, p1, p2, p3, p5, p6, p7, p9, p11, p12, p13, p14, p16, p17, p19, p20, p22, p23]
 clear p0 p1 p2 p3 p5 p6 p7 p9 p11 p12 p13 p14 p16 p17 p19 p20 p22 p23
 generalize vs 4 = y4 at *
 generalize vs 8 = y8 at *
 generalize vs 10 = y10 at *
 generalize vs 15 = y15 at *
 generalize vs 18 = y18 at *
 generalize vs 21 = y21 at *
 generalize vs 24 = y24 at *
 generalize vs 25 = y25 at *
 clear vs
 obtain ⟨A9, n9, c9, rfl, h9⟩ := p25
 replace be := belowP be x.bs x.d
 have HF : Hid (ip4R x0 ts ln id p tl pr s6 sh sl d6 dh dl o = ([[UInt8.ofNat x0, UInt8.ofNat ts], (dig (ln) 2), (dig (id) 2), (dig (p) 2), [UInt8.ofNat (tl), UInt8.ofNat (pr), UInt8.ofNat (0), UInt8.ofNat (0)], (adrB s6 sh sl), (adrB d6 dh dl), o]).flatten) := Lib.hid rfl
 rw [← HF.out] at h9
 have h9' := h9.1
 generalize plus ((w.alloc (.cells #[.int .u8 (ts : Int), .int .i64 (ln : Int), .int .u16 (id : Int), .bool true, .bool false, .int .i64 (fo : Int), .int .u8 (tl : Int), .int .u8 (pr : Int), .int .u16 (sm : Int), .bool s6, .int .u64 (sh : Int), .int .u64 (sl : Int), .bool d6, .int .u64 (dh : Int), .int .u64 (dl : Int), .slice A n k] 122)).alloc (.cells #[.int .u8 (x0 : Int), .int .u8 (ts : Int)] 5)) x.bs x.d = W at *
 clear HF
 generalize hLL : ip4R x0 ts ln id p tl pr s6 sh sl d6 dh dl o = LL at *
 replace hLL := Lib.hid hLL
 have HS := Lib.hid (fun w (h : Rb w A9 n9 c9 LL) => refSumOf A9 n9 c9 LL w h (by omega))
 have hs1 : 65535 - fd (tot false LL) ≤ 65535 := Nat.sub_le _ _
 generalize hss : 65535 - fd (tot false LL) = s at *
 replace hss := Lib.hid hss
 have gs : IntKind.u64.wrap (s : Int) = (s : Int) := IntWalk.u64_in _ (by omega)
 have hn9 : 12 ≤ n9 := by omega
 have hn9' : n9 ≤ 1000 := by omega
 go_wp2_with fail
 refine (HS.out _ h9.rb).mono ?_
 rintro e w1 ⟨rfl, rfl⟩
 go_wp2_with fail
 refine (refBytes_any s 2 _ (by omega) (by decide)).mono ?_
 rintro e w1 ⟨A3, n3, c3, bs3, d3, rfl, rfl, ho3⟩
 obtain rfl : n3 = 2 := by rw [← ho3.1, dig_length]
 go_wp2_with fail
 refine (refSet _ _ _ LL 10 _ _ _ _ _ (h9.rb.plus_ _ _) ho3.rb (by omega) (by omega) (by omega)).mono ?_
 rintro e w1 ⟨A4, n4, c4, bs4, d4, rfl, rfl, ho4⟩
 go_wp2
 go_ret
 try rw [hLL.out]
 try rw [hss.out]
 refine RetB.mk (ho4.mono ?_) ?_
 ·have := be.size; simp [size_plus]; omega
 ·with_reducible repeat (first | exact be | refine belowP ?_ _ _)
theorem refIp4Bytes_yy (ts ln id : Nat) (fo tl pr sm : Nat) (s6 : Bool) (sh sl : Nat) (d6 : Bool) (dh dl : Nat) (A : Option Addr) (n k : Nat) (o : List UInt8) (w : World) (hr : Rb w A n k o) (b1 : ts < 256) (b2 : id < 65536) (b3 : tl < 256) (b4 : pr < 256) (k1 : sh < 18446744073709551616) (k2 : sl < 18446744073709551616) (k3 : dh < 18446744073709551616) (k4 : dl < 18446744073709551616) (c1 : n ≤ 40) (c4 : ln ≤ 65535) (c5 : fo ≤ 8191) : Calls Tryz.prog 84 #[.agg (h4C ts (ln : Int) id true true (fo : Int) tl pr sm s6 sh sl d6 dh dl A n k).toArray] w (RetB w (setB (ip4R (69 + o.length / 4) ts ln id (pl4 true true fo) tl pr s6 sh sl d6 dh dl o) 10 (dig (65535 - fd (tot false (ip4R (69 + o.length / 4) ts ln id (pl4 true true fo) tl pr s6 sh sl d6 dh dl o))) 2))) := by
 have z1 := adrB_length s6 sh sl
 have z2 := adrB_length d6 dh dl
 obtain ⟨p, hp⟩ : ∃ p : Nat, p = fo + 24576 := ⟨_, rfl⟩
 have hpl : pl4 true true fo = p := by simp [pl4]; omega
 obtain ⟨q, hq⟩ : ∃ q : Nat, q = n / 4 := ⟨_, rfl⟩
 obtain ⟨x0, hx⟩ : ∃ x : Nat, x = 69 + q := ⟨_, rfl⟩
 have e0 : (n : Int).tdiv 4 = (q : Int) := by rw [Int.tdiv_eq_ediv_of_nonneg (by omega)]; omega
 have e1 : IntKind.i64.wrap (q : Int) = (q : Int) := IntWalk.i64_in _ (by omega)
 have e2 : IntKind.i64.wrap (69 + (q : Int)) = (x0 : Int) := by rw [IntWalk.i64_in _ (by omega)]; omega
 have e3 : IntKind.u8.wrap (x0 : Int) = (x0 : Int) := IntWalk.u8_in _ (by omega)
 have l0 : x0 < 256 := by omega
 have lp : p < 65536 := by omega
 have fp : IntKind.u64.wrap (fo : Int) = (fo : Int) := IntWalk.u64_in _ (by omega)
 obtain ⟨p1, hp1⟩ : ∃ p : Nat, p = fo + 16384 := ⟨_, rfl⟩
 have f1 : IntKind.u64.wrap ((fo : Int) + 16384) = (p1 : Int) := by rw [IntWalk.u64_in _ (by omega)]; omega
 have f2 : IntKind.u64.wrap ((p1 : Int) + 8192) = (p : Int) := by rw [IntWalk.u64_in _ (by omega)]; omega
 rw [hpl, show 69 + o.length / 4 = x0 from by rw [hr.1]; omega]
 have HT : ([[UInt8.ofNat x0, UInt8.ofNat ts], (dig (ln) 2), (dig (id) 2), (dig (p) 2), [UInt8.ofNat (tl), UInt8.ofNat (pr), UInt8.ofNat (0), UInt8.ofNat (0)], (adrB s6 sh sl), (adrB d6 dh dl), o]).flatten.length ≤ 549755813888 := by simp [dig_length, hr.1]; omega
 have HL : (ip4R x0 ts ln id p tl pr s6 sh sl d6 dh dl o).length ≤ 1000 := by simp [ip4R, dig_length, hr.1]; omega
 have HL2 : 12 ≤ (ip4R x0 ts ln id p tl pr s6 sh sl d6 dh dl o).length := by simp [ip4R, dig_length, hr.1]; omega
 clear hpl hp hq hx hp1
 replace HT := Lib.hid HT
 have hr3 : Rb ((w.alloc (.cells #[.int .u8 (ts : Int), .int .i64 (ln : Int), .int .u16 (id : Int), .bool true, .bool true, .int .i64 (fo : Int), .int .u8 (tl : Int), .int .u8 (pr : Int), .int .u16 (sm : Int), .bool s6, .int .u64 (sh : Int), .int .u64 (sl : Int), .bool d6, .int .u64 (dh : Int), .int .u64 (dl : Int), .slice A n k] 122)).alloc (.cells #[.int .u8 (x0 : Int), .int .u8 (ts : Int)] 5)) (some ⟨w.heap.size + 1, 0, none⟩) 2 2 [UInt8.ofNat x0, UInt8.ofNat ts] := Rb.litW _ _ (by simp) rfl (by decide) (by simp [bcs]; omega)
 have hr4 : Rb ((w.alloc (.cells #[.int .u8 (ts : Int), .int .i64 (ln : Int), .int .u16 (id : Int), .bool true, .bool true, .int .i64 (fo : Int), .int .u8 (tl : Int), .int .u8 (pr : Int), .int .u16 (sm : Int), .bool s6, .int .u64 (sh : Int), .int .u64 (sl : Int), .bool d6, .int .u64 (dh : Int), .int .u64 (dl : Int), .slice A n k] 122)).alloc (.cells #[.int .u8 (x0 : Int), .int .u8 (ts : Int)] 5)) A n k o := (hr.alloc _).alloc _
 have be : Below w.heap.size w ((w.alloc (.cells #[.int .u8 (ts : Int), .int .i64 (ln : Int), .int .u16 (id : Int), .bool true, .bool true, .int .i64 (fo : Int), .int .u8 (tl : Int), .int .u8 (pr : Int), .int .u16 (sm : Int), .bool s6, .int .u64 (sh : Int), .int .u64 (sl : Int), .bool d6, .int .u64 (dh : Int), .int .u64 (dl : Int), .slice A n k] 122)).alloc (.cells #[.int .u8 (x0 : Int), .int .u8 (ts : Int)] 5)) := Below.allocS (Below.allocS (Below.refl _ _) _) _
 have g0 : IntKind.u64.wrap (ln : Int) = (ln : Int) := IntWalk.u64_in _ (by omega)
 have g1 : IntKind.u64.wrap (id : Int) = (id : Int) := IntWalk.u64_in _ (by omega)
 unfold h4C
 go_enter Tryz.func84, Tryz.ntmps84
 go_wp2
 refine wp_rel 26 57 rfl (by kernel_rfl) (by kernel_rfl) (fun i => match i with | 0 => MP.eq (.slice (some ⟨w.heap.size + 1, 0, none⟩) 2 2) | 1 => MP.eq (.pointer (some ⟨w.heap.size, 1, none⟩)) | 2 => MP.eq (.int .i64 (ln : Int)) | 3 => MP.eq (.int .u64 (ln : Int)) | 4 => MP.rb (dig (ln) 2) | 5 => MP.eq (.pointer (some ⟨w.heap.size, 2, none⟩)) | 6 => MP.eq (.int .u16 (id : Int)) | 7 => MP.eq (.int .u64 (id : Int)) | 8 => MP.rb (dig (id) 2) | 9 => MP.eq (.int .u64 (p : Int)) | 10 => MP.rb (dig (p) 2) | 11 => MP.eq (.pointer (some ⟨w.heap.size, 6, none⟩)) | 12 => MP.eq (.int .u8 (tl : Int)) | 13 => MP.eq (.pointer (some ⟨w.heap.size, 7, none⟩)) | 14 => MP.eq (.int .u8 (pr : Int)) | 15 => MP.rb [UInt8.ofNat (tl), UInt8.ofNat (pr), UInt8.ofNat (0), UInt8.ofNat (0)] | 16 => MP.eq (.pointer (some ⟨w.heap.size, 9, none⟩)) | 17 => MP.eq (.agg #[.bool s6, .int .u64 (sh : Int), .int .u64 (sl : Int)]) | 18 => MP.ob w.heap.size (adrB s6 sh sl) | 19 => MP.eq (.pointer (some ⟨w.heap.size, 12, none⟩)) | 20 => MP.eq (.agg #[.bool d6, .int .u64 (dh : Int), .int .u64 (dl : Int)]) | 21 => MP.ob w.heap.size (adrB d6 dh dl) | 22 => MP.eq (.pointer (some ⟨w.heap.size, 15, none⟩)) | 23 => MP.eq (.slice A n k) | 24 => MP.rdl [[UInt8.ofNat x0, UInt8.ofNat ts], (dig (ln) 2), (dig (id) 2), (dig (p) 2), [UInt8.ofNat (tl), UInt8.ofNat (pr), UInt8.ofNat (0), UInt8.ofNat (0)], (adrB s6 sh sl), (adrB d6 dh dl), o] | 25 => MP.ob w.heap.size ([[UInt8.ofNat x0, UInt8.ofNat ts], (dig (ln) 2), (dig (id) 2), (dig (p) 2), [UInt8.ofNat (tl), UInt8.ofNat (pr), UInt8.ofNat (0), UInt8.ofNat (0)], (adrB s6 sh sl), (adrB d6 dh dl), o]).flatten | _ => MP.any) ?_ ?_
 ·intro i hi o ho FA x hO hD K hK
  match i, hi, ho, hO, hD, hK with
  | 0, _, ho, hO, hD, hK => 
   obtain rfl := qoi ho
   have ev4 : FA.eval (.tmp 4) = .slice (some ⟨w.heap.size + 1, 0, none⟩) 2 2 := hO 4 (by kernel_rfl)
   have e4 : FA.tmps[4]?.getD undef = .slice (some ⟨w.heap.size + 1, 0, none⟩) 2 2 := by simpa [Act.eval] using ev4
   replace ev4 := Lib.hid ev4
   clear hO hD ho
   go_simp
   exact hK.out _ _ (Ex.refl _) rfl
  | 1, _, ho, hO, hD, hK => 
   obtain rfl := qoi ho
   have ev1 : FA.eval (.tmp 1) = .pointer (some ⟨w.heap.size, 0, none⟩) := hO 1 (by kernel_rfl)
   have e1 : FA.tmps[1]?.getD undef = .pointer (some ⟨w.heap.size, 0, none⟩) := by simpa [Act.eval] using ev1
   replace ev1 := Lib.hid ev1
   clear hO hD ho
   go_simp
   exact hK.out _ _ (Ex.refl _) rfl
  | 2, _, ho, hO, hD, hK => 
   obtain rfl := qoi ho
   have ev26 : FA.eval (.tmp 26) = .pointer (some ⟨w.heap.size, 1, none⟩) := hD 1 26 (by kernel_rfl)
   have e26 : FA.tmps[26]?.getD undef = .pointer (some ⟨w.heap.size, 1, none⟩) := by simpa [Act.eval] using ev26
   replace ev26 := Lib.hid ev26
   clear hO hD ho
   go_simp
   exact hK.out _ _ (Ex.refl _) rfl
  | 3, _, ho, hO, hD, hK => 
   obtain rfl := qoi ho
   have ev27 : FA.eval (.tmp 27) = .int .i64 (ln : Int) := hD 2 27 (by kernel_rfl)
   have e27 : FA.tmps[27]?.getD undef = .int .i64 (ln : Int) := by simpa [Act.eval] using ev27
   replace ev27 := Lib.hid ev27
   clear hO hD ho
   go_simp
   exact hK.out _ _ (Ex.refl _) rfl
  | 4, _, ho, hO, hD, hK => 
   obtain rfl := qoi ho
   have ev28 : FA.eval (.tmp 28) = .int .u64 (ln : Int) := hD 3 28 (by kernel_rfl)
   have e28 : FA.tmps[28]?.getD undef = .int .u64 (ln : Int) := by simpa [Act.eval] using ev28
   replace ev28 := Lib.hid ev28
   clear hO hD ho
   go_simp
   refine (refBytes_any (ln) 2 _ (by omega) (by omega)).mono ?_
   rintro e w1 ⟨A2, n2, c2, bs2, d2, rfl, rfl, ho2⟩
   exact hK.out _ _ (Ex.plus_ _ _ _) ⟨_, _, _, rfl, ho2.rb⟩
  | 5, _, ho, hO, hD, hK => 
   obtain rfl := qoi ho
   have ev1 : FA.eval (.tmp 1) = .pointer (some ⟨w.heap.size, 0, none⟩) := hO 1 (by kernel_rfl)
   have e1 : FA.tmps[1]?.getD undef = .pointer (some ⟨w.heap.size, 0, none⟩) := by simpa [Act.eval] using ev1
   replace ev1 := Lib.hid ev1
   clear hO hD ho
   go_simp
   exact hK.out _ _ (Ex.refl _) rfl
  | 6, _, ho, hO, hD, hK => 
   obtain rfl := qoi ho
   have ev30 : FA.eval (.tmp 30) = .pointer (some ⟨w.heap.size, 2, none⟩) := hD 5 30 (by kernel_rfl)
   have e30 : FA.tmps[30]?.getD undef = .pointer (some ⟨w.heap.size, 2, none⟩) := by simpa [Act.eval] using ev30
   replace ev30 := Lib.hid ev30
   clear hO hD ho
   go_simp
   exact hK.out _ _ (Ex.refl _) rfl
  | 7, _, ho, hO, hD, hK => 
   obtain rfl := qoi ho
   have ev31 : FA.eval (.tmp 31) = .int .u16 (id : Int) := hD 6 31 (by kernel_rfl)
   have e31 : FA.tmps[31]?.getD undef = .int .u16 (id : Int) := by simpa [Act.eval] using ev31
   replace ev31 := Lib.hid ev31
   clear hO hD ho
   go_simp
   exact hK.out _ _ (Ex.refl _) rfl
  | 8, _, ho, hO, hD, hK => 
   obtain rfl := qoi ho
   have ev32 : FA.eval (.tmp 32) = .int .u64 (id : Int) := hD 7 32 (by kernel_rfl)
   have e32 : FA.tmps[32]?.getD undef = .int .u64 (id : Int) := by simpa [Act.eval] using ev32
   replace ev32 := Lib.hid ev32
   clear hO hD ho
   go_simp
   refine (refBytes_any (id) 2 _ (by omega) (by omega)).mono ?_
   rintro e w1 ⟨A2, n2, c2, bs2, d2, rfl, rfl, ho2⟩
   exact hK.out _ _ (Ex.plus_ _ _ _) ⟨_, _, _, rfl, ho2.rb⟩
  | 9, _, ho, hO, hD, hK => 
   obtain rfl := qoi ho
   have ev3 : FA.eval (.tmp 3) = .int .u64 (p : Int) := hO 3 (by kernel_rfl)
   have e3 : FA.tmps[3]?.getD undef = .int .u64 (p : Int) := by simpa [Act.eval] using ev3
   replace ev3 := Lib.hid ev3
   clear hO hD ho
   go_simp
   exact hK.out _ _ (Ex.refl _) rfl
  | 10, _, ho, hO, hD, hK => 
   obtain rfl := qoi ho
   have ev34 : FA.eval (.tmp 34) = .int .u64 (p : Int) := hD 9 34 (by kernel_rfl)
   have e34 : FA.tmps[34]?.getD undef = .int .u64 (p : Int) := by simpa [Act.eval] using ev34
   replace ev34 := Lib.hid ev34
   clear hO hD ho
   go_simp
   refine (refBytes_any (p) 2 _ (by omega) (by omega)).mono ?_
   rintro e w1 ⟨A2, n2, c2, bs2, d2, rfl, rfl, ho2⟩
   exact hK.out _ _ (Ex.plus_ _ _ _) ⟨_, _, _, rfl, ho2.rb⟩
  | 11, _, ho, hO, hD, hK => 
   obtain rfl := qoi ho
   have ev1 : FA.eval (.tmp 1) = .pointer (some ⟨w.heap.size, 0, none⟩) := hO 1 (by kernel_rfl)
   have e1 : FA.tmps[1]?.getD undef = .pointer (some ⟨w.heap.size, 0, none⟩) := by simpa [Act.eval] using ev1
   replace ev1 := Lib.hid ev1
   clear hO hD ho
   go_simp
   exact hK.out _ _ (Ex.refl _) rfl
  | 12, _, ho, hO, hD, hK => 
   obtain rfl := qoi ho
   have ev36 : FA.eval (.tmp 36) = .pointer (some ⟨w.heap.size, 6, none⟩) := hD 11 36 (by kernel_rfl)
   have e36 : FA.tmps[36]?.getD undef = .pointer (some ⟨w.heap.size, 6, none⟩) := by simpa [Act.eval] using ev36
   replace ev36 := Lib.hid ev36
   clear hO hD ho
   go_simp
   exact hK.out _ _ (Ex.refl _) rfl
  | 13, _, ho, hO, hD, hK => 
   obtain rfl := qoi ho
   have ev1 : FA.eval (.tmp 1) = .pointer (some ⟨w.heap.size, 0, none⟩) := hO 1 (by kernel_rfl)
   have e1 : FA.tmps[1]?.getD undef = .pointer (some ⟨w.heap.size, 0, none⟩) := by simpa [Act.eval] using ev1
   replace ev1 := Lib.hid ev1
   clear hO hD ho
   go_simp
   exact hK.out _ _ (Ex.refl _) rfl
  | 14, _, ho, hO, hD, hK => 
   obtain rfl := qoi ho
   have ev38 : FA.eval (.tmp 38) = .pointer (some ⟨w.heap.size, 7, none⟩) := hD 13 38 (by kernel_rfl)
   have e38 : FA.tmps[38]?.getD undef = .pointer (some ⟨w.heap.size, 7, none⟩) := by simpa [Act.eval] using ev38
   replace ev38 := Lib.hid ev38
   clear hO hD ho
   go_simp
   exact hK.out _ _ (Ex.refl _) rfl
  | 15, _, ho, hO, hD, hK => 
   obtain rfl := qoi ho
   have ev37 : FA.eval (.tmp 37) = .int .u8 (tl : Int) := hD 12 37 (by kernel_rfl)
   have e37 : FA.tmps[37]?.getD undef = .int .u8 (tl : Int) := by simpa [Act.eval] using ev37
   replace ev37 := Lib.hid ev37
   have ev39 : FA.eval (.tmp 39) = .int .u8 (pr : Int) := hD 14 39 (by kernel_rfl)
   have e39 : FA.tmps[39]?.getD undef = .int .u8 (pr : Int) := by simpa [Act.eval] using ev39
   replace ev39 := Lib.hid ev39
   clear hO hD ho
   go_simp
   refine hK.out _ _ (Ex.alloc _ _) ⟨_, _, _, rfl, ?_⟩
   refine Rb.litW _ [UInt8.ofNat (tl), UInt8.ofNat (pr), UInt8.ofNat (0), UInt8.ofNat (0)] ?_ rfl (by decide) ?_
   ·simp [size_plus]
   ·simp [bcs]; try omega
  | 16, _, ho, hO, hD, hK => 
   obtain rfl := qoi ho
   have ev1 : FA.eval (.tmp 1) = .pointer (some ⟨w.heap.size, 0, none⟩) := hO 1 (by kernel_rfl)
   have e1 : FA.tmps[1]?.getD undef = .pointer (some ⟨w.heap.size, 0, none⟩) := by simpa [Act.eval] using ev1
   replace ev1 := Lib.hid ev1
   clear hO hD ho
   go_simp
   exact hK.out _ _ (Ex.refl _) rfl
  | 17, _, ho, hO, hD, hK => 
   obtain rfl := qoi ho
   have ev41 : FA.eval (.tmp 41) = .pointer (some ⟨w.heap.size, 9, none⟩) := hD 16 41 (by kernel_rfl)
   have e41 : FA.tmps[41]?.getD undef = .pointer (some ⟨w.heap.size, 9, none⟩) := by simpa [Act.eval] using ev41
   replace ev41 := Lib.hid ev41
   clear hO hD ho
   go_simp
   exact hK.out _ _ (Ex.refl _) rfl
  | 18, _, ho, hO, hD, hK => 
   obtain rfl := qoi ho
   have ev42 : FA.eval (.tmp 42) = .agg #[.bool s6, .int .u64 (sh : Int), .int .u64 (sl : Int)] := hD 17 42 (by kernel_rfl)
   have e42 : FA.tmps[42]?.getD undef = .agg #[.bool s6, .int .u64 (sh : Int), .int .u64 (sl : Int)] := by simpa [Act.eval] using ev42
   replace ev42 := Lib.hid ev42
   clear hO hD ho
   go_simp
   refine (refAdrBytes s6 sh sl _ (by omega) (by omega)).mono ?_
   rintro e w1 ⟨A2, n2, c2, bs2, d2, rfl, rfl, ho2⟩
   exact hK.out _ _ (Ex.plus_ _ _ _) ⟨_, _, _, rfl, ho2.mono (by have := be.size; simp [size_plus]; omega)⟩
  | 19, _, ho, hO, hD, hK => 
   obtain rfl := qoi ho
   have ev1 : FA.eval (.tmp 1) = .pointer (some ⟨w.heap.size, 0, none⟩) := hO 1 (by kernel_rfl)
   have e1 : FA.tmps[1]?.getD undef = .pointer (some ⟨w.heap.size, 0, none⟩) := by simpa [Act.eval] using ev1
   replace ev1 := Lib.hid ev1
   clear hO hD ho
   go_simp
   exact hK.out _ _ (Ex.refl _) rfl
  | 20, _, ho, hO, hD, hK => 
   obtain rfl := qoi ho
   have ev44 : FA.eval (.tmp 44) = .pointer (some ⟨w.heap.size, 12, none⟩) := hD 19 44 (by kernel_rfl)
   have e44 : FA.tmps[44]?.getD undef = .pointer (some ⟨w.heap.size, 12, none⟩) := by simpa [Act.eval] using ev44
   replace ev44 := Lib.hid ev44
   clear hO hD ho
   go_simp
   exact hK.out _ _ (Ex.refl _) rfl
  | 21, _, ho, hO, hD, hK => 
   obtain rfl := qoi ho
   have ev45 : FA.eval (.tmp 45) = .agg #[.bool d6, .int .u64 (dh : Int), .int .u64 (dl : Int)] := hD 20 45 (by kernel_rfl)
   have e45 : FA.tmps[45]?.getD undef = .agg #[.bool d6, .int .u64 (dh : Int), .int .u64 (dl : Int)] := by simpa [Act.eval] using ev45
   replace ev45 := Lib.hid ev45
   clear hO hD ho
   go_simp
   refine (refAdrBytes d6 dh dl _ (by omega) (by omega)).mono ?_
   rintro e w1 ⟨A2, n2, c2, bs2, d2, rfl, rfl, ho2⟩
   exact hK.out _ _ (Ex.plus_ _ _ _) ⟨_, _, _, rfl, ho2.mono (by have := be.size; simp [size_plus]; omega)⟩
  | 22, _, ho, hO, hD, hK => 
   obtain rfl := qoi ho
   have ev1 : FA.eval (.tmp 1) = .pointer (some ⟨w.heap.size, 0, none⟩) := hO 1 (by kernel_rfl)
   have e1 : FA.tmps[1]?.getD undef = .pointer (some ⟨w.heap.size, 0, none⟩) := by simpa [Act.eval] using ev1
   replace ev1 := Lib.hid ev1
   clear hO hD ho
   go_simp
   exact hK.out _ _ (Ex.refl _) rfl
  | 23, _, ho, hO, hD, hK => 
   obtain rfl := qoi ho
   have ev47 : FA.eval (.tmp 47) = .pointer (some ⟨w.heap.size, 15, none⟩) := hD 22 47 (by kernel_rfl)
   have e47 : FA.tmps[47]?.getD undef = .pointer (some ⟨w.heap.size, 15, none⟩) := by simpa [Act.eval] using ev47
   replace ev47 := Lib.hid ev47
   clear hO hD ho
   go_simp
   exact hK.out _ _ (Ex.refl _) rfl
  | 24, _, ho, hO, hD, hK => 
   obtain rfl := qoi ho
   have ev25 : FA.eval (.tmp 25) = .slice (some ⟨w.heap.size + 1, 0, none⟩) 2 2 := hD 0 25 (by kernel_rfl)
   have e25 : FA.tmps[25]?.getD undef = .slice (some ⟨w.heap.size + 1, 0, none⟩) 2 2 := by simpa [Act.eval] using ev25
   replace ev25 := Lib.hid ev25
   have f29 := hD 4 29 (by kernel_rfl)
   generalize eu29 : FA.eval (.tmp 29) = u29 at f29
   have e29 : FA.tmps[29]?.getD undef = u29 := by rw [← eu29]; simp [Act.eval]
   have ev29 := Lib.hid eu29
   clear eu29
   have f33 := hD 8 33 (by kernel_rfl)
   generalize eu33 : FA.eval (.tmp 33) = u33 at f33
   have e33 : FA.tmps[33]?.getD undef = u33 := by rw [← eu33]; simp [Act.eval]
   have ev33 := Lib.hid eu33
   clear eu33
   have f35 := hD 10 35 (by kernel_rfl)
   generalize eu35 : FA.eval (.tmp 35) = u35 at f35
   have e35 : FA.tmps[35]?.getD undef = u35 := by rw [← eu35]; simp [Act.eval]
   have ev35 := Lib.hid eu35
   clear eu35
   have f40 := hD 15 40 (by kernel_rfl)
   generalize eu40 : FA.eval (.tmp 40) = u40 at f40
   have e40 : FA.tmps[40]?.getD undef = u40 := by rw [← eu40]; simp [Act.eval]
   have ev40 := Lib.hid eu40
   clear eu40
   have f43 := hD 18 43 (by kernel_rfl)
   generalize eu43 : FA.eval (.tmp 43) = u43 at f43
   have e43 : FA.tmps[43]?.getD undef = u43 := by rw [← eu43]; simp [Act.eval]
   have ev43 := Lib.hid eu43
   clear eu43
   have f46 := hD 21 46 (by kernel_rfl)
   generalize eu46 : FA.eval (.tmp 46) = u46 at f46
   have e46 : FA.tmps[46]?.getD undef = u46 := by rw [← eu46]; simp [Act.eval]
   have ev46 := Lib.hid eu46
   clear eu46
   have ev48 : FA.eval (.tmp 48) = .slice A n k := hD 23 48 (by kernel_rfl)
   have e48 : FA.tmps[48]?.getD undef = .slice A n k := by simpa [Act.eval] using ev48
   replace ev48 := Lib.hid ev48
   clear hO hD ho
   obtain ⟨A29, n29, c29, rfl, h29⟩ := f29
   obtain ⟨A33, n33, c33, rfl, h33⟩ := f33
   obtain ⟨A35, n35, c35, rfl, h35⟩ := f35
   obtain ⟨A40, n40, c40, rfl, h40⟩ := f40
   obtain ⟨A43, n43, c43, rfl, h43⟩ := f43
   obtain ⟨A46, n46, c46, rfl, h46⟩ := f46
   go_simp
   refine hK.out _ _ (Ex.alloc _ _) ⟨_, _, _, rfl, ?_⟩
   refine RdL.litW _ _ ?_ ?_
   ·simp [size_plus]
   ·exact .cons ⟨_, _, _, rfl, hr3.plus_ _ _⟩ (.cons ⟨_, _, _, rfl, h29⟩ (.cons ⟨_, _, _, rfl, h33⟩ (.cons ⟨_, _, _, rfl, h35⟩ (.cons ⟨_, _, _, rfl, h40⟩ (.cons ⟨_, _, _, rfl, h43.rb⟩ (.cons ⟨_, _, _, rfl, h46.rb⟩ (.cons ⟨_, _, _, rfl, hr4.plus_ _ _⟩ (.nil))))))))
  | 25, _, ho, hO, hD, hK => 
   obtain rfl := qoi ho
   have f49 := hD 24 49 (by kernel_rfl)
   generalize eu49 : FA.eval (.tmp 49) = u49 at f49
   have e49 : FA.tmps[49]?.getD undef = u49 := by rw [← eu49]; simp [Act.eval]
   have ev49 := Lib.hid eu49
   clear eu49
   clear hO hD ho
   obtain ⟨A1, m1, c1, rfl, hl1⟩ := f49
   have hm1 : m1 ≤ 100 := by obtain ⟨_, _, h2, _⟩ := hl1; simp only [List.length_cons, List.length_nil] at h2; omega
   go_simp
   refine (refJoin_any A1 m1 c1 _ _ hl1 (by omega) HT.out).mono ?_
   rintro e w1 ⟨A2, n2, c2, bs2, d2, rfl, rfl, ho2⟩
   exact hK.out _ _ (Ex.plus_ _ _ _) ⟨_, _, _, rfl, ho2.mono (by simp [size_plus]; omega)⟩
  | (k + 26), hi, _, _, _, _ => exact absurd hi (by omega)
 intro vs x hp
 have p0 : vs 0 = .slice (some ⟨w.heap.size + 1, 0, none⟩) 2 2 := hp 0 (by omega)
 have p1 : vs 1 = .pointer (some ⟨w.heap.size, 1, none⟩) := hp 1 (by omega)
 have p2 : vs 2 = .int .i64 (ln : Int) := hp 2 (by omega)
 have p3 : vs 3 = .int .u64 (ln : Int) := hp 3 (by omega)
 have p4 := hp 4 (by omega)
 have p5 : vs 5 = .pointer (some ⟨w.heap.size, 2, none⟩) := hp 5 (by omega)
 have p6 : vs 6 = .int .u16 (id : Int) := hp 6 (by omega)
 have p7 : vs 7 = .int .u64 (id : Int) := hp 7 (by omega)
 have p8 := hp 8 (by omega)
 have p9 : vs 9 = .int .u64 (p : Int) := hp 9 (by omega)
 have p10 := hp 10 (by omega)
 have p11 : vs 11 = .pointer (some ⟨w.heap.size, 6, none⟩) := hp 11 (by omega)
 have p12 : vs 12 = .int .u8 (tl : Int) := hp 12 (by omega)
 have p13 : vs 13 = .pointer (some ⟨w.heap.size, 7, none⟩) := hp 13 (by omega)
 have p14 : vs 14 = .int .u8 (pr : Int) := hp 14 (by omega)
 have p15 := hp 15 (by omega)
 have p16 : vs 16 = .pointer (some ⟨w.heap.size, 9, none⟩) := hp 16 (by omega)
 have p17 : vs 17 = .agg #[.bool s6, .int .u64 (sh : Int), .int .u64 (sl : Int)] := hp 17 (by omega)
 have p18 := hp 18 (by omega)
 have p19 : vs 19 = .pointer (some ⟨w.heap.size, 12, none⟩) := hp 19 (by omega)
 have p20 : vs 20 = .agg #[.bool d6, .int .u64 (dh : Int), .int .u64 (dl : Int)] := hp 20 (by omega)
 have p21 := hp 21 (by omega)
 have p22 : vs 22 = .pointer (some ⟨w.heap.size, 15, none⟩) := hp 22 (by omega)
 have p23 : vs 23 = .slice A n k := hp 23 (by omega)
 have p24 := hp 24 (by omega)
 have p25 := hp 25 (by omega)
 clear hp
 simp only [List.take_succ_cons, List.take_zero, List.drop_succ_cons, List.drop_zero, putAll, Nat.zero_add, Nat.reduceAdd, Act.put, qsT, qsZ, qsS, p0, p1, p2, p3, p5, p6, p7, p9, p11, p12, p13, p14, p16, p17, p19, p20, p22, p23]
 clear p0 p1 p2 p3 p5 p6 p7 p9 p11 p12 p13 p14 p16 p17 p19 p20 p22 p23
 generalize vs 4 = y4 at *
 generalize vs 8 = y8 at *
 generalize vs 10 = y10 at *
 generalize vs 15 = y15 at *
 generalize vs 18 = y18 at *
 generalize vs 21 = y21 at *
 generalize vs 24 = y24 at *
 generalize vs 25 = y25 at *
 clear vs
 obtain ⟨A9, n9, c9, rfl, h9⟩ := p25
 replace be := belowP be x.bs x.d
 have HF : Hid (ip4R x0 ts ln id p tl pr s6 sh sl d6 dh dl o = ([[UInt8.ofNat x0, UInt8.ofNat ts], (dig (ln) 2), (dig (id) 2), (dig (p) 2), [UInt8.ofNat (tl), UInt8.ofNat (pr), UInt8.ofNat (0), UInt8.ofNat (0)], (adrB s6 sh sl), (adrB d6 dh dl), o]).flatten) := Lib.hid rfl
 rw [← HF.out] at h9
 have h9' := h9.1
 generalize plus ((w.alloc (.cells #[.int .u8 (ts : Int), .int .i64 (ln : Int), .int .u16 (id : Int), .bool true, .bool true, .int .i64 (fo : Int), .int .u8 (tl : Int), .int .u8 (pr : Int), .int .u16 (sm : Int), .bool s6, .int .u64 (sh : Int), .int .u64 (sl : Int), .bool d6, .int .u64 (dh : Int), .int .u64 (dl : Int), .slice A n k] 122)).alloc (.cells #[.int .u8 (x0 : Int), .int .u8 (ts : Int)] 5)) x.bs x.d = W at *
 clear HF
 generalize hLL : ip4R x0 ts ln id p tl pr s6 sh sl d6 dh dl o = LL at *
 replace hLL := Lib.hid hLL
 have HS := Lib.hid (fun w (h : Rb w A9 n9 c9 LL) => refSumOf A9 n9 c9 LL w h (by omega))
 have hs1 : 65535 - fd (tot false LL) ≤ 65535 := Nat.sub_le _ _
 generalize hss : 65535 - fd (tot false LL) = s at *
 replace hss := Lib.hid hss
 have gs : IntKind.u64.wrap (s : Int) = (s : Int) := IntWalk.u64_in _ (by omega)
 have hn9 : 12 ≤ n9 := by omega
 have hn9' : n9 ≤ 1000 := by omega
 go_wp2_with fail
 refine (HS.out _ h9.rb).mono ?_
 rintro e w1 ⟨rfl, rfl⟩
 go_wp2_with fail
 refine (refBytes_any s 2 _ (by omega) (by decide)).mono ?_
 rintro e w1 ⟨A3, n3, c3, bs3, d3, rfl, rfl, ho3⟩
 obtain rfl : n3 = 2 := by rw [← ho3.1, dig_length]
 go_wp2_with fail
 refine (refSet _ _ _ LL 10 _ _ _ _ _ (h9.rb.plus_ _ _) ho3.rb (by omega) (by omega) (by omega)).mono ?_
 rintro e w1 ⟨A4, n4, c4, bs4, d4, rfl, rfl, ho4⟩
 go_wp2
 go_ret
 try rw [hLL.out]
 try rw [hss.out]
 refine RetB.mk (ho4.mono ?_) ?_
 ·have := be.size; simp [size_plus]; omega
 ·with_reducible repeat (first | exact be | refine belowP ?_ _ _)
theorem refIp4Bytes_yes (ts ln id : Nat) (st mo : Bool) (fo tl pr sm sl dl : Nat) (A : Option Addr) (n k : Nat) (o : List UInt8) (w : World) (hr : Rb w A n k o) (b1 : ts < 256) (b2 : id < 65536) (b3 : tl < 256) (b4 : pr < 256) (b5 : sl < 4294967296) (b6 : dl < 4294967296) (c1 : n ≤ 40) (c2 : n % 4 = 0) (c3 : 20 + n ≤ ln) (c4 : ln ≤ 65535) (c5 : fo ≤ 8191) : Calls Tryz.prog 84 #[.agg (h4C ts (ln : Int) id st mo (fo : Int) tl pr sm false 0 sl false 0 dl A n k).toArray] w (RetB w (ip4B ts ln id (pl4 st mo fo) tl pr (ip4K ts ln id (pl4 st mo fo) tl pr sl dl o) sl dl o)) := by
 cases st
 ·cases mo
  ·have t := refIp4Bytes_nn ts ln id fo tl pr sm false 0 sl false 0 dl A n k o w hr b1 b2 b3 b4 (by omega) (by omega) (by omega) (by omega) c1 c4 c5
   rw [ip4R_B _ _ _ _ _ _ _ _ _ (by rw [hr.1]; exact c1) b1 b3 b4, setB_ip4] at t
   exact t
  ·have t := refIp4Bytes_ny ts ln id fo tl pr sm false 0 sl false 0 dl A n k o w hr b1 b2 b3 b4 (by omega) (by omega) (by omega) (by omega) c1 c4 c5
   rw [ip4R_B _ _ _ _ _ _ _ _ _ (by rw [hr.1]; exact c1) b1 b3 b4, setB_ip4] at t
   exact t
 ·cases mo
  ·have t := refIp4Bytes_yn ts ln id fo tl pr sm false 0 sl false 0 dl A n k o w hr b1 b2 b3 b4 (by omega) (by omega) (by omega) (by omega) c1 c4 c5
   rw [ip4R_B _ _ _ _ _ _ _ _ _ (by rw [hr.1]; exact c1) b1 b3 b4, setB_ip4] at t
   exact t
  ·have t := refIp4Bytes_yy ts ln id fo tl pr sm false 0 sl false 0 dl A n k o w hr b1 b2 b3 b4 (by omega) (by omega) (by omega) (by omega) c1 c4 c5
   rw [ip4R_B _ _ _ _ _ _ _ _ _ (by rw [hr.1]; exact c1) b1 b3 b4, setB_ip4] at t
   exact t
end

section
open Go.RowKit
attribute [local go_sem ↓] sliced_cut
attribute [local go_sem] cutA_zero
set_option maxHeartbeats 4000000
set_option maxRecDepth 100000
theorem packet4_ok (ts : Nat) (l0 : Int) (id : Nat) (st mo : Bool) (fo tl pr sm sl dl : Nat) (A : Option Addr) (n k : Nat) (o : List UInt8) (A2 : Option Addr) (m c2 : Nat) (load : List UInt8) (w : World) (hr : Rb w A n k o) (h2 : Rb w A2 m c2 load) (b1 : ts < 256) (b2 : id < 65536) (b3 : tl < 256) (b4 : pr < 256) (b5 : sl < 4294967296) (b6 : dl < 4294967296) (d1 : n ≤ 40) (d2 : n % 4 = 0) (c4 : 20 + n + m ≤ 65535) (c5 : fo ≤ 8191) : Calls Tryz.prog 43 #[.agg (h4C ts l0 id st mo (fo : Int) tl pr sm false 0 sl false 0 dl A n k).toArray, .slice A2 m c2] w (RetBE w (ip4B ts (20 + n + m) id (pl4 st mo fo) tl pr (ip4K ts (20 + n + m) id (pl4 st mo fo) tl pr sl dl o) sl dl o ++ load) 0) := by
 obtain ⟨du, u1, u2⟩ := rowH4
 obtain ⟨z, hz0⟩ : ∃ z : Nat, z = 20 + n := ⟨_, rfl⟩
 have HS := Lib.hid (fun w => size4 ts l0 id st mo (fo : Int) tl pr sm false 0 sl false 0 dl A n k w (by omega))
 rw [← hz0] at HS
 obtain ⟨L, hL⟩ : ∃ L : Nat, L = z + m := ⟨_, rfl⟩
 have a1 : IntKind.i64.wrap ((z : Int) + (m : Int)) = (L : Int) := by rw [IntWalk.i64_in _ (by omega)]; omega
 have a2 : IntKind.i64.wrap (20 + (n : Int)) = (z : Int) := by rw [IntWalk.i64_in _ (by omega)]; omega
 have a3 : decide (65535 < (L : Int)) = false := by simp only [decide_eq_false_iff_not]; omega
 have a4 : decide (65535 < L) = false := by simp only [decide_eq_false_iff_not]; omega
 have hb : Bk (w.alloc (.cells (h4C ts l0 id st mo (fo : Int) tl pr sm false 0 sl false 0 dl A n k).toArray 99)) w.heap.size 99 (h4C ts l0 id st mo (fo : Int) tl pr sm false 0 sl false 0 dl A n k) := Bk.new w 99 (h4C ts l0 id st mo (fo : Int) tl pr sm false 0 sl false 0 dl A n k).toArray
 have be : Below w.heap.size w (w.alloc (.cells (h4C ts l0 id st mo (fo : Int) tl pr sm false 0 sl false 0 dl A n k).toArray 99)) := Below.allocS (Below.refl _ _) _
 have HR := Lib.hid (fun w => right4 ts (L : Int) id st mo (fo : Int) tl pr sm false 0 sl false 0 dl A n k w (by omega) (by omega) (by omega) (by omega) (by omega) (by omega) (by omega))
 rw [r4_yes n L fo sl dl d1 d2 (by omega) (by omega) c5 b5 b6] at HR
 have HB := Lib.hid (fun w (hr : Rb w A n k o) => ip4Bytes_yes ts L id st mo fo tl pr sm sl dl A n k o w hr b1 b2 b3 b4 b5 b6 d1 d2 (by omega) (by omega) c5)
 have hlen := ip4B_length ts L id (pl4 st mo fo) tl pr (ip4K ts L id (pl4 st mo fo) tl pr sl dl o) sl dl o
 rw [hr.1] at hlen
 rw [show 20 + n + m = L from by omega]
 generalize ip4B ts L id (pl4 st mo fo) tl pr (ip4K ts L id (pl4 st mo fo) tl pr sl dl o) sl dl o = B at *
 clear hz0 hL
 go_enter Tryz.func43, Tryz.ntmps43
 go_upto_region 1 with (fail)
 generalize w.alloc (.cells (h4C ts l0 id st mo (fo : Int) tl pr sm false 0 sl false 0 dl A n k).toArray 99) = W at *
 have y15 : W.cell? ⟨w.heap.size, 15, none⟩ = some (.slice A n k) := hb.cell 15
 have y1 : W.cell? ⟨w.heap.size, 1, none⟩ = some (.int .i64 l0) := hb.cell 1
 have fr := hb.frozen 1
 have zb := hb.lt
 go_wp2_with (refine at_op (.load 99 (.tmp 2)) rfl ?_; refine wpList_ldA (t := 99) 99 (.tmp 2) rfl rfl (h4C ts l0 id st mo (fo : Int) tl pr sm false 0 sl false 0 dl A n k) rfl (by with_reducible repeat (first | exact hb | refine Bk.later ?_ (below_plus _ _ _) | refine Bk.alloc ?_ _)) (whole_ _) u1 u2 (szH4 _ _ _ _ _ _ _ _ _ _ _ _ _ _ _ _ _ _) ?_)
 refine (HS.out _).mono ?_
 rintro e w1 ⟨bs0, m0, rfl, rfl⟩
 replace hb := hb.later (below_plus _ bs0 m0)
 replace be := belowP be bs0 m0
 clear y15 y1 fr zb
 generalize plus W bs0 m0 = V at *
 have y1 : V.cell? ⟨w.heap.size, 1, none⟩ = some (.int .i64 l0) := hb.cell 1
 have fr := hb.frozen 1
 have zb := hb.lt
 go_upto_region 2 with (fail)
 replace hb : Bk (V.setCell ⟨w.heap.size, 1, none⟩ (.int .i64 (L : Int))) w.heap.size 99 (h4C ts (L : Int) id st mo (fo : Int) tl pr sm false 0 sl false 0 dl A n k) := hb.set_ 1 _
 replace be := be.setCell (p := ⟨w.heap.size, 1, none⟩) (Nat.le_refl _) (.int .i64 (L : Int))
 clear y1 fr zb 
 generalize V.setCell ⟨w.heap.size, 1, none⟩ (.int .i64 (L : Int)) = W2 at *
 have y1 : W2.cell? ⟨w.heap.size, 1, none⟩ = some (.int .i64 (L : Int)) := hb.cell 1
 have zb := hb.lt
 go_wp2_with (refine at_op (.load 99 (.tmp 2)) rfl ?_; refine wpList_ldA (t := 99) 99 (.tmp 2) rfl rfl (h4C ts (L : Int) id st mo (fo : Int) tl pr sm false 0 sl false 0 dl A n k) rfl (by with_reducible repeat (first | exact hb | refine Bk.later ?_ (below_plus _ _ _) | refine Bk.alloc ?_ _)) (whole_ _) u1 u2 (szH4 _ _ _ _ _ _ _ _ _ _ _ _ _ _ _ _ _ _) ?_)
 refine (HR.out _).mono ?_
 rintro e w1 ⟨bs1, m1, rfl, rfl⟩
 go_wp2_with (refine at_op (.load 99 (.tmp 2)) rfl ?_; refine wpList_ldA (t := 99) 99 (.tmp 2) rfl rfl (h4C ts (L : Int) id st mo (fo : Int) tl pr sm false 0 sl false 0 dl A n k) rfl (by with_reducible repeat (first | exact hb | refine Bk.later ?_ (below_plus _ _ _) | refine Bk.alloc ?_ _)) (whole_ _) u1 u2 (szH4 _ _ _ _ _ _ _ _ _ _ _ _ _ _ _ _ _ _) ?_)
 refine (HB.out _ (hr.later (by with_reducible repeat (first | exact be | refine belowP ?_ _ _)))).mono ?_
 rintro e w1 ⟨A3, n3, c3, bs2, m2, rfl, rfl, ho3⟩
 have l3 : n3 ≤ 100 := by rw [← ho3.1]; omega
 go_wp2_with (at_builtin; refine wpList_appP (l2 := load) _ bt rfl (.tmp 19) (.tmp 20) rfl (by exact below_plus _ bs2 m2) rfl ho3 rfl (h2.later (by with_reducible repeat (first | exact be | refine belowP ?_ _ _))) (by omega) ?_; intro A4 n4 k4 bs4 m4 ho4 hg4)
 go_ret2
 exact RetBE.mk ho4.rb (by with_reducible repeat (first | exact be | refine belowP ?_ _ _))
theorem packet4_long (ts : Nat) (l0 : Int) (id : Nat) (st mo : Bool) (fo : Int) (tl pr sm : Nat) (s6 : Bool) (sh sl : Nat) (d6 : Bool) (dh dl : Nat) (A : Option Addr) (n k : Nat) (A2 : Option Addr) (m c2 : Nat) (w : World) (hn : n ≤ 2000000) (hm : m ≤ 2000000) (hlong : 65535 < 20 + n + m) : Calls Tryz.prog 43 #[.agg (h4C ts l0 id st mo fo tl pr sm s6 sh sl d6 dh dl A n k).toArray, .slice A2 m c2] w (RetBE w [] 30) := by
 obtain ⟨du, u1, u2⟩ := rowH4
 obtain ⟨z, hz0⟩ : ∃ z : Nat, z = 20 + n := ⟨_, rfl⟩
 have HS := Lib.hid (fun w => size4 ts l0 id st mo fo tl pr sm s6 sh sl d6 dh dl A n k w (by omega))
 rw [← hz0] at HS
 obtain ⟨L, hL⟩ : ∃ L : Nat, L = z + m := ⟨_, rfl⟩
 have a1 : IntKind.i64.wrap ((z : Int) + (m : Int)) = (L : Int) := by rw [IntWalk.i64_in _ (by omega)]; omega
 have a2 : IntKind.i64.wrap (20 + (n : Int)) = (z : Int) := by rw [IntWalk.i64_in _ (by omega)]; omega
 have a3 : decide (65535 < (L : Int)) = true := by simp only [decide_eq_true_eq]; omega
 have a4 : decide (65535 < L) = true := by simp only [decide_eq_true_eq]; omega
 have hb : Bk (w.alloc (.cells (h4C ts l0 id st mo fo tl pr sm s6 sh sl d6 dh dl A n k).toArray 99)) w.heap.size 99 (h4C ts l0 id st mo fo tl pr sm s6 sh sl d6 dh dl A n k) := Bk.new w 99 (h4C ts l0 id st mo fo tl pr sm s6 sh sl d6 dh dl A n k).toArray
 have be : Below w.heap.size w (w.alloc (.cells (h4C ts l0 id st mo fo tl pr sm s6 sh sl d6 dh dl A n k).toArray 99)) := Below.allocS (Below.refl _ _) _
 clear hz0 hL
 go_enter Tryz.func43, Tryz.ntmps43
 go_upto_region 1 with (fail)
 generalize w.alloc (.cells (h4C ts l0 id st mo fo tl pr sm s6 sh sl d6 dh dl A n k).toArray 99) = W at *
 have y15 : W.cell? ⟨w.heap.size, 15, none⟩ = some (.slice A n k) := hb.cell 15
 have y1 : W.cell? ⟨w.heap.size, 1, none⟩ = some (.int .i64 l0) := hb.cell 1
 have fr := hb.frozen 1
 have zb := hb.lt
 go_wp2_with (refine at_op (.load 99 (.tmp 2)) rfl ?_; refine wpList_ldA (t := 99) 99 (.tmp 2) rfl rfl (h4C ts l0 id st mo fo tl pr sm s6 sh sl d6 dh dl A n k) rfl (by with_reducible repeat (first | exact hb | refine Bk.later ?_ (below_plus _ _ _) | refine Bk.alloc ?_ _)) (whole_ _) u1 u2 (szH4 _ _ _ _ _ _ _ _ _ _ _ _ _ _ _ _ _ _) ?_)
 refine (HS.out _).mono ?_
 rintro e w1 ⟨bs0, m0, rfl, rfl⟩
 replace hb := hb.later (below_plus _ bs0 m0)
 replace be := belowP be bs0 m0
 clear y15 y1 fr zb
 generalize plus W bs0 m0 = V at *
 have y1 : V.cell? ⟨w.heap.size, 1, none⟩ = some (.int .i64 l0) := hb.cell 1
 have fr := hb.frozen 1
 have zb := hb.lt
 go_upto_region 2 with (fail)
 replace hb : Bk (V.setCell ⟨w.heap.size, 1, none⟩ (.int .i64 (L : Int))) w.heap.size 99 (h4C ts (L : Int) id st mo fo tl pr sm s6 sh sl d6 dh dl A n k) := hb.set_ 1 _
 replace be := be.setCell (p := ⟨w.heap.size, 1, none⟩) (Nat.le_refl _) (.int .i64 (L : Int))
 clear y1 fr zb 
 generalize V.setCell ⟨w.heap.size, 1, none⟩ (.int .i64 (L : Int)) = W2 at *
 have y1 : W2.cell? ⟨w.heap.size, 1, none⟩ = some (.int .i64 (L : Int)) := hb.cell 1
 have zb := hb.lt
 go_wp2
 go_ret2
 exact RetBE.mk Rb.nil_ be
theorem refPacket4_ok (ts : Nat) (l0 : Int) (id : Nat) (st mo : Bool) (fo tl pr sm sl dl : Nat) (A : Option Addr) (n k : Nat) (o : List UInt8) (A2 : Option Addr) (m c2 : Nat) (load : List UInt8) (w : World) (hr : Rb w A n k o) (h2 : Rb w A2 m c2 load) (b1 : ts < 256) (b2 : id < 65536) (b3 : tl < 256) (b4 : pr < 256) (b5 : sl < 4294967296) (b6 : dl < 4294967296) (d1 : n ≤ 40) (d2 : n % 4 = 0) (c4 : 20 + n + m ≤ 65535) (c5 : fo ≤ 8191) : Calls Tryz.prog 58 #[.agg (h4C ts l0 id st mo (fo : Int) tl pr sm false 0 sl false 0 dl A n k).toArray, .slice A2 m c2] w (RetBE w (ip4B ts (20 + n + m) id (pl4 st mo fo) tl pr (ip4K ts (20 + n + m) id (pl4 st mo fo) tl pr sl dl o) sl dl o ++ load) 0) := by
 obtain ⟨du, u1, u2⟩ := rowR4
 obtain ⟨z, hz0⟩ : ∃ z : Nat, z = 20 + n := ⟨_, rfl⟩
 obtain ⟨L, hL⟩ : ∃ L : Nat, L = z + m := ⟨_, rfl⟩
 have a1 : IntKind.i64.wrap ((z : Int) + (m : Int)) = (L : Int) := by rw [IntWalk.i64_in _ (by omega)]; omega
 have a2 : IntKind.i64.wrap (20 + (n : Int)) = (z : Int) := by rw [IntWalk.i64_in _ (by omega)]; omega
 have a3 : decide (65535 < (L : Int)) = false := by simp only [decide_eq_false_iff_not]; omega
 have a4 : decide (65535 < L) = false := by simp only [decide_eq_false_iff_not]; omega
 have hb : Bk (w.alloc (.cells (h4C ts l0 id st mo (fo : Int) tl pr sm false 0 sl false 0 dl A n k).toArray 122)) w.heap.size 122 (h4C ts l0 id st mo (fo : Int) tl pr sm false 0 sl false 0 dl A n k) := Bk.new w 122 (h4C ts l0 id st mo (fo : Int) tl pr sm false 0 sl false 0 dl A n k).toArray
 have be : Below w.heap.size w (w.alloc (.cells (h4C ts l0 id st mo (fo : Int) tl pr sm false 0 sl false 0 dl A n k).toArray 122)) := Below.allocS (Below.refl _ _) _
 have HR := Lib.hid (fun w => refRight4 ts (L : Int) id st mo (fo : Int) tl pr sm false 0 sl false 0 dl A n k w (by omega) (by omega) (by omega) (by omega) (by omega) (by omega) (by omega))
 rw [r4_yes n L fo sl dl d1 d2 (by omega) (by omega) c5 b5 b6] at HR
 have HB := Lib.hid (fun w (hr : Rb w A n k o) => refIp4Bytes_yes ts L id st mo fo tl pr sm sl dl A n k o w hr b1 b2 b3 b4 b5 b6 d1 d2 (by omega) (by omega) c5)
 have hlen := ip4B_length ts L id (pl4 st mo fo) tl pr (ip4K ts L id (pl4 st mo fo) tl pr sl dl o) sl dl o
 rw [hr.1] at hlen
 rw [show 20 + n + m = L from by omega]
 generalize ip4B ts L id (pl4 st mo fo) tl pr (ip4K ts L id (pl4 st mo fo) tl pr sl dl o) sl dl o = B at *
 clear hz0 hL
 go_enter Tryz.func58, Tryz.ntmps58
 go_upto_region 1 with (fail)
 generalize w.alloc (.cells (h4C ts l0 id st mo (fo : Int) tl pr sm false 0 sl false 0 dl A n k).toArray 122) = W at *
 have y15 : W.cell? ⟨w.heap.size, 15, none⟩ = some (.slice A n k) := hb.cell 15
 have y1 : W.cell? ⟨w.heap.size, 1, none⟩ = some (.int .i64 l0) := hb.cell 1
 have fr := hb.frozen 1
 have zb := hb.lt
 have hV : W = W := rfl
 go_upto_region 2 with (fail)
 replace hb : Bk (W.setCell ⟨w.heap.size, 1, none⟩ (.int .i64 (L : Int))) w.heap.size 122 (h4C ts (L : Int) id st mo (fo : Int) tl pr sm false 0 sl false 0 dl A n k) := hb.set_ 1 _
 replace be := be.setCell (p := ⟨w.heap.size, 1, none⟩) (Nat.le_refl _) (.int .i64 (L : Int))
 clear y1 fr zb y15 hV
 generalize W.setCell ⟨w.heap.size, 1, none⟩ (.int .i64 (L : Int)) = W2 at *
 have y1 : W2.cell? ⟨w.heap.size, 1, none⟩ = some (.int .i64 (L : Int)) := hb.cell 1
 have zb := hb.lt
 go_wp2_with (refine at_op (.load 122 (.tmp 2)) rfl ?_; refine wpList_ldA (t := 122) 122 (.tmp 2) rfl rfl (h4C ts (L : Int) id st mo (fo : Int) tl pr sm false 0 sl false 0 dl A n k) rfl (by with_reducible repeat (first | exact hb | refine Bk.later ?_ (below_plus _ _ _) | refine Bk.alloc ?_ _)) (whole_ _) u1 u2 (szR4 _ _ _ _ _ _ _ _ _ _ _ _ _ _ _ _ _ _) ?_)
 refine (HR.out _).mono ?_
 rintro e w1 ⟨bs1, m1, rfl, rfl⟩
 go_wp2_with (refine at_op (.load 122 (.tmp 2)) rfl ?_; refine wpList_ldA (t := 122) 122 (.tmp 2) rfl rfl (h4C ts (L : Int) id st mo (fo : Int) tl pr sm false 0 sl false 0 dl A n k) rfl (by with_reducible repeat (first | exact hb | refine Bk.later ?_ (below_plus _ _ _) | refine Bk.alloc ?_ _)) (whole_ _) u1 u2 (szR4 _ _ _ _ _ _ _ _ _ _ _ _ _ _ _ _ _ _) ?_)
 refine (HB.out _ (hr.later (by with_reducible repeat (first | exact be | refine belowP ?_ _ _)))).mono ?_
 rintro e w1 ⟨A3, n3, c3, bs2, m2, rfl, rfl, ho3⟩
 have l3 : n3 ≤ 100 := by rw [← ho3.1]; omega
 go_wp2_with (at_builtin; refine wpList_appP (l2 := load) _ bt rfl (.tmp 21) (.tmp 22) rfl (by exact below_plus _ bs2 m2) rfl ho3 rfl (h2.later (by with_reducible repeat (first | exact be | refine belowP ?_ _ _))) (by omega) ?_; intro A4 n4 k4 bs4 m4 ho4 hg4)
 go_ret2
 exact RetBE.mk ho4.rb (by with_reducible repeat (first | exact be | refine belowP ?_ _ _))
theorem refPacket4_long (ts : Nat) (l0 : Int) (id : Nat) (st mo : Bool) (fo : Int) (tl pr sm : Nat) (s6 : Bool) (sh sl : Nat) (d6 : Bool) (dh dl : Nat) (A : Option Addr) (n k : Nat) (A2 : Option Addr) (m c2 : Nat) (w : World) (hn : n ≤ 2000000) (hm : m ≤ 2000000) (hlong : 65535 < 20 + n + m) : Calls Tryz.prog 58 #[.agg (h4C ts l0 id st mo fo tl pr sm s6 sh sl d6 dh dl A n k).toArray, .slice A2 m c2] w (RetBE w [] 30) := by
 obtain ⟨du, u1, u2⟩ := rowR4
 obtain ⟨z, hz0⟩ : ∃ z : Nat, z = 20 + n := ⟨_, rfl⟩
 obtain ⟨L, hL⟩ : ∃ L : Nat, L = z + m := ⟨_, rfl⟩
 have a1 : IntKind.i64.wrap ((z : Int) + (m : Int)) = (L : Int) := by rw [IntWalk.i64_in _ (by omega)]; omega
 have a2 : IntKind.i64.wrap (20 + (n : Int)) = (z : Int) := by rw [IntWalk.i64_in _ (by omega)]; omega
 have a3 : decide (65535 < (L : Int)) = true := by simp only [decide_eq_true_eq]; omega
 have a4 : decide (65535 < L) = true := by simp only [decide_eq_true_eq]; omega
 have hb : Bk (w.alloc (.cells (h4C ts l0 id st mo fo tl pr sm s6 sh sl d6 dh dl A n k).toArray 122)) w.heap.size 122 (h4C ts l0 id st mo fo tl pr sm s6 sh sl d6 dh dl A n k) := Bk.new w 122 (h4C ts l0 id st mo fo tl pr sm s6 sh sl d6 dh dl A n k).toArray
 have be : Below w.heap.size w (w.alloc (.cells (h4C ts l0 id st mo fo tl pr sm s6 sh sl d6 dh dl A n k).toArray 122)) := Below.allocS (Below.refl _ _) _
 clear hz0 hL
 go_enter Tryz.func58, Tryz.ntmps58
 go_upto_region 1 with (fail)
 generalize w.alloc (.cells (h4C ts l0 id st mo fo tl pr sm s6 sh sl d6 dh dl A n k).toArray 122) = W at *
 have y15 : W.cell? ⟨w.heap.size, 15, none⟩ = some (.slice A n k) := hb.cell 15
 have y1 : W.cell? ⟨w.heap.size, 1, none⟩ = some (.int .i64 l0) := hb.cell 1
 have fr := hb.frozen 1
 have zb := hb.lt
 have hV : W = W := rfl
 go_upto_region 2 with (fail)
 replace hb : Bk (W.setCell ⟨w.heap.size, 1, none⟩ (.int .i64 (L : Int))) w.heap.size 122 (h4C ts (L : Int) id st mo fo tl pr sm s6 sh sl d6 dh dl A n k) := hb.set_ 1 _
 replace be := be.setCell (p := ⟨w.heap.size, 1, none⟩) (Nat.le_refl _) (.int .i64 (L : Int))
 clear y1 fr zb y15 hV
 generalize W.setCell ⟨w.heap.size, 1, none⟩ (.int .i64 (L : Int)) = W2 at *
 have y1 : W2.cell? ⟨w.heap.size, 1, none⟩ = some (.int .i64 (L : Int)) := hb.cell 1
 have zb := hb.lt
 go_wp2
 go_ret2
 exact RetBE.mk Rb.nil_ be
end

section
open Go.RowKit
attribute [local go_sem ↓] sliced_cut
attribute [local go_sem] cutA_zero
def sgB (x0 x1 x2 x3 x4 x5 x6 x7 : Nat) (o1 o2 : List UInt8) : List UInt8 := tcpB x0 x1 x2 x3 (80 + o1.length / 4 * 16) x4 x5 x6 x7 o1 o2
theorem tcpB_len (a b c d e f g i j : Nat) (l1 l2 : List UInt8) : (tcpB a b c d e f g i j l1 l2).length = 20 + l1.length + l2.length := by simp [tcpB, dig_length]; omega
def okL (E : Int) (l : List UInt8) : List UInt8 := if E = 0 then l else []
def okE (E : Int) : Int := if E = 0 then 0 else 21
theorem okL_yes {E : Int} {l : List UInt8} (h : E = 0) : okL E l = l := if_pos h
theorem okL_no {E : Int} {l : List UInt8} (h : ¬ E = 0) : okL E l = [] := if_neg h
theorem okE_yes {E : Int} (h : E = 0) : okE E = 0 := if_pos h
theorem okE_no {E : Int} (h : ¬ E = 0) : okE E = 21 := if_neg h
def MP.rbe (l : List UInt8) (E : Int) : MP := ⟨fun v w => ∃ A n c, v = .tuple #[.slice A n c, .int .i64 E] ∧ Rb w A n c l, fun _ _ _ ⟨A, n, c, h1, h2⟩ h => ⟨A, n, c, h1, h2.later h.below⟩⟩
set_option maxHeartbeats 4000000
set_option maxRecDepth 100000
theorem pw_six (A : Option Addr) (n c : Nat) (w : World) (x0 x1 x2 x3 x4 x5 x6 x7 : Nat) (B1 : Option Addr) (n1 c1 : Nat) (B2 : Option Addr) (n2 c2 : Nat) (o1 o2 : List UInt8) (b0 : x0 < 65536) (b1 : x1 < 65536) (b2 : x2 < 4294967296) (b3 : x3 < 4294967296) (b4 : x4 < 256) (b5 : x5 < 65536) (b6 : x6 < 65536) (b7 : x7 < 65536) (hn1 : n1 ≤ 40) (h4 : n1 % 4 = 0) (hn2 : 20 + n1 + n2 ≤ 65535) (r1 : Rb w B1 n1 c1 o1) (r2 : Rb w B2 n2 c2 o2) (B : Bool) (E : Int) (hE : (E != 0) = true) (HS : ∀ w', Below w.heap.size w w' → Calls Tryz.prog 39 #[.slice A n c] w' fun e w2 => e = .returned (.tuple #[.bool B, .int .i64 E]) ∧ w' = w2) : Calls Tryz.prog 20 #[.slice A n c, .agg (tcC x0 x1 x2 x3 x4 x5 x6 x7 B1 n1 c1 B2 n2 c2).toArray] w (RetBE w [] 21) := by
 have hE2 : (E == 0) = false := by rw [beq_eq_false_iff_ne]; exact bne_iff_ne.1 hE
 replace HS := Lib.hid HS
 have HR := Lib.hid (fun w => (tcpRight_yes x0 x1 x2 x3 x4 x5 x6 x7 B1 n1 c1 B2 n2 c2 w hn1 h4 hn2 : Calls Tryz.prog 25 #[.agg (tcC x0 x1 x2 x3 x4 x5 x6 x7 B1 n1 c1 B2 n2 c2).toArray] w (RetV w (.bool true))))
 obtain ⟨ds1, s1, s2⟩ := rowSeg
 obtain ⟨hS, be, zV⟩ := box1 w 49 (tcC x0 x1 x2 x3 x4 x5 x6 x7 B1 n1 c1 B2 n2 c2)
 go_enter Tryz.func20, Tryz.ntmps20
 go_upto_region 1 with (fail)
 generalize w.alloc (.cells (tcC x0 x1 x2 x3 x4 x5 x6 x7 B1 n1 c1 B2 n2 c2).toArray 49) = V at *
 refine wp_region_lit ?_
 refine wpList_ldA (t := 49) 49 (.tmp 3) rfl rfl (tcC x0 x1 x2 x3 x4 x5 x6 x7 B1 n1 c1 B2 n2 c2) rfl (hS) (whole_ _) s1 s2 (szSeg _ rfl) ?_
 refine wpList_plain rfl (fun K hK => ?_)
 go_simp
 refine (HR.out _).mono ?_
 rintro e w1 ⟨bs0, d0, rfl, rfl⟩
 with_reducible refine hK _ _ ?_
 clear hK K
 replace hS := hS.later (below_plus V bs0 d0)
 replace be := belowP be bs0 d0
 generalize plus V bs0 d0 = V1 at *
 refine wpList_plain rfl (fun K hK => ?_); go_simp; with_reducible refine hK _ _ ?_; clear hK K
 go_upto_region 3 with (fail)
 go_wp2_with fail
 refine (HS.out _ be).mono ?_
 rintro e w1 ⟨rfl, rfl⟩
 go_wp2
 go_ret2
 exact RetBE.mk Rb.nil_ be
theorem pw_6 (A : Option Addr) (n c : Nat) (w : World) (x0 x1 x2 x3 x4 x5 x6 x7 : Nat) (B1 : Option Addr) (n1 c1 : Nat) (B2 : Option Addr) (n2 c2 : Nat) (o1 o2 : List UInt8) (b0 : x0 < 65536) (b1 : x1 < 65536) (b2 : x2 < 4294967296) (b3 : x3 < 4294967296) (b4 : x4 < 256) (b5 : x5 < 65536) (b6 : x6 < 65536) (b7 : x7 < 65536) (hn1 : n1 ≤ 40) (h4 : n1 % 4 = 0) (hn2 : 20 + n1 + n2 ≤ 65535) (r1 : Rb w B1 n1 c1 o1) (r2 : Rb w B2 n2 c2 o2) (cl lb ln nx ht : Nat) (s6 : Bool) (sh sl dh dl : Nat) (load : List UInt8) (E1 : Int) (g : E1 = 0 → s6 = true ∧ cl < 256 ∧ lb < 1048576 ∧ nx < 256 ∧ ht < 256 ∧ sh < 18446744073709551616 ∧ sl < 18446744073709551616 ∧ dh < 18446744073709551616 ∧ dl < 18446744073709551616) (HS : ∀ w', Below w.heap.size w w' → Calls Tryz.prog 39 #[.slice A n c] w' fun e w2 => e = .returned (.tuple #[.bool true, .int .i64 0]) ∧ w' = w2) (HP : ∀ w', Below w.heap.size w w' → Calls Tryz.prog 40 #[.slice A n c] w' (RetP6 w' cl lb ln nx ht s6 sh sl dh dl load E1)) : Calls Tryz.prog 20 #[.slice A n c, .agg (tcC x0 x1 x2 x3 x4 x5 x6 x7 B1 n1 c1 B2 n2 c2).toArray] w (RetBE w (okL E1 (ip6B cl lb (sgB x0 x1 x2 x3 x4 x5 x6 x7 o1 o2).length nx ht sh sl dh dl ++ (sgB x0 x1 x2 x3 x4 x5 x6 x7 o1 o2))) (okE E1)) := by
 have HR := Lib.hid (fun w => (tcpRight_yes x0 x1 x2 x3 x4 x5 x6 x7 B1 n1 c1 B2 n2 c2 w hn1 h4 hn2 : Calls Tryz.prog 25 #[.agg (tcC x0 x1 x2 x3 x4 x5 x6 x7 B1 n1 c1 B2 n2 c2).toArray] w (RetV w (.bool true))))
 have HBy := Lib.hid (fun w (r1 : Rb w B1 n1 c1 o1) (r2 : Rb w B2 n2 c2 o2) => (tcpBytes_yes x0 x1 x2 x3 x4 x5 x6 x7 B1 n1 c1 B2 n2 c2 o1 o2 w b0 b1 b2 b3 b4 b5 b6 b7 r1 r2 hn1 h4 hn2 : Calls Tryz.prog 28 #[.agg (tcC x0 x1 x2 x3 x4 x5 x6 x7 B1 n1 c1 B2 n2 c2).toArray] w (RetB w (tcpB x0 x1 x2 x3 (80 + n1 / 4 * 16) x4 x5 x6 x7 o1 o2))))
 obtain ⟨dp_, p1, p2⟩ := rowH6
 replace HS := Lib.hid HS
 replace HP := Lib.hid HP
 have hsg : (sgB x0 x1 x2 x3 x4 x5 x6 x7 o1 o2) = tcpB x0 x1 x2 x3 (80 + n1 / 4 * 16) x4 x5 x6 x7 o1 o2 := by unfold sgB; rw [r1.1]
 have hsl : (sgB x0 x1 x2 x3 x4 x5 x6 x7 o1 o2).length ≤ 65535 := by rw [hsg, tcpB_len, r1.1, r2.1]; omega
 rw [← hsg] at HBy
 generalize (sgB x0 x1 x2 x3 x4 x5 x6 x7 o1 o2) = sg at *
 clear hsg
 obtain ⟨ds1, s1, s2⟩ := rowSeg
 obtain ⟨hS, be, zV⟩ := box1 w 49 (tcC x0 x1 x2 x3 x4 x5 x6 x7 B1 n1 c1 B2 n2 c2)
 go_enter Tryz.func20, Tryz.ntmps20
 go_upto_region 1 with (fail)
 generalize w.alloc (.cells (tcC x0 x1 x2 x3 x4 x5 x6 x7 B1 n1 c1 B2 n2 c2).toArray 49) = V at *
 refine wp_region_lit ?_
 refine wpList_ldA (t := 49) 49 (.tmp 3) rfl rfl (tcC x0 x1 x2 x3 x4 x5 x6 x7 B1 n1 c1 B2 n2 c2) rfl (hS) (whole_ _) s1 s2 (szSeg _ rfl) ?_
 refine wpList_plain rfl (fun K hK => ?_)
 go_simp
 refine (HR.out _).mono ?_
 rintro e w1 ⟨bs0, d0, rfl, rfl⟩
 with_reducible refine hK _ _ ?_
 clear hK K
 replace hS := hS.later (below_plus V bs0 d0)
 replace be := belowP be bs0 d0
 generalize plus V bs0 d0 = V1 at *
 refine wpList_plain rfl (fun K hK => ?_); go_simp; with_reducible refine hK _ _ ?_; clear hK K
 go_upto_region 3 with (fail)
 go_wp2_with fail
 refine (HS.out _ be).mono ?_
 rintro e w1 ⟨rfl, rfl⟩
 go_upto_region 7 with (fail)
 go_wp2_with fail
 refine (HP.out _ be).mono ?_
 rintro e w1 ⟨A1, m1, k1, bs1, d1, rfl, rfl, -, -⟩
 go_upto_region 8 with (refine at_op (.store 94 (.tmp 8) (.tmp 27)) rfl ?_; refine wpList_stA (t := 94) 94 (.tmp 8) (.tmp 27) rfl rfl (h6C cl lb (ln : Int) nx ht s6 sh sl s6 dh dl) (h6C 0 0 0 0 0 false 0 0 false 0 0) rfl (h6C_one _ _ _ _ _ _ _ _ _ _ _) rfl rfl ?_ (szH6 _ _ _ _ _ _ _ _ _ _ _) ?_; (· refine Bk.newK _ _ _ ?_ rfl; simp [size_plus]); intro W8 hH gr8)
 have b8 := below_grown (Below.allocS (below_plus V1 bs1 d1) _) gr8 (by simp [size_plus])
 have b9 := below_grown (Below.allocS (Below.refl _ _) _) gr8 (by simp [size_plus])
 replace be := be.trans (b8.mono be.size)
 replace hS := hS.later b8
 clear b8 b9 gr8
 generalize V1.heap.size + bs1.length = gh at *
 by_cases hE : E1 = 0
 case neg =>
  have hE1 : (E1 != 0) = true := by rw [bne_iff_ne]; exact hE
  have hE2 : (E1 == 0) = false := by rw [beq_eq_false_iff_ne]; exact hE
  have hEh := Lib.hid hE
  clear g hE
  go_wp2
  go_ret2
  rw [okL_no hEh.out, okE_no hEh.out]
  exact RetBE.mk Rb.nil_ be
 subst hE
 obtain ⟨rfl, g1, g2, g3, g4, k1, k2, k3, k4⟩ := g rfl
 have HPK := Lib.hid (fun w A5 n5 c5 (h5 : Rb w A5 n5 c5 sg) => (by have e5 := h5.1; subst e5; exact ip6Packet_yes cl lb (ln : Int) nx ht sh sl dh dl A5 _ c5 sg w g1 g2 (by omega) g3 g4 k1 k2 k3 k4 h5 : Calls Tryz.prog 41 #[.agg (h6C cl lb (ln : Int) nx ht true sh sl true dh dl).toArray, .slice A5 n5 c5] w (RetBE w (ip6B cl lb sg.length nx ht sh sl dh dl ++ sg) 0)))
 generalize (ip6B cl lb sg.length nx ht sh sl dh dl ++ sg) = Lq at *
 go_upto_region 10 with (fail)
 go_wp2
 refine wp_relS 8 52 rfl (by kernel_rfl) (by kernel_rfl) ?_
 apply Steps.o1 (MP.eq _) 1 rfl rfl
 ·intro FA x hO hD K hK
  have e8 := hO 8 (by kernel_rfl)
  simp only [eval_tmp, qgT, qgS, qgZ, qoS] at e8
  have ev8 := Lib.hid ((eval_tmp FA 8).trans e8)
  clear hO hD
  refine wanted_if rfl ?_
  refine wp_ldA 94 (.tmp 8) rfl (h6C cl lb (ln : Int) nx ht true sh sl true dh dl) ev8.out (hH.later (below_plus _ _ _)) (whole_ _) p1 p2 (szH6 _ _ _ _ _ _ _ _ _ _ _) ?_
  exact hK.out _ _ (Ex.refl _) rfl
 apply Steps.o1 (MP.eq _) 2 rfl rfl
 ·intro FA x hO hD K hK
  have e3 := hO 3 (by kernel_rfl)
  simp only [eval_tmp, qgT, qgS, qgZ, qoS] at e3
  have ev3 := Lib.hid ((eval_tmp FA 3).trans e3)
  clear hO hD
  refine wanted_if rfl ?_
  refine wp_ldA 49 (.tmp 3) rfl (tcC x0 x1 x2 x3 x4 x5 x6 x7 B1 n1 c1 B2 n2 c2) ev3.out (hS.later (below_plus _ _ _)) (whole_ _) s1 s2 (szSeg _ rfl) ?_
  exact hK.out _ _ (Ex.refl _) rfl
 apply Steps.o1 (MP.rb sg) 3 rfl rfl
 ·intro FA x hO hD K hK
  obtain ⟨e33, ev33⟩ := qE (hD 1 33 (by kernel_rfl))
  clear hO hD
  go_simp
  refine (HBy.out _ ((r1.later be).plus_ _ _) ((r2.later be).plus_ _ _)).mono ?_
  rintro e w1 ⟨A5, n5, c5, bs2, d2, rfl, rfl, ho⟩
  exact hK.out _ _ (Ex.plus_ _ _ _) ⟨_, _, _, rfl, ho.rb⟩
 apply Steps.o1 (MP.rbe Lq 0) 4 rfl rfl
 ·intro FA x hO hD K hK
  obtain ⟨e32, ev32⟩ := qE (hD 0 32 (by kernel_rfl))
  obtain ⟨u34, f34, e34, ev34⟩ := qG (hD 2 34 (by kernel_rfl))
  clear hO hD
  obtain ⟨A5, n5, c5, rfl, h5⟩ := f34
  go_simp
  refine (HPK.out _ _ _ _ h5).mono ?_
  rintro e w1 ⟨A6, n6, c6, bs2, d2, rfl, rfl, h6⟩
  exact hK.out _ _ (Ex.plus_ _ _ _) ⟨_, _, _, rfl, h6⟩
 apply Steps.o1 (MP.rb Lq) 5 rfl rfl
 ·intro FA x hO hD K hK
  obtain ⟨u35, f35, e35, ev35⟩ := qG (hD 3 35 (by kernel_rfl))
  clear hO hD
  obtain ⟨A6, n6, c6, rfl, h6⟩ := f35
  go_simp
  exact hK.out _ _ (Ex.refl _) ⟨_, _, _, rfl, h6⟩
 apply Steps.o1 (MP.eq (.int .i64 0)) 6 rfl rfl
 ·intro FA x hO hD K hK
  obtain ⟨u35, f35, e35, ev35⟩ := qG (hD 3 35 (by kernel_rfl))
  clear hO hD
  obtain ⟨A6, n6, c6, rfl, h6⟩ := f35
  go_simp
  exact hK.out _ _ (Ex.refl _) rfl
 apply Steps.o1 (MP.rb Lq) 7 rfl rfl
 ·intro FA x hO hD K hK
  obtain ⟨u36, f36, e36, ev36⟩ := qG (hD 4 36 (by kernel_rfl))
  clear hO hD
  go_simp
  exact hK.out _ _ (Ex.refl _) f36
 apply Steps.o1 (MP.eq (.int .i64 0)) 8 rfl rfl
 ·intro FA x hO hD K hK
  obtain ⟨e37, ev37⟩ := qE (hD 5 37 (by kernel_rfl))
  clear hO hD
  go_simp
  exact hK.out _ _ (Ex.refl _) rfl
 refine Steps.fin_ (fun vs x hp => ?_)
 have p0 : vs 0 = _ := hp 0 (by omega)
 have p1 : vs 1 = _ := hp 1 (by omega)
 have p2 := hp 2 (by omega)
 have p3 := hp 3 (by omega)
 have p4 := hp 4 (by omega)
 have p5 : vs 5 = _ := hp 5 (by omega)
 have p6 := hp 6 (by omega)
 have p7 : vs 7 = _ := hp 7 (by omega)
 clear hp
 simp only [List.take_succ_cons, List.take_zero, List.drop_succ_cons, List.drop_zero, putAll, Nat.zero_add, Nat.reduceAdd, Act.put, qsT, qsZ, qsS, p0, p1, p5, p7]
 clear p0 p1 p5 p7
 generalize vs 2 = y2 at *
 generalize vs 3 = y3 at *
 generalize vs 4 = y4 at *
 generalize vs 6 = y6 at *
 clear vs
 obtain ⟨A6, n6, c6, rfl, h6⟩ := p6
 go_wp2
 go_ret2
 rw [okL_yes rfl, okE_yes rfl]
 exact RetBE.mk h6 (belowP be _ _)
def okF (E ER : Int) : Int := if E = 0 then ER else 21
theorem okF_yes {E ER : Int} (h : E = 0) : okF E ER = ER := if_pos h
theorem okF_no {E ER : Int} (h : ¬ E = 0) : okF E ER = 21 := if_neg h
theorem pw_4 (A : Option Addr) (n c : Nat) (w : World) (x0 x1 x2 x3 x4 x5 x6 x7 : Nat) (B1 : Option Addr) (n1 c1 : Nat) (B2 : Option Addr) (n2 c2 : Nat) (o1 o2 : List UInt8) (b0 : x0 < 65536) (b1 : x1 < 65536) (b2 : x2 < 4294967296) (b3 : x3 < 4294967296) (b4 : x4 < 256) (b5 : x5 < 65536) (b6 : x6 < 65536) (b7 : x7 < 65536) (hn1 : n1 ≤ 40) (h4 : n1 % 4 = 0) (hn2 : 20 + n1 + n2 ≤ 65535) (r1 : Rb w B1 n1 c1 o1) (r2 : Rb w B2 n2 c2 o2) (ts ln id : Nat) (st mo : Bool) (fo tl pr sm sa da : Nat) (o load : List UInt8) (E1 : Int) (g : ts < 256 ∧ id < 65536 ∧ fo < 8192 ∧ tl < 256 ∧ pr < 256 ∧ sa < 4294967296 ∧ da < 4294967296 ∧ o.length ≤ 40 ∧ o.length % 4 = 0) (LR : List UInt8) (ER : Int) (HPK0 : ∀ w Ao no ko A5 n5 c5, Rb w Ao no ko o → Rb w A5 n5 c5 (sgB x0 x1 x2 x3 x4 x5 x6 x7 o1 o2) → Calls Tryz.prog 43 #[.agg (h4C ts (ln : Int) id st mo (fo : Int) tl pr sm false 0 sa false 0 da Ao no ko).toArray, .slice A5 n5 c5] w (RetBE w LR ER)) (HS : ∀ w', Below w.heap.size w w' → Calls Tryz.prog 39 #[.slice A n c] w' fun e w2 => e = .returned (.tuple #[.bool false, .int .i64 0]) ∧ w' = w2) (HP : ∀ w', Below w.heap.size w w' → Calls Tryz.prog 42 #[.slice A n c] w' (RetPE w' ts ln id st mo fo tl pr sm sa da o load E1)) : Calls Tryz.prog 20 #[.slice A n c, .agg (tcC x0 x1 x2 x3 x4 x5 x6 x7 B1 n1 c1 B2 n2 c2).toArray] w (RetBE w (okL E1 LR) (okF E1 ER)) := by
 have HR := Lib.hid (fun w => (tcpRight_yes x0 x1 x2 x3 x4 x5 x6 x7 B1 n1 c1 B2 n2 c2 w hn1 h4 hn2 : Calls Tryz.prog 25 #[.agg (tcC x0 x1 x2 x3 x4 x5 x6 x7 B1 n1 c1 B2 n2 c2).toArray] w (RetV w (.bool true))))
 have HBy := Lib.hid (fun w (r1 : Rb w B1 n1 c1 o1) (r2 : Rb w B2 n2 c2 o2) => (tcpBytes_yes x0 x1 x2 x3 x4 x5 x6 x7 B1 n1 c1 B2 n2 c2 o1 o2 w b0 b1 b2 b3 b4 b5 b6 b7 r1 r2 hn1 h4 hn2 : Calls Tryz.prog 28 #[.agg (tcC x0 x1 x2 x3 x4 x5 x6 x7 B1 n1 c1 B2 n2 c2).toArray] w (RetB w (tcpB x0 x1 x2 x3 (80 + n1 / 4 * 16) x4 x5 x6 x7 o1 o2))))
 obtain ⟨dp_, p1, p2⟩ := rowH4
 replace HS := Lib.hid HS
 replace HP := Lib.hid HP
 have hsg : (sgB x0 x1 x2 x3 x4 x5 x6 x7 o1 o2) = tcpB x0 x1 x2 x3 (80 + n1 / 4 * 16) x4 x5 x6 x7 o1 o2 := by unfold sgB; rw [r1.1]
 have hsl : (sgB x0 x1 x2 x3 x4 x5 x6 x7 o1 o2).length ≤ 65535 := by rw [hsg, tcpB_len, r1.1, r2.1]; omega
 rw [← hsg] at HBy
 generalize (sgB x0 x1 x2 x3 x4 x5 x6 x7 o1 o2) = sg at *
 clear hsg
 obtain ⟨ds1, s1, s2⟩ := rowSeg
 obtain ⟨hS, be, zV⟩ := box1 w 49 (tcC x0 x1 x2 x3 x4 x5 x6 x7 B1 n1 c1 B2 n2 c2)
 go_enter Tryz.func20, Tryz.ntmps20
 go_upto_region 1 with (fail)
 generalize w.alloc (.cells (tcC x0 x1 x2 x3 x4 x5 x6 x7 B1 n1 c1 B2 n2 c2).toArray 49) = V at *
 refine wp_region_lit ?_
 refine wpList_ldA (t := 49) 49 (.tmp 3) rfl rfl (tcC x0 x1 x2 x3 x4 x5 x6 x7 B1 n1 c1 B2 n2 c2) rfl (hS) (whole_ _) s1 s2 (szSeg _ rfl) ?_
 refine wpList_plain rfl (fun K hK => ?_)
 go_simp
 refine (HR.out _).mono ?_
 rintro e w1 ⟨bs0, d0, rfl, rfl⟩
 with_reducible refine hK _ _ ?_
 clear hK K
 replace hS := hS.later (below_plus V bs0 d0)
 replace be := belowP be bs0 d0
 generalize plus V bs0 d0 = V1 at *
 refine wpList_plain rfl (fun K hK => ?_); go_simp; with_reducible refine hK _ _ ?_; clear hK K
 go_upto_region 3 with (fail)
 go_wp2_with fail
 refine (HS.out _ be).mono ?_
 rintro e w1 ⟨rfl, rfl⟩
 go_upto_region 11 with (fail)
 go_wp2_with fail
 refine (HP.out _ be).mono ?_
 rintro e w1 ⟨Ao, no, ko, A1, m1, k1, bs1, d1, rfl, rfl, hro, -, -⟩
 go_upto_region 12 with (refine at_op (.store 99 (.tmp 11) (.tmp 41)) rfl ?_; refine wpList_stA (t := 99) 99 (.tmp 11) (.tmp 41) rfl rfl (h4C ts (ln : Int) id st mo (fo : Int) tl pr sm false 0 sa false 0 da Ao no ko) (h4C 0 0 0 false false 0 0 0 0 false 0 0 false 0 0 none 0 0) rfl (h4C_one _ _ _ _ _ _ _ _ _ _ _ _ _ _ _ _ _ _) rfl rfl ?_ (szH4 _ _ _ _ _ _ _ _ _ _ _ _ _ _ _ _ _ _) ?_; (· refine Bk.newK _ _ _ ?_ rfl; simp [size_plus]); intro W8 hH gr8)
 have b8 := below_grown (Below.allocS (below_plus V1 bs1 d1) _) gr8 (by simp [size_plus])
 have b9 := below_grown (Below.allocS (Below.refl _ _) _) gr8 (by simp [size_plus])
 replace be := be.trans (b8.mono be.size)
 replace hS := hS.later b8
 replace hro := hro.later b9
 clear b8 b9 gr8
 generalize V1.heap.size + bs1.length = gh at *
 by_cases hE : E1 = 0
 case neg =>
  have hE1 : (E1 != 0) = true := by rw [bne_iff_ne]; exact hE
  have hE2 : (E1 == 0) = false := by rw [beq_eq_false_iff_ne]; exact hE
  have hEh := Lib.hid hE
  clear g hE
  go_wp2
  go_ret2
  rw [okL_no hEh.out, okF_no hEh.out]
  exact RetBE.mk Rb.nil_ be
 subst hE
 obtain ⟨g1, g2, g3, g4, g5, g6, g7, g8, g9⟩ := g
 have HPK := Lib.hid (fun w A5 n5 c5 (hr : Rb w Ao no ko o) (h5 : Rb w A5 n5 c5 sg) => HPK0 w Ao no ko A5 n5 c5 hr h5)
 clear HPK0
 go_upto_region 14 with (fail)
 go_wp2
 refine wp_relS 8 52 rfl (by kernel_rfl) (by kernel_rfl) ?_
 apply Steps.o1 (MP.eq _) 1 rfl rfl
 ·intro FA x hO hD K hK
  have e11 := hO 11 (by kernel_rfl)
  simp only [eval_tmp, qgT, qgS, qgZ, qoS] at e11
  have ev11 := Lib.hid ((eval_tmp FA 11).trans e11)
  clear hO hD
  refine wanted_if rfl ?_
  refine wp_ldA 99 (.tmp 11) rfl (h4C ts (ln : Int) id st mo (fo : Int) tl pr sm false 0 sa false 0 da Ao no ko) ev11.out (hH.later (below_plus _ _ _)) (whole_ _) p1 p2 (szH4 _ _ _ _ _ _ _ _ _ _ _ _ _ _ _ _ _ _) ?_
  exact hK.out _ _ (Ex.refl _) rfl
 apply Steps.o1 (MP.eq _) 2 rfl rfl
 ·intro FA x hO hD K hK
  have e3 := hO 3 (by kernel_rfl)
  simp only [eval_tmp, qgT, qgS, qgZ, qoS] at e3
  have ev3 := Lib.hid ((eval_tmp FA 3).trans e3)
  clear hO hD
  refine wanted_if rfl ?_
  refine wp_ldA 49 (.tmp 3) rfl (tcC x0 x1 x2 x3 x4 x5 x6 x7 B1 n1 c1 B2 n2 c2) ev3.out (hS.later (below_plus _ _ _)) (whole_ _) s1 s2 (szSeg _ rfl) ?_
  exact hK.out _ _ (Ex.refl _) rfl
 apply Steps.o1 (MP.rb sg) 3 rfl rfl
 ·intro FA x hO hD K hK
  obtain ⟨e47, ev47⟩ := qE (hD 1 47 (by kernel_rfl))
  clear hO hD
  go_simp
  refine (HBy.out _ ((r1.later be).plus_ _ _) ((r2.later be).plus_ _ _)).mono ?_
  rintro e w1 ⟨A5, n5, c5, bs2, d2, rfl, rfl, ho⟩
  exact hK.out _ _ (Ex.plus_ _ _ _) ⟨_, _, _, rfl, ho.rb⟩
 apply Steps.o1 (MP.rbe LR ER) 4 rfl rfl
 ·intro FA x hO hD K hK
  obtain ⟨e46, ev46⟩ := qE (hD 0 46 (by kernel_rfl))
  obtain ⟨u48, f48, e48, ev48⟩ := qG (hD 2 48 (by kernel_rfl))
  clear hO hD
  obtain ⟨A5, n5, c5, rfl, h5⟩ := f48
  go_simp
  refine (HPK.out _ _ _ _ (hro.plus_ _ _) h5).mono ?_
  rintro e w1 ⟨A6, n6, c6, bs2, d2, rfl, rfl, h6⟩
  exact hK.out _ _ (Ex.plus_ _ _ _) ⟨_, _, _, rfl, h6⟩
 apply Steps.o1 (MP.rb LR) 5 rfl rfl
 ·intro FA x hO hD K hK
  obtain ⟨u49, f49, e49, ev49⟩ := qG (hD 3 49 (by kernel_rfl))
  clear hO hD
  obtain ⟨A6, n6, c6, rfl, h6⟩ := f49
  go_simp
  exact hK.out _ _ (Ex.refl _) ⟨_, _, _, rfl, h6⟩
 apply Steps.o1 (MP.eq (.int .i64 ER)) 6 rfl rfl
 ·intro FA x hO hD K hK
  obtain ⟨u49, f49, e49, ev49⟩ := qG (hD 3 49 (by kernel_rfl))
  clear hO hD
  obtain ⟨A6, n6, c6, rfl, h6⟩ := f49
  go_simp
  exact hK.out _ _ (Ex.refl _) rfl
 apply Steps.o1 (MP.rb LR) 7 rfl rfl
 ·intro FA x hO hD K hK
  obtain ⟨u50, f50, e50, ev50⟩ := qG (hD 4 50 (by kernel_rfl))
  clear hO hD
  go_simp
  exact hK.out _ _ (Ex.refl _) f50
 apply Steps.o1 (MP.eq (.int .i64 ER)) 8 rfl rfl
 ·intro FA x hO hD K hK
  obtain ⟨e51, ev51⟩ := qE (hD 5 51 (by kernel_rfl))
  clear hO hD
  go_simp
  exact hK.out _ _ (Ex.refl _) rfl
 refine Steps.fin_ (fun vs x hp => ?_)
 have p0 : vs 0 = _ := hp 0 (by omega)
 have p1 : vs 1 = _ := hp 1 (by omega)
 have p2 := hp 2 (by omega)
 have p3 := hp 3 (by omega)
 have p4 := hp 4 (by omega)
 have p5 : vs 5 = _ := hp 5 (by omega)
 have p6 := hp 6 (by omega)
 have p7 : vs 7 = _ := hp 7 (by omega)
 clear hp
 simp only [List.take_succ_cons, List.take_zero, List.drop_succ_cons, List.drop_zero, putAll, Nat.zero_add, Nat.reduceAdd, Act.put, qsT, qsZ, qsS, p0, p1, p5, p7]
 clear p0 p1 p5 p7
 generalize vs 2 = y2 at *
 generalize vs 3 = y3 at *
 generalize vs 4 = y4 at *
 generalize vs 6 = y6 at *
 clear vs
 obtain ⟨A6, n6, c6, rfl, h6⟩ := p6
 go_wp2
 go_ret2
 rw [okL_yes rfl, okF_yes rfl]
 exact RetBE.mk h6 (belowP be _ _)
theorem withTCP_any (A : Option Addr) (n c : Nat) (l : List UInt8) (w : World) (h : Rb w A n c l) (hm : n ≤ 1100000) (x0 x1 x2 x3 x4 x5 x6 x7 : Nat) (B1 : Option Addr) (n1 c1 : Nat) (B2 : Option Addr) (n2 c2 : Nat) (o1 o2 : List UInt8) (b0 : x0 < 65536) (b1 : x1 < 65536) (b2 : x2 < 4294967296) (b3 : x3 < 4294967296) (b4 : x4 < 256) (b5 : x5 < 65536) (b6 : x6 < 65536) (b7 : x7 < 65536) (hn1 : n1 ≤ 40) (h4 : n1 % 4 = 0) (hn2 : 20 + n1 + n2 ≤ 65535) (r1 : Rb w B1 n1 c1 o1) (r2 : Rb w B2 n2 c2 o2) : ∃ (l' : List UInt8) (E : Int), l'.length ≤ 65700 ∧ Calls Tryz.prog 20 #[.slice A n c, .agg (tcC x0 x1 x2 x3 x4 x5 x6 x7 B1 n1 c1 B2 n2 c2).toArray] w (RetBE w l' E) := by
 obtain ⟨N, B, E, s⟩ := sx_any l
 have HS : ∀ w', Below w.heap.size w w' → Calls Tryz.prog 39 #[.slice A n c] w' fun e w2 => e = .returned (.tuple #[.bool B, .int .i64 E]) ∧ w' = w2 := fun w2 h2 => tunSix A n c l w2 (h.later h2) N B E s
 have hsg : (sgB x0 x1 x2 x3 x4 x5 x6 x7 o1 o2).length ≤ 60 + n2 := by unfold sgB; rw [tcpB_len, r1.1, r2.1]; omega
 cases s
 case none_ => exact ⟨[], 21, by simp, pw_six A n c w x0 x1 x2 x3 x4 x5 x6 x7 B1 n1 c1 B2 n2 c2 o1 o2 b0 b1 b2 b3 b4 b5 b6 b7 hn1 h4 hn2 r1 r2 _ _ rfl HS⟩
 case other => exact ⟨[], 21, by simp, pw_six A n c w x0 x1 x2 x3 x4 x5 x6 x7 B1 n1 c1 B2 n2 c2 o1 o2 b0 b1 b2 b3 b4 b5 b6 b7 hn1 h4 hn2 r1 r2 _ _ rfl HS⟩
 case four =>
  obtain ⟨ts, ln, id, st, mo, fo, tl, pr, sm, sa, da, o, load, E1, F, H1, -⟩ := reads4F A n c _ w h (by omega)
  obtain ⟨k1, k2, k3, k4, k5, k6, k7, k8, k9, k10, k11⟩ := F.b
  by_cases hT : 20 + o.length + (sgB x0 x1 x2 x3 x4 x5 x6 x7 o1 o2).length ≤ 65535
  ·refine ⟨_, _, ?_, pw_4 A n c w x0 x1 x2 x3 x4 x5 x6 x7 B1 n1 c1 B2 n2 c2 o1 o2 b0 b1 b2 b3 b4 b5 b6 b7 hn1 h4 hn2 r1 r2 ts ln id st mo fo tl pr sm sa da o load E1 (by omega) (ip4B ts (20 + o.length + (sgB x0 x1 x2 x3 x4 x5 x6 x7 o1 o2).length) id (pl4 st mo fo) tl pr (ip4K ts (20 + o.length + (sgB x0 x1 x2 x3 x4 x5 x6 x7 o1 o2).length) id (pl4 st mo fo) tl pr sa da o) sa da o ++ (sgB x0 x1 x2 x3 x4 x5 x6 x7 o1 o2)) 0 (fun w Ao no ko A5 n5 c5 hr h5 => by have e5 := h5.1; have e6 := hr.1; subst e5 e6; exact packet4_ok ts (ln : Int) id st mo fo tl pr sm sa da Ao _ ko o A5 _ c5 _ w hr h5 k1 k2 k4 k5 k7 k8 (by omega) k10 (by omega) (by omega)) HS H1⟩
   unfold okL
   split
   ·rw [List.length_append, ip4B_length]; omega
   ·simp
  ·exact ⟨_, _, by unfold okL; split <;> simp, pw_4 A n c w x0 x1 x2 x3 x4 x5 x6 x7 B1 n1 c1 B2 n2 c2 o1 o2 b0 b1 b2 b3 b4 b5 b6 b7 hn1 h4 hn2 r1 r2 ts ln id st mo fo tl pr sm sa da o load E1 (by omega) [] 30 (fun w Ao no ko A5 n5 c5 hr h5 => packet4_long ts (ln : Int) id st mo (fo : Int) tl pr sm false 0 sa false 0 da Ao no ko A5 n5 c5 w (by have := hr.1; omega) (by have := h5.1; omega) (by have := hr.1; have := h5.1; omega)) HS H1⟩
 case six =>
  obtain ⟨cl, lb, ln, nx, ht, s6, sh, sl, dh, dl, load, E1, F, ⟨k1, k2, k3, k4, k5, k6, k7⟩, H1, -⟩ := reads6F A n c _ w h (by omega)
  refine ⟨_, _, ?_, pw_6 A n c w x0 x1 x2 x3 x4 x5 x6 x7 B1 n1 c1 B2 n2 c2 o1 o2 b0 b1 b2 b3 b4 b5 b6 b7 hn1 h4 hn2 r1 r2 cl lb ln nx ht s6 sh sl dh dl load E1 (fun hE => ?_) HS H1⟩
  ·unfold okL
   split
   ·rw [List.length_append, ip6B_length]; omega
   ·simp
  ·obtain ⟨m1, m2, m3, m4, m5⟩ := F.c hE
   exact ⟨m3, F.c1, F.c2, k1, k2, k3, k4, k5, k6⟩
end

section
open Go.RowKit
attribute [local go_sem ↓] sliced_cut
attribute [local go_sem] cutA_zero
set_option maxRecDepth 100000 in
theorem sumUpdate (s a b : Nat) (w : World) (hs : s < 65536) (ha : a < 65536) (hb : b < 65536) : Calls Tryz.prog 94 #[.int .u16 (s : Int), .int .u16 (a : Int), .int .u16 (b : Int)] w fun e w' => e = .returned (.int .u16 ((65535 - fd ((65535 - s) + (65535 - a) + b) : Nat) : Int)) ∧ w = w' := by
 have f1 := not16 s (by omega)
 have f2 := not16 a (by omega)
 obtain ⟨s', hs'⟩ : ∃ x : Nat, x = 65535 - s := ⟨_, rfl⟩
 obtain ⟨a', ha'⟩ : ∃ x : Nat, x = 65535 - a := ⟨_, rfl⟩
 rw [← hs'] at f1
 rw [← ha'] at f2
 rw [← hs', ← ha']
 have g1 : IntKind.u64.wrap (s' : Int) = (s' : Int) := IntWalk.u64_in _ (by omega)
 have g2 : IntKind.u64.wrap (a' : Int) = (a' : Int) := IntWalk.u64_in _ (by omega)
 have g3 : IntKind.u64.wrap (b : Int) = (b : Int) := IntWalk.u64_in _ (by omega)
 obtain ⟨p, hp⟩ : ∃ x : Nat, x = s' + a' := ⟨_, rfl⟩
 have g4 : IntKind.u64.wrap ((s' : Int) + (a' : Int)) = (p : Int) := by rw [IntWalk.u64_in _ (by omega)]; omega
 obtain ⟨q, hq⟩ : ∃ x : Nat, x = p + b := ⟨_, rfl⟩
 have g5 : IntKind.u64.wrap ((p : Int) + (b : Int)) = (q : Int) := by rw [IntWalk.u64_in _ (by omega)]; omega
 rw [← hp, ← hq]
 have hq2 : q < 18446744073709551616 := by omega
 have hf := fd_le q
 have f3 := not16 (fd q) hf
 have HF := Lib.hid (fun w => fold_sum q w hq2)
 generalize fd q = z at *
 clear hs' ha' hp hq
 go_enter Tryz.func94, Tryz.ntmps94
 go_wp2_with fail
 refine (HF.out _).mono ?_
 rintro e w1 ⟨rfl, rfl⟩
 go_wp2
 go_ret
 exact ⟨rfl, rfl⟩
theorem u16w (z : Int) : 0 ≤ IntKind.u16.wrap z ∧ IntKind.u16.wrap z < 65536 := by
 rw [show IntKind.u16.wrap z = z % 65536 from rfl]
 omega
theorem updZ (x y z : Int) (hx : 0 ≤ x ∧ x < 65536) (hy : 0 ≤ y ∧ y < 65536) (hz : 0 ≤ z ∧ z < 65536) (w : World) : Calls Tryz.prog 94 #[.int .u16 x, .int .u16 y, .int .u16 z] w fun e w' => ∃ r : Nat, r < 65536 ∧ e = .returned (.int .u16 (r : Int)) ∧ w = w' := by
 obtain ⟨a, rfl⟩ : ∃ a : Nat, x = a := ⟨x.toNat, by omega⟩
 obtain ⟨b, rfl⟩ : ∃ b : Nat, y = b := ⟨y.toNat, by omega⟩
 obtain ⟨c, rfl⟩ : ∃ c : Nat, z = c := ⟨z.toNat, by omega⟩
 refine (sumUpdate a b c w (by omega) (by omega) (by omega)).mono ?_
 rintro e w' ⟨rfl, rfl⟩
 exact ⟨_, by omega, rfl, rfl⟩
set_option maxHeartbeats 4000000 in
set_option maxRecDepth 100000 in
theorem updLong_any (s a b : Nat) (hs : s < 65536) (w : World) : Calls Tryz.prog 69 #[.int .u16 (s : Int), .int .u32 (a : Int), .int .u32 (b : Int)] w fun e w' => ∃ r : Nat, r < 65536 ∧ e = .returned (.int .u16 (r : Int)) ∧ w = w' := by
 go_enter Tryz.func69, Tryz.ntmps69
 go_wp2_with fail
 refine (updZ _ _ _ (by omega) (u16w _) (u16w _) _).mono ?_
 rintro e w1 ⟨r, hr, rfl, rfl⟩
 go_wp2_with fail
 refine (updZ _ _ _ (by omega) (u16w _) (u16w _) _).mono ?_
 rintro e w1 ⟨r2, hr2, rfl, rfl⟩
 go_wp2
 go_ret
 exact ⟨r2, hr2, rfl, rfl⟩
theorem rot8 (a : Nat) (ha : a < 4294967296) (w : World) : Calls Tryz.prog 68 #[.int .u32 (a : Int), .int .i64 8] w fun e w' => ∃ r : Nat, r < 4294967296 ∧ e = .returned (.int .u32 (r : Int)) ∧ w = w' := by
 have hk : bits .and .u64 8 31 = 8 := by decide +kernel
 have hr : bits .or .u32 ((a : Int) * 256 % 4294967296) ((a : Int) / 16777216) = ((((a * 256) % 4294967296) ||| (a / 16777216) : Nat) : Int) := by
  rw [show (a : Int) * 256 % 4294967296 = (((a * 256) % 4294967296 : Nat) : Int) by omega, show (a : Int) / 16777216 = ((a / 16777216 : Nat) : Int) by omega]
  exact u32_or_nat _ _ (by omega) (by omega)
 have hlt : (((a * 256) % 4294967296) ||| (a / 16777216)) < 4294967296 := Nat.or_lt_two_pow (n := 32) (by omega) (by omega)
 generalize ((a * 256) % 4294967296) ||| (a / 16777216) = z at *
 go_enter Tryz.func68, Tryz.ntmps68
 go_wp2
 go_ret
 exact ⟨z, hlt, by rw [← hr]; rfl, rfl⟩
end

section
open Go.RowKit Go.ChangeShapes Go.WideShapes
def Rs (s : Nat) (w : World) (A : Option Addr) (n c : Nat) (cs : List Value) : Prop := cs.length = n * s ∧ n ≤ c ∧ Rd w w.heap.size A cs
def Os (e : TypeId) (s : Nat) (w : World) (base : Nat) (A : Option Addr) (n c : Nat) (cs : List Value) : Prop := w.ownsRow base e s (.slice A n c) n cs
theorem Rd.cutS {w : World} {B : Nat} {A : Option Addr} {cs : List Value} (h : Rd w B A cs) {s c k : Nat} (hc : cs.length ≤ c * s) : Rd w B (cutA A c k s) (cs.drop (k * s)) := by
 by_cases hk : cs.length ≤ k * s
 ·exact .inl (List.drop_eq_nil_of_le hk)
 rcases h with h | ⟨b, off, hA, hb, hcell⟩
 ·exact .inl (by simp [h])
 ·have hck : ¬ c = k := fun e => by subst e; exact hk hc
  refine .inr ⟨b, off + k * s, ?_, hb, fun i u hu => ?_⟩
  ·subst hA
   simp only [cutA, if_neg hck, Option.map_some, Addr.add]
   split
   ·simp_all
   ·rfl
  ·rw [Nat.add_assoc]
   rw [List.getElem?_drop] at hu
   exact hcell _ _ hu
section
variable {s : Nat} {w w' : World} {base : Nat} {e : TypeId} {A : Option Addr} {n c : Nat} {cs : List Value}
theorem Rs.nil_ : Rs s w none 0 0 [] := ⟨by simp, Nat.le_refl _, .inl rfl⟩
theorem Rs.later (h : Rs s w A n c cs) (hb : Below w.heap.size w w') : Rs s w' A n c cs := ⟨h.1, h.2.1, (h.2.2.below hb).more hb.size⟩
theorem Rs.drew (h : Rs s w A n c cs) : Rs s w.drew A n c cs := h
theorem Rs.alloc (h : Rs s w A n c cs) (o : Obj) : Rs s (w.alloc o) A n c cs := ⟨h.1, h.2.1, (h.2.2.alloc (Nat.le_refl _) o).more (by simp)⟩
theorem Rs.plus_ (h : Rs s w A n c cs) (bs : List Obj) (d : Nat) : Rs s (plus w bs d) A n c cs := h.later (below_plus w bs d)
theorem Rs.take (h : Rs s w A n c cs) {k : Nat} (hk : k ≤ n) : Rs s w A k c (cs.take (k * s)) := ⟨by rw [List.length_take, h.1]; exact Nat.min_eq_left (Nat.mul_le_mul_right _ hk), Nat.le_trans hk h.2.1, h.2.2.take _⟩
theorem Rs.cut (h : Rs s w A n c cs) {k : Nat} (hk : k ≤ n) : Rs s w (cutA A c k s) (n - k) (c - k) (cs.drop (k * s)) :=
 ⟨by rw [List.length_drop, h.1, Nat.sub_mul], by have := h.2.1; omega, h.2.2.cutS (by rw [h.1]; exact Nat.mul_le_mul_right _ h.2.1)⟩
theorem Rs.grown (h : Rs s w A n c cs) {row : Option Nat} (hg : w.grownBy w' row) (hr : ∀ a, A = some a → some a.block ≠ row) : Rs s w' A n c cs := by
 refine ⟨h.1, h.2.1, ?_⟩
 rcases h.2.2 with h' | ⟨b, off, hA, hbl, hc⟩
 ·exact .inl h'
 ·exact .inr ⟨b, off, hA, Nat.lt_of_lt_of_le hbl hg.size, fun i u hu => (World.cell?_of_block (hg.block b hbl (hr _ hA))).trans (hc i u hu)⟩
theorem Rs.at_ (h : Rs s w A n c cs) (hn : 0 < n) (hs : 0 < s) : ∃ b off, A = some ⟨b, off, none⟩ ∧ b < w.heap.size ∧ ∀ i u, cs[i]? = some u → w.cell? ⟨b, off + i, none⟩ = some u :=
 h.2.2.at_ (by rw [h.1]; exact Nat.mul_pos hn hs)
theorem Os.nil_ : Os e s w base none 0 0 [] := World.ownsRow_nil w base _ s
theorem Os.blk (h : Os e s w base A n c cs) : ∀ k, (Value.slice A n c).ownBlock = some k → base ≤ k ∧ k < w.heap.size := h.lt
theorem Os.grown {row : Option Nat} (h : Os e s w base A n c cs) (hg : w.grownBy w' row) (hne : ∀ k, (Value.slice A n c).ownBlock = some k → row ≠ some k) : Os e s w' base A n c cs := by
 refine h.kept hg ?_
 cases hk : (Value.slice A n c).ownBlock with
 | none => exact .inl rfl
 | some k => exact .inr (fun e => hne k hk e.symm)
theorem Os.later (h : Os e s w base A n c cs) (hb : Below w.heap.size w w') : Os e s w' base A n c cs := h.grown (grownBy_of_below hb) (fun _ _ => by simp)
theorem Os.plus_ (h : Os e s w base A n c cs) (bs : List Obj) (d : Nat) : Os e s (plus w bs d) base A n c cs := h.later (below_plus w bs d)
theorem Os.mono {base' : Nat} (h : Os e s w base A n c cs) (hb : base' ≤ base) : Os e s w base' A n c cs := by
 refine ⟨h.1, ?_⟩
 rcases h.2 with h2 | ⟨g, cap, cur, hv, hg, hr⟩
 ·exact .inl h2
 ·exact .inr ⟨g, cap, cur, hv, by omega, hr⟩
end
theorem Os.lit (w : World) {base s : Nat} {e : TypeId} (hb : base ≤ w.heap.size) (cs : Array Value) (n : Nat) (hn : cs.size = n * s) (hm : n ≤ maxLen) : Os e s (w.alloc (.cells cs e)) base (some ⟨w.heap.size, 0, none⟩) n n cs.toList :=
 ⟨by simpa using hn, .inr ⟨w.heap.size, n, cs, rfl, hb, heap_alloc_new w _, Nat.le_refl _, hm, hn, List.take_of_length_le (by simp [hn])⟩⟩
theorem Rs.of_bk {w : World} {g s n c : Nat} {t : TypeId} {cs : List Value} (h : Bk w g t cs) (hn : cs.length = n * s) (hc : n ≤ c) : Rs s w (some ⟨g, 0, none⟩) n c cs :=
 ⟨hn, hc, .inr ⟨g, 0, rfl, h.lt, fun i u hu => by rw [Nat.zero_add]; exact (h.cell i).trans hu⟩⟩
end

section
open Go.RowKit
attribute [local go_sem ↓] sliced_cut
attribute [local go_sem] cutA_zero
theorem Os.bk {e : TypeId} {s : Nat} {w : World} {base : Nat} {A : Option Addr} {n c : Nat} {cs : List Value} (h : Os e s w base A n c cs) (hn : 0 < n) : ∃ b cur, A = some ⟨b, 0, none⟩ ∧ (Value.slice A n c).ownBlock = some b ∧ Bk w b e cur ∧ cur.length = c * s ∧ cur.take (n * s) = cs ∧ n ≤ c ∧ c ≤ maxLen := by
 rcases h.2 with ⟨hv, h0⟩ | ⟨b, cap, cur, hv, _, hr, hnc, hm, hs, ht⟩
 ·omega
 ·injection hv with h1 h2 h3
  subst h1 h3
  exact ⟨b, cur.toList, rfl, rfl, hr, by simpa using hs, ht, hnc, hm⟩
theorem Os.of_bk {e : TypeId} {s : Nat} {w : World} {b n c : Nat} {cur cs : List Value} (h : Bk w b e cur) (hl : cur.length = c * s) (ht : cur.take (n * s) = cs) (hn : n ≤ c) (hc : c ≤ maxLen) (hcs : cs.length = n * s) : Os e s w 0 (some ⟨b, 0, none⟩) n c cs :=
 ⟨hcs, .inr ⟨b, c, cur.toArray, rfl, Nat.zero_le _, h, hn, hc, by simpa using hl, by simpa using ht⟩⟩
theorem splice_app (A B new : List Value) (o : Nat) (h : o + new.length ≤ A.length) : splice (A ++ B) o new = splice A o new ++ B := by
 unfold splice
 rw [List.take_append_of_le_length (by omega), List.drop_append_of_le_length h]
 simp only [List.append_assoc]
theorem wpList_copyS {P : Program} {w : World} {ops : Array Oper} {rest : List Oper} {o : Oper} {a : Act} {Q : Exit → Act → World → Prop} (hgd : o.guard = none) (d s : Operand) (dT sT : TypeId)
  (ho : o.op = .call { callee := .builtin .copy, args := #[d, s], argTypes := #[dT, sT] }) (e : TypeId) (sz : Nat) (hu : P.underlying dT = some (.slice e)) (hsz : (P.info? e).map (·.size) = some sz)
  {g off dLen dCap : Nat} {ad : Addr} {sLen sCap : Nat} (hd : a.eval d = .slice (some ⟨g, off, none⟩) dLen dCap) (hs : a.eval s = .slice (some ad) sLen sCap) {cur : List Value} {t : TypeId} (hb : Bk w g t cur) (cs : List Value) (hn : cs.length = Nat.min sLen dLen * sz)
  (hsrc : ∀ j v, cs[j]? = some v → w.cell? (ad.add j) = some v) (hfit : off + cs.length ≤ cur.length) (h1 : ∀ v ∈ cs, v.oneCell' = true)
  (h : ∀ w', Bk w' g t (splice cur off cs) → w.grownBy w' (some g) → wpList P ops Q rest (a.put o.dst (goInt (Nat.min sLen dLen))) w') : wpList P ops Q (o :: rest) a w := by
 refine wpList_plain hgd fun K hK => ?_
 have hl := run_firstCells_some (P := P) w sz (Nat.min sLen dLen) ad sLen sCap cs hn hsrc
 have hst := run_storeCells_at P g off t cs 0 cur.toArray w hb (by simpa using hfit) h1
 have hrun : (Builtin.copy_ #[dT, sT] o.type #[.slice (some ⟨g, off, none⟩) dLen dCap, .slice (some ad) sLen sCap]).run P w = .ok (goInt (Nat.min sLen dLen)) (w.setRow g (splice cur off cs).toArray) := by
  cases hq : P.info? e with
  | none => simp [hq] at hsz
  | some i =>
   have hi : i.size = sz := by simpa [hq] using hsz
   simp only [Builtin.copy_, Sem.run_bind, run_underlying hu, Builtin.lenOf, sizeOf, typeInfo, hq, hi, Result.andThen_ok, Sem.run_pure, List.getElem?_toArray, List.getElem?_cons_zero, List.getElem?_cons_succ, hl]
   simp [hq, hi, hl, hst, splice]
 unfold Oper.wp execOp
 simp only [ho, resolve, invoke, builtin, Sem.run_bind, Sem.run_pure, Result.andThen_ok, List.map_toArray, List.map_cons, List.map_nil, hd, hs, hrun]
 refine hK _ _ (h _ ?_ ⟨rfl, rfl, rfl, by simp [World.setRow], fun k hk hne => setRow_other w g k _ (fun e => hne (by rw [e]))⟩)
 exact setRow_heap w g _ _ t _ hb
def RetSX (w : World) (a b c d f wi ur n n2 : Nat) (l2 : List UInt8) (e : Ending) (w' : World) : Prop := ∃ sm l A k A2 k2, e = .returned (.agg (sgC a b c d f wi sm ur A n k A2 n2 k2).toArray) ∧ sm < 65536 ∧ Below w.heap.size w w' ∧ Rb w' A n k l ∧ Rb w' A2 n2 k2 l2 ∧ (∀ a, A = some a → w.heap.size ≤ a.block) ∧ ∀ a, A2 = some a → w.heap.size ≤ a.block
set_option maxHeartbeats 4000000
set_option maxRecDepth 100000
theorem segWith (a b c d f wi sm ur : Nat) (A : Option Addr) (n k : Nat) (A2 : Option Addr) (n2 k2 : Nat) (l l2 : List UInt8) (v : Nat) (hv : v < 4294967296) (w : World) (hl0 : Rb w A n k l) (h2 : Rb w A2 n2 k2 l2) (hsm : sm < 65536) (hn : n ≤ 40) (hn2 : n2 ≤ 70000) : Calls Tryz.prog 44 #[.agg (sgC a b c d f wi sm ur A n k A2 n2 k2).toArray, .int .i64 0, .int .u32 (v : Int)] w (RetSX w a b c d f wi ur n n2 l2) := by
 have HL2 := Lib.hid h2
 have HLN := Lib.hid hl0.1
 have HLN2 := Lib.hid h2.1
 obtain ⟨du1, u1, u2⟩ := rowSG
 obtain ⟨hS, hR, be, zV⟩ := box2 w 49 49 (sgC a b c d f wi sm ur A n k A2 n2 k2) ([.int .u16 0, .int .u16 0, .int .u32 0, .int .u32 0, .int .u8 0, .int .u16 0, .int .u16 0, .int .u16 0, .slice none 0 0, .slice none 0 0])
 replace hl0 := ((hl0.alloc (.cells (sgC a b c d f wi sm ur A n k A2 n2 k2).toArray 49)).alloc (.cells ([.int .u16 0, .int .u16 0, .int .u32 0, .int .u32 0, .int .u8 0, .int .u16 0, .int .u16 0, .int .u16 0, .slice none 0 0, .slice none 0 0]).toArray 49))
 replace h2 := ((h2.alloc (.cells (sgC a b c d f wi sm ur A n k A2 n2 k2).toArray 49)).alloc (.cells ([.int .u16 0, .int .u16 0, .int .u32 0, .int .u32 0, .int .u8 0, .int .u16 0, .int .u16 0, .int .u16 0, .slice none 0 0, .slice none 0 0]).toArray 49))
 go_enter Tryz.func44, Tryz.ntmps44
 go_upto_region 1 with (fail)
 generalize (w.alloc (.cells (sgC a b c d f wi sm ur A n k A2 n2 k2).toArray 49)).alloc (.cells ([.int .u16 0, .int .u16 0, .int .u32 0, .int .u32 0, .int .u8 0, .int .u16 0, .int .u16 0, .int .u16 0, .slice none 0 0, .slice none 0 0]).toArray 49) = V at *
 replace hR : Bk V (w.heap.size + 1) 49 (sgC 0 0 0 0 0 0 0 0 none 0 0 none 0 0) := hR
 refine wp_region_lit ?_
 refine wpList_ldA (t := 49) 49 (.tmp 3) rfl rfl (sgC a b c d f wi sm ur A n k A2 n2 k2) rfl (hS) (whole_ _) u1 u2 (szSG _ _ _ _ _ _ _ _ _ _ _ _ _ _ ) ?_
 refine wpList_plain rfl (fun K hK => ?_)
 go_simp
 refine (segCopiedD a b c d f wi sm ur A n k A2 n2 k2 l l2 V hl0 h2 (by omega) (by omega)).mono ?_
 rintro e w1 ⟨A4, n4, k4, A5, n5, k5, rfl, b1, hoL, hoD, hdis⟩
 with_reducible refine hK _ _ ?_
 clear hK K
 obtain rfl : n = n4 := by have := hoL.1; have := HLN.out; omega
 obtain rfl : n2 = n5 := by have := hoD.1; have := HLN2.out; omega
 replace hoL := hoL.mono zV
 replace hoD := hoD.mono zV
 clear hl0 h2
 have b4 : Below V.heap.size V w1 := b1
 replace zV := Nat.le_trans zV b4.size
 replace be := be.trans (b4.mono be.size)
 replace hS := hS.later b4
 replace hR := hR.later b4
 clear b4
 generalize w1 = V1 at *
 clear b1
 refine wpList_stA 49 (.tmp 3) (.tmp 11) rfl rfl (sgC a b c d f wi sm ur A4 n k4 A5 n2 k5) (sgC a b c d f wi sm ur A n k A2 n2 k2) rfl (sgC_one _ _ _ _ _ _ _ _ _ _ _ _ _ _ ) rfl rfl hS (szSG _ _ _ _ _ _ _ _ _ _ _ _ _ _ ) ?_
 intro V2 hS' g2
 replace hS := hS'
 clear hS'
 simp only [Act.put, qsT, qsZ, qsS]
 replace be := below_grown be g2 (Nat.le_refl _)
 replace hR := hR.grown g2 (fun e => by injection e with e; omega)
 replace zV := Nat.le_trans zV g2.size
 replace hoL := hoL.grown g2 (fun k hk e => by have := (hoL.blk k hk).1; injection e with e; omega)
 replace hoD := hoD.grown g2 (fun k hk e => by have := (hoD.blk k hk).1; injection e with e; omega)
 clear g2
 cases hst : stampsAt l with
 | none =>
  have HTN := Lib.hid (fun W (h : Rb W A4 n k4 l) => (by have := stamps_any A4 n k4 l W h (by omega); rwa [hst] at this : Calls Tryz.prog 30 #[.slice A4 n k4] W fun e w' => e = .returned (resS none) ∧ W = w'))
  clear hst
  go_upto_region 2 with (fail)
  refine wp_region_lit ?_
  refine wpList_plain rfl (fun K hK => ?_); go_simp; with_reducible refine hK _ _ ?_; clear hK K
  refine wpList_ld1 (t := 49) (cs := sgC a b c d f wi sm ur A4 n k4 A5 n2 k5) 37 (.tmp 13) rfl (by rfl) rfl (hS) rfl Tryz.underlying37 rfl ?_
  refine wpList_plain rfl (fun K hK => ?_)
  go_simp
  refine (HTN.out _ hoL.rb).mono ?_
  rintro e w1 ⟨rfl, rfl⟩
  simp only [resS]
  with_reducible refine hK _ _ ?_
  clear hK K
  iterate 5 (refine wpList_plain rfl (fun K hK => ?_); go_simp; with_reducible refine hK _ _ ?_; clear hK K)
  go_upto_region 4 with (fail)
  refine wp_region_lit ?_
  refine wpList_ldA (t := 49) 49 (.tmp 3) rfl rfl (sgC a b c d f wi sm ur A4 n k4 A5 n2 k5) rfl (hS) (whole_ _) u1 u2 (szSG _ _ _ _ _ _ _ _ _ _ _ _ _ _ ) ?_
  simp only [Act.put, qsT, qsZ, qsS]
  refine wpList_stA 49 (.tmp 6) (.tmp 20) rfl rfl (sgC a b c d f wi sm ur A4 n k4 A5 n2 k5) (sgC 0 0 0 0 0 0 0 0 none 0 0 none 0 0) rfl (sgC_one _ _ _ _ _ _ _ _ _ _ _ _ _ _ ) rfl rfl hR (szSG _ _ _ _ _ _ _ _ _ _ _ _ _ _ ) ?_
  intro W9 h9 g9
  simp only [Act.put, qsT, qsZ, qsS]
  go_wp2
  refine bodyPost_agg Tryz.results44 rfl h9.range u1 u2 (szSG _ _ _ _ _ _ _ _ _ _ _ _ _ _ ) rfl ?_
  have be9 := below_grown be g9 (by omega)
  exact ⟨sm, l, A4, k4, A5, k5, rfl, hsm, be9, (hoL.grown g9 (fun k hk e => by have := (hoL.blk k hk).1; injection e with e; omega)).rb, (hoD.grown g9 (fun k hk e => by have := (hoD.blk k hk).1; injection e with e; omega)).rb, hoL.freshM (by omega), hoD.freshM (by omega)⟩
 | some p =>
  have HTN := Lib.hid (fun W (h : Rb W A4 n k4 l) => (by have := stamps_any A4 n k4 l W h (by omega); rwa [hst] at this : Calls Tryz.prog 30 #[.slice A4 n k4] W fun e w' => e = .returned (resS (some p)) ∧ W = w'))
  have hp := stp_found _ _ _ _ hst
  rw [HLN.out] at hp
  have hkc := hoL.rb.cap
  clear hst
  go_upto_region 2 with (fail)
  refine wp_region_lit ?_
  refine wpList_plain rfl (fun K hK => ?_); go_simp; with_reducible refine hK _ _ ?_; clear hK K
  refine wpList_ld1 (t := 49) (cs := sgC a b c d f wi sm ur A4 n k4 A5 n2 k5) 37 (.tmp 13) rfl (by rfl) rfl (hS) rfl Tryz.underlying37 rfl ?_
  refine wpList_plain rfl (fun K hK => ?_)
  go_simp
  refine (HTN.out _ hoL.rb).mono ?_
  rintro e w1 ⟨rfl, rfl⟩
  simp only [resS]
  with_reducible refine hK _ _ ?_
  clear hK K
  iterate 5 (refine wpList_plain rfl (fun K hK => ?_); go_simp; with_reducible refine hK _ _ ?_; clear hK K)
  have q8 : V2.cell? ⟨w.heap.size, 8, none⟩ = some (.slice A4 n k4) := hS.cell 8
  go_wp2_with fail
  refine (read_any _ _ _ ((l.drop p).take 4) _ ((hoL.rb.cut (by omega)).take (by omega)) (by omega)).mono ?_
  rintro e w1 ⟨r, bs3, d3, rfl, rfl, hr3, hR3⟩
  have HM := Lib.hid (show ((l.drop p).take 4).length = 4 by rw [List.length_take, List.length_drop, HLN.out]; omega)
  go_wp2_with fail
  refine (longP _ _ _ r _ false hR3 hr3 (by rw [HM.out]; omega) (by rw [HM.out]; omega)).mono ?_
  rintro e w1 ⟨bs4, d4, rfl, rfl, hR4, -⟩
  have hx4 : num (((l.drop p).take 4).take 4) < 4294967296 := by have := num_lt' (((l.drop p).take 4)) 0 4 4294967296 (by decide); simpa using this
  generalize num (((l.drop p).take 4).take 4) = x4 at *
  have b4 := below_plus V2 bs4 d4
  replace hoL := hoL.later b4
  replace hoD := hoD.later b4
  replace hS := hS.later b4
  replace hR := hR.later b4
  replace be := be.trans (b4.mono be.size)
  replace zV := Nat.le_trans zV b4.size
  clear b4 hR3 hR4 q8 HM hr3
  generalize plus V2 bs4 d4 = V3 at *
  obtain ⟨gb, cur, rfl, hob, hcur, hcl, hct, -, hkm⟩ := Os.bk (hoL.2 : Os 5 1 V3 _ A4 n k4 (bcs l)) (by omega)
  have hgb := (hoL.blk _ hob).1
  have hpI : (p : Int) ≤ (n : Int) := by omega
  have hwv : IntKind.u64.wrap (v : Int) = (v : Int) := IntWalk.u64_in _ (by omega)
  have hpK : (p : Int) ≤ (k4 : Int) := by omega
  go_upto_region 7 with (fail)
  refine wp_relS 7 54 rfl (by kernel_rfl) (by kernel_rfl) ?_
  apply Steps.o1 (MP.eq _) 1 rfl rfl
  ·intro FA x hO hD K hK
   have e3 := hO 3 (by kernel_rfl)
   simp only [eval_tmp, qgT, qgS, qgZ, qoS] at e3
   have ev3 := Lib.hid ((eval_tmp FA 3).trans e3)
   clear hO hD
   go_simp
   exact hK.out _ _ (Ex.refl _) rfl
  apply Steps.o1 (MP.eq _) 2 rfl rfl
  ·intro FA x hO hD K hK
   obtain ⟨e32, ev32⟩ := qE (hD 0 32 (by kernel_rfl))
   clear hO hD
   refine wanted_if rfl ?_
   refine wp_ld1 37 (.tmp 32) rfl ev32.out (hS.later (below_plus _ _ _)) rfl Tryz.underlying37 rfl ?_
   exact hK.out _ _ (Ex.refl _) rfl
  apply Steps.o1 (MP.eq _) 3 rfl rfl
  ·intro FA x hO hD K hK
   have e7 := hO 7 (by kernel_rfl)
   simp only [eval_tmp, qgT, qgS, qgZ, qoS] at e7
   have ev7 := Lib.hid ((eval_tmp FA 7).trans e7)
   clear hO hD
   go_simp
   exact hK.out _ _ (Ex.refl _) rfl
  apply Steps.o1 (MP.eq _) 4 rfl rfl
  ·intro FA x hO hD K hK
   obtain ⟨e33, ev33⟩ := qE (hD 1 33 (by kernel_rfl))
   obtain ⟨e34, ev34⟩ := qE (hD 2 34 (by kernel_rfl))
   clear hO hD
   go_simp
   exact hK.out _ _ (Ex.refl _) rfl
  apply Steps.o1 (MP.eq _) 5 rfl rfl
  ·intro FA x hO hD K hK
   have e2 := hO 2 (by kernel_rfl)
   simp only [eval_tmp, qgT, qgS, qgZ, qoS] at e2
   have ev2 := Lib.hid ((eval_tmp FA 2).trans e2)
   clear hO hD
   go_simp
   exact hK.out _ _ (Ex.refl _) rfl
  apply Steps.o1 (MP.eq _) 6 rfl rfl
  ·intro FA x hO hD K hK
   obtain ⟨e36, ev36⟩ := qE (hD 4 36 (by kernel_rfl))
   clear hO hD
   go_simp
   exact hK.out _ _ (Ex.refl _) rfl
  apply Steps.o1 (MP.rb (dig v 4)) 7 rfl rfl
  ·intro FA x hO hD K hK
   obtain ⟨e37, ev37⟩ := qE (hD 5 37 (by kernel_rfl))
   clear hO hD
   go_simp
   refine (put_any none 0 0 [] v 4 _ Rb.nil_ (by omega) (by omega) (by decide) (by decide)).mono ?_
   rintro e w3 ⟨A3, n3, c3, bs3, d3, rfl, rfl, ho3⟩
   simp only [List.nil_append] at ho3
   exact hK.out _ _ (Ex.plus_ _ _ _) ⟨_, _, _, rfl, ho3.rb⟩
  refine Steps.fin_ (fun vs x hp => ?_)
  have p0 : vs 0 = _ := hp 0 (by omega)
  have p1 : vs 1 = _ := hp 1 (by omega)
  have p2 : vs 2 = _ := hp 2 (by omega)
  have p3 : vs 3 = _ := hp 3 (by omega)
  have p4 : vs 4 = _ := hp 4 (by omega)
  have p5 : vs 5 = _ := hp 5 (by omega)
  have p6 := hp 6 (by omega)
  clear hp
  simp only [List.take_succ_cons, List.take_zero, List.drop_succ_cons, List.drop_zero, putAll, Nat.zero_add, Nat.reduceAdd, Act.put, qsT, qsZ, qsS, p0, p1, p2, p3, p4, p5]
  clear p0 p1 p2 p3 p4 p5
  generalize vs 6 = y6 at *
  clear vs
  obtain ⟨A3, n3, c3, rfl, hr3⟩ := p6
  obtain rfl : n3 = 4 := by have := hr3.1; rw [dig_length] at this; omega
  have b4 := below_plus V3 x.bs x.d
  replace hoD := hoD.later b4
  replace hS := hS.later b4
  replace hR := hR.later b4
  replace hcur := hcur.later b4
  replace be := be.trans (b4.mono be.size)
  replace zV := Nat.le_trans zV b4.size
  clear b4
  generalize plus V3 x.bs x.d = V4 at *
  have hcl2 : p + 4 ≤ cur.length := by omega
  obtain ⟨b3, o3, rfl, -, hc3⟩ := hr3.2.2.at_ (by rw [bcs_length, dig_length]; decide)
  refine wpList_copyS rfl (.tmp 35) (.tmp 38) 37 37 rfl 5 1 Tryz.underlying37 (by kernel_rfl) (g := gb) (off := p) (dLen := n - p) (dCap := k4 - p) (ad := ⟨b3, o3, none⟩) (sLen := 4) (sCap := c3) ?_ rfl hcur (bcs (dig v 4)) ?_ (fun j u hu => by rw [add_plain]; exact hc3 j u hu) (by rw [bcs_length, dig_length]; exact hcl2) (bcs_one _) ?_
  ·show Value.slice (cutA (some ⟨gb, 0, none⟩) k4 p 1) (n - p) (k4 - p) = _
   rw [cutA_some _ _ _ _ (by omega), Nat.zero_add]
  ·rw [bcs_length, dig_length, Nat.mul_one]; exact (Nat.min_eq_left (by omega)).symm
  intro V5 hc5 g5
  simp only [Act.put, qsT, qsZ, qsS]
  have hlen : l.length = n := HLN.out
  have hdl := dig_length 4 v
  have hnew : splice cur p (bcs (dig v 4)) = bcs (l.take p ++ (dig v 4 ++ l.drop (p + 4))) ++ cur.drop n := by
   have e1 : cur = bcs l ++ cur.drop n := by rw [Nat.mul_one] at hct; rw [← hct, List.take_append_drop]
   rw [e1, splice_app _ _ _ _ (by rw [bcs_length, bcs_length, hdl]; omega)]
   rw [show ((bcs l ++ cur.drop n).drop n) = cur.drop n from by rw [← e1]]
   congr 1
   unfold splice
   rw [bcs_length, hdl, bcs_take, bcs_drop, bcs_append, bcs_append]
  rw [hnew] at hc5
  have hoN : Ob V5 0 (some ⟨gb, 0, none⟩) n k4 (l.take p ++ (dig v 4 ++ l.drop (p + 4))) := by
   have hl' : (l.take p ++ (dig v 4 ++ l.drop (p + 4))).length = n := by simp only [List.length_append, List.length_take, List.length_drop, hdl]; omega
   exact ⟨hl', Os.of_bk hc5 (by rw [List.length_append, bcs_length, hl', List.length_drop]; omega) (by rw [Nat.mul_one, List.take_append_of_le_length (by rw [bcs_length, hl']; exact Nat.le_refl _), List.take_of_length_le (by rw [bcs_length, hl']; exact Nat.le_refl _)]) hkc hkm (by rw [bcs_length, hl', Nat.mul_one])⟩
  have hoBN := hob
  generalize l.take p ++ (dig v 4 ++ l.drop (p + 4)) = l9 at *
  replace hS := hS.grown g5 (fun e => by injection e with e; omega)
  replace hR := hR.grown g5 (fun e => by injection e with e; omega)
  replace hoD := hoD.grown g5 (fun k hk e => by injection e with e; subst e; exact hdis _ hob hk)
  replace be := below_grown be g5 (by omega)
  replace zV := Nat.le_trans zV g5.size
  clear g5 hc5 hnew hcur hct hcl hcl2 hc3 hr3
  have q6 : V5.cell? ⟨w.heap.size, 6, none⟩ = some (.int .u16 (sm : Int)) := hS.cell 6
  obtain ⟨tt, htt⟩ : ∃ tt, (Int.tmod (p : Int) 2 == 1) = tt := ⟨_, rfl⟩
  go_upto_region 8 with (fail)
  refine wp_region_lit ?_
  iterate 3 (refine wpList_plain rfl (fun K hK => ?_); go_simp; with_reducible refine hK _ _ ?_; clear hK K)
  cases tt with
  | true =>
   go_upto_region 9 with (fail)
   refine wp_region_lit ?_
   refine wpList_plain rfl (fun K hK => ?_); go_simp; with_reducible refine hK _ _ ?_; clear hK K
   refine wpList_plain rfl (fun K hK => ?_)
   go_simp
   refine (rot8 x4 hx4 _).mono ?_
   rintro e w1 ⟨r9, hr9, rfl, rfl⟩
   with_reducible refine hK _ _ ?_
   clear hK K
   refine wpList_plain rfl (fun K hK => ?_); go_simp; with_reducible refine hK _ _ ?_; clear hK K
   go_upto_region 10 with (fail)
   refine wp_region_lit ?_
   refine wpList_plain rfl (fun K hK => ?_); go_simp; with_reducible refine hK _ _ ?_; clear hK K
   refine wpList_plain rfl (fun K hK => ?_)
   go_simp
   refine (rot8 v hv _).mono ?_
   rintro e w1 ⟨r10, hr10, rfl, rfl⟩
   with_reducible refine hK _ _ ?_
   clear hK K
   refine wpList_plain rfl (fun K hK => ?_); go_simp; with_reducible refine hK _ _ ?_; clear hK K
   go_upto_region 11 with (fail)
   refine wp_region_lit ?_
   refine wpList_plain rfl (fun K hK => ?_); go_simp; with_reducible refine hK _ _ ?_; clear hK K
   refine wpList_ld1 (t := 49) (cs := sgC a b c d f wi sm ur (some ⟨gb, 0, none⟩) n k4 A5 n2 k5) 25 (.tmp 47) rfl (by rfl) rfl (hS) rfl Tryz.underlying25 rfl ?_
   iterate 2 (refine wpList_plain rfl (fun K hK => ?_); go_simp; with_reducible refine hK _ _ ?_; clear hK K)
   refine wpList_plain rfl (fun K hK => ?_)
   go_simp
   refine (updLong_any sm r9 r10 hsm _).mono ?_
   rintro e w1 ⟨z, hz, rfl, rfl⟩
   with_reducible refine hK _ _ ?_
   clear hK K
   refine wpList_plain rfl (fun K hK => ?_); go_simp; with_reducible refine hK _ _ ?_; clear hK K
   refine wpList_st1 25 (.tmp 52) (.tmp 51) rfl rfl (by rfl) (by rfl) hS (Nat.le_of_ble_eq_true rfl) rfl (by kernel_rfl) ?_
   intro V6 hS' g6
   replace hS : Bk V6 w.heap.size 49 (sgC a b c d f wi z ur (some ⟨gb, 0, none⟩) n k4 A5 n2 k5) := hS'
   clear hS'
   simp only [Act.put, qsT, qsZ, qsS]
   replace be := below_grown be g6 (Nat.le_refl _)
   replace hR := hR.grown g6 (fun e => by injection e with e; omega)
   replace zV := Nat.le_trans zV g6.size
   replace hoD := hoD.grown g6 (fun k hk e => by have := (hoD.blk k hk).1; injection e with e; omega)
   replace hoN := hoN.grown g6 (fun k hk e => by rw [hob] at hk; injection hk with hk; injection e with e; omega)
   clear g6
   go_upto_region 12 with (fail)
   refine wp_region_lit ?_
   refine wpList_ldA (t := 49) 49 (.tmp 3) rfl rfl (sgC a b c d f wi z ur (some ⟨gb, 0, none⟩) n k4 A5 n2 k5) rfl (hS) (whole_ _) u1 u2 (szSG _ _ _ _ _ _ _ _ _ _ _ _ _ _ ) ?_
   simp only [Act.put, qsT, qsZ, qsS]
   refine wpList_stA 49 (.tmp 6) (.tmp 53) rfl rfl (sgC a b c d f wi z ur (some ⟨gb, 0, none⟩) n k4 A5 n2 k5) (sgC 0 0 0 0 0 0 0 0 none 0 0 none 0 0) rfl (sgC_one _ _ _ _ _ _ _ _ _ _ _ _ _ _ ) rfl rfl hR (szSG _ _ _ _ _ _ _ _ _ _ _ _ _ _ ) ?_
   intro W9 h9 g9
   simp only [Act.put, qsT, qsZ, qsS]
   go_wp2
   refine bodyPost_agg Tryz.results44 rfl h9.range u1 u2 (szSG _ _ _ _ _ _ _ _ _ _ _ _ _ _ ) rfl ?_
   have be9 := below_grown be g9 (by omega)
   exact ⟨z, _, _, k4, A5, k5, rfl, hz, be9, (hoN.grown g9 (fun k hk e => by rw [hob] at hk; injection hk with hk; injection e with e; omega)).rb, (hoD.grown g9 (fun k hk e => by have := (hoD.blk k hk).1; injection e with e; omega)).rb, (fun a ha => by injection ha with ha; subst ha; show w.heap.size ≤ gb; omega), hoD.freshM (by omega)⟩
  | false =>
   go_upto_region 11 with (fail)
   refine wp_region_lit ?_
   refine wpList_plain rfl (fun K hK => ?_); go_simp; with_reducible refine hK _ _ ?_; clear hK K
   refine wpList_ld1 (t := 49) (cs := sgC a b c d f wi sm ur (some ⟨gb, 0, none⟩) n k4 A5 n2 k5) 25 (.tmp 47) rfl (by rfl) rfl (hS) rfl Tryz.underlying25 rfl ?_
   iterate 2 (refine wpList_plain rfl (fun K hK => ?_); go_simp; with_reducible refine hK _ _ ?_; clear hK K)
   refine wpList_plain rfl (fun K hK => ?_)
   go_simp
   refine (updLong_any sm x4 v hsm _).mono ?_
   rintro e w1 ⟨z, hz, rfl, rfl⟩
   with_reducible refine hK _ _ ?_
   clear hK K
   refine wpList_plain rfl (fun K hK => ?_); go_simp; with_reducible refine hK _ _ ?_; clear hK K
   refine wpList_st1 25 (.tmp 52) (.tmp 51) rfl rfl (by rfl) (by rfl) hS (Nat.le_of_ble_eq_true rfl) rfl (by kernel_rfl) ?_
   intro V6 hS' g6
   replace hS : Bk V6 w.heap.size 49 (sgC a b c d f wi z ur (some ⟨gb, 0, none⟩) n k4 A5 n2 k5) := hS'
   clear hS'
   simp only [Act.put, qsT, qsZ, qsS]
   replace be := below_grown be g6 (Nat.le_refl _)
   replace hR := hR.grown g6 (fun e => by injection e with e; omega)
   replace zV := Nat.le_trans zV g6.size
   replace hoD := hoD.grown g6 (fun k hk e => by have := (hoD.blk k hk).1; injection e with e; omega)
   replace hoN := hoN.grown g6 (fun k hk e => by rw [hob] at hk; injection hk with hk; injection e with e; omega)
   clear g6
   go_upto_region 12 with (fail)
   refine wp_region_lit ?_
   refine wpList_ldA (t := 49) 49 (.tmp 3) rfl rfl (sgC a b c d f wi z ur (some ⟨gb, 0, none⟩) n k4 A5 n2 k5) rfl (hS) (whole_ _) u1 u2 (szSG _ _ _ _ _ _ _ _ _ _ _ _ _ _ ) ?_
   simp only [Act.put, qsT, qsZ, qsS]
   refine wpList_stA 49 (.tmp 6) (.tmp 53) rfl rfl (sgC a b c d f wi z ur (some ⟨gb, 0, none⟩) n k4 A5 n2 k5) (sgC 0 0 0 0 0 0 0 0 none 0 0 none 0 0) rfl (sgC_one _ _ _ _ _ _ _ _ _ _ _ _ _ _ ) rfl rfl hR (szSG _ _ _ _ _ _ _ _ _ _ _ _ _ _ ) ?_
   intro W9 h9 g9
   simp only [Act.put, qsT, qsZ, qsS]
   go_wp2
   refine bodyPost_agg Tryz.results44 rfl h9.range u1 u2 (szSG _ _ _ _ _ _ _ _ _ _ _ _ _ _ ) rfl ?_
   have be9 := below_grown be g9 (by omega)
   exact ⟨z, _, _, k4, A5, k5, rfl, hz, be9, (hoN.grown g9 (fun k hk e => by rw [hob] at hk; injection hk with hk; injection e with e; omega)).rb, (hoD.grown g9 (fun k hk e => by have := (hoD.blk k hk).1; injection e with e; omega)).rb, (fun a ha => by injection ha with ha; subst ha; show w.heap.size ≤ gb; omega), hoD.freshM (by omega)⟩
theorem withVal_any (a b c d f wi sm ur : Nat) (A : Option Addr) (n k : Nat) (A2 : Option Addr) (n2 k2 : Nat) (l l2 : List UInt8) (v : Nat) (hv : v < 4294967296) (w : World) (hl0 : Rb w A n k l) (h2 : Rb w A2 n2 k2 l2) (hsm : sm < 65536) (hn : n ≤ 40) (hn2 : n2 ≤ 70000) : Calls Tryz.prog 21 #[.agg (sgC a b c d f wi sm ur A n k A2 n2 k2).toArray, .int .u32 (v : Int)] w (RetSX w a b c d f wi ur n n2 l2) := by
 obtain ⟨du1, u1, u2⟩ := rowSG
 obtain ⟨hS, hR, be, zV⟩ := box2 w 49 49 (sgC a b c d f wi sm ur A n k A2 n2 k2) ([.int .u16 0, .int .u16 0, .int .u32 0, .int .u32 0, .int .u8 0, .int .u16 0, .int .u16 0, .int .u16 0, .slice none 0 0, .slice none 0 0])
 replace hl0 := ((hl0.alloc (.cells (sgC a b c d f wi sm ur A n k A2 n2 k2).toArray 49)).alloc (.cells ([.int .u16 0, .int .u16 0, .int .u32 0, .int .u32 0, .int .u8 0, .int .u16 0, .int .u16 0, .int .u16 0, .slice none 0 0, .slice none 0 0]).toArray 49))
 replace h2 := ((h2.alloc (.cells (sgC a b c d f wi sm ur A n k A2 n2 k2).toArray 49)).alloc (.cells ([.int .u16 0, .int .u16 0, .int .u32 0, .int .u32 0, .int .u8 0, .int .u16 0, .int .u16 0, .int .u16 0, .slice none 0 0, .slice none 0 0]).toArray 49))
 go_enter Tryz.func21, Tryz.ntmps21
 go_upto_region 1 with (fail)
 generalize (w.alloc (.cells (sgC a b c d f wi sm ur A n k A2 n2 k2).toArray 49)).alloc (.cells ([.int .u16 0, .int .u16 0, .int .u32 0, .int .u32 0, .int .u8 0, .int .u16 0, .int .u16 0, .int .u16 0, .slice none 0 0, .slice none 0 0]).toArray 49) = V at *
 replace hR : Bk V (w.heap.size + 1) 49 (sgC 0 0 0 0 0 0 0 0 none 0 0 none 0 0) := hR
 refine wp_region_lit ?_
 refine wpList_ldA (t := 49) 49 (.tmp 2) rfl rfl (sgC a b c d f wi sm ur A n k A2 n2 k2) rfl (hS) (whole_ _) u1 u2 (szSG _ _ _ _ _ _ _ _ _ _ _ _ _ _ ) ?_
 refine wpList_plain rfl (fun K hK => ?_); go_simp; with_reducible refine hK _ _ ?_; clear hK K
 refine wpList_plain rfl (fun K hK => ?_)
 go_simp
 refine (segWith a b c d f wi sm ur A n k A2 n2 k2 l l2 v hv V hl0 h2 hsm hn hn2).mono ?_
 rintro e w1 ⟨sm9, l9, A4, k4, A5, k5, rfl, hs9, b1, r4, r5, f4, f5⟩
 with_reducible refine hK _ _ ?_
 clear hK K
 refine wpList_stA 49 (.tmp 4) (.tmp 7) rfl rfl (sgC a b c d f wi sm9 ur A4 n k4 A5 n2 k5) (sgC 0 0 0 0 0 0 0 0 none 0 0 none 0 0) rfl (sgC_one _ _ _ _ _ _ _ _ _ _ _ _ _ _ ) rfl rfl (hR.later b1) (szSG _ _ _ _ _ _ _ _ _ _ _ _ _ _ ) ?_
 intro W9 h9 g9
 simp only [Act.put, qsT, qsZ, qsS]
 go_wp2
 refine bodyPost_agg Tryz.results21 rfl h9.range u1 u2 (szSG _ _ _ _ _ _ _ _ _ _ _ _ _ _ ) rfl ?_
 have hC9 : Chg (fun k => k = w.heap.size + 1) w1 W9 := Chg.one g9 rfl
 have be9 := below_grown (be.trans (b1.mono be.size)) g9 (by omega)
 have hV := zV
 exact ⟨sm9, l9, A4, k4, A5, k5, rfl, hs9, be9, r4.chg hC9 (fun a ha h => by have := f4 a ha; have h : a.block = w.heap.size + 1 := h; omega), r5.chg hC9 (fun a ha h => by have := f5 a ha; have h : a.block = w.heap.size + 1 := h; omega), (fun a ha => by have := f4 a ha; omega), fun a ha => by have := f5 a ha; omega⟩
end

section
open Go.RowKit
attribute [local go_sem ↓] sliced_cut
attribute [local go_sem] cutA_zero
theorem szTr (x0 x1 x2 x3 x4 x5 x6 x7 : Nat) (A1 : Option Addr) (n1 c1 : Nat) (A2 : Option Addr) (n2 c2 : Nat) : (Tryz.prog.info? 39).map (·.size) = some (tcC x0 x1 x2 x3 x4 x5 x6 x7 A1 n1 c1 A2 n2 c2).length := by kernel_rfl
theorem rowTr : ∃ d, Tryz.prog.underlying 39 = some d ∧ d.isRow = true := ⟨_, Tryz.underlying39, rfl⟩
def RetSM (w : World) (x0 x1 x2 x3 x4 x5 x7 : Nat) (A1 : Option Addr) (n1 c1 : Nat) (A2 : Option Addr) (n2 c2 : Nat) (e : Ending) (w' : World) : Prop := ∃ sm : Nat, sm < 65536 ∧ RetV w (.agg (tcC x0 x1 x2 x3 x4 x5 sm x7 A1 n1 c1 A2 n2 c2).toArray) e w'
set_option maxHeartbeats 4000000 in
set_option maxRecDepth 100000 in
theorem refSummed_any (x0 x1 x2 x3 x4 x5 x6 x7 : Nat) (A1 : Option Addr) (n1 c1 : Nat) (A2 : Option Addr) (n2 c2 : Nat) (o1 o2 : List UInt8) (s6 : Bool) (sh sl : Nat) (d6 : Bool) (dh dl : Nat) (w : World) (b0 : x0 < 65536) (b1 : x1 < 65536) (b2 : x2 < 4294967296) (b3 : x3 < 4294967296) (b4 : x4 < 256) (b5 : x5 < 65536) (b7 : x7 < 65536) (k1 : sh < 18446744073709551616) (k2 : sl < 18446744073709551616) (k3 : dh < 18446744073709551616) (k4 : dl < 18446744073709551616) (r1 : Rb w A1 n1 c1 o1) (r2 : Rb w A2 n2 c2 o2) (hn1 : n1 ≤ 40) (hn2 : 20 + n1 + n2 ≤ 65535) : Calls Tryz.prog 38 #[.agg (tcC x0 x1 x2 x3 x4 x5 x6 x7 A1 n1 c1 A2 n2 c2).toArray, .agg #[.bool s6, .int .u64 (sh : Int), .int .u64 (sl : Int)], .agg #[.bool d6, .int .u64 (dh : Int), .int .u64 (dl : Int)]] w (RetSM w x0 x1 x2 x3 x4 x5 x7 A1 n1 c1 A2 n2 c2) := by
 have HR1 := Lib.hid r1
 have HR2 := Lib.hid r2
 obtain ⟨du1, u1, u2⟩ := rowTr
 obtain ⟨dy1, y1, y2⟩ := rowAdr
 have hS : Bk ((((w.alloc (.cells (tcC x0 x1 x2 x3 x4 x5 x6 x7 A1 n1 c1 A2 n2 c2).toArray 39)).alloc (.cells ([.bool s6, .int .u64 (sh : Int), .int .u64 (sl : Int)]).toArray 24)).alloc (.cells ([.bool d6, .int .u64 (dh : Int), .int .u64 (dl : Int)]).toArray 24)).alloc (.cells ([.int .u16 0, .int .u16 0, .int .u32 0, .int .u32 0, .int .u8 0, .int .u16 0, .int .u16 0, .int .u16 0, .slice none 0 0, .slice none 0 0]).toArray 39)) w.heap.size 39 (tcC x0 x1 x2 x3 x4 x5 x6 x7 A1 n1 c1 A2 n2 c2) := (((Bk.new w 39 (tcC x0 x1 x2 x3 x4 x5 x6 x7 A1 n1 c1 A2 n2 c2).toArray).alloc _).alloc _).alloc _
 have hA : Bk ((((w.alloc (.cells (tcC x0 x1 x2 x3 x4 x5 x6 x7 A1 n1 c1 A2 n2 c2).toArray 39)).alloc (.cells ([.bool s6, .int .u64 (sh : Int), .int .u64 (sl : Int)]).toArray 24)).alloc (.cells ([.bool d6, .int .u64 (dh : Int), .int .u64 (dl : Int)]).toArray 24)).alloc (.cells ([.int .u16 0, .int .u16 0, .int .u32 0, .int .u32 0, .int .u8 0, .int .u16 0, .int .u16 0, .int .u16 0, .slice none 0 0, .slice none 0 0]).toArray 39)) (w.heap.size + 1) 24 ([.bool s6, .int .u64 (sh : Int), .int .u64 (sl : Int)]) := ((Bk.newK _ _ _ (by simp) rfl).alloc _).alloc _
 have hB : Bk ((((w.alloc (.cells (tcC x0 x1 x2 x3 x4 x5 x6 x7 A1 n1 c1 A2 n2 c2).toArray 39)).alloc (.cells ([.bool s6, .int .u64 (sh : Int), .int .u64 (sl : Int)]).toArray 24)).alloc (.cells ([.bool d6, .int .u64 (dh : Int), .int .u64 (dl : Int)]).toArray 24)).alloc (.cells ([.int .u16 0, .int .u16 0, .int .u32 0, .int .u32 0, .int .u8 0, .int .u16 0, .int .u16 0, .int .u16 0, .slice none 0 0, .slice none 0 0]).toArray 39)) (w.heap.size + 1 + 1) 24 ([.bool d6, .int .u64 (dh : Int), .int .u64 (dl : Int)]) := (Bk.newK _ _ _ (by simp) rfl).alloc _
 have hR : Bk ((((w.alloc (.cells (tcC x0 x1 x2 x3 x4 x5 x6 x7 A1 n1 c1 A2 n2 c2).toArray 39)).alloc (.cells ([.bool s6, .int .u64 (sh : Int), .int .u64 (sl : Int)]).toArray 24)).alloc (.cells ([.bool d6, .int .u64 (dh : Int), .int .u64 (dl : Int)]).toArray 24)).alloc (.cells ([.int .u16 0, .int .u16 0, .int .u32 0, .int .u32 0, .int .u8 0, .int .u16 0, .int .u16 0, .int .u16 0, .slice none 0 0, .slice none 0 0]).toArray 39)) (w.heap.size + 1 + 1 + 1) 39 ([.int .u16 0, .int .u16 0, .int .u32 0, .int .u32 0, .int .u8 0, .int .u16 0, .int .u16 0, .int .u16 0, .slice none 0 0, .slice none 0 0]) := Bk.newK _ _ _ (by simp) rfl
 have be : Below w.heap.size w ((((w.alloc (.cells (tcC x0 x1 x2 x3 x4 x5 x6 x7 A1 n1 c1 A2 n2 c2).toArray 39)).alloc (.cells ([.bool s6, .int .u64 (sh : Int), .int .u64 (sl : Int)]).toArray 24)).alloc (.cells ([.bool d6, .int .u64 (dh : Int), .int .u64 (dl : Int)]).toArray 24)).alloc (.cells ([.int .u16 0, .int .u16 0, .int .u32 0, .int .u32 0, .int .u8 0, .int .u16 0, .int .u16 0, .int .u16 0, .slice none 0 0, .slice none 0 0]).toArray 39)) := Below.allocS (Below.allocS (Below.allocS (Below.allocS (Below.refl _ _) _) _) _) _
 replace r1 := ((((r1.alloc (.cells (tcC x0 x1 x2 x3 x4 x5 x6 x7 A1 n1 c1 A2 n2 c2).toArray 39)).alloc (.cells ([.bool s6, .int .u64 (sh : Int), .int .u64 (sl : Int)]).toArray 24)).alloc (.cells ([.bool d6, .int .u64 (dh : Int), .int .u64 (dl : Int)]).toArray 24)).alloc (.cells ([.int .u16 0, .int .u16 0, .int .u32 0, .int .u32 0, .int .u8 0, .int .u16 0, .int .u16 0, .int .u16 0, .slice none 0 0, .slice none 0 0]).toArray 39))
 replace r2 := ((((r2.alloc (.cells (tcC x0 x1 x2 x3 x4 x5 x6 x7 A1 n1 c1 A2 n2 c2).toArray 39)).alloc (.cells ([.bool s6, .int .u64 (sh : Int), .int .u64 (sl : Int)]).toArray 24)).alloc (.cells ([.bool d6, .int .u64 (dh : Int), .int .u64 (dl : Int)]).toArray 24)).alloc (.cells ([.int .u16 0, .int .u16 0, .int .u32 0, .int .u32 0, .int .u8 0, .int .u16 0, .int .u16 0, .int .u16 0, .slice none 0 0, .slice none 0 0]).toArray 39))
 have zV : w.heap.size + 4 ≤ ((((w.alloc (.cells (tcC x0 x1 x2 x3 x4 x5 x6 x7 A1 n1 c1 A2 n2 c2).toArray 39)).alloc (.cells ([.bool s6, .int .u64 (sh : Int), .int .u64 (sl : Int)]).toArray 24)).alloc (.cells ([.bool d6, .int .u64 (dh : Int), .int .u64 (dl : Int)]).toArray 24)).alloc (.cells ([.int .u16 0, .int .u16 0, .int .u32 0, .int .u32 0, .int .u8 0, .int .u16 0, .int .u16 0, .int .u16 0, .slice none 0 0, .slice none 0 0]).toArray 39)).heap.size := by simp
 go_enter Tryz.func38, Tryz.ntmps38
 go_upto_region 1 with (fail)
 generalize (((w.alloc (.cells (tcC x0 x1 x2 x3 x4 x5 x6 x7 A1 n1 c1 A2 n2 c2).toArray 39)).alloc (.cells ([.bool s6, .int .u64 (sh : Int), .int .u64 (sl : Int)]).toArray 24)).alloc (.cells ([.bool d6, .int .u64 (dh : Int), .int .u64 (dl : Int)]).toArray 24)).alloc (.cells ([.int .u16 0, .int .u16 0, .int .u32 0, .int .u32 0, .int .u8 0, .int .u16 0, .int .u16 0, .int .u16 0, .slice none 0 0, .slice none 0 0]).toArray 39) = V at *
 replace hR : Bk V (w.heap.size + 1 + 1 + 1) 39 (tcC 0 0 0 0 0 0 0 0 none 0 0 none 0 0) := hR
 refine wp_region_lit ?_
 refine wpList_plain rfl (fun K hK => ?_); go_simp; with_reducible refine hK _ _ ?_; clear hK K
 refine wpList_st1 25 (.tmp 8) (.const (.int .u16 0)) rfl rfl (by rfl) (by rfl) hS (Nat.le_of_ble_eq_true rfl) rfl (by kernel_rfl) ?_
 intro V1 hS' g1
 replace hS : Bk V1 w.heap.size 39 (tcC x0 x1 x2 x3 x4 x5 0 x7 A1 n1 c1 A2 n2 c2) := hS'
 clear hS'
 simp only [Act.put, qsT, qsZ, qsS]
 replace be := below_grown be g1 (Nat.le_refl _)
 replace hA := hA.grown g1 (fun e => by injection e with e; omega)
 replace hB := hB.grown g1 (fun e => by injection e with e; omega)
 replace hR := hR.grown g1 (fun e => by injection e with e; omega)
 replace zV := Nat.le_trans zV g1.size
 clear r1 r2 g1
 have r1 := HR1.out.later be
 have r2 := HR2.out.later be
 go_upto_region 2 with (fail)
 refine wp_region_lit ?_
 refine wpList_ldA (t := 39) 39 (.tmp 3) rfl rfl (tcC x0 x1 x2 x3 x4 x5 0 x7 A1 n1 c1 A2 n2 c2) rfl (hS) (whole_ _) u1 u2 (szTr _ _ _ _ _ _ _ _ _ _ _ _ _ _ ) ?_
 refine wpList_plain rfl (fun K hK => ?_)
 go_simp
 refine (refTcpBytes_any x0 x1 x2 x3 x4 x5 0 x7 A1 n1 c1 A2 n2 c2 o1 o2 V1 b0 b1 b2 b3 b4 b5 (by decide) b7 r1 r2 hn1 (by omega)).mono ?_
 rintro e w1 ⟨A6, n6, k6, bs6, d6_, rfl, rfl, ho6⟩
 with_reducible refine hK _ _ ?_
 clear hK K
 refine wpList_plain rfl (fun K hK => ?_); go_simp; with_reducible refine hK _ _ ?_; clear hK K
 have b4_ := below_plus V1 bs6 d6_
 replace hS := hS.later b4_
 replace hA := hA.later b4_
 replace hB := hB.later b4_
 replace hR := hR.later b4_
 replace be := be.trans (b4_.mono be.size)
 replace zV := Nat.le_trans zV b4_.size
 clear b4_
 have hl6 := ho6.1
 have hlt6 : n6 ≤ 65535 := by rw [← hl6, tcpB_len, HR1.out.1, HR2.out.1]; omega
 generalize tcpB x0 x1 x2 x3 (80 + n1 / 4 * 16) x4 x5 0 x7 o1 o2 = T at *
 generalize plus V1 bs6 d6_ = V2 at *
 go_upto_region 3 with (fail)
 refine wp_region_lit ?_
 refine wpList_ldA (t := 24) 24 (.tmp 4) rfl rfl ([.bool s6, .int .u64 (sh : Int), .int .u64 (sl : Int)]) rfl (hA) (whole_ _) y1 y2 (szAdr _ _ _) ?_
 simp only [Act.put, qsT, qsZ, qsS]
 refine wpList_ldA (t := 24) 24 (.tmp 5) rfl rfl ([.bool d6, .int .u64 (dh : Int), .int .u64 (dl : Int)]) rfl (hB) (whole_ _) y1 y2 (szAdr _ _ _) ?_
 iterate 2 (refine wpList_plain rfl (fun K hK => ?_); go_simp; with_reducible refine hK _ _ ?_; clear hK K)
 refine wpList_plain rfl (fun K hK => ?_)
 go_simp
 refine (refPseudo_any s6 sh sl d6 dh dl 6 n6 _ k1 k2 k3 k4 (by decide) (by omega)).mono ?_
 rintro e w1 ⟨A7, n7, k7, bs7, d7, rfl, rfl, ho7⟩
 with_reducible refine hK _ _ ?_
 clear hK K
 iterate 2 (refine wpList_plain rfl (fun K hK => ?_); go_simp; with_reducible refine hK _ _ ?_; clear hK K)
 have hpl := psdB_length s6 sh sl d6 dh dl 6 n6
 refine wpList_plain rfl (fun K hK => ?_)
 go_simp
 refine (refJoin_any _ 2 2 [psdB s6 sh sl d6 dh dl 6 n6, T] _ (RdL.litW [.slice A7 n7 k7, .slice A6 n6 k6] _ (by simp [size_plus]) (.cons ⟨_, _, _, rfl, ho7.rb⟩ (.cons ⟨_, _, _, rfl, ho6.rb.plus_ _ _⟩ .nil))) (by omega) (by simp; omega)).mono ?_
 rintro e w1 ⟨A8, n8, k8, bs8, d8, rfl, rfl, ho8⟩
 with_reducible refine hK _ _ ?_
 clear hK K
 have hn8 : n8 ≤ 2000000 := by rw [← ho8.1]; simp; omega
 generalize ([psdB s6 sh sl d6 dh dl 6 n6, T] : List (List UInt8)).flatten = LL at ho8
 obtain ⟨sm9, hs9, HOF⟩ : ∃ sm9 : Nat, sm9 < 65536 ∧ ∀ W, Rb W A8 n8 k8 LL → Calls Tryz.prog 59 #[.slice A8 n8 k8] W (fun e w' => e = .returned (.int .u16 (sm9 : Int)) ∧ W = w') := ⟨65535 - fd (tot false LL), by omega, fun W h => refSumOf A8 n8 k8 LL W h hn8⟩
 replace HOF := Lib.hid HOF
 refine wpList_plain rfl (fun K hK => ?_)
 go_simp
 refine (HOF.out _ ho8.rb).mono ?_
 rintro e w1 ⟨rfl, rfl⟩
 with_reducible refine hK _ _ ?_
 clear hK K
 refine wpList_plain rfl (fun K hK => ?_); go_simp; with_reducible refine hK _ _ ?_; clear hK K
 have b4_ := (Below.allocS (below_plus V2 bs7 d7) (.cells ([.slice A7 n7 k7, .slice A6 n6 k6] : List Value).toArray 37)).trans ((below_plus _ bs8 d8).mono (by simp [size_plus]; omega))
 replace hS := hS.later b4_
 replace hR := hR.later b4_
 replace be := be.trans (b4_.mono be.size)
 replace zV := Nat.le_trans zV b4_.size
 clear b4_
 refine wpList_st1 25 (.tmp 20) (.tmp 19) rfl rfl (by rfl) (by rfl) hS (Nat.le_of_ble_eq_true rfl) rfl (by kernel_rfl) ?_
 intro V6 hS' g6
 replace hS : Bk V6 w.heap.size 39 (tcC x0 x1 x2 x3 x4 x5 sm9 x7 A1 n1 c1 A2 n2 c2) := hS'
 clear hS'
 replace be := below_grown be g6 (Nat.le_refl _)
 replace hR := hR.grown g6 (fun e => by injection e with e; omega)
 clear g6
 go_upto_region 4 with (fail)
 refine wp_region_lit ?_
 refine wpList_ldA (t := 39) 39 (.tmp 3) rfl rfl (tcC x0 x1 x2 x3 x4 x5 sm9 x7 A1 n1 c1 A2 n2 c2) rfl (hS) (whole_ _) u1 u2 (szTr _ _ _ _ _ _ _ _ _ _ _ _ _ _ ) ?_
 simp only [Act.put, qsT, qsZ, qsS]
 refine wpList_stA 39 (.tmp 6) (.tmp 21) rfl rfl (tcC x0 x1 x2 x3 x4 x5 sm9 x7 A1 n1 c1 A2 n2 c2) (tcC 0 0 0 0 0 0 0 0 none 0 0 none 0 0) rfl (tcC_one _ _ _ _ _ _ _ _ _ _ _ _ _ _ ) rfl rfl hR (szTr _ _ _ _ _ _ _ _ _ _ _ _ _ _ ) ?_
 intro W9 h9 g9
 simp only [Act.put, qsT, qsZ, qsS]
 go_wp2
 refine bodyPost_agg Tryz.results38 rfl h9.range u1 u2 (szTr _ _ _ _ _ _ _ _ _ _ _ _ _ _ ) rfl ?_
 exact ⟨sm9, hs9, RetV.is_ rfl (below_grown be g9 (by omega))⟩
end

section
open Go.RowKit
attribute [local go_sem ↓] sliced_cut
attribute [local go_sem] cutA_zero
theorem run_bH5 (sh sl dh dl pr : Nat) (w : World) : (Instr.build 120 #[(3, .int .u8 (pr : Int)), (4, .int .u8 64), (5, .agg #[.bool true, .int .u64 (sh : Int), .int .u64 (sl : Int)]), (6, .agg #[.bool true, .int .u64 (dh : Int), .int .u64 (dl : Int)])]).run Tryz.prog w = .ok (.agg (h6C 0 0 0 pr 64 true sh sl true dh dl).toArray) w := by kernel_rfl
set_option maxHeartbeats 4000000
set_option maxRecDepth 100000
theorem wrap6 (sh sl dh dl sp dp pr : Nat) (A : Option Addr) (n c : Nat) (l : List UInt8) (w : World) (h : Rb w A n c l) (hn : n ≤ 65535) (hpr : pr < 256) (k1 : sh < 18446744073709551616) (k2 : sl < 18446744073709551616) (k3 : dh < 18446744073709551616) (k4 : dl < 18446744073709551616) : Calls Tryz.prog 36 #[.agg (flC true sh sl true dh dl sp dp pr).toArray, .slice A n c] w (RetBE w (ip6B 0 0 n pr 64 sh sl dh dl ++ l) 0) := by
 obtain ⟨dva, va1, va2⟩ := rowAdr
 have HPK := Lib.hid (fun W (h : Rb W A n c l) => show Calls Tryz.prog 57 #[.agg (h6C 0 0 0 pr 64 true sh sl true dh dl).toArray, .slice A n c] W (RetBE W (ip6B 0 0 n pr 64 sh sl dh dl ++ l) 0) from refIp6Packet_yes 0 0 0 pr 64 sh sl dh dl A n c l W (by decide) (by decide) (by omega) hpr (by decide) k1 k2 k3 k4 h)
 obtain ⟨dvf1, vf1, vf2⟩ := rowFl
 obtain ⟨bf, be, zV⟩ := box1 w 27 (flC true sh sl true dh dl sp dp pr)
 go_enter Tryz.func36, Tryz.ntmps36
 go_upto_region 1 with (fail)
 generalize w.alloc (.cells (flC true sh sl true dh dl sp dp pr).toArray 27) = V at *
 have q0 : V.cell? ⟨w.heap.size, 0, none⟩ = some (.bool true) := bf.cell 0
 go_upto_region 2 with (fail)
 refine wp_region_lit ?_
 refine wpList_plain rfl (fun K hK => ?_); go_simp; with_reducible refine hK _ _ ?_; clear hK K
 refine wpList_ld1 (t := 27) (cs := flC true sh sl true dh dl sp dp pr) 5 (.tmp 9) rfl (by rfl) rfl (bf) rfl Tryz.underlying5 rfl ?_
 refine wpList_plain rfl (fun K hK => ?_); go_simp; with_reducible refine hK _ _ ?_; clear hK K
 refine wpList_ldA (t := 27) (cs := flC true sh sl true dh dl sp dp pr) 24 (.tmp 11) rfl rfl ([.bool true, .int .u64 (sh : Int), .int .u64 (sl : Int)]) rfl (bf) rfl va1 va2 (szAdr _ _ _) ?_
 refine wpList_plain rfl (fun K hK => ?_); go_simp; with_reducible refine hK _ _ ?_; clear hK K
 refine wpList_ldA (t := 27) (cs := flC true sh sl true dh dl sp dp pr) 24 (.tmp 13) rfl rfl ([.bool true, .int .u64 (dh : Int), .int .u64 (dl : Int)]) rfl (bf) rfl va1 va2 (szAdr _ _ _) ?_
 simp only [Act.put, qsT, qsZ, qsS]
 refine wpList_build 120 [(3, .tmp 10), (4, .const (.int .u8 64)), (5, .tmp 12), (6, .tmp 14)] rfl rfl (.agg (h6C 0 0 0 pr 64 true sh sl true dh dl).toArray) (run_bH5 _ _ _ _ _ _) ?_
 refine wpList_plain rfl (fun K hK => ?_); go_simp; with_reducible refine hK _ _ ?_; clear hK K
 refine wpList_plain rfl (fun K hK => ?_)
 go_simp
 refine (HPK.out _ (h.later be)).mono ?_
 rintro e w1 ⟨A7, n7, k7, bs7, d7, rfl, rfl, r7⟩
 with_reducible refine hK _ _ ?_
 clear hK K
 iterate 4 (refine wpList_plain rfl (fun K hK => ?_); go_simp; with_reducible refine hK _ _ ?_; clear hK K)
 go_wp2
 go_ret2
 obtain ⟨bs9, d9, hw9⟩ := plus_of ((be.trans ((below_plus V bs7 d7).mono be.size)))
 exact ⟨A7, n7, k7, bs9, d9, rfl, hw9, by rw [← hw9]; exact r7⟩
theorem run_bH4 (sl dl pr : Nat) (w : World) : (Instr.build 122 #[(3, .bool true), (6, .int .u8 64), (7, .int .u8 (pr : Int)), (9, .agg #[.bool false, .int .u64 0, .int .u64 (sl : Int)]), (10, .agg #[.bool false, .int .u64 0, .int .u64 (dl : Int)])]).run Tryz.prog w = .ok (.agg (h4C 0 0 0 true false ((0 : Nat) : Int) 64 pr 0 false 0 sl false 0 dl none 0 0).toArray) w := by kernel_rfl
theorem wrap4 (sl dl sp dp pr : Nat) (A : Option Addr) (n c : Nat) (l : List UInt8) (w : World) (h : Rb w A n c l) (hn : n ≤ 65515) (hpr : pr < 256) (k2 : sl < 4294967296) (k4 : dl < 4294967296) : Calls Tryz.prog 36 #[.agg (flC false 0 sl false 0 dl sp dp pr).toArray, .slice A n c] w (RetBE w (ip4B 0 (20 + 0 + n) 0 (pl4 true false 0) 64 pr (ip4K 0 (20 + 0 + n) 0 (pl4 true false 0) 64 pr sl dl []) sl dl [] ++ l) 0) := by
 obtain ⟨dva, va1, va2⟩ := rowAdr
 have HPK := Lib.hid (fun W (h : Rb W A n c l) => show Calls Tryz.prog 58 #[.agg (h4C 0 0 0 true false ((0 : Nat) : Int) 64 pr 0 false 0 sl false 0 dl none 0 0).toArray, .slice A n c] W (RetBE W (ip4B 0 (20 + 0 + n) 0 (pl4 true false 0) 64 pr (ip4K 0 (20 + 0 + n) 0 (pl4 true false 0) 64 pr sl dl []) sl dl [] ++ l) 0) from refPacket4_ok 0 0 0 true false 0 64 pr 0 sl dl none 0 0 [] A n c l W Rb.nil_ h (by decide) (by decide) (by decide) hpr k2 k4 (by decide) (by decide) (by omega) (by decide))
 obtain ⟨dvf1, vf1, vf2⟩ := rowFl
 obtain ⟨bf, be, zV⟩ := box1 w 27 (flC false 0 sl false 0 dl sp dp pr)
 go_enter Tryz.func36, Tryz.ntmps36
 go_upto_region 1 with (fail)
 generalize w.alloc (.cells (flC false 0 sl false 0 dl sp dp pr).toArray 27) = V at *
 have q0 : V.cell? ⟨w.heap.size, 0, none⟩ = some (.bool false) := bf.cell 0
 go_upto_region 3 with (fail)
 refine wp_region_lit ?_
 refine wpList_plain rfl (fun K hK => ?_); go_simp; with_reducible refine hK _ _ ?_; clear hK K
 refine wpList_ld1 (t := 27) (cs := flC false 0 sl false 0 dl sp dp pr) 5 (.tmp 20) rfl (by rfl) rfl (bf) rfl Tryz.underlying5 rfl ?_
 refine wpList_plain rfl (fun K hK => ?_); go_simp; with_reducible refine hK _ _ ?_; clear hK K
 refine wpList_ldA (t := 27) (cs := flC false 0 sl false 0 dl sp dp pr) 24 (.tmp 22) rfl rfl ([.bool false, .int .u64 0, .int .u64 (sl : Int)]) rfl (bf) rfl va1 va2 (szAdr false 0 _) ?_
 refine wpList_plain rfl (fun K hK => ?_); go_simp; with_reducible refine hK _ _ ?_; clear hK K
 refine wpList_ldA (t := 27) (cs := flC false 0 sl false 0 dl sp dp pr) 24 (.tmp 24) rfl rfl ([.bool false, .int .u64 0, .int .u64 (dl : Int)]) rfl (bf) rfl va1 va2 (szAdr false 0 _) ?_
 simp only [Act.put, qsT, qsZ, qsS]
 refine wpList_build 122 [(3, .const (.bool true)), (6, .const (.int .u8 64)), (7, .tmp 21), (9, .tmp 23), (10, .tmp 25)] rfl rfl (.agg (h4C 0 0 0 true false ((0 : Nat) : Int) 64 pr 0 false 0 sl false 0 dl none 0 0).toArray) (run_bH4 _ _ _ _) ?_
 refine wpList_plain rfl (fun K hK => ?_); go_simp; with_reducible refine hK _ _ ?_; clear hK K
 refine wpList_plain rfl (fun K hK => ?_)
 go_simp
 refine (HPK.out _ (h.later be)).mono ?_
 rintro e w1 ⟨A7, n7, k7, bs7, d7, rfl, rfl, r7⟩
 with_reducible refine hK _ _ ?_
 clear hK K
 iterate 4 (refine wpList_plain rfl (fun K hK => ?_); go_simp; with_reducible refine hK _ _ ?_; clear hK K)
 go_wp2
 go_ret2
 obtain ⟨bs9, d9, hw9⟩ := plus_of ((be.trans ((below_plus V bs7 d7).mono be.size)))
 exact ⟨A7, n7, k7, bs9, d9, rfl, hw9, by rw [← hw9]; exact r7⟩
theorem wrap4L (sl dl sp dp pr : Nat) (A : Option Addr) (n c : Nat) (l : List UInt8) (w : World) (h : Rb w A n c l) (hn : 65515 < n ∧ n ≤ 2000000) (hpr : pr < 256) (k2 : sl < 4294967296) (k4 : dl < 4294967296) : Calls Tryz.prog 36 #[.agg (flC false 0 sl false 0 dl sp dp pr).toArray, .slice A n c] w (RetBE w ([]) 30) := by
 obtain ⟨dva, va1, va2⟩ := rowAdr
 have HPK := Lib.hid (fun W (h : Rb W A n c l) => show Calls Tryz.prog 58 #[.agg (h4C 0 0 0 true false ((0 : Nat) : Int) 64 pr 0 false 0 sl false 0 dl none 0 0).toArray, .slice A n c] W (RetBE W ([]) 30) from refPacket4_long 0 0 0 true false ((0 : Nat) : Int) 64 pr 0 false 0 sl false 0 dl none 0 0 A n c W (by omega) (by omega) (by omega))
 obtain ⟨dvf1, vf1, vf2⟩ := rowFl
 obtain ⟨bf, be, zV⟩ := box1 w 27 (flC false 0 sl false 0 dl sp dp pr)
 go_enter Tryz.func36, Tryz.ntmps36
 go_upto_region 1 with (fail)
 generalize w.alloc (.cells (flC false 0 sl false 0 dl sp dp pr).toArray 27) = V at *
 have q0 : V.cell? ⟨w.heap.size, 0, none⟩ = some (.bool false) := bf.cell 0
 go_upto_region 3 with (fail)
 refine wp_region_lit ?_
 refine wpList_plain rfl (fun K hK => ?_); go_simp; with_reducible refine hK _ _ ?_; clear hK K
 refine wpList_ld1 (t := 27) (cs := flC false 0 sl false 0 dl sp dp pr) 5 (.tmp 20) rfl (by rfl) rfl (bf) rfl Tryz.underlying5 rfl ?_
 refine wpList_plain rfl (fun K hK => ?_); go_simp; with_reducible refine hK _ _ ?_; clear hK K
 refine wpList_ldA (t := 27) (cs := flC false 0 sl false 0 dl sp dp pr) 24 (.tmp 22) rfl rfl ([.bool false, .int .u64 0, .int .u64 (sl : Int)]) rfl (bf) rfl va1 va2 (szAdr false 0 _) ?_
 refine wpList_plain rfl (fun K hK => ?_); go_simp; with_reducible refine hK _ _ ?_; clear hK K
 refine wpList_ldA (t := 27) (cs := flC false 0 sl false 0 dl sp dp pr) 24 (.tmp 24) rfl rfl ([.bool false, .int .u64 0, .int .u64 (dl : Int)]) rfl (bf) rfl va1 va2 (szAdr false 0 _) ?_
 simp only [Act.put, qsT, qsZ, qsS]
 refine wpList_build 122 [(3, .const (.bool true)), (6, .const (.int .u8 64)), (7, .tmp 21), (9, .tmp 23), (10, .tmp 25)] rfl rfl (.agg (h4C 0 0 0 true false ((0 : Nat) : Int) 64 pr 0 false 0 sl false 0 dl none 0 0).toArray) (run_bH4 _ _ _ _) ?_
 refine wpList_plain rfl (fun K hK => ?_); go_simp; with_reducible refine hK _ _ ?_; clear hK K
 refine wpList_plain rfl (fun K hK => ?_)
 go_simp
 refine (HPK.out _ (h.later be)).mono ?_
 rintro e w1 ⟨A7, n7, k7, bs7, d7, rfl, rfl, r7⟩
 with_reducible refine hK _ _ ?_
 clear hK K
 iterate 4 (refine wpList_plain rfl (fun K hK => ?_); go_simp; with_reducible refine hK _ _ ?_; clear hK K)
 go_wp2
 go_ret2
 obtain ⟨bs9, d9, hw9⟩ := plus_of ((be.trans ((below_plus V bs7 d7).mono be.size)))
 exact ⟨A7, n7, k7, bs9, d9, rfl, hw9, by rw [← hw9]; exact r7⟩
end

section
open Go.RowKit
attribute [local go_sem ↓] sliced_cut
attribute [local go_sem] cutA_zero
theorem wp_buildV {P : Program} {Q : Exit → Act → World → Prop} {o : Oper} {a : Act} {w : World} {K : Act → World → Prop} (ty : TypeId) (ps : List (Nat × Operand)) (ho : o.op = .build ty ps.toArray) (v : Value)
  (hv : (Instr.build ty (ps.map fun p => (p.1, a.eval p.2)).toArray).run P w = .ok v w) (h : K (a.put o.dst v) w) : o.wp P a w K Q := by
 unfold Oper.wp execOp
 simp only [ho, Sem.run_bind, List.map_toArray, hv, Result.andThen_ok, Sem.run_pure]
 exact h
theorem szCr (s6 : Bool) (sh sl : Nat) (d6 : Bool) (dh dl sp dp pr : Nat) (re : Nat) (se : Bool) (ti sq : Nat) (A : Option Addr) (n c : Nat) : (Tryz.prog.info? 65).map (·.size) = some (clC (flC s6 sh sl d6 dh dl sp dp pr) re se ti sq A n c).length := by kernel_rfl
theorem rowCr : ∃ d, Tryz.prog.underlying 65 = some d ∧ d.isRow = true := ⟨_, Tryz.underlying65, rfl⟩
theorem run_bSg (sp dp : Nat) (A : Option Addr) (n c : Nat) (w : World) : (Instr.build 39 #[(0, .int .u16 (sp : Int)), (1, .int .u16 (dp : Int)), (2, .int .u32 0), (4, .int .u8 16), (5, .int .u16 65535), (9, .slice A n c)]).run Tryz.prog w = .ok (.agg (tcC sp dp 0 0 16 65535 0 0 none 0 0 A n c).toArray) w := by kernel_rfl
theorem Rb.u32 {w w' : World} {A : Option Addr} {n c : Nat} {l : List UInt8} {g i : Nat} {t : TypeId} {cs : List Value} {z : Int} (h : Rb w A n c l) (hb : Bk w g t cs) (hi : cs[i]? = some (.int .u32 z)) {v : Value} (hb' : Bk w' g t (cs.set i v)) (hg : w.grownBy w' (some g)) : Rb w' A n c l := by
 refine ⟨h.1, h.2.1, ?_⟩
 rcases h.2.2 with h' | ⟨b, off, hA, hbl, hc⟩
 ·exact .inl h'
 ·refine .inr ⟨b, off, hA, Nat.lt_of_lt_of_le hbl hg.size, fun j u hu => ?_⟩
  by_cases hne : b = g
  ·subst hne
   have h1 := hc j u hu
   rw [hb.cell] at h1
   rw [hb'.cell, List.getElem?_set_ne]
   ·exact h1
   ·intro e
    rw [← e, hi] at h1
    obtain ⟨x, _, hx⟩ := List.mem_map.1 (List.mem_of_getElem? hu)
    rw [← hx] at h1
    cases h1
  ·exact (World.cell?_of_block (hg.block b hbl (fun e => hne (Option.some.inj e)))).trans (hc j u hu)
def rtF (s6 : Bool) (sh sl dh dl : Nat) : Prop := (s6 = false → sh = 0 ∧ dh = 0 ∧ sl < 4294967296 ∧ dl < 4294967296) ∧ sh < 18446744073709551616 ∧ sl < 18446744073709551616 ∧ dh < 18446744073709551616 ∧ dl < 18446744073709551616
def wrE (s6 : Bool) (n : Nat) : Int := if s6 = false ∧ 65515 < n then 30 else 0
theorem wrap_any (s6 : Bool) (sh sl dh dl sp dp : Nat) (hr : rtF s6 sh sl dh dl) (A : Option Addr) (n c : Nat) (l : List UInt8) (w : World) (h : Rb w A n c l) (hn : n ≤ 65535) : ∃ l' : List UInt8, l'.length ≤ 66000 ∧ Calls Tryz.prog 36 #[.agg (flC s6 sh sl s6 dh dl sp dp 6).toArray, .slice A n c] w (RetBE w l' (wrE s6 n)) := by
 obtain ⟨h0, k1, k2, k3, k4⟩ := hr
 cases s6 with
 | true =>
  rw [show wrE true n = 0 from if_neg (by simp)]
  exact ⟨_, by rw [List.length_append, ip6B_length, h.1]; omega, wrap6 sh sl dh dl sp dp 6 A n c l w h hn (by decide) k1 k2 k3 k4⟩
 | false =>
  obtain ⟨rfl, rfl, e1, e2⟩ := h0 rfl
  by_cases hl : 65515 < n
  ·rw [show wrE false n = 30 from if_pos ⟨rfl, hl⟩]
   exact ⟨[], by simp, wrap4L sl dl sp dp 6 A n c l w h ⟨hl, by omega⟩ (by decide) e1 e2⟩
  ·rw [show wrE false n = 0 from if_neg (fun h => hl h.2)]
   exact ⟨_, (by have := h.1; simp [ip4B_length]; try omega), wrap4 sl dl sp dp 6 A n c l w h (by omega) (by decide) e1 e2⟩
theorem refRightL (a b c d f wi sm ur : Nat) (A : Option Addr) (n k : Nat) (A2 : Option Addr) (n2 k2 : Nat) (w : World) (hn : n ≤ 40) (h4 : n % 4 = 0) (h : 65535 < 20 + n + n2) (hn2 : n2 ≤ 2000000) : Calls Tryz.prog 35 #[.agg #[.int .u16 (a : Int), .int .u16 (b : Int), .int .u32 (c : Int), .int .u32 (d : Int), .int .u8 (f : Int), .int .u16 (wi : Int), .int .u16 (sm : Int), .int .u16 (ur : Int), .slice A n k, .slice A2 n2 k2]] w (RetV w (.bool false)) := by
 have t1 : ((n : Int) % 4 == 0) = true := by rw [beq_iff_eq]; omega
 replace h4 := Lib.hid h4
 go_enter Tryz.func35, Tryz.ntmps35
 go_wp2
 go_ret
 exact RetV.is_ (by simp; omega) (Below.allocS (Below.refl _ _) _)
def MP.rbX (m : Nat) : MP := ⟨fun v w => ∃ l A c, v = .slice A m c ∧ Rb w A m c l, fun _ _ _ ⟨l, A, c, h1, h2⟩ h => ⟨l, A, c, h1, h2.later h.below⟩⟩
def MP.rbL (N : Nat) (F : Value → Value) : MP := ⟨fun v w => ∃ l A n c, v = F (.slice A n c) ∧ Rb w A n c l ∧ n ≤ N, fun _ _ _ ⟨l, A, n, c, h1, h2, h3⟩ h => ⟨l, A, n, c, h1, h2.later h.below, h3⟩⟩
def MP.sm (F : Nat → List Value) : MP := ⟨fun v _ => ∃ sm : Nat, sm < 65536 ∧ v = .agg (F sm).toArray, fun _ _ _ h _ => h⟩
def RetSd (w : World) (g : Nat) (N : Nat) (e : Ending) (w' : World) : Prop := ∃ l A n c, ∃ E : Int, e = .returned (.tuple #[.slice A n c, .int .i64 E]) ∧ Rb w' A n c l ∧ n ≤ N ∧ Chg (fun k => k = g) w w'
set_option maxHeartbeats 4000000 in
set_option maxRecDepth 100000 in
theorem refSend_any (s6 : Bool) (sh sl dh dl sp dp : Nat) (hr : rtF s6 sh sl dh dl) (hsp : sp < 65536) (hdp : dp < 65536) (g : Nat) (A : Option Addr) (n c : Nat) (l : List UInt8) (w : World) (hB : Bk w g 65 (clC (flC s6 sh sl s6 dh dl sp dp 6) 0 false 0 0 none 0 0)) (h : Rb w A n c l) (hn : n ≤ 1048576) : Calls Tryz.prog 17 #[.pointer (some ⟨g, 0, none⟩), .int .u8 16, .slice A n c] w (RetSd w g 66000) := by
 obtain ⟨dvc, vc1, vc2⟩ := rowCr
 obtain ⟨dvf, vf1, vf2⟩ := rowFl
 obtain ⟨dvt, u1, u2⟩ := rowTr
 obtain ⟨dva, va1, va2⟩ := rowAdr
 have HL0 := Lib.hid h
 have hb16 : bits .and .u8 16 23 = 16 := by decide +kernel
 have q8 : w.cell? ⟨g, 8, none⟩ = some (.int .u8 6) := hB.cell 8
 have q9 : w.cell? ⟨g, 9, none⟩ = some (.int .u32 0) := hB.cell 9
 have hgl := hB.lt
 go_enter Tryz.func17, Tryz.ntmps17
 go_upto_region 6 with (fail)
 refine wp_relS 18 101 rfl (by kernel_rfl) (by kernel_rfl) ?_
 apply Steps.o1 (MP.eq _) 1 rfl rfl
 ·intro FA x hO hD K hK
  have e0 := hO 0 (by kernel_rfl)
  simp only [eval_tmp, qgT, qgS, qgZ, qoS] at e0
  have ev0 := Lib.hid ((eval_tmp FA 0).trans e0)
  clear hO hD
  go_simp
  exact hK.out _ _ (Ex.refl _) rfl
 apply Steps.o1 (MP.eq _) 2 rfl rfl
 ·intro FA x hO hD K hK
  obtain ⟨e25, ev25⟩ := qE (hD 0 25 (by kernel_rfl))
  clear hO hD
  go_simp
  exact hK.out _ _ (Ex.refl _) rfl
 apply Steps.o1 (MP.eq _) 3 rfl rfl
 ·intro FA x hO hD K hK
  obtain ⟨e26, ev26⟩ := qE (hD 1 26 (by kernel_rfl))
  clear hO hD
  go_simp
  exact hK.out _ _ (Ex.refl _) rfl
 apply Steps.o1 (MP.eq _) 4 rfl rfl
 ·intro FA x hO hD K hK
  obtain ⟨e27, ev27⟩ := qE (hD 2 27 (by kernel_rfl))
  clear hO hD
  go_simp
  exact hK.out _ _ (Ex.refl _) rfl
 apply Steps.o1 (MP.eq _) 5 rfl rfl
 ·intro FA x hO hD K hK
  obtain ⟨e28, ev28⟩ := qE (hD 3 28 (by kernel_rfl))
  clear hO hD
  refine wanted_if rfl ?_
  refine wp_ld1 25 (.tmp 28) rfl ev28.out (hB.later (below_plus _ _ _)) rfl Tryz.underlying25 rfl ?_
  exact hK.out _ _ (Ex.refl _) rfl
 apply Steps.o1 (MP.eq _) 6 rfl rfl
 ·intro FA x hO hD K hK
  have e0 := hO 0 (by kernel_rfl)
  simp only [eval_tmp, qgT, qgS, qgZ, qoS] at e0
  have ev0 := Lib.hid ((eval_tmp FA 0).trans e0)
  clear hO hD
  go_simp
  exact hK.out _ _ (Ex.refl _) rfl
 apply Steps.o1 (MP.eq _) 7 rfl rfl
 ·intro FA x hO hD K hK
  obtain ⟨e30, ev30⟩ := qE (hD 5 30 (by kernel_rfl))
  clear hO hD
  go_simp
  exact hK.out _ _ (Ex.refl _) rfl
 apply Steps.o1 (MP.eq _) 8 rfl rfl
 ·intro FA x hO hD K hK
  obtain ⟨e31, ev31⟩ := qE (hD 6 31 (by kernel_rfl))
  clear hO hD
  go_simp
  exact hK.out _ _ (Ex.refl _) rfl
 apply Steps.o1 (MP.eq _) 9 rfl rfl
 ·intro FA x hO hD K hK
  obtain ⟨e32, ev32⟩ := qE (hD 7 32 (by kernel_rfl))
  clear hO hD
  go_simp
  exact hK.out _ _ (Ex.refl _) rfl
 apply Steps.o1 (MP.eq _) 10 rfl rfl
 ·intro FA x hO hD K hK
  obtain ⟨e33, ev33⟩ := qE (hD 8 33 (by kernel_rfl))
  clear hO hD
  refine wanted_if rfl ?_
  refine wp_ld1 25 (.tmp 33) rfl ev33.out (hB.later (below_plus _ _ _)) rfl Tryz.underlying25 rfl ?_
  exact hK.out _ _ (Ex.refl _) rfl
 apply Steps.o1 (MP.eq _) 11 rfl rfl
 ·intro FA x hO hD K hK
  have e0 := hO 0 (by kernel_rfl)
  simp only [eval_tmp, qgT, qgS, qgZ, qoS] at e0
  have ev0 := Lib.hid ((eval_tmp FA 0).trans e0)
  clear hO hD
  go_simp
  exact hK.out _ _ (Ex.refl _) rfl
 apply Steps.o1 (MP.eq _) 12 rfl rfl
 ·intro FA x hO hD K hK
  obtain ⟨e35, ev35⟩ := qE (hD 10 35 (by kernel_rfl))
  clear hO hD
  go_simp
  exact hK.out _ _ (Ex.refl _) rfl
 apply Steps.o1 (MP.eq _) 13 rfl rfl
 ·intro FA x hO hD K hK
  obtain ⟨e36, ev36⟩ := qE (hD 11 36 (by kernel_rfl))
  clear hO hD
  go_simp
  exact hK.out _ _ (Ex.refl _) rfl
 apply Steps.o1 (MP.eq _) 14 rfl rfl
 ·intro FA x hO hD K hK
  obtain ⟨e37, ev37⟩ := qE (hD 12 37 (by kernel_rfl))
  clear hO hD
  refine wanted_if rfl ?_
  refine wp_ld1 34 (.tmp 37) rfl ev37.out (hB.later (below_plus _ _ _)) rfl Tryz.underlying34 rfl ?_
  exact hK.out _ _ (Ex.refl _) rfl
 apply Steps.o1 (MP.eq _) 15 rfl rfl
 ·intro FA x hO hD K hK
  have e1 := hO 1 (by kernel_rfl)
  simp only [eval_tmp, qgT, qgS, qgZ, qoS] at e1
  have ev1 := Lib.hid ((eval_tmp FA 1).trans e1)
  clear hO hD
  go_simp
  exact hK.out _ _ (Ex.refl _) rfl
 apply Steps.o1 (MP.eq _) 16 rfl rfl
 ·intro FA x hO hD K hK
  have e2 := hO 2 (by kernel_rfl)
  simp only [eval_tmp, qgT, qgS, qgZ, qoS] at e2
  have ev2 := Lib.hid ((eval_tmp FA 2).trans e2)
  clear hO hD
  go_simp
  exact hK.out _ _ (Ex.refl _) rfl
 apply Steps.o1 (MP.eq (.agg (tcC sp dp 0 0 16 65535 0 0 none 0 0 A n c).toArray)) 17 rfl rfl
 ·intro FA x hO hD K hK
  obtain ⟨e29, ev29⟩ := qE (hD 4 29 (by kernel_rfl))
  obtain ⟨e34, ev34⟩ := qE (hD 9 34 (by kernel_rfl))
  obtain ⟨e38, ev38⟩ := qE (hD 13 38 (by kernel_rfl))
  obtain ⟨e39, ev39⟩ := qE (hD 14 39 (by kernel_rfl))
  obtain ⟨e40, ev40⟩ := qE (hD 15 40 (by kernel_rfl))
  clear hO hD
  refine wanted_if rfl ?_
  refine wp_buildV 39 [(0, .tmp 29), (1, .tmp 34), (2, .tmp 38), (4, .tmp 39), (5, .const (.int .u16 65535)), (9, .tmp 40)] rfl (.agg (tcC sp dp 0 0 16 65535 0 0 none 0 0 A n c).toArray) (by simp only [List.map_cons, List.map_nil, ev29.out, ev34.out, ev38.out, ev39.out, ev40.out]; exact run_bSg _ _ _ _ _ _) ?_
  exact hK.out _ _ (Ex.refl _) rfl
 apply Steps.o1 (MP.blk w.heap.size 39 (tcC 0 0 0 0 0 0 0 0 none 0 0 none 0 0)) 18 rfl rfl
 ·intro FA x hO hD K hK
  clear hO hD
  go_simp
  refine hK.out _ _ (Ex.alloc _ _) ⟨_, rfl, ?_, ?_⟩
  ·simp [size_plus]
  ·refine Bk.newK _ _ _ ?_ rfl
   simp [size_plus]
 refine Steps.fin_ (fun vs x hp => ?_)
 have p0 : vs 0 = _ := hp 0 (by omega)
 have p1 : vs 1 = _ := hp 1 (by omega)
 have p2 : vs 2 = _ := hp 2 (by omega)
 have p3 : vs 3 = _ := hp 3 (by omega)
 have p4 : vs 4 = _ := hp 4 (by omega)
 have p5 : vs 5 = _ := hp 5 (by omega)
 have p6 : vs 6 = _ := hp 6 (by omega)
 have p7 : vs 7 = _ := hp 7 (by omega)
 have p8 : vs 8 = _ := hp 8 (by omega)
 have p9 : vs 9 = _ := hp 9 (by omega)
 have p10 : vs 10 = _ := hp 10 (by omega)
 have p11 : vs 11 = _ := hp 11 (by omega)
 have p12 : vs 12 = _ := hp 12 (by omega)
 have p13 : vs 13 = _ := hp 13 (by omega)
 have p14 : vs 14 = _ := hp 14 (by omega)
 have p15 : vs 15 = _ := hp 15 (by omega)
 have p16 : vs 16 = _ := hp 16 (by omega)
 have p17 := hp 17 (by omega)
 clear hp
 simp only [List.take_succ_cons, List.take_zero, List.drop_succ_cons, List.drop_zero, putAll, Nat.zero_add, Nat.reduceAdd, Act.put, qsT, qsZ, qsS, p0, p1, p2, p3, p4, p5, p6, p7, p8, p9, p10, p11, p12, p13, p14, p15, p16]
 clear p0 p1 p2 p3 p4 p5 p6 p7 p8 p9 p10 p11 p12 p13 p14 p15 p16
 generalize vs 17 = y17 at *
 clear vs
 obtain ⟨gs, rfl, zgs, hs0⟩ := p17
 clear q8 q9
 have hb0 := below_plus w x.bs x.d
 replace hB := hB.later hb0
 replace h := h.later hb0
 generalize plus w x.bs x.d = V0 at *
 refine wpList_stA (t := 39) 39 (.tmp 9) (.tmp 41) rfl rfl (tcC sp dp 0 0 16 65535 0 0 none 0 0 A n c) (tcC 0 0 0 0 0 0 0 0 none 0 0 none 0 0) rfl (tcC_one _ _ _ _ _ _ _ _ _ _ _ _ _ _ ) rfl rfl hs0 (szTr _ _ _ _ _ _ _ _ _ _ _ _ _ _ ) ?_
 intro W1 h1 g1
 simp only [Act.put, qsT, qsZ, qsS]
 have be1 : Below w.heap.size w W1 := below_grown hb0 g1 zgs
 have hB1 := hB.grown g1 (fun e => by injection e with e; omega)
 clear hB g1 hs0
 go_upto_region 7 with (fail)
 refine wp_region_lit ?_
 iterate 4 (refine wpList_plain rfl (fun K hK => ?_); go_simp; with_reducible refine hK _ _ ?_; clear hK K)
 refine wpList_ld1 (t := 65) (cs := clC (flC s6 sh sl s6 dh dl sp dp 6) 0 false 0 0 none 0 0) 34 (.tmp 45) rfl (by rfl) rfl (hB1.alloc _) rfl Tryz.underlying34 rfl ?_
 refine wpList_plain rfl (fun K hK => ?_); go_simp; with_reducible refine hK _ _ ?_; clear hK K
 refine wpList_plain rfl (fun K hK => ?_)
 go_simp
 refine (refBytes_any 0 4 _ (by decide) (by decide)).mono ?_
 rintro e w1 ⟨A5, n5, k5, bs5, d5, rfl, rfl, ho5⟩
 with_reducible refine hK _ _ ?_
 clear hK K
 iterate 2 (refine wpList_plain rfl (fun K hK => ?_); go_simp; with_reducible refine hK _ _ ?_; clear hK K)
 refine wpList_plain rfl (fun K hK => ?_)
 go_simp
 refine (refBytes_any 0 4 _ (by decide) (by decide)).mono ?_
 rintro e w1 ⟨A6, n6, k6, bs6, d6, rfl, rfl, ho6⟩
 with_reducible refine hK _ _ ?_
 clear hK K
 refine wpList_plain rfl (fun K hK => ?_); go_simp; with_reducible refine hK _ _ ?_; clear hK K
 have hl3 : RdL ((plus (plus (W1.alloc (.cells #[.int .u8 1, .int .u8 1, .int .u8 8, .int .u8 10] 5)) bs5 d5) bs6 d6).alloc (.cells ([.slice (some ⟨W1.heap.size, 0, none⟩) 4 4, .slice A5 n5 k5, .slice A6 n6 k6] : List Value).toArray 37)) (some ⟨(plus (plus (W1.alloc (.cells #[.int .u8 1, .int .u8 1, .int .u8 8, .int .u8 10] 5)) bs5 d5) bs6 d6).heap.size, 0, none⟩) 3 [[1, 1, 8, 10], dig 0 4, dig 0 4] := RdL.litW _ _ rfl (.cons ⟨_, _, _, rfl, (((Ob.lit W1 (Nat.le_refl _) #[.int .u8 1, .int .u8 1, .int .u8 8, .int .u8 10] [1, 1, 8, 10] 4 rfl (by decide) rfl).rb).plus_ _ _).plus_ _ _⟩ (.cons ⟨_, _, _, rfl, ho5.rb.plus_ _ _⟩ (.cons ⟨_, _, _, rfl, ho6.rb⟩ .nil)))
 refine wpList_plain rfl (fun K hK => ?_)
 go_simp
 refine (refJoin_any _ 3 3 _ _ (by simpa [size_plus] using hl3) (by omega) (by decide)).mono ?_
 rintro e w1 ⟨A7, n7, k7, bs7, d7, rfl, rfl, ho7⟩
 with_reducible refine hK _ _ ?_
 clear hK K
 refine wpList_plain rfl (fun K hK => ?_); go_simp; with_reducible refine hK _ _ ?_; clear hK K
 have c1_ := Below.allocS (Below.refl W1.heap.size W1) (.cells #[.int .u8 1, .int .u8 1, .int .u8 8, .int .u8 10] 5)
 have c2_ := c1_.trans ((below_plus _ bs5 d5).mono c1_.size)
 have c3_ := c2_.trans ((below_plus _ bs6 d6).mono c2_.size)
 have c4_ := Below.allocS c3_ (.cells ([.slice (some ⟨W1.heap.size, 0, none⟩) 4 4, .slice A5 n5 k5, .slice A6 n6 k6] : List Value).toArray 37)
 have c5_ := c4_.trans ((below_plus _ bs7 d7).mono c4_.size)
 have hj1 := h1.later c5_
 have hgs1 := h1.lt
 refine wpList_st1 (v := .slice A7 n7 k7) (t := 39) (cs := tcC sp dp 0 0 16 65535 0 0 none 0 0 A n c) (off := 8) 37 (.tmp 54) (.tmp 53) rfl rfl rfl rfl (by simpa using hj1) (Nat.le_of_ble_eq_true rfl) rfl (by kernel_rfl) ?_
 intro W2 h2 g2
 simp only [Act.put, qsT, qsZ, qsS]
 have hB2 := (hB1.later c5_).grown (by simpa using g2) (fun e => by injection e with e; omega)
 obtain rfl : n7 = 12 := by rw [← ho7.1]; simp [dig_length]
 replace h2 : Bk W2 gs 39 (tcC sp dp 0 0 16 65535 0 0 A7 12 k7 A n c) := h2
 have r72 := (ho7.grown (by simpa using g2) (fun k hk e => by have := (ho7.blk k hk).1; have := c4_.size; injection e with e; omega)).rb
 have be2 : Below w.heap.size w W2 := below_grown (be1.trans (c5_.mono be1.size)) (by simpa using g2) (by omega)
 generalize ([[1, 1, 8, 10], dig 0 4, dig 0 4] : List (List UInt8)).flatten = LL at *
 clear hl3 c1_ c2_ c3_ c4_ c5_ hj1 g2 ho7 ho5 ho6 h1 hB1 h
 by_cases hlong : 65535 < 32 + n
 ·go_upto_region 8 with (fail)
  refine wp_region_lit ?_
  refine wpList_ldA (t := 39) 39 (.tmp 9) rfl rfl (tcC sp dp 0 0 16 65535 0 0 A7 12 k7 A n c) rfl (h2) (whole_ _) u1 u2 (szTr _ _ _ _ _ _ _ _ _ _ _ _ _ _ ) ?_
  refine wpList_plain rfl (fun K hK => ?_)
  go_simp
  refine (refRightL sp dp 0 0 16 65535 0 0 A7 12 k7 A n c _ (by omega) (by omega) (by omega) (by omega)).mono ?_
  rintro e w1 ⟨bs8, d8, rfl, rfl⟩
  with_reducible refine hK _ _ ?_
  clear hK K
  refine wpList_plain rfl (fun K hK => ?_); go_simp; with_reducible refine hK _ _ ?_; clear hK K
  go_wp2
  go_ret2
  exact ⟨[], none, 0, 0, 1, rfl, Rb.nil_, by omega, Chg.of_below (be2.trans ((below_plus W2 bs8 d8).mono be2.size))⟩
 obtain ⟨EE, hEE⟩ : ∃ EE, wrE s6 (32 + n) = EE := ⟨_, rfl⟩
 have HEE := Lib.hid hEE
 clear hEE
 go_upto_region 8 with (fail)
 refine wp_region_lit ?_
 refine wpList_ldA (t := 39) 39 (.tmp 9) rfl rfl (tcC sp dp 0 0 16 65535 0 0 A7 12 k7 A n c) rfl (h2) (whole_ _) u1 u2 (szTr _ _ _ _ _ _ _ _ _ _ _ _ _ _ ) ?_
 refine wpList_plain rfl (fun K hK => ?_)
 go_simp
 refine (refTcpRight_yes sp dp 0 0 16 65535 0 0 A7 12 k7 A n c _ (by omega) (by omega) (by omega)).mono ?_
 rintro e w1 ⟨bs8, d8, rfl, rfl⟩
 with_reducible refine hK _ _ ?_
 clear hK K
 refine wpList_plain rfl (fun K hK => ?_); go_simp; with_reducible refine hK _ _ ?_; clear hK K
 have hb8 := below_plus W2 bs8 d8
 have hB3 := hB2.later hb8
 have h3 := h2.later hb8
 have r7 := r72.later hb8
 have be3 := be2.trans (hb8.mono be2.size)
 have h30 := HL0.out.later be3
 clear hb8 hB2 h2 r72 be2
 generalize plus W2 bs8 d8 = W3 at *
 go_upto_region 10 with (fail)
 refine wp_relS 23 101 rfl (by kernel_rfl) (by kernel_rfl) ?_
 apply Steps.o1 (MP.eq _) 1 rfl rfl
 ·intro FA x hO hD K hK
  have e0 := hO 0 (by kernel_rfl)
  simp only [eval_tmp, qgT, qgS, qgZ, qoS] at e0
  have ev0 := Lib.hid ((eval_tmp FA 0).trans e0)
  clear hO hD
  go_simp
  exact hK.out _ _ (Ex.refl _) rfl
 apply Steps.o1 (MP.eq _) 2 rfl rfl
 ·intro FA x hO hD K hK
  obtain ⟨e59, ev59⟩ := qE (hD 0 59 (by kernel_rfl))
  clear hO hD
  go_simp
  exact hK.out _ _ (Ex.refl _) rfl
 apply Steps.o1 (MP.eq _) 3 rfl rfl
 ·intro FA x hO hD K hK
  obtain ⟨e60, ev60⟩ := qE (hD 1 60 (by kernel_rfl))
  clear hO hD
  go_simp
  exact hK.out _ _ (Ex.refl _) rfl
 apply Steps.o1 (MP.eq _) 4 rfl rfl
 ·intro FA x hO hD K hK
  obtain ⟨e61, ev61⟩ := qE (hD 2 61 (by kernel_rfl))
  clear hO hD
  refine wanted_if rfl ?_
  refine wp_ldA (cs := clC (flC s6 sh sl s6 dh dl sp dp 6) 0 false 0 0 none 0 0) 27 (.tmp 61) rfl (flC s6 sh sl s6 dh dl sp dp 6) ev61.out (hB3.later (below_plus _ _ _)) rfl vf1 vf2 (szFl _ _ _ _ _ _ _ _ _) ?_
  exact hK.out _ _ (Ex.refl _) rfl
 apply Steps.o1 (MP.eq _) 5 rfl rfl
 ·intro FA x hO hD K hK
  have e9 := hO 9 (by kernel_rfl)
  simp only [eval_tmp, qgT, qgS, qgZ, qoS] at e9
  have ev9 := Lib.hid ((eval_tmp FA 9).trans e9)
  clear hO hD
  refine wanted_if rfl ?_
  refine wp_ldA 39 (.tmp 9) rfl (tcC sp dp 0 0 16 65535 0 0 A7 12 k7 A n c) ev9.out (h3.later (below_plus _ _ _)) (whole_ _) u1 u2 (szTr _ _ _ _ _ _ _ _ _ _ _ _ _ _ ) ?_
  exact hK.out _ _ (Ex.refl _) rfl
 apply Steps.o1 (MP.eq _) 6 rfl rfl
 ·intro FA x hO hD K hK
  have e0 := hO 0 (by kernel_rfl)
  simp only [eval_tmp, qgT, qgS, qgZ, qoS] at e0
  have ev0 := Lib.hid ((eval_tmp FA 0).trans e0)
  clear hO hD
  go_simp
  exact hK.out _ _ (Ex.refl _) rfl
 apply Steps.o1 (MP.eq _) 7 rfl rfl
 ·intro FA x hO hD K hK
  obtain ⟨e64, ev64⟩ := qE (hD 5 64 (by kernel_rfl))
  clear hO hD
  go_simp
  exact hK.out _ _ (Ex.refl _) rfl
 apply Steps.o1 (MP.eq _) 8 rfl rfl
 ·intro FA x hO hD K hK
  obtain ⟨e65, ev65⟩ := qE (hD 6 65 (by kernel_rfl))
  clear hO hD
  go_simp
  exact hK.out _ _ (Ex.refl _) rfl
 apply Steps.o1 (MP.eq _) 9 rfl rfl
 ·intro FA x hO hD K hK
  obtain ⟨e66, ev66⟩ := qE (hD 7 66 (by kernel_rfl))
  clear hO hD
  go_simp
  exact hK.out _ _ (Ex.refl _) rfl
 apply Steps.o1 (MP.eq _) 10 rfl rfl
 ·intro FA x hO hD K hK
  obtain ⟨e67, ev67⟩ := qE (hD 8 67 (by kernel_rfl))
  clear hO hD
  refine wanted_if rfl ?_
  refine wp_ldA (cs := clC (flC s6 sh sl s6 dh dl sp dp 6) 0 false 0 0 none 0 0) 24 (.tmp 67) rfl ([.bool s6, .int .u64 (sh : Int), .int .u64 (sl : Int)]) ev67.out (hB3.later (below_plus _ _ _)) rfl va1 va2 (szAdr _ _ _) ?_
  exact hK.out _ _ (Ex.refl _) rfl
 apply Steps.o1 (MP.eq _) 11 rfl rfl
 ·intro FA x hO hD K hK
  have e0 := hO 0 (by kernel_rfl)
  simp only [eval_tmp, qgT, qgS, qgZ, qoS] at e0
  have ev0 := Lib.hid ((eval_tmp FA 0).trans e0)
  clear hO hD
  go_simp
  exact hK.out _ _ (Ex.refl _) rfl
 apply Steps.o1 (MP.eq _) 12 rfl rfl
 ·intro FA x hO hD K hK
  obtain ⟨e69, ev69⟩ := qE (hD 10 69 (by kernel_rfl))
  clear hO hD
  go_simp
  exact hK.out _ _ (Ex.refl _) rfl
 apply Steps.o1 (MP.eq _) 13 rfl rfl
 ·intro FA x hO hD K hK
  obtain ⟨e70, ev70⟩ := qE (hD 11 70 (by kernel_rfl))
  clear hO hD
  go_simp
  exact hK.out _ _ (Ex.refl _) rfl
 apply Steps.o1 (MP.eq _) 14 rfl rfl
 ·intro FA x hO hD K hK
  obtain ⟨e71, ev71⟩ := qE (hD 12 71 (by kernel_rfl))
  clear hO hD
  go_simp
  exact hK.out _ _ (Ex.refl _) rfl
 apply Steps.o1 (MP.eq _) 15 rfl rfl
 ·intro FA x hO hD K hK
  obtain ⟨e72, ev72⟩ := qE (hD 13 72 (by kernel_rfl))
  clear hO hD
  refine wanted_if rfl ?_
  refine wp_ldA (cs := clC (flC s6 sh sl s6 dh dl sp dp 6) 0 false 0 0 none 0 0) 24 (.tmp 72) rfl ([.bool s6, .int .u64 (dh : Int), .int .u64 (dl : Int)]) ev72.out (hB3.later (below_plus _ _ _)) rfl va1 va2 (szAdr _ _ _) ?_
  exact hK.out _ _ (Ex.refl _) rfl
 apply Steps.o1 (MP.sm (fun sm => tcC sp dp 0 0 16 65535 sm 0 A7 12 k7 A n c)) 16 rfl rfl
 ·intro FA x hO hD K hK
  obtain ⟨e63, ev63⟩ := qE (hD 4 63 (by kernel_rfl))
  obtain ⟨e68, ev68⟩ := qE (hD 9 68 (by kernel_rfl))
  obtain ⟨e73, ev73⟩ := qE (hD 14 73 (by kernel_rfl))
  clear hO hD
  go_simp
  refine (refSummed_any sp dp 0 0 16 65535 0 0 A7 12 k7 A n c _ l s6 sh sl s6 dh dl _ hsp hdp (by decide) (by decide) (by decide) (by decide) (by decide) hr.2.1 hr.2.2.1 hr.2.2.2.1 hr.2.2.2.2 (r7.later (below_plus _ _ _)) (h30.later (below_plus _ _ _)) (by omega) (by omega)).mono ?_
  rintro e w2 ⟨sm, hs, bs2, d2, rfl, rfl⟩
  exact hK.out _ _ (Ex.plus_ _ _ _) ⟨sm, hs, rfl⟩
 apply Steps.o1 (MP.rbX (32 + n)) 17 rfl rfl
 ·intro FA x hO hD K hK
  obtain ⟨u74, f74, e74, ev74⟩ := qG (hD 15 74 (by kernel_rfl))
  clear hO hD
  obtain ⟨sm, hs, rfl⟩ := f74
  go_simp
  refine (refTcpBytes_any sp dp 0 0 16 65535 sm 0 A7 12 k7 A n c _ l _ hsp hdp (by decide) (by decide) (by decide) (by decide) hs (by decide) (r7.later (below_plus _ _ _)) (h30.later (below_plus _ _ _)) (by omega) (by omega)).mono ?_
  rintro e w2 ⟨A9, n9, k9, bs9, d9, rfl, rfl, ho9⟩
  obtain rfl : n9 = 32 + n := by rw [← ho9.1, tcpB_len, r7.1, h30.1]
  exact hK.out _ _ (Ex.plus_ _ _ _) ⟨_, _, _, rfl, ho9.rb⟩
 apply Steps.o1 (MP.rbL 66000 (fun v => .tuple #[v, .int .i64 EE])) 18 rfl rfl
 ·intro FA x hO hD K hK
  obtain ⟨e62, ev62⟩ := qE (hD 3 62 (by kernel_rfl))
  obtain ⟨u75, f75, e75, ev75⟩ := qG (hD 16 75 (by kernel_rfl))
  clear hO hD
  obtain ⟨l9, A9, k9, rfl, hr9⟩ := f75
  go_simp
  obtain ⟨lw, hlw, hcw⟩ := wrap_any s6 sh sl dh dl sp dp hr A9 (32 + n) k9 l9 _ hr9 (by omega)
  rw [HEE.out] at hcw
  refine hcw.mono ?_
  rintro e w2 ⟨A8, n8, k8, bs8, d8, rfl, rfl, hr8⟩
  exact hK.out _ _ (Ex.plus_ _ _ _) ⟨lw, _, _, _, rfl, hr8, by rw [← hr8.1]; omega⟩
 apply Steps.o1 (MP.rbL 66000 (fun v => .tuple #[v, .int .i64 EE])) 19 rfl rfl
 ·intro FA x hO hD K hK
  obtain ⟨u76, f76, e76, ev76⟩ := qG (hD 17 76 (by kernel_rfl))
  clear hO hD
  go_simp
  exact hK.out _ _ (Ex.refl _) f76
 apply Steps.o1 (MP.rbL 66000 (fun v => v)) 20 rfl rfl
 ·intro FA x hO hD K hK
  obtain ⟨u58, f58, e58, ev58⟩ := qG (hD 18 58 (by kernel_rfl))
  clear hO hD
  obtain ⟨l9, A9, n9, k9, rfl, hr9, hn9⟩ := f58
  go_simp
  exact hK.out _ _ (Ex.refl _) ⟨_, _, _, _, rfl, hr9, hn9⟩
 apply Steps.o1 (MP.eq (.int .i64 EE)) 21 rfl rfl
 ·intro FA x hO hD K hK
  obtain ⟨u58, f58, e58, ev58⟩ := qG (hD 18 58 (by kernel_rfl))
  clear hO hD
  obtain ⟨l9, A9, n9, k9, rfl, hr9, hn9⟩ := f58
  go_simp
  exact hK.out _ _ (Ex.refl _) rfl
 apply Steps.o1 (MP.rbL 66000 (fun v => v)) 22 rfl rfl
 ·intro FA x hO hD K hK
  obtain ⟨u77, f77, e77, ev77⟩ := qG (hD 19 77 (by kernel_rfl))
  clear hO hD
  go_simp
  exact hK.out _ _ (Ex.refl _) f77
 apply Steps.o1 (MP.eq _) 23 rfl rfl
 ·intro FA x hO hD K hK
  obtain ⟨e78, ev78⟩ := qE (hD 20 78 (by kernel_rfl))
  clear hO hD
  go_simp
  exact hK.out _ _ (Ex.refl _) rfl
 refine Steps.fin_ (fun vs x hp => ?_)
 have p0 : vs 0 = _ := hp 0 (by omega)
 have p1 : vs 1 = _ := hp 1 (by omega)
 have p2 : vs 2 = _ := hp 2 (by omega)
 have p3 : vs 3 = _ := hp 3 (by omega)
 have p4 : vs 4 = _ := hp 4 (by omega)
 have p5 : vs 5 = _ := hp 5 (by omega)
 have p6 : vs 6 = _ := hp 6 (by omega)
 have p7 : vs 7 = _ := hp 7 (by omega)
 have p8 : vs 8 = _ := hp 8 (by omega)
 have p9 : vs 9 = _ := hp 9 (by omega)
 have p10 : vs 10 = _ := hp 10 (by omega)
 have p11 : vs 11 = _ := hp 11 (by omega)
 have p12 : vs 12 = _ := hp 12 (by omega)
 have p13 : vs 13 = _ := hp 13 (by omega)
 have p14 : vs 14 = _ := hp 14 (by omega)
 have p15 := hp 15 (by omega)
 have p16 := hp 16 (by omega)
 have p17 := hp 17 (by omega)
 have p18 := hp 18 (by omega)
 have p19 := hp 19 (by omega)
 have p20 : vs 20 = _ := hp 20 (by omega)
 have p21 := hp 21 (by omega)
 have p22 : vs 22 = _ := hp 22 (by omega)
 clear hp
 simp only [List.take_succ_cons, List.take_zero, List.drop_succ_cons, List.drop_zero, putAll, Nat.zero_add, Nat.reduceAdd, Act.put, qsT, qsZ, qsS, p0, p1, p2, p3, p4, p5, p6, p7, p8, p9, p10, p11, p12, p13, p14, p20, p22]
 clear p0 p1 p2 p3 p4 p5 p6 p7 p8 p9 p10 p11 p12 p13 p14 p20 p22
 generalize vs 15 = y15 at *
 generalize vs 16 = y16 at *
 generalize vs 17 = y17 at *
 generalize vs 18 = y18 at *
 generalize vs 19 = y19 at *
 generalize vs 21 = y21 at *
 clear vs
 obtain ⟨lr, Ar, nr, kr, rfl, hrr, hnr⟩ := p21
 have hb4 := below_plus W3 x.bs x.d
 have hB4 := hB3.later hb4
 have be4 := be3.trans (hb4.mono be3.size)
 clear p15 p16 p17 p18 p19 hb4 hB3 h3 r7 h30 be3
 generalize plus W3 x.bs x.d = W4 at *
 by_cases hE0 : EE = 0
 rotate_left
 ·have hEi : (EE == 0) = false := by simpa using hE0
  clear hE0
  go_wp2
  go_ret2
  exact ⟨lr, Ar, nr, kr, EE, rfl, hrr, hnr, Chg.of_below be4⟩
 subst hE0
 go_upto_region 12 with (fail)
 refine wp_region_lit ?_
 iterate 3 (refine wpList_plain rfl (fun K hK => ?_); go_simp; with_reducible refine hK _ _ ?_; clear hK K)
 refine wpList_ld1 (t := 65) (cs := clC (flC s6 sh sl s6 dh dl sp dp 6) 0 false 0 0 none 0 0) 34 (.tmp 83) rfl (by rfl) rfl (hB4) rfl Tryz.underlying34 rfl ?_
 iterate 3 (refine wpList_plain rfl (fun K hK => ?_); go_simp; with_reducible refine hK _ _ ?_; clear hK K)
 refine wpList_st1 (v := .int .u32 1) (t := 65) (cs := clC (flC s6 sh sl s6 dh dl sp dp 6) 0 false 0 0 none 0 0) (off := 11) 34 (.tmp 87) (.tmp 85) rfl rfl rfl rfl hB4 (Nat.le_of_ble_eq_true rfl) rfl (by kernel_rfl) ?_
 intro W5 h5 g5
 simp only [Act.put, qsT, qsZ, qsS]
 have hr5 := hrr.u32 hB4 (i := 11) (z := 0) rfl h5 g5
 go_upto_region 13 with (fail)
 refine wp_region_lit ?_
 iterate 4 (refine wpList_plain rfl (fun K hK => ?_); go_simp; with_reducible refine hK _ _ ?_; clear hK K)
 refine wpList_ld1 (t := 65) (cs := clC (flC s6 sh sl s6 dh dl sp dp 6) 0 false 1 0 none 0 0) 34 (.tmp 91) rfl (by rfl) rfl (h5) rfl Tryz.underlying34 rfl ?_
 iterate 6 (refine wpList_plain rfl (fun K hK => ?_); go_simp; with_reducible refine hK _ _ ?_; clear hK K)
 refine wpList_st1 (t := 65) (cs := clC (flC s6 sh sl s6 dh dl sp dp 6) 0 false 1 0 none 0 0) (off := 12) 34 (.tmp 98) (.tmp 96) rfl rfl rfl rfl h5 (Nat.le_of_ble_eq_true rfl) rfl (by kernel_rfl) ?_
 intro W6 h6 g6
 simp only [Act.put, qsT, qsZ, qsS]
 have hr6 := hr5.u32 h5 (i := 12) (z := 0) rfl h6 g6
 go_wp2
 go_ret2
 exact ⟨lr, Ar, nr, kr, 0, rfl, hr6, hnr, ((Chg.of_below be4).trans (Chg.one (D := fun k => k = g) g5 rfl)).trans (Chg.one (D := fun k => k = g) g6 rfl)⟩
end

section
open Go.RowKit
attribute [local go_sem ↓] sliced_cut
attribute [local go_sem] cutA_zero
theorem run_bCr (s6 : Bool) (sh sl : Nat) (d6 : Bool) (dh dl sp dp pr : Nat) (w : World) : (Instr.build 65 #[(0, .agg (flC s6 sh sl d6 dh dl sp dp pr).toArray)]).run Tryz.prog w = .ok (.agg (clC (flC s6 sh sl d6 dh dl sp dp pr) 0 false 0 0 none 0 0).toArray) w := by kernel_rfl
theorem run_bOp (A : Option Addr) (n c : Nat) (w : World) : (Instr.build 49 #[(8, .slice A n c)]).run Tryz.prog w = .ok (.agg (tcC 0 0 0 0 0 0 0 0 A n c none 0 0).toArray) w := by kernel_rfl
def RetRy (w : World) (e : Ending) (w' : World) : Prop := ∃ l A n c, e = .returned (.slice A n c) ∧ Rb w' A n c l ∧ n ≤ 1100000 ∧ Below w.heap.size w w'
set_option maxHeartbeats 4000000 in
set_option maxRecDepth 100000 in
theorem reply_any (s6 : Bool) (sh sl dh dl sp dp pr : Nat) (hr : rtF s6 sh sl dh dl) (hsp : sp < 65536) (hdp : dp < 65536) (x0 x1 x2 x3 x4 x5 x6 x7 : Nat) (B1 : Option Addr) (m1 c1_ : Nat) (B2 : Option Addr) (m2 c2_ : Nat) (o1 o2 : List UInt8) (w : World) (ho1 : Rb w B1 m1 c1_ o1) (ho2 : Rb w B2 m2 c2_ o2) (hm1 : m1 ≤ 1048576) (hm2 : m2 ≤ 1048576) : Calls Tryz.prog 9 #[.agg (flC s6 sh sl s6 dh dl sp dp pr).toArray, .agg (tcC x0 x1 x2 x3 x4 x5 x6 x7 B1 m1 c1_ B2 m2 c2_).toArray] w (RetRy w) := by
 obtain ⟨dva, va1, va2⟩ := rowAdr
 obtain ⟨dvc, vc1, vc2⟩ := rowCr
 obtain ⟨dvi, vi1, vi2⟩ := rowIn
 obtain ⟨dvt, vt1, vt2⟩ := rowSeg
 have hrs : rtF s6 dh dl sh sl := ⟨fun h => ⟨(hr.1 h).2.1, (hr.1 h).1, (hr.1 h).2.2.2, (hr.1 h).2.2.1⟩, hr.2.2.2.1, hr.2.2.2.2, hr.2.1, hr.2.2.1⟩
 have HO1 := Lib.hid ho1
 have HO2 := Lib.hid ho2
 clear ho1 ho2
 obtain ⟨dvf1, vf1, vf2⟩ := rowFl
 obtain ⟨du1, u1, u2⟩ := rowTr
 obtain ⟨bf, bs, be, zV⟩ := box2 w 27 39 (flC s6 sh sl s6 dh dl sp dp pr) (tcC x0 x1 x2 x3 x4 x5 x6 x7 B1 m1 c1_ B2 m2 c2_)
 go_enter Tryz.func9, Tryz.ntmps9
 go_upto_region 1 with (fail)
 generalize (w.alloc (.cells (flC s6 sh sl s6 dh dl sp dp pr).toArray 27)).alloc (.cells (tcC x0 x1 x2 x3 x4 x5 x6 x7 B1 m1 c1_ B2 m2 c2_).toArray 39) = V at *
 refine wp_region_lit ?_
 refine wpList_plain rfl (fun K hK => ?_); go_simp; with_reducible refine hK _ _ ?_; clear hK K
 refine wpList_ldA (t := 27) (cs := flC s6 sh sl s6 dh dl sp dp pr) 24 (.tmp 16) rfl rfl ([.bool s6, .int .u64 (dh : Int), .int .u64 (dl : Int)]) rfl (bf) rfl va1 va2 (szAdr _ _ _) ?_
 refine wpList_plain rfl (fun K hK => ?_); go_simp; with_reducible refine hK _ _ ?_; clear hK K
 refine wpList_ldA (t := 27) (cs := flC s6 sh sl s6 dh dl sp dp pr) 24 (.tmp 18) rfl rfl ([.bool s6, .int .u64 (sh : Int), .int .u64 (sl : Int)]) rfl (bf) rfl va1 va2 (szAdr _ _ _) ?_
 refine wpList_plain rfl (fun K hK => ?_); go_simp; with_reducible refine hK _ _ ?_; clear hK K
 refine wpList_ld1 (t := 27) (cs := flC s6 sh sl s6 dh dl sp dp pr) 25 (.tmp 20) rfl (by rfl) rfl (bf) rfl Tryz.underlying25 rfl ?_
 refine wpList_plain rfl (fun K hK => ?_); go_simp; with_reducible refine hK _ _ ?_; clear hK K
 refine wpList_ld1 (t := 27) (cs := flC s6 sh sl s6 dh dl sp dp pr) 25 (.tmp 22) rfl (by rfl) rfl (bf) rfl Tryz.underlying25 rfl ?_
 simp only [Act.put, qsT, qsZ, qsS]
 refine wpList_build 27 [(0, .tmp 17), (1, .tmp 19), (2, .tmp 21), (3, .tmp 23), (4, .const (.int .u8 6))] rfl rfl (.agg (flC s6 dh dl s6 sh sl dp sp 6).toArray) (run_bFl s6 sh sl s6 dh dl sp dp 6 _) ?_
 simp only [Act.put, qsT, qsZ, qsS]
 refine wpList_build 65 [(0, .tmp 24)] rfl rfl (.agg (clC (flC s6 dh dl s6 sh sl dp sp 6) 0 false 0 0 none 0 0).toArray) (run_bCr _ _ _ _ _ _ _ _ _ _) ?_
 refine wpList_plain rfl (fun K hK => ?_); go_simp; with_reducible refine hK _ _ ?_; clear hK K
 refine wpList_stA (t := 65) 65 (.tmp 5) (.tmp 25) rfl rfl (clC (flC s6 dh dl s6 sh sl dp sp 6) 0 false 0 0 none 0 0) (clC (flC false 0 0 false 0 0 0 0 0) 0 false 0 0 none 0 0) rfl (clC_one _ _ _ _ _ _ _ _ _ _ _ _ _ _ _ _) rfl rfl (Bk.new _ _ _) (szCr _ _ _ _ _ _ _ _ _ _ _ _ _ _ _ _) ?_
 intro W1 h1 g1
 simp only [Act.put, qsT, qsZ, qsS]
 have be1 : Below w.heap.size w W1 := below_grown (Below.allocS be _) g1 (by omega)
 have bs1 := (bs.alloc (.cells (clC (flC false 0 0 false 0 0 0 0 0) 0 false 0 0 none 0 0).toArray 65)).grown g1 (fun e => by injection e with e; have := bs.lt; omega)
 have hgc := h1.lt
 have hgcw : w.heap.size + 2 ≤ V.heap.size := zV
 generalize V.heap.size = gc at *
 clear bs bf g1 be zV
 go_upto_region 2 with (fail)
 refine wp_region_lit ?_
 refine wpList_plain rfl (fun K hK => ?_); go_simp; with_reducible refine hK _ _ ?_; clear hK K
 refine wpList_ld1 (t := 39) (cs := tcC x0 x1 x2 x3 x4 x5 x6 x7 B1 m1 c1_ B2 m2 c2_) 37 (.tmp 27) rfl (by rfl) rfl (bs1) rfl Tryz.underlying37 rfl ?_
 refine wpList_plain rfl (fun K hK => ?_)
 go_simp
 refine (refSend_any s6 dh dl sh sl dp sp hrs hdp hsp _ B2 m2 c2_ o2 _ h1 (HO2.out.later be1) hm2).mono ?_
 rintro e w1 ⟨l1, A5, n5, k5, E5, rfl, r5, hn5, hc5⟩
 with_reducible refine hK _ _ ?_
 clear hK K
 generalize hWW : w1 = W2 at *
 clear hWW
 iterate 5 (refine wpList_plain rfl (fun K hK => ?_); go_simp; with_reducible refine hK _ _ ?_; clear hK K)
 have be2 : Below w.heap.size w W2 := be1.trans (hc5.below (B := w.heap.size) (fun b hb => by have hb : b = gc := hb; omega) be1.size)
 have bs2 := bs1.chg hc5 (by omega)
 obtain ⟨p, why, hpo, hh⟩ := host_any A5 n5 k5 l1 W2 r5 (by omega)
 have HH := Lib.hid hh
 clear hh hc5 h1 bs1 be1
 go_upto_region 3 with (fail)
 refine wp_region_lit ?_
 refine wpList_plain rfl (fun K hK => ?_); go_simp; with_reducible refine hK _ _ ?_; clear hK K
 refine wpList_plain rfl (fun K hK => ?_)
 go_simp
 refine (HH.out _ (Below.refl _ _)).mono ?_
 rintro e w1 ⟨A1, n1, c1, A2, n2, c2, A3, n3, c3, A4, n4, c4, bs3, d3, rfl, rfl, r1, r2, r3, r4, f1, f2, f3, f4⟩
 with_reducible refine hK _ _ ?_
 clear hK K
 iterate 4 (refine wpList_plain rfl (fun K hK => ?_); go_simp; with_reducible refine hK _ _ ?_; clear hK K)
 refine wpList_stA (t := 55) 55 (.tmp 8) (.tmp 35) rfl rfl (p.cs A1 n1 c1 A2 n2 c2 A3 n3 c3 A4 n4 c4) (inPk (fhC false false 0 false 0 0 false 0 0 0 0 0) (tcC 0 0 0 0 0 0 0 0 none 0 0 none 0 0) (dgX 0 0 0 none 0 0) (msgC 0 0 0 0 none 0 0)) rfl (p.one _ _ _ _ _ _ _ _ _ _ _ _) rfl rfl (Bk.newK _ _ _ (by simp [size_plus]) rfl) (szIN_ (by rfl)) ?_
 intro W4 h4 g4
 refine wpList_plain rfl (fun K hK => ?_); go_simp; with_reducible refine hK _ _ ?_; clear hK K
 have hb4 : Below W2.heap.size W2 W4 := below_grown (Below.allocS (below_plus W2 bs3 d3) _) g4 (by simp [size_plus])
 have hbp : Below (plus W2 bs3 d3).heap.size (plus W2 bs3 d3) W4 := below_grown (Below.allocS (Below.refl _ _) _) g4 (by simp [size_plus])
 have r14 := r1.later hbp
 have r24 := r2.later hbp
 have r54 := r5.later hb4
 have bs4 := bs2.later hb4
 have be4 := be2.trans (hb4.mono be2.size)
 generalize W2.heap.size + bs3.length = gi at *
 clear hbp hb4 g4 r1 r2 r3 r4 f1 f2 f3 f4 r5 bs2 be2 HH
 cases hst : stampsAt o1 with
 | none =>
  have HST := Lib.hid (fun W (h : Rb W B1 m1 c1_ o1) => (by have := refStamps_any B1 m1 c1_ o1 W h (by omega); rwa [hst] at this : Calls Tryz.prog 19 #[.slice B1 m1 c1_] W fun e w' => e = .returned (resT none) ∧ W = w'))
  clear hst
  go_upto_region 4 with (fail)
  refine wp_region_lit ?_
  refine wpList_plain rfl (fun K hK => ?_); go_simp; with_reducible refine hK _ _ ?_; clear hK K
  refine wpList_ld1 (t := 39) (cs := tcC x0 x1 x2 x3 x4 x5 x6 x7 B1 m1 c1_ B2 m2 c2_) 37 (.tmp 37) rfl (by rfl) rfl (bs4) rfl Tryz.underlying37 rfl ?_
  refine wpList_plain rfl (fun K hK => ?_)
  go_simp
  refine (HST.out _ (HO1.out.later be4)).mono ?_
  rintro e w1 ⟨rfl, rfl⟩
  simp only [resT]
  with_reducible refine hK _ _ ?_
  clear hK K
  refine wpList_plain rfl (fun K hK => ?_); go_simp; with_reducible refine hK _ _ ?_; clear hK K
  by_cases hw : why = 0
  ·subst hw
   go_upto_region 5 with (fail)
   refine wp_region_lit ?_
   iterate 3 (refine wpList_plain rfl (fun K hK => ?_); go_simp; with_reducible refine hK _ _ ?_; clear hK K)
   iterate 2 (refine wpList_step (fun K hK => ?_); go_simp; with_reducible refine hK _ _ ?_; clear hK K)
   refine wpList_plain rfl (fun K hK => ?_); go_simp; with_reducible refine hK _ _ ?_; clear hK K
   go_wp2
   go_ret
   exact ⟨l1, A5, n5, k5, rfl, r54, by omega, be4⟩
  ·have hwi : (why != 0) = true := bne_iff_ne.2 hw
   clear hw
   go_upto_region 5 with (fail)
   refine wp_region_lit ?_
   iterate 3 (refine wpList_plain rfl (fun K hK => ?_); go_simp; with_reducible refine hK _ _ ?_; clear hK K)
   iterate 2 ((with_reducible refine wpList_skip ?_ ?_); (· first | (go_simp; done) | (go_simp; intro h; cases h)); simp only [Act.put, qsT, qsZ, qsS])
   refine wpList_plain rfl (fun K hK => ?_); go_simp; with_reducible refine hK _ _ ?_; clear hK K
   go_wp2
   go_ret
   exact ⟨l1, A5, n5, k5, rfl, r54, by omega, be4⟩
 | some a =>
  have HST := Lib.hid (fun W (h : Rb W B1 m1 c1_ o1) => (by have := refStamps_any B1 m1 c1_ o1 W h (by omega); rwa [hst] at this : Calls Tryz.prog 19 #[.slice B1 m1 c1_] W fun e w' => e = .returned (resT (some a)) ∧ W = w'))
  clear hst
  go_upto_region 4 with (fail)
  refine wp_region_lit ?_
  refine wpList_plain rfl (fun K hK => ?_); go_simp; with_reducible refine hK _ _ ?_; clear hK K
  refine wpList_ld1 (t := 39) (cs := tcC x0 x1 x2 x3 x4 x5 x6 x7 B1 m1 c1_ B2 m2 c2_) 37 (.tmp 37) rfl (by rfl) rfl (bs4) rfl Tryz.underlying37 rfl ?_
  refine wpList_plain rfl (fun K hK => ?_)
  go_simp
  refine (HST.out _ (HO1.out.later be4)).mono ?_
  rintro e w1 ⟨rfl, rfl⟩
  simp only [resT]
  with_reducible refine hK _ _ ?_
  clear hK K
  refine wpList_plain rfl (fun K hK => ?_); go_simp; with_reducible refine hK _ _ ?_; clear hK K
  by_cases hw : why = 0
  rotate_left
  ·have hwi : (why != 0) = true := bne_iff_ne.2 hw
   clear hw
   go_upto_region 5 with (fail)
   refine wp_region_lit ?_
   iterate 3 (refine wpList_plain rfl (fun K hK => ?_); go_simp; with_reducible refine hK _ _ ?_; clear hK K)
   iterate 2 ((with_reducible refine wpList_skip ?_ ?_); (· first | (go_simp; done) | (go_simp; intro h; cases h)); simp only [Act.put, qsT, qsZ, qsS])
   refine wpList_plain rfl (fun K hK => ?_); go_simp; with_reducible refine hK _ _ ?_; clear hK K
   go_wp2
   go_ret
   exact ⟨l1, A5, n5, k5, rfl, r54, by omega, be4⟩
  subst hw
  have ha0 : ¬ (a : Int) < 0 := by omega
  go_upto_region 5 with (fail)
  refine wp_region_lit ?_
  iterate 3 (refine wpList_plain rfl (fun K hK => ?_); go_simp; with_reducible refine hK _ _ ?_; clear hK K)
  iterate 2 (refine wpList_step (fun K hK => ?_); go_simp; with_reducible refine hK _ _ ?_; clear hK K)
  refine wpList_plain rfl (fun K hK => ?_); go_simp; with_reducible refine hK _ _ ?_; clear hK K
  have hv := stV_lt o1
  have hn1 : n1 ≤ 40 := by rw [← r14.1]; exact hpo.2.1
  have hn14 : n1 % 4 = 0 := by rw [← r14.1]; exact hpo.2.2.1
  have hn2 : n2 ≤ 70000 := by have := hpo.2.2.2.2; have := r24.1; omega
  have hn3 : 20 + n1 + n2 ≤ 65535 := by rw [← r14.1, ← r24.1]; exact hpo.2.2.2.2
  go_upto_region 7 with (fail)
  refine wp_region_lit ?_
  refine wpList_plain rfl (fun K hK => ?_); go_simp; with_reducible refine hK _ _ ?_; clear hK K
  refine wpList_ld1 (t := 39) (cs := tcC x0 x1 x2 x3 x4 x5 x6 x7 B1 m1 c1_ B2 m2 c2_) 37 (.tmp 48) rfl (by rfl) rfl (bs4) rfl Tryz.underlying37 rfl ?_
  simp only [Act.put, qsT, qsZ, qsS]
  refine wpList_build 49 [(8, .tmp 49)] rfl rfl (.agg (tcC 0 0 0 0 0 0 0 0 B1 m1 c1_ none 0 0).toArray) (run_bOp _ _ _ _) ?_
  refine wpList_plain rfl (fun K hK => ?_)
  go_simp
  refine (stamp_any 0 0 0 0 0 0 0 0 B1 m1 c1_ none 0 0 o1 _ (HO1.out.later be4) (by omega)).mono ?_
  rintro e w1 ⟨bs7, d7, rfl, rfl⟩
  with_reducible refine hK _ _ ?_
  clear hK K
  iterate 7 (refine wpList_plain rfl (fun K hK => ?_); go_simp; with_reducible refine hK _ _ ?_; clear hK K)
  obtain ⟨v, hvv⟩ : ∃ v, stV o1 = v := ⟨_, rfl⟩
  rw [hvv] at hv ⊢
  clear hvv
  have hb7 := below_plus W4 bs7 d7
  have h47 := h4.later hb7
  have r17 := r14.later hb7
  have r27 := r24.later hb7
  have r57 := r54.later hb7
  have be7 := be4.trans (hb7.mono be4.size)
  clear hb7 h4 r14 r24 r54 bs4 be4
  generalize plus W4 bs7 d7 = W7 at *
  go_upto_region 8 with (fail)
  refine wp_region_lit ?_
  iterate 2 (refine wpList_plain rfl (fun K hK => ?_); go_simp; with_reducible refine hK _ _ ?_; clear hK K)
  refine wpList_ldA (t := 55) (cs := p.cs A1 n1 c1 A2 n2 c2 A3 n3 c3 A4 n4 c4) 49 (.tmp 57) rfl rfl (tcC p.x0 p.x1 p.x2 p.x3 p.x4 p.x5 p.x6 p.x7 A1 n1 c1 A2 n2 c2) rfl (h47) rfl vt1 vt2 (szTc _ _ _ _ _ _ _ _ _ _ _ _ _ _) ?_
  refine wpList_plain rfl (fun K hK => ?_); go_simp; with_reducible refine hK _ _ ?_; clear hK K
  refine wpList_plain rfl (fun K hK => ?_)
  go_simp
  refine (withVal_any p.x0 p.x1 p.x2 p.x3 p.x4 p.x5 p.x6 p.x7 A1 n1 c1 A2 n2 c2 p.o1 p.o2 v hv _ r17 r27 hpo.1.2.2.2.2.2.2.1 hn1 hn2).mono ?_
  rintro e w1 ⟨sm9, l9, A9, k9, B9, j9, rfl, hs9, b9, q9, q8, -, -⟩
  with_reducible refine hK _ _ ?_
  clear hK K
  generalize hWW : w1 = W8 at *
  clear hWW
  have r58 := r57.later b9
  obtain ⟨lw, ew, hlw, hww⟩ := withTCP_any A5 n5 k5 l1 W8 r58 (by omega) p.x0 p.x1 p.x2 p.x3 p.x4 p.x5 sm9 p.x7 A9 n1 k9 B9 n2 j9 l9 p.o2 hpo.1.1 hpo.1.2.1 hpo.1.2.2.1 hpo.1.2.2.2.1 hpo.1.2.2.2.2.1 hpo.1.2.2.2.2.2.1 hs9 hpo.1.2.2.2.2.2.2.2 hn1 hn14 hn3 q9 q8
  replace hww := Lib.hid hww
  refine wpList_plain rfl (fun K hK => ?_)
  go_simp
  refine (hww.out).mono ?_
  rintro e w1 ⟨Aw, nw, kw, bsw, dw, rfl, rfl, rw_⟩
  with_reducible refine hK _ _ ?_
  clear hK K
  iterate 5 (refine wpList_plain rfl (fun K hK => ?_); go_simp; with_reducible refine hK _ _ ?_; clear hK K)
  have be8 := be7.trans (b9.mono be7.size)
  have hb9 := below_plus W8 bsw dw
  have be9 := be8.trans (hb9.mono be8.size)
  have r59 := r58.later hb9
  have hnw : nw ≤ 1100000 := by rw [← rw_.1]; omega
  generalize plus W8 bsw dw = W9 at *
  by_cases he : ew = 0
  ·subst he
   go_wp2
   go_ret
   exact ⟨lw, Aw, nw, kw, rfl, rw_, hnw, be9⟩
  ·have hei : (ew != 0) = true := bne_iff_ne.2 he
   clear he
   go_wp2
   go_ret
   exact ⟨l1, A5, n5, k5, rfl, r59, by omega, be9⟩
end

end Go.Proofs.YtlpbahleaeieoaaGreat
