/- Segments: Right, Bytes, and their references. -/
import Derived.Test.YticlohlpccollaaTcpR
import Derived.Test.YticlohlpccollaaAddr
import Derived.Test.YticlohlpccollaaJoi
namespace Go.Proofs.Yticlohlpccollaa
open Go.RowKit
set_option linter.unusedVariables false
set_option linter.unusedSimpArgs false
attribute [local go_sem ↓] sliced_cut
attribute [local go_sem] cutA_zero

/-- the bytes of a segment; hb0: the byte of the header's size -/
def tcpB (a b c d hb0 f wi sm ur : Nat) (l l2 : List UInt8) : List UInt8 := ([(dig (a) 2), (dig (b) 2), (dig (c) 4), (dig (d) 4), [UInt8.ofNat (hb0), UInt8.ofNat (f)], (dig (wi) 2), (dig (sm) 2), (dig (ur) 2), l, l2]).flatten
set_option maxHeartbeats 4000000 in
set_option maxRecDepth 100000 in
theorem refTcpBytes_any (a b c d f wi sm ur : Nat) (A : Option Addr) (n k : Nat) (A2 : Option Addr) (n2 k2 : Nat) (l l2 : List UInt8) (w : World) (ha : a < 65536) (hb : b < 65536) (hc : c < 4294967296) (hd : d < 4294967296) (hf : f < 256) (hwi : wi < 65536) (hsm : sm < 65536) (hur : ur < 65536) (h : Rb w A n k l) (h2 : Rb w A2 n2 k2 l2) (hn : n ≤ 40) (hn2 : n2 ≤ 100000) : Calls Try.prog 29 #[.agg #[.int .u16 (a : Int), .int .u16 (b : Int), .int .u32 (c : Int), .int .u32 (d : Int), .int .u8 (f : Int), .int .u16 (wi : Int), .int .u16 (sm : Int), .int .u16 (ur : Int), .slice A n k, .slice A2 n2 k2]] w (RetB w (tcpB a b c d (80 + n / 4 * 16) f wi sm ur l l2)) := by
  obtain ⟨q4, hq4⟩ : ∃ q, q = n / 4 := ⟨_, rfl⟩
  obtain ⟨q16, hq16⟩ : ∃ q, q = q4 * 16 := ⟨_, rfl⟩
  obtain ⟨hb0, hhb⟩ : ∃ q, q = 80 + q16 := ⟨_, rfl⟩
  have hlb : hb0 < 256 := by omega
  rw [← hq4, ← hq16, ← hhb]
  have HT : ([(dig (a) 2), (dig (b) 2), (dig (c) 4), (dig (d) 4), [UInt8.ofNat (hb0), UInt8.ofNat (f)], (dig (wi) 2), (dig (sm) 2), (dig (ur) 2), l, l2]).flatten.length ≤ 549755813888 := by simp [dig_length, h.1, h2.1]; omega
  replace HT := Lib.hid HT
  have f1 : ((n : Int)).tdiv 4 = (q4 : Int) := by rw [Int.tdiv_eq_ediv_of_nonneg (by omega)]; omega
  have f2 : IntKind.i64.wrap (q4 : Int) = (q4 : Int) := IntWalk.i64_in _ (by omega)
  have f3 : IntKind.i64.wrap ((q4 : Int) * 16) = (q16 : Int) := by rw [IntWalk.i64_in _ (by omega)]; omega
  have f4 : IntKind.i64.wrap (80 + (q16 : Int)) = (hb0 : Int) := by rw [IntWalk.i64_in _ (by omega)]; omega
  have g0 : IntKind.u64.wrap (a : Int) = (a : Int) := IntWalk.u64_in _ (by omega)
  have g1 : IntKind.u64.wrap (b : Int) = (b : Int) := IntWalk.u64_in _ (by omega)
  have g2 : IntKind.u64.wrap (c : Int) = (c : Int) := IntWalk.u64_in _ (by omega)
  have g3 : IntKind.u64.wrap (d : Int) = (d : Int) := IntWalk.u64_in _ (by omega)
  have g4 : IntKind.u8.wrap (hb0 : Int) = (hb0 : Int) := IntWalk.u8_in _ (by omega)
  have g5 : IntKind.u64.wrap (wi : Int) = (wi : Int) := IntWalk.u64_in _ (by omega)
  have g6 : IntKind.u64.wrap (sm : Int) = (sm : Int) := IntWalk.u64_in _ (by omega)
  have g7 : IntKind.u64.wrap (ur : Int) = (ur : Int) := IntWalk.u64_in _ (by omega)
  clear hq4 hq16 hhb
  go_enter Try.func29, Try.ntmps29
  go_wp2
  refine wp_rel 45 47 rfl (by kernel_rfl) (by kernel_rfl) (fun i => match i with | 0 => MP.eq (.pointer (some ⟨w.heap.size, 0, none⟩)) | 1 => MP.eq (.int .u16 (a : Int)) | 2 => MP.eq (.int .u64 (a : Int)) | 3 => MP.rb (dig (a) 2) | 4 => MP.eq (.pointer (some ⟨w.heap.size, 1, none⟩)) | 5 => MP.eq (.int .u16 (b : Int)) | 6 => MP.eq (.int .u64 (b : Int)) | 7 => MP.rb (dig (b) 2) | 8 => MP.eq (.pointer (some ⟨w.heap.size, 2, none⟩)) | 9 => MP.eq (.int .u32 (c : Int)) | 10 => MP.eq (.int .u64 (c : Int)) | 11 => MP.rb (dig (c) 4) | 12 => MP.eq (.pointer (some ⟨w.heap.size, 3, none⟩)) | 13 => MP.eq (.int .u32 (d : Int)) | 14 => MP.eq (.int .u64 (d : Int)) | 15 => MP.rb (dig (d) 4) | 16 => MP.eq (.pointer (some ⟨w.heap.size, 8, none⟩)) | 17 => MP.eq (.slice A n k) | 18 => MP.eq (.int .i64 (n : Int)) | 19 => MP.eq (.int .i64 (q4 : Int)) | 20 => MP.eq (.int .i64 (q16 : Int)) | 21 => MP.eq (.int .i64 (hb0 : Int)) | 22 => MP.eq (.int .u8 (hb0 : Int)) | 23 => MP.eq (.pointer (some ⟨w.heap.size, 4, none⟩)) | 24 => MP.eq (.int .u8 (f : Int)) | 25 => MP.rb [UInt8.ofNat (hb0), UInt8.ofNat (f)] | 26 => MP.eq (.pointer (some ⟨w.heap.size, 5, none⟩)) | 27 => MP.eq (.int .u16 (wi : Int)) | 28 => MP.eq (.int .u64 (wi : Int)) | 29 => MP.rb (dig (wi) 2) | 30 => MP.eq (.pointer (some ⟨w.heap.size, 6, none⟩)) | 31 => MP.eq (.int .u16 (sm : Int)) | 32 => MP.eq (.int .u64 (sm : Int)) | 33 => MP.rb (dig (sm) 2) | 34 => MP.eq (.pointer (some ⟨w.heap.size, 7, none⟩)) | 35 => MP.eq (.int .u16 (ur : Int)) | 36 => MP.eq (.int .u64 (ur : Int)) | 37 => MP.rb (dig (ur) 2) | 38 => MP.eq (.pointer (some ⟨w.heap.size, 8, none⟩)) | 39 => MP.eq (.slice A n k) | 40 => MP.eq (.pointer (some ⟨w.heap.size, 9, none⟩)) | 41 => MP.eq (.slice A2 n2 k2) | 42 => MP.rdl [(dig (a) 2), (dig (b) 2), (dig (c) 4), (dig (d) 4), [UInt8.ofNat (hb0), UInt8.ofNat (f)], (dig (wi) 2), (dig (sm) 2), (dig (ur) 2), l, l2] | 43 => MP.ob w.heap.size ([(dig (a) 2), (dig (b) 2), (dig (c) 4), (dig (d) 4), [UInt8.ofNat (hb0), UInt8.ofNat (f)], (dig (wi) 2), (dig (sm) 2), (dig (ur) 2), l, l2]).flatten | 44 => MP.ob w.heap.size ([(dig (a) 2), (dig (b) 2), (dig (c) 4), (dig (d) 4), [UInt8.ofNat (hb0), UInt8.ofNat (f)], (dig (wi) 2), (dig (sm) 2), (dig (ur) 2), l, l2]).flatten | _ => MP.any) ?_ ?_
  · intro i hi o ho FA x hO hD K hK
    match i, hi, ho, hO, hD, hK with
    | 0, _, ho, hO, hD, hK => 
      obtain rfl := Option.some.inj ho.symm
      clear ho
      have ev1 : FA.eval (.tmp 1) = .pointer (some ⟨w.heap.size, 0, none⟩) := hO 1 (by kernel_rfl)
      have e1 : FA.tmps[1]?.getD undef = .pointer (some ⟨w.heap.size, 0, none⟩) := by simpa [Act.eval] using ev1
      replace ev1 := Lib.hid ev1
      clear hO hD
      go_simp
      exact hK.out _ _ (Ex.refl _) rfl
    | 1, _, ho, hO, hD, hK => 
      obtain rfl := Option.some.inj ho.symm
      clear ho
      have ev3 : FA.eval (.tmp 3) = .pointer (some ⟨w.heap.size, 0, none⟩) := hD 0 3 (by kernel_rfl)
      have e3 : FA.tmps[3]?.getD undef = .pointer (some ⟨w.heap.size, 0, none⟩) := by simpa [Act.eval] using ev3
      replace ev3 := Lib.hid ev3
      clear hO hD
      go_simp
      exact hK.out _ _ (Ex.refl _) rfl
    | 2, _, ho, hO, hD, hK => 
      obtain rfl := Option.some.inj ho.symm
      clear ho
      have ev4 : FA.eval (.tmp 4) = .int .u16 (a : Int) := hD 1 4 (by kernel_rfl)
      have e4 : FA.tmps[4]?.getD undef = .int .u16 (a : Int) := by simpa [Act.eval] using ev4
      replace ev4 := Lib.hid ev4
      clear hO hD
      go_simp
      exact hK.out _ _ (Ex.refl _) rfl
    | 3, _, ho, hO, hD, hK => 
      obtain rfl := Option.some.inj ho.symm
      clear ho
      have ev5 : FA.eval (.tmp 5) = .int .u64 (a : Int) := hD 2 5 (by kernel_rfl)
      have e5 : FA.tmps[5]?.getD undef = .int .u64 (a : Int) := by simpa [Act.eval] using ev5
      replace ev5 := Lib.hid ev5
      clear hO hD
      go_simp
      refine (refBytes_any (a) 2 _ (by omega) (by omega)).mono ?_
      rintro e w1 ⟨A2, n2, c2, bs2, d2, rfl, rfl, ho2⟩
      exact hK.out _ _ (Ex.plus_ _ _ _) ⟨_, _, _, rfl, ho2.rb⟩
    | 4, _, ho, hO, hD, hK => 
      obtain rfl := Option.some.inj ho.symm
      clear ho
      have ev1 : FA.eval (.tmp 1) = .pointer (some ⟨w.heap.size, 0, none⟩) := hO 1 (by kernel_rfl)
      have e1 : FA.tmps[1]?.getD undef = .pointer (some ⟨w.heap.size, 0, none⟩) := by simpa [Act.eval] using ev1
      replace ev1 := Lib.hid ev1
      clear hO hD
      go_simp
      exact hK.out _ _ (Ex.refl _) rfl
    | 5, _, ho, hO, hD, hK => 
      obtain rfl := Option.some.inj ho.symm
      clear ho
      have ev7 : FA.eval (.tmp 7) = .pointer (some ⟨w.heap.size, 1, none⟩) := hD 4 7 (by kernel_rfl)
      have e7 : FA.tmps[7]?.getD undef = .pointer (some ⟨w.heap.size, 1, none⟩) := by simpa [Act.eval] using ev7
      replace ev7 := Lib.hid ev7
      clear hO hD
      go_simp
      exact hK.out _ _ (Ex.refl _) rfl
    | 6, _, ho, hO, hD, hK => 
      obtain rfl := Option.some.inj ho.symm
      clear ho
      have ev8 : FA.eval (.tmp 8) = .int .u16 (b : Int) := hD 5 8 (by kernel_rfl)
      have e8 : FA.tmps[8]?.getD undef = .int .u16 (b : Int) := by simpa [Act.eval] using ev8
      replace ev8 := Lib.hid ev8
      clear hO hD
      go_simp
      exact hK.out _ _ (Ex.refl _) rfl
    | 7, _, ho, hO, hD, hK => 
      obtain rfl := Option.some.inj ho.symm
      clear ho
      have ev9 : FA.eval (.tmp 9) = .int .u64 (b : Int) := hD 6 9 (by kernel_rfl)
      have e9 : FA.tmps[9]?.getD undef = .int .u64 (b : Int) := by simpa [Act.eval] using ev9
      replace ev9 := Lib.hid ev9
      clear hO hD
      go_simp
      refine (refBytes_any (b) 2 _ (by omega) (by omega)).mono ?_
      rintro e w1 ⟨A2, n2, c2, bs2, d2, rfl, rfl, ho2⟩
      exact hK.out _ _ (Ex.plus_ _ _ _) ⟨_, _, _, rfl, ho2.rb⟩
    | 8, _, ho, hO, hD, hK => 
      obtain rfl := Option.some.inj ho.symm
      clear ho
      have ev1 : FA.eval (.tmp 1) = .pointer (some ⟨w.heap.size, 0, none⟩) := hO 1 (by kernel_rfl)
      have e1 : FA.tmps[1]?.getD undef = .pointer (some ⟨w.heap.size, 0, none⟩) := by simpa [Act.eval] using ev1
      replace ev1 := Lib.hid ev1
      clear hO hD
      go_simp
      exact hK.out _ _ (Ex.refl _) rfl
    | 9, _, ho, hO, hD, hK => 
      obtain rfl := Option.some.inj ho.symm
      clear ho
      have ev11 : FA.eval (.tmp 11) = .pointer (some ⟨w.heap.size, 2, none⟩) := hD 8 11 (by kernel_rfl)
      have e11 : FA.tmps[11]?.getD undef = .pointer (some ⟨w.heap.size, 2, none⟩) := by simpa [Act.eval] using ev11
      replace ev11 := Lib.hid ev11
      clear hO hD
      go_simp
      exact hK.out _ _ (Ex.refl _) rfl
    | 10, _, ho, hO, hD, hK => 
      obtain rfl := Option.some.inj ho.symm
      clear ho
      have ev12 : FA.eval (.tmp 12) = .int .u32 (c : Int) := hD 9 12 (by kernel_rfl)
      have e12 : FA.tmps[12]?.getD undef = .int .u32 (c : Int) := by simpa [Act.eval] using ev12
      replace ev12 := Lib.hid ev12
      clear hO hD
      go_simp
      exact hK.out _ _ (Ex.refl _) rfl
    | 11, _, ho, hO, hD, hK => 
      obtain rfl := Option.some.inj ho.symm
      clear ho
      have ev13 : FA.eval (.tmp 13) = .int .u64 (c : Int) := hD 10 13 (by kernel_rfl)
      have e13 : FA.tmps[13]?.getD undef = .int .u64 (c : Int) := by simpa [Act.eval] using ev13
      replace ev13 := Lib.hid ev13
      clear hO hD
      go_simp
      refine (refBytes_any (c) 4 _ (by omega) (by omega)).mono ?_
      rintro e w1 ⟨A2, n2, c2, bs2, d2, rfl, rfl, ho2⟩
      exact hK.out _ _ (Ex.plus_ _ _ _) ⟨_, _, _, rfl, ho2.rb⟩
    | 12, _, ho, hO, hD, hK => 
      obtain rfl := Option.some.inj ho.symm
      clear ho
      have ev1 : FA.eval (.tmp 1) = .pointer (some ⟨w.heap.size, 0, none⟩) := hO 1 (by kernel_rfl)
      have e1 : FA.tmps[1]?.getD undef = .pointer (some ⟨w.heap.size, 0, none⟩) := by simpa [Act.eval] using ev1
      replace ev1 := Lib.hid ev1
      clear hO hD
      go_simp
      exact hK.out _ _ (Ex.refl _) rfl
    | 13, _, ho, hO, hD, hK => 
      obtain rfl := Option.some.inj ho.symm
      clear ho
      have ev15 : FA.eval (.tmp 15) = .pointer (some ⟨w.heap.size, 3, none⟩) := hD 12 15 (by kernel_rfl)
      have e15 : FA.tmps[15]?.getD undef = .pointer (some ⟨w.heap.size, 3, none⟩) := by simpa [Act.eval] using ev15
      replace ev15 := Lib.hid ev15
      clear hO hD
      go_simp
      exact hK.out _ _ (Ex.refl _) rfl
    | 14, _, ho, hO, hD, hK => 
      obtain rfl := Option.some.inj ho.symm
      clear ho
      have ev16 : FA.eval (.tmp 16) = .int .u32 (d : Int) := hD 13 16 (by kernel_rfl)
      have e16 : FA.tmps[16]?.getD undef = .int .u32 (d : Int) := by simpa [Act.eval] using ev16
      replace ev16 := Lib.hid ev16
      clear hO hD
      go_simp
      exact hK.out _ _ (Ex.refl _) rfl
    | 15, _, ho, hO, hD, hK => 
      obtain rfl := Option.some.inj ho.symm
      clear ho
      have ev17 : FA.eval (.tmp 17) = .int .u64 (d : Int) := hD 14 17 (by kernel_rfl)
      have e17 : FA.tmps[17]?.getD undef = .int .u64 (d : Int) := by simpa [Act.eval] using ev17
      replace ev17 := Lib.hid ev17
      clear hO hD
      go_simp
      refine (refBytes_any (d) 4 _ (by omega) (by omega)).mono ?_
      rintro e w1 ⟨A2, n2, c2, bs2, d2, rfl, rfl, ho2⟩
      exact hK.out _ _ (Ex.plus_ _ _ _) ⟨_, _, _, rfl, ho2.rb⟩
    | 16, _, ho, hO, hD, hK => 
      obtain rfl := Option.some.inj ho.symm
      clear ho
      have ev1 : FA.eval (.tmp 1) = .pointer (some ⟨w.heap.size, 0, none⟩) := hO 1 (by kernel_rfl)
      have e1 : FA.tmps[1]?.getD undef = .pointer (some ⟨w.heap.size, 0, none⟩) := by simpa [Act.eval] using ev1
      replace ev1 := Lib.hid ev1
      clear hO hD
      go_simp
      exact hK.out _ _ (Ex.refl _) rfl
    | 17, _, ho, hO, hD, hK => 
      obtain rfl := Option.some.inj ho.symm
      clear ho
      have ev19 : FA.eval (.tmp 19) = .pointer (some ⟨w.heap.size, 8, none⟩) := hD 16 19 (by kernel_rfl)
      have e19 : FA.tmps[19]?.getD undef = .pointer (some ⟨w.heap.size, 8, none⟩) := by simpa [Act.eval] using ev19
      replace ev19 := Lib.hid ev19
      clear hO hD
      go_simp
      exact hK.out _ _ (Ex.refl _) rfl
    | 18, _, ho, hO, hD, hK => 
      obtain rfl := Option.some.inj ho.symm
      clear ho
      have ev20 : FA.eval (.tmp 20) = .slice A n k := hD 17 20 (by kernel_rfl)
      have e20 : FA.tmps[20]?.getD undef = .slice A n k := by simpa [Act.eval] using ev20
      replace ev20 := Lib.hid ev20
      clear hO hD
      go_simp
      exact hK.out _ _ (Ex.refl _) rfl
    | 19, _, ho, hO, hD, hK => 
      obtain rfl := Option.some.inj ho.symm
      clear ho
      have ev21 : FA.eval (.tmp 21) = .int .i64 (n : Int) := hD 18 21 (by kernel_rfl)
      have e21 : FA.tmps[21]?.getD undef = .int .i64 (n : Int) := by simpa [Act.eval] using ev21
      replace ev21 := Lib.hid ev21
      clear hO hD
      go_simp
      exact hK.out _ _ (Ex.refl _) rfl
    | 20, _, ho, hO, hD, hK => 
      obtain rfl := Option.some.inj ho.symm
      clear ho
      have ev22 : FA.eval (.tmp 22) = .int .i64 (q4 : Int) := hD 19 22 (by kernel_rfl)
      have e22 : FA.tmps[22]?.getD undef = .int .i64 (q4 : Int) := by simpa [Act.eval] using ev22
      replace ev22 := Lib.hid ev22
      clear hO hD
      go_simp
      exact hK.out _ _ (Ex.refl _) rfl
    | 21, _, ho, hO, hD, hK => 
      obtain rfl := Option.some.inj ho.symm
      clear ho
      have ev23 : FA.eval (.tmp 23) = .int .i64 (q16 : Int) := hD 20 23 (by kernel_rfl)
      have e23 : FA.tmps[23]?.getD undef = .int .i64 (q16 : Int) := by simpa [Act.eval] using ev23
      replace ev23 := Lib.hid ev23
      clear hO hD
      go_simp
      exact hK.out _ _ (Ex.refl _) rfl
    | 22, _, ho, hO, hD, hK => 
      obtain rfl := Option.some.inj ho.symm
      clear ho
      have ev24 : FA.eval (.tmp 24) = .int .i64 (hb0 : Int) := hD 21 24 (by kernel_rfl)
      have e24 : FA.tmps[24]?.getD undef = .int .i64 (hb0 : Int) := by simpa [Act.eval] using ev24
      replace ev24 := Lib.hid ev24
      clear hO hD
      go_simp
      exact hK.out _ _ (Ex.refl _) rfl
    | 23, _, ho, hO, hD, hK => 
      obtain rfl := Option.some.inj ho.symm
      clear ho
      have ev1 : FA.eval (.tmp 1) = .pointer (some ⟨w.heap.size, 0, none⟩) := hO 1 (by kernel_rfl)
      have e1 : FA.tmps[1]?.getD undef = .pointer (some ⟨w.heap.size, 0, none⟩) := by simpa [Act.eval] using ev1
      replace ev1 := Lib.hid ev1
      clear hO hD
      go_simp
      exact hK.out _ _ (Ex.refl _) rfl
    | 24, _, ho, hO, hD, hK => 
      obtain rfl := Option.some.inj ho.symm
      clear ho
      have ev26 : FA.eval (.tmp 26) = .pointer (some ⟨w.heap.size, 4, none⟩) := hD 23 26 (by kernel_rfl)
      have e26 : FA.tmps[26]?.getD undef = .pointer (some ⟨w.heap.size, 4, none⟩) := by simpa [Act.eval] using ev26
      replace ev26 := Lib.hid ev26
      clear hO hD
      go_simp
      exact hK.out _ _ (Ex.refl _) rfl
    | 25, _, ho, hO, hD, hK => 
      obtain rfl := Option.some.inj ho.symm
      clear ho
      have ev25 : FA.eval (.tmp 25) = .int .u8 (hb0 : Int) := hD 22 25 (by kernel_rfl)
      have e25 : FA.tmps[25]?.getD undef = .int .u8 (hb0 : Int) := by simpa [Act.eval] using ev25
      replace ev25 := Lib.hid ev25
      have ev27 : FA.eval (.tmp 27) = .int .u8 (f : Int) := hD 24 27 (by kernel_rfl)
      have e27 : FA.tmps[27]?.getD undef = .int .u8 (f : Int) := by simpa [Act.eval] using ev27
      replace ev27 := Lib.hid ev27
      clear hO hD
      go_simp
      refine hK.out _ _ (Ex.alloc _ _) ⟨_, _, _, rfl, ?_⟩
      refine Rb.litW _ [UInt8.ofNat (hb0), UInt8.ofNat (f)] ?_ rfl (by decide) ?_
      · simp [size_plus]
      · simp [bcs]; try omega
    | 26, _, ho, hO, hD, hK => 
      obtain rfl := Option.some.inj ho.symm
      clear ho
      have ev1 : FA.eval (.tmp 1) = .pointer (some ⟨w.heap.size, 0, none⟩) := hO 1 (by kernel_rfl)
      have e1 : FA.tmps[1]?.getD undef = .pointer (some ⟨w.heap.size, 0, none⟩) := by simpa [Act.eval] using ev1
      replace ev1 := Lib.hid ev1
      clear hO hD
      go_simp
      exact hK.out _ _ (Ex.refl _) rfl
    | 27, _, ho, hO, hD, hK => 
      obtain rfl := Option.some.inj ho.symm
      clear ho
      have ev29 : FA.eval (.tmp 29) = .pointer (some ⟨w.heap.size, 5, none⟩) := hD 26 29 (by kernel_rfl)
      have e29 : FA.tmps[29]?.getD undef = .pointer (some ⟨w.heap.size, 5, none⟩) := by simpa [Act.eval] using ev29
      replace ev29 := Lib.hid ev29
      clear hO hD
      go_simp
      exact hK.out _ _ (Ex.refl _) rfl
    | 28, _, ho, hO, hD, hK => 
      obtain rfl := Option.some.inj ho.symm
      clear ho
      have ev30 : FA.eval (.tmp 30) = .int .u16 (wi : Int) := hD 27 30 (by kernel_rfl)
      have e30 : FA.tmps[30]?.getD undef = .int .u16 (wi : Int) := by simpa [Act.eval] using ev30
      replace ev30 := Lib.hid ev30
      clear hO hD
      go_simp
      exact hK.out _ _ (Ex.refl _) rfl
    | 29, _, ho, hO, hD, hK => 
      obtain rfl := Option.some.inj ho.symm
      clear ho
      have ev31 : FA.eval (.tmp 31) = .int .u64 (wi : Int) := hD 28 31 (by kernel_rfl)
      have e31 : FA.tmps[31]?.getD undef = .int .u64 (wi : Int) := by simpa [Act.eval] using ev31
      replace ev31 := Lib.hid ev31
      clear hO hD
      go_simp
      refine (refBytes_any (wi) 2 _ (by omega) (by omega)).mono ?_
      rintro e w1 ⟨A2, n2, c2, bs2, d2, rfl, rfl, ho2⟩
      exact hK.out _ _ (Ex.plus_ _ _ _) ⟨_, _, _, rfl, ho2.rb⟩
    | 30, _, ho, hO, hD, hK => 
      obtain rfl := Option.some.inj ho.symm
      clear ho
      have ev1 : FA.eval (.tmp 1) = .pointer (some ⟨w.heap.size, 0, none⟩) := hO 1 (by kernel_rfl)
      have e1 : FA.tmps[1]?.getD undef = .pointer (some ⟨w.heap.size, 0, none⟩) := by simpa [Act.eval] using ev1
      replace ev1 := Lib.hid ev1
      clear hO hD
      go_simp
      exact hK.out _ _ (Ex.refl _) rfl
    | 31, _, ho, hO, hD, hK => 
      obtain rfl := Option.some.inj ho.symm
      clear ho
      have ev33 : FA.eval (.tmp 33) = .pointer (some ⟨w.heap.size, 6, none⟩) := hD 30 33 (by kernel_rfl)
      have e33 : FA.tmps[33]?.getD undef = .pointer (some ⟨w.heap.size, 6, none⟩) := by simpa [Act.eval] using ev33
      replace ev33 := Lib.hid ev33
      clear hO hD
      go_simp
      exact hK.out _ _ (Ex.refl _) rfl
    | 32, _, ho, hO, hD, hK => 
      obtain rfl := Option.some.inj ho.symm
      clear ho
      have ev34 : FA.eval (.tmp 34) = .int .u16 (sm : Int) := hD 31 34 (by kernel_rfl)
      have e34 : FA.tmps[34]?.getD undef = .int .u16 (sm : Int) := by simpa [Act.eval] using ev34
      replace ev34 := Lib.hid ev34
      clear hO hD
      go_simp
      exact hK.out _ _ (Ex.refl _) rfl
    | 33, _, ho, hO, hD, hK => 
      obtain rfl := Option.some.inj ho.symm
      clear ho
      have ev35 : FA.eval (.tmp 35) = .int .u64 (sm : Int) := hD 32 35 (by kernel_rfl)
      have e35 : FA.tmps[35]?.getD undef = .int .u64 (sm : Int) := by simpa [Act.eval] using ev35
      replace ev35 := Lib.hid ev35
      clear hO hD
      go_simp
      refine (refBytes_any (sm) 2 _ (by omega) (by omega)).mono ?_
      rintro e w1 ⟨A2, n2, c2, bs2, d2, rfl, rfl, ho2⟩
      exact hK.out _ _ (Ex.plus_ _ _ _) ⟨_, _, _, rfl, ho2.rb⟩
    | 34, _, ho, hO, hD, hK => 
      obtain rfl := Option.some.inj ho.symm
      clear ho
      have ev1 : FA.eval (.tmp 1) = .pointer (some ⟨w.heap.size, 0, none⟩) := hO 1 (by kernel_rfl)
      have e1 : FA.tmps[1]?.getD undef = .pointer (some ⟨w.heap.size, 0, none⟩) := by simpa [Act.eval] using ev1
      replace ev1 := Lib.hid ev1
      clear hO hD
      go_simp
      exact hK.out _ _ (Ex.refl _) rfl
    | 35, _, ho, hO, hD, hK => 
      obtain rfl := Option.some.inj ho.symm
      clear ho
      have ev37 : FA.eval (.tmp 37) = .pointer (some ⟨w.heap.size, 7, none⟩) := hD 34 37 (by kernel_rfl)
      have e37 : FA.tmps[37]?.getD undef = .pointer (some ⟨w.heap.size, 7, none⟩) := by simpa [Act.eval] using ev37
      replace ev37 := Lib.hid ev37
      clear hO hD
      go_simp
      exact hK.out _ _ (Ex.refl _) rfl
    | 36, _, ho, hO, hD, hK => 
      obtain rfl := Option.some.inj ho.symm
      clear ho
      have ev38 : FA.eval (.tmp 38) = .int .u16 (ur : Int) := hD 35 38 (by kernel_rfl)
      have e38 : FA.tmps[38]?.getD undef = .int .u16 (ur : Int) := by simpa [Act.eval] using ev38
      replace ev38 := Lib.hid ev38
      clear hO hD
      go_simp
      exact hK.out _ _ (Ex.refl _) rfl
    | 37, _, ho, hO, hD, hK => 
      obtain rfl := Option.some.inj ho.symm
      clear ho
      have ev39 : FA.eval (.tmp 39) = .int .u64 (ur : Int) := hD 36 39 (by kernel_rfl)
      have e39 : FA.tmps[39]?.getD undef = .int .u64 (ur : Int) := by simpa [Act.eval] using ev39
      replace ev39 := Lib.hid ev39
      clear hO hD
      go_simp
      refine (refBytes_any (ur) 2 _ (by omega) (by omega)).mono ?_
      rintro e w1 ⟨A2, n2, c2, bs2, d2, rfl, rfl, ho2⟩
      exact hK.out _ _ (Ex.plus_ _ _ _) ⟨_, _, _, rfl, ho2.rb⟩
    | 38, _, ho, hO, hD, hK => 
      obtain rfl := Option.some.inj ho.symm
      clear ho
      have ev1 : FA.eval (.tmp 1) = .pointer (some ⟨w.heap.size, 0, none⟩) := hO 1 (by kernel_rfl)
      have e1 : FA.tmps[1]?.getD undef = .pointer (some ⟨w.heap.size, 0, none⟩) := by simpa [Act.eval] using ev1
      replace ev1 := Lib.hid ev1
      clear hO hD
      go_simp
      exact hK.out _ _ (Ex.refl _) rfl
    | 39, _, ho, hO, hD, hK => 
      obtain rfl := Option.some.inj ho.symm
      clear ho
      have ev41 : FA.eval (.tmp 41) = .pointer (some ⟨w.heap.size, 8, none⟩) := hD 38 41 (by kernel_rfl)
      have e41 : FA.tmps[41]?.getD undef = .pointer (some ⟨w.heap.size, 8, none⟩) := by simpa [Act.eval] using ev41
      replace ev41 := Lib.hid ev41
      clear hO hD
      go_simp
      exact hK.out _ _ (Ex.refl _) rfl
    | 40, _, ho, hO, hD, hK => 
      obtain rfl := Option.some.inj ho.symm
      clear ho
      have ev1 : FA.eval (.tmp 1) = .pointer (some ⟨w.heap.size, 0, none⟩) := hO 1 (by kernel_rfl)
      have e1 : FA.tmps[1]?.getD undef = .pointer (some ⟨w.heap.size, 0, none⟩) := by simpa [Act.eval] using ev1
      replace ev1 := Lib.hid ev1
      clear hO hD
      go_simp
      exact hK.out _ _ (Ex.refl _) rfl
    | 41, _, ho, hO, hD, hK => 
      obtain rfl := Option.some.inj ho.symm
      clear ho
      have ev43 : FA.eval (.tmp 43) = .pointer (some ⟨w.heap.size, 9, none⟩) := hD 40 43 (by kernel_rfl)
      have e43 : FA.tmps[43]?.getD undef = .pointer (some ⟨w.heap.size, 9, none⟩) := by simpa [Act.eval] using ev43
      replace ev43 := Lib.hid ev43
      clear hO hD
      go_simp
      exact hK.out _ _ (Ex.refl _) rfl
    | 42, _, ho, hO, hD, hK => 
      obtain rfl := Option.some.inj ho.symm
      clear ho
      have f6 := hD 3 6 (by kernel_rfl)
      generalize eu6 : FA.eval (.tmp 6) = u6 at f6
      have e6 : FA.tmps[6]?.getD undef = u6 := by rw [← eu6]; simp [Act.eval]
      have ev6 := Lib.hid eu6
      clear eu6
      have f10 := hD 7 10 (by kernel_rfl)
      generalize eu10 : FA.eval (.tmp 10) = u10 at f10
      have e10 : FA.tmps[10]?.getD undef = u10 := by rw [← eu10]; simp [Act.eval]
      have ev10 := Lib.hid eu10
      clear eu10
      have f14 := hD 11 14 (by kernel_rfl)
      generalize eu14 : FA.eval (.tmp 14) = u14 at f14
      have e14 : FA.tmps[14]?.getD undef = u14 := by rw [← eu14]; simp [Act.eval]
      have ev14 := Lib.hid eu14
      clear eu14
      have f18 := hD 15 18 (by kernel_rfl)
      generalize eu18 : FA.eval (.tmp 18) = u18 at f18
      have e18 : FA.tmps[18]?.getD undef = u18 := by rw [← eu18]; simp [Act.eval]
      have ev18 := Lib.hid eu18
      clear eu18
      have f28 := hD 25 28 (by kernel_rfl)
      generalize eu28 : FA.eval (.tmp 28) = u28 at f28
      have e28 : FA.tmps[28]?.getD undef = u28 := by rw [← eu28]; simp [Act.eval]
      have ev28 := Lib.hid eu28
      clear eu28
      have f32 := hD 29 32 (by kernel_rfl)
      generalize eu32 : FA.eval (.tmp 32) = u32 at f32
      have e32 : FA.tmps[32]?.getD undef = u32 := by rw [← eu32]; simp [Act.eval]
      have ev32 := Lib.hid eu32
      clear eu32
      have f36 := hD 33 36 (by kernel_rfl)
      generalize eu36 : FA.eval (.tmp 36) = u36 at f36
      have e36 : FA.tmps[36]?.getD undef = u36 := by rw [← eu36]; simp [Act.eval]
      have ev36 := Lib.hid eu36
      clear eu36
      have f40 := hD 37 40 (by kernel_rfl)
      generalize eu40 : FA.eval (.tmp 40) = u40 at f40
      have e40 : FA.tmps[40]?.getD undef = u40 := by rw [← eu40]; simp [Act.eval]
      have ev40 := Lib.hid eu40
      clear eu40
      have ev42 : FA.eval (.tmp 42) = .slice A n k := hD 39 42 (by kernel_rfl)
      have e42 : FA.tmps[42]?.getD undef = .slice A n k := by simpa [Act.eval] using ev42
      replace ev42 := Lib.hid ev42
      have ev44 : FA.eval (.tmp 44) = .slice A2 n2 k2 := hD 41 44 (by kernel_rfl)
      have e44 : FA.tmps[44]?.getD undef = .slice A2 n2 k2 := by simpa [Act.eval] using ev44
      replace ev44 := Lib.hid ev44
      clear hO hD
      obtain ⟨A6, n6, c6, rfl, h6⟩ := f6
      obtain ⟨A10, n10, c10, rfl, h10⟩ := f10
      obtain ⟨A14, n14, c14, rfl, h14⟩ := f14
      obtain ⟨A18, n18, c18, rfl, h18⟩ := f18
      obtain ⟨A28, n28, c28, rfl, h28⟩ := f28
      obtain ⟨A32, n32, c32, rfl, h32⟩ := f32
      obtain ⟨A36, n36, c36, rfl, h36⟩ := f36
      obtain ⟨A40, n40, c40, rfl, h40⟩ := f40
      go_simp
      refine hK.out _ _ (Ex.alloc _ _) ⟨_, _, _, rfl, ?_⟩
      refine RdL.litW _ _ ?_ ?_
      · simp [size_plus]
      · exact .cons ⟨_, _, _, rfl, h6⟩ (.cons ⟨_, _, _, rfl, h10⟩ (.cons ⟨_, _, _, rfl, h14⟩ (.cons ⟨_, _, _, rfl, h18⟩ (.cons ⟨_, _, _, rfl, h28⟩ (.cons ⟨_, _, _, rfl, h32⟩ (.cons ⟨_, _, _, rfl, h36⟩ (.cons ⟨_, _, _, rfl, h40⟩ (.cons ⟨_, _, _, rfl, (h.alloc _).plus_ _ _⟩ (.cons ⟨_, _, _, rfl, (h2.alloc _).plus_ _ _⟩ (.nil))))))))))
    | 43, _, ho, hO, hD, hK => 
      obtain rfl := Option.some.inj ho.symm
      clear ho
      have f45 := hD 42 45 (by kernel_rfl)
      generalize eu45 : FA.eval (.tmp 45) = u45 at f45
      have e45 : FA.tmps[45]?.getD undef = u45 := by rw [← eu45]; simp [Act.eval]
      have ev45 := Lib.hid eu45
      clear eu45
      clear hO hD
      obtain ⟨A1, m1, c1, rfl, hl1⟩ := f45
      have hm1 : m1 ≤ 100 := by obtain ⟨_, _, h2, _⟩ := hl1; simp only [List.length_cons, List.length_nil] at h2; omega
      go_simp
      refine (refJoin_any A1 m1 c1 _ _ hl1 (by omega) HT.out).mono ?_
      rintro e w1 ⟨A2, n2, c2, bs2, d2, rfl, rfl, ho2⟩
      exact hK.out _ _ (Ex.plus_ _ _ _) ⟨_, _, _, rfl, ho2.mono (by simp [size_plus]; omega)⟩
    | 44, _, ho, hO, hD, hK => 
      obtain rfl := Option.some.inj ho.symm
      clear ho
      have f46 := hD 43 46 (by kernel_rfl)
      generalize eu46 : FA.eval (.tmp 46) = u46 at f46
      have e46 : FA.tmps[46]?.getD undef = u46 := by rw [← eu46]; simp [Act.eval]
      have ev46 := Lib.hid eu46
      clear eu46
      clear hO hD
      go_simp
      exact hK.out _ _ (Ex.refl _) f46
    | (k + 45), hi, _, _, _, _ => exact absurd hi (by omega)
  intro vs x hp
  have p0 : vs 0 = .pointer (some ⟨w.heap.size, 0, none⟩) := hp 0 (by omega)
  have p1 : vs 1 = .int .u16 (a : Int) := hp 1 (by omega)
  have p2 : vs 2 = .int .u64 (a : Int) := hp 2 (by omega)
  have p3 := hp 3 (by omega)
  have p4 : vs 4 = .pointer (some ⟨w.heap.size, 1, none⟩) := hp 4 (by omega)
  have p5 : vs 5 = .int .u16 (b : Int) := hp 5 (by omega)
  have p6 : vs 6 = .int .u64 (b : Int) := hp 6 (by omega)
  have p7 := hp 7 (by omega)
  have p8 : vs 8 = .pointer (some ⟨w.heap.size, 2, none⟩) := hp 8 (by omega)
  have p9 : vs 9 = .int .u32 (c : Int) := hp 9 (by omega)
  have p10 : vs 10 = .int .u64 (c : Int) := hp 10 (by omega)
  have p11 := hp 11 (by omega)
  have p12 : vs 12 = .pointer (some ⟨w.heap.size, 3, none⟩) := hp 12 (by omega)
  have p13 : vs 13 = .int .u32 (d : Int) := hp 13 (by omega)
  have p14 : vs 14 = .int .u64 (d : Int) := hp 14 (by omega)
  have p15 := hp 15 (by omega)
  have p16 : vs 16 = .pointer (some ⟨w.heap.size, 8, none⟩) := hp 16 (by omega)
  have p17 : vs 17 = .slice A n k := hp 17 (by omega)
  have p18 : vs 18 = .int .i64 (n : Int) := hp 18 (by omega)
  have p19 : vs 19 = .int .i64 (q4 : Int) := hp 19 (by omega)
  have p20 : vs 20 = .int .i64 (q16 : Int) := hp 20 (by omega)
  have p21 : vs 21 = .int .i64 (hb0 : Int) := hp 21 (by omega)
  have p22 : vs 22 = .int .u8 (hb0 : Int) := hp 22 (by omega)
  have p23 : vs 23 = .pointer (some ⟨w.heap.size, 4, none⟩) := hp 23 (by omega)
  have p24 : vs 24 = .int .u8 (f : Int) := hp 24 (by omega)
  have p25 := hp 25 (by omega)
  have p26 : vs 26 = .pointer (some ⟨w.heap.size, 5, none⟩) := hp 26 (by omega)
  have p27 : vs 27 = .int .u16 (wi : Int) := hp 27 (by omega)
  have p28 : vs 28 = .int .u64 (wi : Int) := hp 28 (by omega)
  have p29 := hp 29 (by omega)
  have p30 : vs 30 = .pointer (some ⟨w.heap.size, 6, none⟩) := hp 30 (by omega)
  have p31 : vs 31 = .int .u16 (sm : Int) := hp 31 (by omega)
  have p32 : vs 32 = .int .u64 (sm : Int) := hp 32 (by omega)
  have p33 := hp 33 (by omega)
  have p34 : vs 34 = .pointer (some ⟨w.heap.size, 7, none⟩) := hp 34 (by omega)
  have p35 : vs 35 = .int .u16 (ur : Int) := hp 35 (by omega)
  have p36 : vs 36 = .int .u64 (ur : Int) := hp 36 (by omega)
  have p37 := hp 37 (by omega)
  have p38 : vs 38 = .pointer (some ⟨w.heap.size, 8, none⟩) := hp 38 (by omega)
  have p39 : vs 39 = .slice A n k := hp 39 (by omega)
  have p40 : vs 40 = .pointer (some ⟨w.heap.size, 9, none⟩) := hp 40 (by omega)
  have p41 : vs 41 = .slice A2 n2 k2 := hp 41 (by omega)
  have p42 := hp 42 (by omega)
  have p43 := hp 43 (by omega)
  have p44 := hp 44 (by omega)
  clear hp
  simp only [List.take_succ_cons, List.take_zero, List.drop_succ_cons, List.drop_zero, putAll, Nat.zero_add, Nat.reduceAdd, Act.put, List.setIfInBounds_toArray, List.set_cons_zero, List.set_cons_succ, p0, p1, p2, p4, p5, p6, p8, p9, p10, p12, p13, p14, p16, p17, p18, p19, p20, p21, p22, p23, p24, p26, p27, p28, p30, p31, p32, p34, p35, p36, p38, p39, p40, p41]
  clear p0 p1 p2 p4 p5 p6 p8 p9 p10 p12 p13 p14 p16 p17 p18 p19 p20 p21 p22 p23 p24 p26 p27 p28 p30 p31 p32 p34 p35 p36 p38 p39 p40 p41
  generalize vs 3 = y3 at *
  generalize vs 7 = y7 at *
  generalize vs 11 = y11 at *
  generalize vs 15 = y15 at *
  generalize vs 25 = y25 at *
  generalize vs 29 = y29 at *
  generalize vs 33 = y33 at *
  generalize vs 37 = y37 at *
  generalize vs 42 = y42 at *
  generalize vs 43 = y43 at *
  generalize vs 44 = y44 at *
  clear vs
  obtain ⟨A9, n9, c9, rfl, h9⟩ := p44
  go_wp2
  go_ret
  exact RetB.mk h9 (belowP (Below.allocS (Below.refl _ _) _) _ _)

theorem put_int_full (A : Option Addr) (k c : Nat) (l : List UInt8) (n : Int) (size : Nat) (w : World) (hr : Rb w A k c l) (hk : k ≤ 549755813888) (h0 : 0 ≤ n) (hn : n ≤ 18446744073709551615) (hs0 : 1 ≤ size) (hs : size ≤ 8) :
    Calls Try.prog 103 #[.slice A k c, .int .u64 n, .int .i64 size] w (RetF w (l ++ dig n.toNat size)) := by
  obtain ⟨m, rfl⟩ := Int.eq_ofNat_of_zero_le h0
  exact put_full A k c l m size w hr hk (by omega) hs0 hs
theorem dig1 (x : Nat) (h : x < 256) : dig x 1 = [UInt8.ofNat x] := by
  simp [dig, Nat.mod_eq_of_lt h]
set_option maxRecDepth 100000 in
theorem tcpSize_any (a b c d f wi sm ur : Nat) (A : Option Addr) (n k : Nat) (A2 : Option Addr) (n2 k2 : Nat) (w : World) (hn : n ≤ 1000000) (hn2 : n2 ≤ 1000000) : Calls Try.prog 102 #[.agg #[.int .u16 (a : Int), .int .u16 (b : Int), .int .u32 (c : Int), .int .u32 (d : Int), .int .u8 (f : Int), .int .u16 (wi : Int), .int .u16 (sm : Int), .int .u16 (ur : Int), .slice A n k, .slice A2 n2 k2]] w (RetV w (.int .i64 ((20 + n + n2 : Nat) : Int))) := by
  go_enter Try.func102, Try.ntmps102
  go_wp2
  go_ret
  exact RetV.is_ (by simp) (Below.allocS (Below.refl _ _) _)
set_option maxHeartbeats 1000000 in
set_option maxRecDepth 100000 in
theorem tcpRight_yes (a b c d f wi sm ur : Nat) (A : Option Addr) (n k : Nat) (A2 : Option Addr) (n2 k2 : Nat) (w : World) (hn : n ≤ 40) (h4 : n % 4 = 0) (hn2 : n2 ≤ 2000) : Calls Try.prog 26 #[.agg #[.int .u16 (a : Int), .int .u16 (b : Int), .int .u32 (c : Int), .int .u32 (d : Int), .int .u8 (f : Int), .int .u16 (wi : Int), .int .u16 (sm : Int), .int .u16 (ur : Int), .slice A n k, .slice A2 n2 k2]] w (RetV w (.bool true)) := by
  have t1 : ((n : Int) % 4 == 0) = true := by rw [beq_iff_eq]; omega
  replace h4 := Lib.hid h4
  have HS := Lib.hid (fun w => tcpSize_any a b c d f wi sm ur A n k A2 n2 k2 w (by omega) (by omega))
  have hz : 20 + n + n2 ≤ 65535 := by omega
  generalize 20 + n + n2 = z at *
  go_enter Try.func26, Try.ntmps26
  go_wp2_with (go_at_call 102; refine (HS.out _).mono ?_; rintro e w1 ⟨bs1, d1, rfl, rfl⟩)
  go_ret
  exact RetV.is_ (by simp; omega) (belowP (Below.allocS (Below.refl _ _) _) _ _)
set_option maxHeartbeats 1000000 in
set_option maxRecDepth 100000 in
theorem tcpRight_no (a b c d f wi sm ur : Nat) (A : Option Addr) (n k : Nat) (A2 : Option Addr) (n2 k2 : Nat) (w : World) (h : 40 < n ∨ n % 4 ≠ 0) (hn : n ≤ 1000000) : Calls Try.prog 26 #[.agg #[.int .u16 (a : Int), .int .u16 (b : Int), .int .u32 (c : Int), .int .u32 (d : Int), .int .u8 (f : Int), .int .u16 (wi : Int), .int .u16 (sm : Int), .int .u16 (ur : Int), .slice A n k, .slice A2 n2 k2]] w (RetV w (.bool false)) := by
  by_cases h1 : 40 < n
  · have d1 : decide (n ≤ 40) = false := by simp; omega
    go_enter Try.func26, Try.ntmps26
    go_wp2
    go_ret
    exact RetV.is_ (by simp) (Below.allocS (Below.refl _ _) _)
  · have h1' : n ≤ 40 := by omega
    have t1 : ((n : Int) % 4 == 0) = false := by rw [beq_eq_false_iff_ne]; omega
    clear h h1
    go_enter Try.func26, Try.ntmps26
    go_wp2
    go_ret
    exact RetV.is_ (by simp) (Below.allocS (Below.refl _ _) _)
set_option maxHeartbeats 1000000 in
set_option maxRecDepth 100000 in
theorem refTcpRight_yes (a b c d f wi sm ur : Nat) (A : Option Addr) (n k : Nat) (A2 : Option Addr) (n2 k2 : Nat) (w : World) (hn : n ≤ 40) (h4 : n % 4 = 0) (hn2 : n2 ≤ 2000) : Calls Try.prog 27 #[.agg #[.int .u16 (a : Int), .int .u16 (b : Int), .int .u32 (c : Int), .int .u32 (d : Int), .int .u8 (f : Int), .int .u16 (wi : Int), .int .u16 (sm : Int), .int .u16 (ur : Int), .slice A n k, .slice A2 n2 k2]] w (RetV w (.bool true)) := by
  have t1 : ((n : Int) % 4 == 0) = true := by rw [beq_iff_eq]; omega
  replace h4 := Lib.hid h4
  go_enter Try.func27, Try.ntmps27
  go_wp2
  go_ret
  exact RetV.is_ (by simp; omega) (Below.allocS (Below.refl _ _) _)
set_option maxHeartbeats 1000000 in
set_option maxRecDepth 100000 in
theorem refTcpRight_no (a b c d f wi sm ur : Nat) (A : Option Addr) (n k : Nat) (A2 : Option Addr) (n2 k2 : Nat) (w : World) (h : 40 < n ∨ n % 4 ≠ 0) (hn : n ≤ 1000000) : Calls Try.prog 27 #[.agg #[.int .u16 (a : Int), .int .u16 (b : Int), .int .u32 (c : Int), .int .u32 (d : Int), .int .u8 (f : Int), .int .u16 (wi : Int), .int .u16 (sm : Int), .int .u16 (ur : Int), .slice A n k, .slice A2 n2 k2]] w (RetV w (.bool false)) := by
  by_cases h1 : 40 < n
  · have d1 : decide (n ≤ 40) = false := by simp; omega
    go_enter Try.func27, Try.ntmps27
    go_wp2
    go_ret
    exact RetV.is_ (by simp) (Below.allocS (Below.refl _ _) _)
  · have h1' : n ≤ 40 := by omega
    have t1 : ((n : Int) % 4 == 0) = false := by rw [beq_eq_false_iff_ne]; omega
    clear h h1
    go_enter Try.func27, Try.ntmps27
    go_wp2
    go_ret
    exact RetV.is_ (by simp) (Below.allocS (Below.refl _ _) _)
set_option maxHeartbeats 1000000 in
set_option maxRecDepth 100000 in
theorem tcpBytes_no (a b c d f wi sm ur : Nat) (A : Option Addr) (n k : Nat) (A2 : Option Addr) (n2 k2 : Nat) (w : World) (h : 40 < n ∨ n % 4 ≠ 0) (hn : n ≤ 1000000) : Calls Try.prog 28 #[.agg #[.int .u16 (a : Int), .int .u16 (b : Int), .int .u32 (c : Int), .int .u32 (d : Int), .int .u8 (f : Int), .int .u16 (wi : Int), .int .u16 (sm : Int), .int .u16 (ur : Int), .slice A n k, .slice A2 n2 k2]] w (RetV w (.slice none 0 0)) := by
  go_enter Try.func28, Try.ntmps28
  go_wp2_with (go_at_call 26; refine (tcpRight_no _ _ _ _ _ _ _ _ _ _ _ _ _ _ _ h hn).mono ?_; rintro e w1 ⟨bs1, d1, rfl, rfl⟩)
  go_ret
  exact RetV.mk (belowP (Below.allocS (Below.refl _ _) _) _ _)
set_option maxHeartbeats 4000000 in
set_option maxRecDepth 100000 in
theorem tcpBytes_yes (a b c d f wi sm ur : Nat) (A : Option Addr) (n k : Nat) (A2 : Option Addr) (n2 k2 : Nat) (l l2 : List UInt8) (w : World) (ha : a < 65536) (hb : b < 65536) (hc : c < 4294967296) (hd : d < 4294967296) (hf : f < 256) (hwi : wi < 65536) (hsm : sm < 65536) (hur : ur < 65536) (h : Rb w A n k l) (h2 : Rb w A2 n2 k2 l2) (hn : n ≤ 40) (h4 : n % 4 = 0) (hn2 : n2 ≤ 2000) : Calls Try.prog 28 #[.agg #[.int .u16 (a : Int), .int .u16 (b : Int), .int .u32 (c : Int), .int .u32 (d : Int), .int .u8 (f : Int), .int .u16 (wi : Int), .int .u16 (sm : Int), .int .u16 (ur : Int), .slice A n k, .slice A2 n2 k2]] w (RetB w (tcpB a b c d (80 + n / 4 * 16) f wi sm ur l l2)) := by
  have HR := Lib.hid (fun w => tcpRight_yes a b c d f wi sm ur A n k A2 n2 k2 w hn h4 hn2)
  replace h4 := Lib.hid h4
  go_enter Try.func28, Try.ntmps28
  go_wp2_with fail
  refine (HR.out _).mono ?_
  rintro e w1 ⟨bs0, m0, rfl, rfl⟩
  go_wp2_with fail
  refine (put_full _ _ _ [] a 2 _ Rb.nil_ (by omega) (by omega) (by omega) (by omega)).mono ?_
  rintro e w1 ⟨A10, n10, bs10, m10, rfl, rfl, ho10⟩
  have l10 : n10 ≤ 100 := by rw [← ho10.1]; simp [dig_length]
  go_wp2_with fail
  refine (put_full _ _ _ _ b 2 _ ho10.rb (by omega) (by omega) (by omega) (by omega)).mono ?_
  rintro e w1 ⟨A11, n11, bs11, m11, rfl, rfl, ho11⟩
  have l11 : n11 ≤ 100 := by rw [← ho11.1]; simp [dig_length]
  go_wp2_with fail
  refine (put_full _ _ _ _ c 4 _ ho11.rb (by omega) (by omega) (by omega) (by omega)).mono ?_
  rintro e w1 ⟨A12, n12, bs12, m12, rfl, rfl, ho12⟩
  have l12 : n12 ≤ 100 := by rw [← ho12.1]; simp [dig_length]
  go_wp2_with fail
  refine (put_full _ _ _ _ d 4 _ ho12.rb (by omega) (by omega) (by omega) (by omega)).mono ?_
  rintro e w1 ⟨A13, n13, bs13, m13, rfl, rfl, ho13⟩
  have l13 : n13 ≤ 100 := by rw [← ho13.1]; simp [dig_length]
  go_wp2_with fail
  refine (put_int_full _ _ _ _ _ 1 _ ho13.rb (by omega) (by omega) (by omega) (by omega) (by omega)).mono ?_
  rintro e w1 ⟨A14, n14, bs14, m14, rfl, rfl, ho14⟩
  have l14 : n14 ≤ 100 := by rw [← ho14.1]; simp [dig_length]
  go_wp2_with fail
  refine (put_full _ _ _ _ f 1 _ ho14.rb (by omega) (by omega) (by omega) (by omega)).mono ?_
  rintro e w1 ⟨A15, n15, bs15, m15, rfl, rfl, ho15⟩
  have l15 : n15 ≤ 100 := by rw [← ho15.1]; simp [dig_length]
  go_wp2_with fail
  refine (put_full _ _ _ _ wi 2 _ ho15.rb (by omega) (by omega) (by omega) (by omega)).mono ?_
  rintro e w1 ⟨A16, n16, bs16, m16, rfl, rfl, ho16⟩
  have l16 : n16 ≤ 100 := by rw [← ho16.1]; simp [dig_length]
  go_wp2_with fail
  refine (put_full _ _ _ _ sm 2 _ ho16.rb (by omega) (by omega) (by omega) (by omega)).mono ?_
  rintro e w1 ⟨A17, n17, bs17, m17, rfl, rfl, ho17⟩
  have l17 : n17 ≤ 100 := by rw [← ho17.1]; simp [dig_length]
  go_wp2_with fail
  refine (put_full _ _ _ _ ur 2 _ ho17.rb (by omega) (by omega) (by omega) (by omega)).mono ?_
  rintro e w1 ⟨A18, n18, bs18, m18, rfl, rfl, ho18⟩
  have l18 : n18 ≤ 100 := by rw [← ho18.1]; simp [dig_length]
  go_wp2_with (first
    | (refine at_op (.call { callee := .builtin .append, args := #[.tmp 55, .tmp 57], argTypes := #[22, 22] }) rfl ?_; refine wpList_appP _ bt rfl (.tmp 55) (.tmp 57) rfl (by exact below_plus _ bs18 m18) rfl ho18 rfl (by exact h.alloc _ |>.plus_ _ _ |>.plus_ _ _ |>.plus_ _ _ |>.plus_ _ _ |>.plus_ _ _ |>.plus_ _ _ |>.plus_ _ _ |>.plus_ _ _ |>.plus_ _ _ |>.plus_ _ _) (by omega) ?_; intro A20 n20 k20 bs20 m20 ho20 hg20; have l20 : n20 ≤ 200 := (by rw [← ho20.1]; simp [dig_length, h.1]; omega))
    | (refine at_op (.call { callee := .builtin .append, args := #[.tmp 59, .tmp 61], argTypes := #[22, 22] }) rfl ?_; refine wpList_appP _ bt rfl (.tmp 59) (.tmp 61) rfl (by exact below_plus _ bs20 m20) rfl ho20 rfl (by exact h2.alloc _ |>.plus_ _ _ |>.plus_ _ _ |>.plus_ _ _ |>.plus_ _ _ |>.plus_ _ _ |>.plus_ _ _ |>.plus_ _ _ |>.plus_ _ _ |>.plus_ _ _ |>.plus_ _ _) (by omega) ?_; intro A21 n21 k21 bs21 m21 ho21 hg21))
  go_ret
  refine RetB.mk ?_ (belowP (belowP (belowP (belowP (belowP (belowP (belowP (belowP (belowP (belowP (Below.allocS (Below.refl _ _) _) _ _) _ _) _ _) _ _) _ _) _ _) _ _) _ _) _ _) _ _)
  have e1 : ((20 + (n : Int)) / 4 * 16).toNat = 80 + n / 4 * 16 := by omega
  have e2 : [] ++ dig a 2 ++ dig b 2 ++ dig c 4 ++ dig d 4 ++ dig ((20 + (n : Int)) / 4 * 16).toNat 1 ++ dig f 1 ++ dig wi 2 ++ dig sm 2 ++ dig ur 2 ++ l ++ l2 = tcpB a b c d (80 + n / 4 * 16) f wi sm ur l l2 := by
    rw [e1, dig1 _ (by omega), dig1 _ hf]
    simp [tcpB]
  rw [e2] at ho21
  exact ho21.mono (by simp [size_plus]; omega)
end Go.Proofs.Yticlohlpccollaa
