/- Messages: Bytes, covered, Summed, Fine, Error, Echo; the reference's Bytes, Check, Summed, Error. -/
import Derived.Test.YtldecdeiibfekaaPsd
import Derived.Test.YtldecdeiibfekaaSum
import Derived.Test.YtldecdeiibfekaaIcmp
namespace Go.Proofs.Ytldecdeiibfekaa
open Go.RowKit
set_option linter.unusedVariables false
set_option linter.unusedSimpArgs false
attribute [local go_sem ↓] sliced_cut
attribute [local go_sem] cutA_zero

def msgC (a b c d : Nat) (A : Option Addr) (n k : Nat) : List Value := [.int .u8 (a : Int), .int .u8 (b : Int), .int .u16 (c : Int), .int .u32 (d : Int), .slice A n k]
theorem msgC_one (a b c d : Nat) (A : Option Addr) (n k : Nat) : ∀ u ∈ msgC a b c d A n k, u.oneCell' = true := by
  intro u hu
  simp only [msgC, List.mem_cons, List.not_mem_nil, or_false] at hu
  rcases hu with rfl | rfl | rfl | rfl | rfl <;> rfl
theorem szMs (a b c d : Nat) (A : Option Addr) (n k : Nat) : (Try.prog.info? 32).map (·.size) = some (msgC a b c d A n k).length := by kernel_rfl
theorem szMr (a b c d : Nat) (A : Option Addr) (n k : Nat) : (Try.prog.info? 26).map (·.size) = some (msgC a b c d A n k).length := by kernel_rfl
theorem rowMs : ∃ d, Try.prog.underlying 32 = some d ∧ d.isRow = true := ⟨_, Try.underlying32, rfl⟩
theorem rowMr : ∃ d, Try.prog.underlying 26 = some d ∧ d.isRow = true := ⟨_, Try.underlying26, rfl⟩
theorem rowAd : ∃ d, Try.prog.underlying 29 = some d ∧ d.isRow = true := ⟨_, Try.underlying29, rfl⟩
/-- the bytes of a message -/
def icmpB (a b c d : Nat) (l : List UInt8) : List UInt8 := dig a 1 ++ dig b 1 ++ dig c 2 ++ dig d 4 ++ l
theorem icmpB_length (a b c d : Nat) (l : List UInt8) : (icmpB a b c d l).length = 8 + l.length := by simp [icmpB, dig_length]; omega
theorem icmpBytes (a b c d : Nat) (A : Option Addr) (n k : Nat) (l : List UInt8) (w : World) (ha : a < 256) (hb : b < 256) (hc : c < 65536) (hd : d < 4294967296) (h : Rb w A n k l) (hn : n ≤ 1000000) : Calls Try.prog 19 #[.agg (msgC a b c d A n k).toArray] w (RetB w (icmpB a b c d l)) := by
  have := icmpBytes_any (a : Int) b c d A n k l w (by omega) (by omega) (by omega) (by omega) h hn
  simpa [icmpB, msgC] using this
set_option maxHeartbeats 4000000 in
set_option maxRecDepth 100000 in
theorem refIcmpBytes (a b c d : Nat) (A : Option Addr) (n k : Nat) (l : List UInt8) (w : World) (ha : a < 256) (hb : b < 256) (hc : c < 65536) (hd : d < 4294967296) (h : Rb w A n k l) (hn : n ≤ 1000000) : Calls Try.prog 20 #[.agg (msgC a b c d A n k).toArray] w (RetB w (icmpB a b c d l)) := by
  have HT : Hid (([[UInt8.ofNat (a), UInt8.ofNat (b)], (dig (c) 2), (dig (d) 4), l]).flatten.length ≤ 549755813888) := Lib.hid (by simp [dig_length, h.1]; omega)
  have HE : Hid (([[UInt8.ofNat (a), UInt8.ofNat (b)], (dig (c) 2), (dig (d) 4), l]).flatten = icmpB a b c d l) := Lib.hid (by simp [icmpB, dig1 a ha, dig1 b hb])
  unfold msgC
  have g0 : IntKind.u64.wrap (c : Int) = (c : Int) := IntWalk.u64_in _ (by omega)
  have g1 : IntKind.u64.wrap (d : Int) = (d : Int) := IntWalk.u64_in _ (by omega)
  go_enter Try.func20, Try.ntmps20
  go_wp2
  refine wp_rel 18 20 rfl (by kernel_rfl) (by kernel_rfl) (fun i => match i with | 0 => MP.eq (.pointer (some ⟨w.heap.size, 0, none⟩)) | 1 => MP.eq (.int .u8 (a : Int)) | 2 => MP.eq (.pointer (some ⟨w.heap.size, 1, none⟩)) | 3 => MP.eq (.int .u8 (b : Int)) | 4 => MP.rb [UInt8.ofNat (a), UInt8.ofNat (b)] | 5 => MP.eq (.pointer (some ⟨w.heap.size, 2, none⟩)) | 6 => MP.eq (.int .u16 (c : Int)) | 7 => MP.eq (.int .u64 (c : Int)) | 8 => MP.rb (dig (c) 2) | 9 => MP.eq (.pointer (some ⟨w.heap.size, 3, none⟩)) | 10 => MP.eq (.int .u32 (d : Int)) | 11 => MP.eq (.int .u64 (d : Int)) | 12 => MP.rb (dig (d) 4) | 13 => MP.eq (.pointer (some ⟨w.heap.size, 4, none⟩)) | 14 => MP.eq (.slice A n k) | 15 => MP.rdl [[UInt8.ofNat (a), UInt8.ofNat (b)], (dig (c) 2), (dig (d) 4), l] | 16 => MP.ob w.heap.size ([[UInt8.ofNat (a), UInt8.ofNat (b)], (dig (c) 2), (dig (d) 4), l]).flatten | 17 => MP.ob w.heap.size ([[UInt8.ofNat (a), UInt8.ofNat (b)], (dig (c) 2), (dig (d) 4), l]).flatten | _ => MP.any) ?_ ?_
  · intro i hi o ho FA x hO hD K hK
    match i, hi, ho, hO, hD, hK with
    | 0, _, ho, hO, hD, hK => 
      obtain rfl := Option.some.inj ho.symm
      clear ho
      have ev1 : FA.eval (.tmp 1) = .pointer (some ⟨w.heap.size, 0, none⟩) := hO 1 (by kernel_rfl)
      have e1 : FA.tmps[1]?.getD undef = .pointer (some ⟨w.heap.size, 0, none⟩) := by simpa [Act.eval] using ev1
      replace ev1 := Lib.hid ev1
      clear hO hD
      go_simp
      exact hK.out _ _ (Ex.refl _) rfl
    | 1, _, ho, hO, hD, hK => 
      obtain rfl := Option.some.inj ho.symm
      clear ho
      have ev3 : FA.eval (.tmp 3) = .pointer (some ⟨w.heap.size, 0, none⟩) := hD 0 3 (by kernel_rfl)
      have e3 : FA.tmps[3]?.getD undef = .pointer (some ⟨w.heap.size, 0, none⟩) := by simpa [Act.eval] using ev3
      replace ev3 := Lib.hid ev3
      clear hO hD
      go_simp
      exact hK.out _ _ (Ex.refl _) rfl
    | 2, _, ho, hO, hD, hK => 
      obtain rfl := Option.some.inj ho.symm
      clear ho
      have ev1 : FA.eval (.tmp 1) = .pointer (some ⟨w.heap.size, 0, none⟩) := hO 1 (by kernel_rfl)
      have e1 : FA.tmps[1]?.getD undef = .pointer (some ⟨w.heap.size, 0, none⟩) := by simpa [Act.eval] using ev1
      replace ev1 := Lib.hid ev1
      clear hO hD
      go_simp
      exact hK.out _ _ (Ex.refl _) rfl
    | 3, _, ho, hO, hD, hK => 
      obtain rfl := Option.some.inj ho.symm
      clear ho
      have ev5 : FA.eval (.tmp 5) = .pointer (some ⟨w.heap.size, 1, none⟩) := hD 2 5 (by kernel_rfl)
      have e5 : FA.tmps[5]?.getD undef = .pointer (some ⟨w.heap.size, 1, none⟩) := by simpa [Act.eval] using ev5
      replace ev5 := Lib.hid ev5
      clear hO hD
      go_simp
      exact hK.out _ _ (Ex.refl _) rfl
    | 4, _, ho, hO, hD, hK => 
      obtain rfl := Option.some.inj ho.symm
      clear ho
      have ev4 : FA.eval (.tmp 4) = .int .u8 (a : Int) := hD 1 4 (by kernel_rfl)
      have e4 : FA.tmps[4]?.getD undef = .int .u8 (a : Int) := by simpa [Act.eval] using ev4
      replace ev4 := Lib.hid ev4
      have ev6 : FA.eval (.tmp 6) = .int .u8 (b : Int) := hD 3 6 (by kernel_rfl)
      have e6 : FA.tmps[6]?.getD undef = .int .u8 (b : Int) := by simpa [Act.eval] using ev6
      replace ev6 := Lib.hid ev6
      clear hO hD
      go_simp
      refine hK.out _ _ (Ex.alloc _ _) ⟨_, _, _, rfl, ?_⟩
      refine Rb.litW _ [UInt8.ofNat (a), UInt8.ofNat (b)] ?_ rfl (by decide) ?_
      · simp [size_plus]
      · simp [bcs]; try omega
    | 5, _, ho, hO, hD, hK => 
      obtain rfl := Option.some.inj ho.symm
      clear ho
      have ev1 : FA.eval (.tmp 1) = .pointer (some ⟨w.heap.size, 0, none⟩) := hO 1 (by kernel_rfl)
      have e1 : FA.tmps[1]?.getD undef = .pointer (some ⟨w.heap.size, 0, none⟩) := by simpa [Act.eval] using ev1
      replace ev1 := Lib.hid ev1
      clear hO hD
      go_simp
      exact hK.out _ _ (Ex.refl _) rfl
    | 6, _, ho, hO, hD, hK => 
      obtain rfl := Option.some.inj ho.symm
      clear ho
      have ev8 : FA.eval (.tmp 8) = .pointer (some ⟨w.heap.size, 2, none⟩) := hD 5 8 (by kernel_rfl)
      have e8 : FA.tmps[8]?.getD undef = .pointer (some ⟨w.heap.size, 2, none⟩) := by simpa [Act.eval] using ev8
      replace ev8 := Lib.hid ev8
      clear hO hD
      go_simp
      exact hK.out _ _ (Ex.refl _) rfl
    | 7, _, ho, hO, hD, hK => 
      obtain rfl := Option.some.inj ho.symm
      clear ho
      have ev9 : FA.eval (.tmp 9) = .int .u16 (c : Int) := hD 6 9 (by kernel_rfl)
      have e9 : FA.tmps[9]?.getD undef = .int .u16 (c : Int) := by simpa [Act.eval] using ev9
      replace ev9 := Lib.hid ev9
      clear hO hD
      go_simp
      exact hK.out _ _ (Ex.refl _) rfl
    | 8, _, ho, hO, hD, hK => 
      obtain rfl := Option.some.inj ho.symm
      clear ho
      have ev10 : FA.eval (.tmp 10) = .int .u64 (c : Int) := hD 7 10 (by kernel_rfl)
      have e10 : FA.tmps[10]?.getD undef = .int .u64 (c : Int) := by simpa [Act.eval] using ev10
      replace ev10 := Lib.hid ev10
      clear hO hD
      go_simp
      refine (refBytes_any (c) 2 _ (by omega) (by omega)).mono ?_
      rintro e w1 ⟨A2, n2, c2, bs2, d2, rfl, rfl, ho2⟩
      exact hK.out _ _ (Ex.plus_ _ _ _) ⟨_, _, _, rfl, ho2.rb⟩
    | 9, _, ho, hO, hD, hK => 
      obtain rfl := Option.some.inj ho.symm
      clear ho
      have ev1 : FA.eval (.tmp 1) = .pointer (some ⟨w.heap.size, 0, none⟩) := hO 1 (by kernel_rfl)
      have e1 : FA.tmps[1]?.getD undef = .pointer (some ⟨w.heap.size, 0, none⟩) := by simpa [Act.eval] using ev1
      replace ev1 := Lib.hid ev1
      clear hO hD
      go_simp
      exact hK.out _ _ (Ex.refl _) rfl
    | 10, _, ho, hO, hD, hK => 
      obtain rfl := Option.some.inj ho.symm
      clear ho
      have ev12 : FA.eval (.tmp 12) = .pointer (some ⟨w.heap.size, 3, none⟩) := hD 9 12 (by kernel_rfl)
      have e12 : FA.tmps[12]?.getD undef = .pointer (some ⟨w.heap.size, 3, none⟩) := by simpa [Act.eval] using ev12
      replace ev12 := Lib.hid ev12
      clear hO hD
      go_simp
      exact hK.out _ _ (Ex.refl _) rfl
    | 11, _, ho, hO, hD, hK => 
      obtain rfl := Option.some.inj ho.symm
      clear ho
      have ev13 : FA.eval (.tmp 13) = .int .u32 (d : Int) := hD 10 13 (by kernel_rfl)
      have e13 : FA.tmps[13]?.getD undef = .int .u32 (d : Int) := by simpa [Act.eval] using ev13
      replace ev13 := Lib.hid ev13
      clear hO hD
      go_simp
      exact hK.out _ _ (Ex.refl _) rfl
    | 12, _, ho, hO, hD, hK => 
      obtain rfl := Option.some.inj ho.symm
      clear ho
      have ev14 : FA.eval (.tmp 14) = .int .u64 (d : Int) := hD 11 14 (by kernel_rfl)
      have e14 : FA.tmps[14]?.getD undef = .int .u64 (d : Int) := by simpa [Act.eval] using ev14
      replace ev14 := Lib.hid ev14
      clear hO hD
      go_simp
      refine (refBytes_any (d) 4 _ (by omega) (by omega)).mono ?_
      rintro e w1 ⟨A2, n2, c2, bs2, d2, rfl, rfl, ho2⟩
      exact hK.out _ _ (Ex.plus_ _ _ _) ⟨_, _, _, rfl, ho2.rb⟩
    | 13, _, ho, hO, hD, hK => 
      obtain rfl := Option.some.inj ho.symm
      clear ho
      have ev1 : FA.eval (.tmp 1) = .pointer (some ⟨w.heap.size, 0, none⟩) := hO 1 (by kernel_rfl)
      have e1 : FA.tmps[1]?.getD undef = .pointer (some ⟨w.heap.size, 0, none⟩) := by simpa [Act.eval] using ev1
      replace ev1 := Lib.hid ev1
      clear hO hD
      go_simp
      exact hK.out _ _ (Ex.refl _) rfl
    | 14, _, ho, hO, hD, hK => 
      obtain rfl := Option.some.inj ho.symm
      clear ho
      have ev16 : FA.eval (.tmp 16) = .pointer (some ⟨w.heap.size, 4, none⟩) := hD 13 16 (by kernel_rfl)
      have e16 : FA.tmps[16]?.getD undef = .pointer (some ⟨w.heap.size, 4, none⟩) := by simpa [Act.eval] using ev16
      replace ev16 := Lib.hid ev16
      clear hO hD
      go_simp
      exact hK.out _ _ (Ex.refl _) rfl
    | 15, _, ho, hO, hD, hK => 
      obtain rfl := Option.some.inj ho.symm
      clear ho
      have f7 := hD 4 7 (by kernel_rfl)
      generalize eu7 : FA.eval (.tmp 7) = u7 at f7
      have e7 : FA.tmps[7]?.getD undef = u7 := by rw [← eu7]; simp [Act.eval]
      have ev7 := Lib.hid eu7
      clear eu7
      have f11 := hD 8 11 (by kernel_rfl)
      generalize eu11 : FA.eval (.tmp 11) = u11 at f11
      have e11 : FA.tmps[11]?.getD undef = u11 := by rw [← eu11]; simp [Act.eval]
      have ev11 := Lib.hid eu11
      clear eu11
      have f15 := hD 12 15 (by kernel_rfl)
      generalize eu15 : FA.eval (.tmp 15) = u15 at f15
      have e15 : FA.tmps[15]?.getD undef = u15 := by rw [← eu15]; simp [Act.eval]
      have ev15 := Lib.hid eu15
      clear eu15
      have ev17 : FA.eval (.tmp 17) = .slice A n k := hD 14 17 (by kernel_rfl)
      have e17 : FA.tmps[17]?.getD undef = .slice A n k := by simpa [Act.eval] using ev17
      replace ev17 := Lib.hid ev17
      clear hO hD
      obtain ⟨A7, n7, c7, rfl, h7⟩ := f7
      obtain ⟨A11, n11, c11, rfl, h11⟩ := f11
      obtain ⟨A15, n15, c15, rfl, h15⟩ := f15
      go_simp
      refine hK.out _ _ (Ex.alloc _ _) ⟨_, _, _, rfl, ?_⟩
      refine RdL.litW _ _ ?_ ?_
      · simp [size_plus]
      · exact .cons ⟨_, _, _, rfl, h7⟩ (.cons ⟨_, _, _, rfl, h11⟩ (.cons ⟨_, _, _, rfl, h15⟩ (.cons ⟨_, _, _, rfl, (h.alloc _).plus_ _ _⟩ (.nil))))
    | 16, _, ho, hO, hD, hK => 
      obtain rfl := Option.some.inj ho.symm
      clear ho
      have f18 := hD 15 18 (by kernel_rfl)
      generalize eu18 : FA.eval (.tmp 18) = u18 at f18
      have e18 : FA.tmps[18]?.getD undef = u18 := by rw [← eu18]; simp [Act.eval]
      have ev18 := Lib.hid eu18
      clear eu18
      clear hO hD
      obtain ⟨A1, m1, c1, rfl, hl1⟩ := f18
      have hm1 : m1 ≤ 100 := by obtain ⟨_, _, h2, _⟩ := hl1; simp only [List.length_cons, List.length_nil] at h2; omega
      go_simp
      refine (refJoin_any A1 m1 c1 _ _ hl1 (by omega) HT.out).mono ?_
      rintro e w1 ⟨A2, n2, c2, bs2, d2, rfl, rfl, ho2⟩
      exact hK.out _ _ (Ex.plus_ _ _ _) ⟨_, _, _, rfl, ho2.mono (by simp [size_plus]; omega)⟩
    | 17, _, ho, hO, hD, hK => 
      obtain rfl := Option.some.inj ho.symm
      clear ho
      have f19 := hD 16 19 (by kernel_rfl)
      generalize eu19 : FA.eval (.tmp 19) = u19 at f19
      have e19 : FA.tmps[19]?.getD undef = u19 := by rw [← eu19]; simp [Act.eval]
      have ev19 := Lib.hid eu19
      clear eu19
      clear hO hD
      go_simp
      exact hK.out _ _ (Ex.refl _) f19
    | (k + 18), hi, _, _, _, _ => exact absurd hi (by omega)
  intro vs x hp
  have p0 : vs 0 = .pointer (some ⟨w.heap.size, 0, none⟩) := hp 0 (by omega)
  have p1 : vs 1 = .int .u8 (a : Int) := hp 1 (by omega)
  have p2 : vs 2 = .pointer (some ⟨w.heap.size, 1, none⟩) := hp 2 (by omega)
  have p3 : vs 3 = .int .u8 (b : Int) := hp 3 (by omega)
  have p4 := hp 4 (by omega)
  have p5 : vs 5 = .pointer (some ⟨w.heap.size, 2, none⟩) := hp 5 (by omega)
  have p6 : vs 6 = .int .u16 (c : Int) := hp 6 (by omega)
  have p7 : vs 7 = .int .u64 (c : Int) := hp 7 (by omega)
  have p8 := hp 8 (by omega)
  have p9 : vs 9 = .pointer (some ⟨w.heap.size, 3, none⟩) := hp 9 (by omega)
  have p10 : vs 10 = .int .u32 (d : Int) := hp 10 (by omega)
  have p11 : vs 11 = .int .u64 (d : Int) := hp 11 (by omega)
  have p12 := hp 12 (by omega)
  have p13 : vs 13 = .pointer (some ⟨w.heap.size, 4, none⟩) := hp 13 (by omega)
  have p14 : vs 14 = .slice A n k := hp 14 (by omega)
  have p15 := hp 15 (by omega)
  have p16 := hp 16 (by omega)
  have p17 := hp 17 (by omega)
  clear hp
  simp only [List.take_succ_cons, List.take_zero, List.drop_succ_cons, List.drop_zero, putAll, Nat.zero_add, Nat.reduceAdd, Act.put, List.setIfInBounds_toArray, List.set_cons_zero, List.set_cons_succ, p0, p1, p2, p3, p5, p6, p7, p9, p10, p11, p13, p14]
  clear p0 p1 p2 p3 p5 p6 p7 p9 p10 p11 p13 p14
  generalize vs 4 = y4 at *
  generalize vs 8 = y8 at *
  generalize vs 12 = y12 at *
  generalize vs 15 = y15 at *
  generalize vs 16 = y16 at *
  generalize vs 17 = y17 at *
  clear vs
  obtain ⟨A9, n9, c9, rfl, h9⟩ := p17
  rw [HE.out] at h9
  go_wp2
  go_ret
  exact RetB.mk h9 (belowP (Below.allocS (Below.refl _ _) _) _ _)
/-- what the checksum covers, ahead of the message -/
def icP (s6 : Bool) (sh sl : Nat) (d6 : Bool) (dh dl : Nat) (z : Nat) : List UInt8 := if s6 then psdB s6 sh sl d6 dh dl 58 z else []
theorem icP_length (s6 : Bool) (sh sl : Nat) (d6 : Bool) (dh dl : Nat) (z : Nat) : (icP s6 sh sl d6 dh dl z).length ≤ 40 := by
  have := psdB_length s6 sh sl d6 dh dl 58 z
  cases s6 <;> simp [icP] at * <;> omega
theorem icP_even (s6 : Bool) (sh sl : Nat) (d6 : Bool) (dh dl : Nat) (z : Nat) : (icP s6 sh sl d6 dh dl z).length % 2 = 0 := by
  have := psdB_even s6 sh sl d6 dh dl 58 z
  cases s6 <;> simp [icP] at * <;> omega
/-- two slices of bytes -/
def Ret2 (w : World) (l1 l2 : List UInt8) (e : Ending) (w' : World) : Prop := ∃ A1 n1 c1 A2 n2 c2 bs d, e = .returned (.tuple #[.slice A1 n1 c1, .slice A2 n2 c2]) ∧ w' = plus w bs d ∧ Rb (plus w bs d) A1 n1 c1 l1 ∧ Rb (plus w bs d) A2 n2 c2 l2
theorem Ret2.mk {w w' : World} {l1 l2 : List UInt8} {A1 : Option Addr} {n1 c1 : Nat} {A2 : Option Addr} {n2 c2 : Nat} (h1 : Rb w' A1 n1 c1 l1) (h2 : Rb w' A2 n2 c2 l2) (hb : Below w.heap.size w w') : Ret2 w l1 l2 (.returned (.tuple #[.slice A1 n1 c1, .slice A2 n2 c2])) w' := by
  obtain ⟨bs, d, rfl⟩ := plus_of hb
  exact ⟨_, _, _, _, _, _, bs, d, rfl, rfl, h1, h2⟩
set_option maxHeartbeats 4000000 in
set_option maxRecDepth 100000 in
theorem icmpCovered (a b c d : Nat) (A : Option Addr) (n k : Nat) (s6 : Bool) (sh sl : Nat) (d6 : Bool) (dh dl : Nat) (l : List UInt8) (w : World) (ha : a < 256) (hb : b < 256) (hc : c < 65536) (hd : d < 4294967296) (k1 : sh < 18446744073709551616) (k2 : sl < 18446744073709551616) (k3 : dh < 18446744073709551616) (k4 : dl < 18446744073709551616) (h : Rb w A n k l) (hn : n ≤ 10000) : Calls Try.prog 99 #[.agg (msgC a b c d A n k).toArray, .agg (adC s6 sh sl).toArray, .agg (adC d6 dh dl).toArray] w (Ret2 w (icP s6 sh sl d6 dh dl (8 + n)) (icmpB a b c d l)) := by
  obtain ⟨dx, u1, u2⟩ := rowMs
  obtain ⟨dr, r1, r2⟩ := rowMr
  obtain ⟨dy, y1, y2⟩ := rowAd
  have hM : Bk (((w.alloc (.cells (msgC a b c d A n k).toArray 32)).alloc (.cells (adC s6 sh sl).toArray 29)).alloc (.cells (adC d6 dh dl).toArray 29)) w.heap.size 32 (msgC a b c d A n k) := ((Bk.new w 32 (msgC a b c d A n k).toArray).alloc _).alloc _
  have hS : Bk (((w.alloc (.cells (msgC a b c d A n k).toArray 32)).alloc (.cells (adC s6 sh sl).toArray 29)).alloc (.cells (adC d6 dh dl).toArray 29)) (w.heap.size + 1) 29 (adC s6 sh sl) := (Bk.newK _ _ _ (by simp) rfl).alloc _
  have hD : Bk (((w.alloc (.cells (msgC a b c d A n k).toArray 32)).alloc (.cells (adC s6 sh sl).toArray 29)).alloc (.cells (adC d6 dh dl).toArray 29)) (w.heap.size + 1 + 1) 29 (adC d6 dh dl) := Bk.newK _ _ _ (by simp) rfl
  have be : Below w.heap.size w (((w.alloc (.cells (msgC a b c d A n k).toArray 32)).alloc (.cells (adC s6 sh sl).toArray 29)).alloc (.cells (adC d6 dh dl).toArray 29)) := Below.allocS (Below.allocS (Below.allocS (Below.refl _ _) _) _) _
  replace h := ((h.alloc (.cells (msgC a b c d A n k).toArray 32)).alloc (.cells (adC s6 sh sl).toArray 29)).alloc (.cells (adC d6 dh dl).toArray 29)
  have HB := Lib.hid (fun w (h : Rb w A n k l) => icmpBytes a b c d A n k l w ha hb hc hd h (by omega))
  have hlen : n = l.length := h.1.symm
  replace hlen := Lib.hid hlen
  go_enter Try.func99, Try.ntmps99
  go_upto_region 1 with (fail)
  generalize ((w.alloc (.cells (msgC a b c d A n k).toArray 32)).alloc (.cells (adC s6 sh sl).toArray 29)).alloc (.cells (adC d6 dh dl).toArray 29) = W at *
  go_upto_region 2 with (first
    | (refine at_op (.load 32 (.tmp 3)) rfl ?_; refine wpList_ldA (t := 32) 32 (.tmp 3) rfl rfl (msgC a b c d A n k) rfl (by with_reducible repeat (first | exact hM | refine Bk.later ?_ (below_plus _ _ _) | refine Bk.alloc ?_ _)) (whole_ _) u1 u2 (szMs _ _ _ _ _ _ _) ?_)
    | (go_at_call 19; refine (HB.out _ h).mono ?_; rintro e w1 ⟨A1, n1, c1, bs1, d1, rfl, rfl, ho1⟩))
  replace hS := hS.later (below_plus _ bs1 d1)
  replace hD := hD.later (below_plus _ bs1 d1)
  replace be := belowP be bs1 d1
  have hr1 := ho1.rb
  obtain rfl : n1 = 8 + n := by rw [← ho1.1, icmpB_length, hlen.out]
  generalize plus W bs1 d1 = W2 at *
  have q0 : W2.cell? ⟨w.heap.size + 1, 0, none⟩ = some (.bool s6) := hS.cell 0
  cases s6
  · go_wp2
    refine bodyPost_ret (v := .tuple #[.slice none 0 0, .slice A1 (8 + n) c1]) (by simp [results, Try.results99, go_sem]) rfl ?_
    exact Ret2.mk Rb.nil_ hr1 be
  · go_wp2_with (first
      | (refine at_op (.load 29 (.tmp 4)) rfl ?_; refine wpList_ldA (t := 29) 29 (.tmp 4) rfl rfl (adC true sh sl) rfl (by with_reducible repeat (first | exact hS | refine Bk.later ?_ (below_plus _ _ _) | refine Bk.alloc ?_ _)) (whole_ _) y1 y2 (szAd _ _ _) ?_)
      | (refine at_op (.load 29 (.tmp 5)) rfl ?_; refine wpList_ldA (t := 29) 29 (.tmp 5) rfl rfl (adC d6 dh dl) rfl (by with_reducible repeat (first | exact hD | refine Bk.later ?_ (below_plus _ _ _) | refine Bk.alloc ?_ _)) (whole_ _) y1 y2 (szAd _ _ _) ?_)
      | (go_at_call 133; refine (pseudo_any true sh sl d6 dh dl 58 (8 + n) _ k1 k2 k3 k4 (by omega) (by omega)).mono ?_; rintro e w1 ⟨A2, n2, bs2, d2, rfl, rfl, ho2⟩))
    refine bodyPost_ret (v := .tuple #[.slice A2 n2 n2, .slice A1 (8 + n) c1]) (by simp [results, Try.results99, go_sem]) rfl ?_
    exact Ret2.mk ho2.rb (hr1.plus_ _ _) (belowP be _ _)
/-- the sum of all that the checksum covers -/
def icT (s6 : Bool) (sh sl : Nat) (d6 : Bool) (dh dl : Nat) (a b c d : Nat) (l : List UInt8) : Nat := tot false (icP s6 sh sl d6 dh dl (8 + l.length) ++ icmpB a b c d l)
set_option maxHeartbeats 4000000 in
set_option maxRecDepth 100000 in
theorem icmpFine (a b c d : Nat) (A : Option Addr) (n k : Nat) (s6 : Bool) (sh sl : Nat) (d6 : Bool) (dh dl : Nat) (l : List UInt8) (w : World) (ha : a < 256) (hb : b < 256) (hc : c < 65536) (hd : d < 4294967296) (k1 : sh < 18446744073709551616) (k2 : sl < 18446744073709551616) (k3 : dh < 18446744073709551616) (k4 : dl < 18446744073709551616) (h : Rb w A n k l) (hn : n ≤ 10000) : Calls Try.prog 28 #[.agg (msgC a b c d A n k).toArray, .agg (adC s6 sh sl).toArray, .agg (adC d6 dh dl).toArray] w (RetV w (.bool (65535 - fd (icT s6 sh sl d6 dh dl a b c d l) == 0))) := by
  obtain ⟨dx, u1, u2⟩ := rowMs
  obtain ⟨dr, r1, r2⟩ := rowMr
  obtain ⟨dy, y1, y2⟩ := rowAd
  have hM : Bk (((w.alloc (.cells (msgC a b c d A n k).toArray 32)).alloc (.cells (adC s6 sh sl).toArray 29)).alloc (.cells (adC d6 dh dl).toArray 29)) w.heap.size 32 (msgC a b c d A n k) := ((Bk.new w 32 (msgC a b c d A n k).toArray).alloc _).alloc _
  have hS : Bk (((w.alloc (.cells (msgC a b c d A n k).toArray 32)).alloc (.cells (adC s6 sh sl).toArray 29)).alloc (.cells (adC d6 dh dl).toArray 29)) (w.heap.size + 1) 29 (adC s6 sh sl) := (Bk.newK _ _ _ (by simp) rfl).alloc _
  have hD : Bk (((w.alloc (.cells (msgC a b c d A n k).toArray 32)).alloc (.cells (adC s6 sh sl).toArray 29)).alloc (.cells (adC d6 dh dl).toArray 29)) (w.heap.size + 1 + 1) 29 (adC d6 dh dl) := Bk.newK _ _ _ (by simp) rfl
  have be : Below w.heap.size w (((w.alloc (.cells (msgC a b c d A n k).toArray 32)).alloc (.cells (adC s6 sh sl).toArray 29)).alloc (.cells (adC d6 dh dl).toArray 29)) := Below.allocS (Below.allocS (Below.allocS (Below.refl _ _) _) _) _
  replace h := ((h.alloc (.cells (msgC a b c d A n k).toArray 32)).alloc (.cells (adC s6 sh sl).toArray 29)).alloc (.cells (adC d6 dh dl).toArray 29)
  have HC := Lib.hid (fun w (h : Rb w A n k l) => icmpCovered a b c d A n k s6 sh sl d6 dh dl l w ha hb hc hd k1 k2 k3 k4 h hn)
  have hT : ([icP s6 sh sl d6 dh dl (8 + n), icmpB a b c d l] : List (List UInt8)).flatten.length ≤ 1000000 := by have := icP_length s6 sh sl d6 dh dl (8 + n); have := h.1; simp [icmpB_length]; omega
  have HE : Hid (tot false ([icP s6 sh sl d6 dh dl (8 + n), icmpB a b c d l] : List (List UInt8)).flatten = icT s6 sh sl d6 dh dl a b c d l) := Lib.hid (by rw [← h.1]; simp [icT])
  have HO := Lib.hid (fun w A1 c1 (h : RdL w A1 2 [icP s6 sh sl d6 dh dl (8 + n), icmpB a b c d l]) => sumRight A1 2 c1 _ w h (by omega) hT)
  rw [HE.out] at HO
  clear hT
  generalize icT s6 sh sl d6 dh dl a b c d l = t at *
  go_enter Try.func28, Try.ntmps28
  go_upto_region 1 with (fail)
  generalize ((w.alloc (.cells (msgC a b c d A n k).toArray 32)).alloc (.cells (adC s6 sh sl).toArray 29)).alloc (.cells (adC d6 dh dl).toArray 29) = W at *
  go_upto_region 2 with (first
    | (refine at_op (.load 32 (.tmp 3)) rfl ?_; refine wpList_ldA (t := 32) 32 (.tmp 3) rfl rfl (msgC a b c d A n k) rfl (by with_reducible repeat (first | exact hM | refine Bk.later ?_ (below_plus _ _ _) | refine Bk.alloc ?_ _)) (whole_ _) u1 u2 (szMs _ _ _ _ _ _ _) ?_)
    | (refine at_op (.load 29 (.tmp 4)) rfl ?_; refine wpList_ldA (t := 29) 29 (.tmp 4) rfl rfl (adC s6 sh sl) rfl (by with_reducible repeat (first | exact hS | refine Bk.later ?_ (below_plus _ _ _) | refine Bk.alloc ?_ _)) (whole_ _) y1 y2 (szAd _ _ _) ?_)
    | (refine at_op (.load 29 (.tmp 5)) rfl ?_; refine wpList_ldA (t := 29) 29 (.tmp 5) rfl rfl (adC d6 dh dl) rfl (by with_reducible repeat (first | exact hD | refine Bk.later ?_ (below_plus _ _ _) | refine Bk.alloc ?_ _)) (whole_ _) y1 y2 (szAd _ _ _) ?_)
    | (go_at_call 99; refine (HC.out _ h).mono ?_; rintro e w1 ⟨A1, n1, c1, A2, n2, c2, bs1, d1, rfl, rfl, hr1, hr2⟩))
  go_wp2_with fail
  refine (HO.out _ _ _ (RdL.litW [.slice A1 n1 c1, .slice A2 n2 c2] _ (by simp [size_plus]) (.cons ⟨_, _, _, rfl, hr1⟩ (.cons ⟨_, _, _, rfl, hr2⟩ .nil)))).mono ?_
  rintro e w1 ⟨rfl, rfl⟩
  go_wp2
  go_ret
  exact RetV.mk (Below.allocS (belowP be _ _) _)
set_option maxHeartbeats 4000000 in
set_option maxRecDepth 100000 in
theorem refCheck (a b c d : Nat) (A : Option Addr) (n k : Nat) (s6 : Bool) (sh sl : Nat) (d6 : Bool) (dh dl : Nat) (l : List UInt8) (w : World) (ha : a < 256) (hb : b < 256) (hc : c < 65536) (hd : d < 4294967296) (k1 : sh < 18446744073709551616) (k2 : sl < 18446744073709551616) (k3 : dh < 18446744073709551616) (k4 : dl < 18446744073709551616) (h : Rb w A n k l) (hn : n ≤ 10000) : Calls Try.prog 29 #[.agg (msgC a b c d A n k).toArray, .agg (adC s6 sh sl).toArray, .agg (adC d6 dh dl).toArray] w (RetV w (.int .u16 (65535 - fd (icT s6 sh sl d6 dh dl a b c d l) : Nat))) := by
  obtain ⟨dx, u1, u2⟩ := rowMs
  obtain ⟨dr, r1, r2⟩ := rowMr
  obtain ⟨dy, y1, y2⟩ := rowAd
  have hM : Bk (((w.alloc (.cells (msgC a b c d A n k).toArray 26)).alloc (.cells (adC s6 sh sl).toArray 29)).alloc (.cells (adC d6 dh dl).toArray 29)) w.heap.size 26 (msgC a b c d A n k) := ((Bk.new w 26 (msgC a b c d A n k).toArray).alloc _).alloc _
  have hS : Bk (((w.alloc (.cells (msgC a b c d A n k).toArray 26)).alloc (.cells (adC s6 sh sl).toArray 29)).alloc (.cells (adC d6 dh dl).toArray 29)) (w.heap.size + 1) 29 (adC s6 sh sl) := (Bk.newK _ _ _ (by simp) rfl).alloc _
  have hD : Bk (((w.alloc (.cells (msgC a b c d A n k).toArray 26)).alloc (.cells (adC s6 sh sl).toArray 29)).alloc (.cells (adC d6 dh dl).toArray 29)) (w.heap.size + 1 + 1) 29 (adC d6 dh dl) := Bk.newK _ _ _ (by simp) rfl
  have be : Below w.heap.size w (((w.alloc (.cells (msgC a b c d A n k).toArray 26)).alloc (.cells (adC s6 sh sl).toArray 29)).alloc (.cells (adC d6 dh dl).toArray 29)) := Below.allocS (Below.allocS (Below.allocS (Below.refl _ _) _) _) _
  replace h := ((h.alloc (.cells (msgC a b c d A n k).toArray 26)).alloc (.cells (adC s6 sh sl).toArray 29)).alloc (.cells (adC d6 dh dl).toArray 29)
  have HB := Lib.hid (fun w (h : Rb w A n k l) => refIcmpBytes a b c d A n k l w ha hb hc hd h (by omega))
  have HN : Hid (n = l.length) := Lib.hid h.1.symm
  have HL := Lib.hid (icmpB_length a b c d l)
  have HE : Hid (icT s6 sh sl d6 dh dl a b c d l = tot false (icP s6 sh sl d6 dh dl (8 + l.length) ++ icmpB a b c d l)) := Lib.hid rfl
  rw [HE.out]
  clear HE
  generalize icmpB a b c d l = B at *
  go_enter Try.func29, Try.ntmps29
  go_upto_region 1 with (fail)
  generalize ((w.alloc (.cells (msgC a b c d A n k).toArray 26)).alloc (.cells (adC s6 sh sl).toArray 29)).alloc (.cells (adC d6 dh dl).toArray 29) = W at *
  go_upto_region 2 with (first
    | (refine at_op (.load 26 (.tmp 3)) rfl ?_; refine wpList_ldA (t := 26) 26 (.tmp 3) rfl rfl (msgC a b c d A n k) rfl (by with_reducible repeat (first | exact hM | refine Bk.later ?_ (below_plus _ _ _) | refine Bk.alloc ?_ _)) (whole_ _) r1 r2 (szMr _ _ _ _ _ _ _) ?_)
    | (go_at_call 20; refine (HB.out _ h).mono ?_; rintro e w1 ⟨A1, n1, c1, bs1, d1, rfl, rfl, ho1⟩))
  replace hS := hS.later (below_plus _ bs1 d1)
  replace hD := hD.later (below_plus _ bs1 d1)
  replace be := belowP be bs1 d1
  have hr1 := ho1.rb
  have HN1 : Hid (8 + l.length = n1) := Lib.hid (by rw [← ho1.1, HL.out])
  have hn1 : n1 ≤ 10008 := by have := HN1.out; have := HN.out; omega
  have hB : B.length = n1 := ho1.1
  have zb := be.size
  generalize plus W bs1 d1 = W2 at *
  have q0 : W2.cell? ⟨w.heap.size + 1, 0, none⟩ = some (.bool s6) := hS.cell 0
  clear HL ho1 h HB
  cases s6
  · have HO := Lib.hid (fun w (h : Rb w A1 n1 c1 B) => refSumOf A1 n1 c1 B w h (by omega))
    have HZ : Hid (65535 - fd (tot false B) = 65535 - fd (tot false (icP false sh sl d6 dh dl (8 + l.length) ++ B))) := Lib.hid (by simp [icP])
    replace hB := Lib.hid hB
    generalize 65535 - fd (tot false B) = z at *
    go_wp2_with (go_at_call 102; refine (HO.out _ hr1).mono ?_; rintro e w1 ⟨rfl, rfl⟩)
    go_ret
    exact RetV.is_ (by rw [← HZ.out]; rfl) be
  · have hT : ([psdB true sh sl d6 dh dl 58 n1, B] : List (List UInt8)).flatten.length ≤ 40 + n1 := by have := psdB_length true sh sl d6 dh dl 58 n1; simp; omega
    have HZ : Hid (65535 - fd (tot false ([psdB true sh sl d6 dh dl 58 n1, B] : List (List UInt8)).flatten) = 65535 - fd (tot false (icP true sh sl d6 dh dl (8 + l.length) ++ B))) := Lib.hid (by rw [HN1.out]; simp [icP])
    have HJ := Lib.hid (fun w A5 c5 (h : RdL w A5 2 [psdB true sh sl d6 dh dl 58 n1, B]) => refJoin_any A5 2 c5 _ w h (by omega) (by omega))
    have HO := Lib.hid (fun w A5 n5 c5 (h : Rb w A5 n5 c5 ([psdB true sh sl d6 dh dl 58 n1, B] : List (List UInt8)).flatten) => refSumOf A5 n5 c5 _ w h (by rw [← h.1]; omega))
    have HP := Lib.hid (fun w => refPseudo_any true sh sl d6 dh dl 58 n1 w k1 k2 k3 k4 (by omega) (by omega))
    clear hT
    replace hB := Lib.hid hB
    generalize psdB true sh sl d6 dh dl 58 n1 = Pq at *
    generalize 65535 - fd (tot false ([Pq, B] : List (List UInt8)).flatten) = z at *
    go_wp2_with (first
      | (refine at_op (.load 29 (.tmp 4)) rfl ?_; refine wpList_ldA (t := 29) 29 (.tmp 4) rfl rfl (adC true sh sl) rfl (by with_reducible repeat (first | exact hS | refine Bk.later ?_ (below_plus _ _ _) | refine Bk.alloc ?_ _)) (whole_ _) y1 y2 (szAd _ _ _) ?_)
      | (refine at_op (.load 29 (.tmp 5)) rfl ?_; refine wpList_ldA (t := 29) 29 (.tmp 5) rfl rfl (adC d6 dh dl) rfl (by with_reducible repeat (first | exact hD | refine Bk.later ?_ (below_plus _ _ _) | refine Bk.alloc ?_ _)) (whole_ _) y1 y2 (szAd _ _ _) ?_)
      | (go_at_call 103; refine (HP.out _).mono ?_; rintro e w1 ⟨A2, n2, c2, bs2, d2, rfl, rfl, ho2⟩))
    refine (HJ.out _ _ _ (RdL.litW [.slice A2 n2 c2, .slice A1 n1 c1] _ (by simp [size_plus]) (.cons ⟨_, _, _, rfl, ho2.rb⟩ (.cons ⟨_, _, _, rfl, hr1.plus_ _ _⟩ .nil)))).mono ?_
    rintro e w1 ⟨A6, n6, c6, bs6, d6', rfl, rfl, ho6⟩
    go_wp2_with fail
    refine (HO.out _ _ _ _ ho6.rb).mono ?_
    rintro e w1 ⟨rfl, rfl⟩
    go_wp2
    go_ret
    exact RetV.is_ (by rw [← HZ.out]; rfl) (belowP (Below.allocS (belowP be _ _) _) _ _)
/-- is it an error? -/
def icE (six : Bool) (a : Nat) : Bool := if six then decide (0 < a ∧ a < 5) else decide (a = 3 ∨ a = 11 ∨ a = 12)
theorem icmpError (a b c d : Nat) (A : Option Addr) (n k : Nat) (six : Bool) (w : World) : Calls Try.prog 23 #[.agg (msgC a b c d A n k).toArray, .bool six] w (RetV w (.bool (icE six a))) := by
  unfold msgC
  cases six
  · by_cases h1 : a = 3
    · subst h1
      go_enter Try.func23, Try.ntmps23
      go_wp2
      go_ret
      exact RetV.is_ rfl (Below.allocS (Below.refl _ _) _)
    · by_cases h2 : a = 11
      · subst h2
        go_enter Try.func23, Try.ntmps23
        go_wp2
        go_ret
        exact RetV.is_ rfl (Below.allocS (Below.refl _ _) _)
      · have e1 : ((a : Int) == 3) = false := by rw [beq_eq_false_iff_ne]; omega
        have e2 : ((a : Int) == 11) = false := by rw [beq_eq_false_iff_ne]; omega
        clear h1 h2
        by_cases h3 : a = 12
        · subst h3
          clear e1 e2
          go_enter Try.func23, Try.ntmps23
          go_wp2
          go_ret
          exact RetV.is_ rfl (Below.allocS (Below.refl _ _) _)
        · have e3 : ((a : Int) == 12) = false := by rw [beq_eq_false_iff_ne]; omega
          have hz : Hid (icE false a = false) := Lib.hid (by rw [beq_eq_false_iff_ne] at e1 e2 e3; simp [icE]; omega)
          clear h3
          go_enter Try.func23, Try.ntmps23
          go_wp2
          go_ret
          exact RetV.is_ (by rw [hz.out]; rfl) (Below.allocS (Below.refl _ _) _)
  · by_cases h1 : 0 < a
    · by_cases h2 : a < 5
      · have hz : Hid (icE true a = true) := Lib.hid (by simp [icE]; omega)
        go_enter Try.func23, Try.ntmps23
        go_wp2
        go_ret
        exact RetV.is_ (by rw [hz.out]; simp; try omega) (Below.allocS (Below.refl _ _) _)
      · have d2 : decide (a < 5) = false := by simpa using h2
        have hz : Hid (icE true a = false) := Lib.hid (by simp [icE]; omega)
        go_enter Try.func23, Try.ntmps23
        go_wp2
        go_ret
        exact RetV.is_ (by rw [hz.out]; simp; try omega) (Below.allocS (Below.refl _ _) _)
    · obtain rfl : a = 0 := by omega
      go_enter Try.func23, Try.ntmps23
      go_wp2
      go_ret
      exact RetV.is_ rfl (Below.allocS (Below.refl _ _) _)
theorem refIcmpError (a b c d : Nat) (A : Option Addr) (n k : Nat) (six : Bool) (w : World) : Calls Try.prog 24 #[.agg (msgC a b c d A n k).toArray, .bool six] w (RetV w (.bool (icE six a))) := by
  unfold msgC
  cases six
  · by_cases h1 : a = 3
    · subst h1
      go_enter Try.func24, Try.ntmps24
      go_wp2
      go_ret
      exact RetV.is_ rfl (Below.allocS (Below.refl _ _) _)
    · by_cases h2 : a = 11
      · subst h2
        go_enter Try.func24, Try.ntmps24
        go_wp2
        go_ret
        exact RetV.is_ rfl (Below.allocS (Below.refl _ _) _)
      · have e1 : ((a : Int) == 3) = false := by rw [beq_eq_false_iff_ne]; omega
        have e2 : ((a : Int) == 11) = false := by rw [beq_eq_false_iff_ne]; omega
        clear h1 h2
        by_cases h3 : a = 12
        · subst h3
          clear e1 e2
          go_enter Try.func24, Try.ntmps24
          go_wp2
          go_ret
          exact RetV.is_ rfl (Below.allocS (Below.refl _ _) _)
        · have e3 : ((a : Int) == 12) = false := by rw [beq_eq_false_iff_ne]; omega
          have hz : Hid (icE false a = false) := Lib.hid (by rw [beq_eq_false_iff_ne] at e1 e2 e3; simp [icE]; omega)
          clear h3
          go_enter Try.func24, Try.ntmps24
          go_wp2
          go_ret
          exact RetV.is_ (by rw [hz.out]; rfl) (Below.allocS (Below.refl _ _) _)
  · by_cases h1 : 0 < a
    · by_cases h2 : a < 5
      · have hz : Hid (icE true a = true) := Lib.hid (by simp [icE]; omega)
        go_enter Try.func24, Try.ntmps24
        go_wp2
        go_ret
        exact RetV.is_ (by rw [hz.out]; simp; try omega) (Below.allocS (Below.refl _ _) _)
      · have d2 : decide (a < 5) = false := by simpa using h2
        have hz : Hid (icE true a = false) := Lib.hid (by simp [icE]; omega)
        go_enter Try.func24, Try.ntmps24
        go_wp2
        go_ret
        exact RetV.is_ (by rw [hz.out]; simp; try omega) (Below.allocS (Below.refl _ _) _)
    · obtain rfl : a = 0 := by omega
      go_enter Try.func24, Try.ntmps24
      go_wp2
      go_ret
      exact RetV.is_ rfl (Below.allocS (Below.refl _ _) _)
/-- does it ask for an echo? -/
theorem icmpEcho (a b c d : Nat) (A : Option Addr) (n k : Nat) (six : Bool) (w : World) : Calls Try.prog 25 #[.agg (msgC a b c d A n k).toArray, .bool six] w (RetV w (.bool ((a : Int) == if six then 128 else 8))) := by
  unfold msgC
  cases six <;>
  · go_enter Try.func25, Try.ntmps25
    go_wp2
    go_ret
    exact RetV.is_ rfl (Below.allocS (Below.refl _ _) _)
/-- a message with its own load -/
def RetMs (w : World) (a b s d : Nat) (l : List UInt8) (e : Ending) (w' : World) : Prop := ∃ A n c bs d', e = .returned (.agg (msgC a b s d A n c).toArray) ∧ w' = plus w bs d' ∧ Rb (plus w bs d') A n c l
theorem RetMs.mk {w w' : World} {a b s d : Nat} {l : List UInt8} {A : Option Addr} {n c : Nat} (ho : Rb w' A n c l) (hb : Below w.heap.size w w') : RetMs w a b s d l (.returned (.agg (msgC a b s d A n c).toArray)) w' := by
  obtain ⟨bs, d, rfl⟩ := plus_of hb
  exact ⟨A, n, c, bs, d, rfl, rfl, ho⟩
theorem setN {w : World} {A : Option Addr} {n c : Nat} {l : List UInt8} (h : Rb w A n c l) {g k : Nat} {t : TypeId} {cs : List Value} {v : Value} (hx : Bk w g t cs) (h8 : ∀ a, A = some a → a.block ≠ g) : Rb (w.setCell ⟨g, k, none⟩ v) A n c l := h.setCell (p := ⟨g, k, none⟩) h8 v
set_option maxHeartbeats 4000000 in
set_option maxRecDepth 100000 in
theorem icmpSummed (a b c d : Nat) (A : Option Addr) (n k : Nat) (s6 : Bool) (sh sl : Nat) (d6 : Bool) (dh dl : Nat) (l : List UInt8) (w : World) (ha : a < 256) (hb : b < 256) (hc : c < 65536) (hd : d < 4294967296) (k1 : sh < 18446744073709551616) (k2 : sl < 18446744073709551616) (k3 : dh < 18446744073709551616) (k4 : dl < 18446744073709551616) (h : Rb w A n k l) (hn : n ≤ 10000) : Calls Try.prog 26 #[.agg (msgC a b c d A n k).toArray, .agg (adC s6 sh sl).toArray, .agg (adC d6 dh dl).toArray] w (RetMs w a b (65535 - fd (icT s6 sh sl d6 dh dl a b 0 d l)) d l) := by
  obtain ⟨dx, u1, u2⟩ := rowMs
  obtain ⟨dr, r1, r2⟩ := rowMr
  obtain ⟨dy, y1, y2⟩ := rowAd
  have hM : Bk (((w.alloc (.cells (msgC a b c d A n k).toArray 32)).alloc (.cells (adC s6 sh sl).toArray 29)).alloc (.cells (adC d6 dh dl).toArray 29)) w.heap.size 32 (msgC a b c d A n k) := ((Bk.new w 32 (msgC a b c d A n k).toArray).alloc _).alloc _
  have hS : Bk (((w.alloc (.cells (msgC a b c d A n k).toArray 32)).alloc (.cells (adC s6 sh sl).toArray 29)).alloc (.cells (adC d6 dh dl).toArray 29)) (w.heap.size + 1) 29 (adC s6 sh sl) := (Bk.newK _ _ _ (by simp) rfl).alloc _
  have hD : Bk (((w.alloc (.cells (msgC a b c d A n k).toArray 32)).alloc (.cells (adC s6 sh sl).toArray 29)).alloc (.cells (adC d6 dh dl).toArray 29)) (w.heap.size + 1 + 1) 29 (adC d6 dh dl) := Bk.newK _ _ _ (by simp) rfl
  have be : Below w.heap.size w (((w.alloc (.cells (msgC a b c d A n k).toArray 32)).alloc (.cells (adC s6 sh sl).toArray 29)).alloc (.cells (adC d6 dh dl).toArray 29)) := Below.allocS (Below.allocS (Below.allocS (Below.refl _ _) _) _) _
  replace h := ((h.alloc (.cells (msgC a b c d A n k).toArray 32)).alloc (.cells (adC s6 sh sl).toArray 29)).alloc (.cells (adC d6 dh dl).toArray 29)
  replace hM := hM.alloc (.cells #[.int .u8 0, .int .u8 0, .int .u16 0, .int .u32 0, .slice none 0 0] 32)
  replace hS := hS.alloc (.cells #[.int .u8 0, .int .u8 0, .int .u16 0, .int .u32 0, .slice none 0 0] 32)
  replace hD := hD.alloc (.cells #[.int .u8 0, .int .u8 0, .int .u16 0, .int .u32 0, .slice none 0 0] 32)
  have hR : Bk (((((w.alloc (.cells (msgC a b c d A n k).toArray 32)).alloc (.cells (adC s6 sh sl).toArray 29)).alloc (.cells (adC d6 dh dl).toArray 29)).alloc (.cells #[.int .u8 0, .int .u8 0, .int .u16 0, .int .u32 0, .slice none 0 0] 32))) (w.heap.size + 1 + 1 + 1) 32 (msgC 0 0 0 0 none 0 0) := Bk.newK _ _ _ (by simp) rfl
  replace be := Below.allocS be (.cells #[.int .u8 0, .int .u8 0, .int .u16 0, .int .u32 0, .slice none 0 0] 32)
  replace h := h.alloc (.cells #[.int .u8 0, .int .u8 0, .int .u16 0, .int .u32 0, .slice none 0 0] 32)
  have HCl := Lib.hid (fun w (h : Rb w A n k l) => clone_any A n k l w h (by omega))
  have HC := Lib.hid (fun w A n k (h : Rb w A n k l) (hn : n ≤ 10000) => icmpCovered a b 0 d A n k s6 sh sl d6 dh dl l w ha hb (by omega) hd k1 k2 k3 k4 h hn)
  have HN : Hid (n = l.length) := Lib.hid h.1.symm
  have hT : ([icP s6 sh sl d6 dh dl (8 + n), icmpB a b 0 d l] : List (List UInt8)).flatten.length ≤ 1000000 := by have := icP_length s6 sh sl d6 dh dl (8 + n); have := h.1; simp [icmpB_length]; omega
  have HE : Hid (tot false ([icP s6 sh sl d6 dh dl (8 + n), icmpB a b 0 d l] : List (List UInt8)).flatten = icT s6 sh sl d6 dh dl a b 0 d l) := Lib.hid (by rw [← h.1]; simp [icT])
  have HO := Lib.hid (fun w A1 c1 (h : RdL w A1 2 [icP s6 sh sl d6 dh dl (8 + n), icmpB a b 0 d l]) => sumOf A1 2 c1 _ w h (by omega) hT)
  rw [HE.out] at HO
  clear hT
  have hs := Nat.sub_le 65535 (fd (icT s6 sh sl d6 dh dl a b 0 d l))
  generalize 65535 - fd (icT s6 sh sl d6 dh dl a b 0 d l) = s at *
  go_enter Try.func26, Try.ntmps26
  go_upto_region 1 with (fail)
  generalize ((((w.alloc (.cells (msgC a b c d A n k).toArray 32)).alloc (.cells (adC s6 sh sl).toArray 29)).alloc (.cells (adC d6 dh dl).toArray 29)).alloc (.cells #[.int .u8 0, .int .u8 0, .int .u16 0, .int .u32 0, .slice none 0 0] 32)) = W at *
  have q4 : W.cell? ⟨w.heap.size, 4, none⟩ = some (.slice A n k) := hM.cell 4
  have f4 := hM.frozen 4
  have z0 := hM.lt
  go_upto_region 2 with (go_at_call 95; refine (HCl.out _ h).mono ?_; rintro e w1 ⟨A1, n1, c1, bs1, d1, rfl, rfl, ho1⟩)
  have z1 := be.size
  have zR := hR.lt
  refine gen_world (fun W' => Bk W' w.heap.size 32 (msgC a b c d A1 n1 c1) ∧ Bk W' (w.heap.size + 1) 29 (adC s6 sh sl) ∧ Bk W' (w.heap.size + 1 + 1) 29 (adC d6 dh dl) ∧ Bk W' (w.heap.size + 1 + 1 + 1) 32 (msgC 0 0 0 0 none 0 0) ∧ Ob W' W.heap.size A1 n1 c1 l ∧ Below w.heap.size w W') ⟨(hM.set_ 4 _).later (below_plus _ _ _), (hS.far (by simp) _).later (below_plus _ _ _), (hD.far (by simp; omega) _).later (below_plus _ _ _), (hR.far (by simp; omega) _).later (below_plus _ _ _), ho1.swap (Nat.le_refl _) (by simp), belowP (be.setCell (Nat.le_refl _) _) _ _⟩ ?_
  rintro W2 ⟨hM, hS, hD, hR, ho, be⟩
  have hn1 : n1 = n := by rw [← ho.1]; exact HN.out.symm
  have c2 : W2.cell? ⟨w.heap.size, 2, none⟩ = some (.int .u16 (c : Int)) := hM.cell 2
  have f2 := hM.frozen 2
  replace hn1 := Lib.hid hn1
  clear q4 f4 h ho1
  go_upto_region 3 with (fail)
  refine gen_world (fun W' => Bk W' w.heap.size 32 (msgC a b 0 d A1 n1 c1) ∧ Bk W' (w.heap.size + 1) 29 (adC s6 sh sl) ∧ Bk W' (w.heap.size + 1 + 1) 29 (adC d6 dh dl) ∧ Bk W' (w.heap.size + 1 + 1 + 1) 32 (msgC 0 0 0 0 none 0 0) ∧ Ob W' W.heap.size A1 n1 c1 l ∧ Below w.heap.size w W') ⟨hM.set_ 2 _, hS.far (by simp) _, hD.far (by simp; omega) _, hR.far (by simp; omega) _, ho.setCell z0 _, be.setCell (Nat.le_refl _) _⟩ ?_
  clear hM hS hD hR ho be c2 f2
  rintro W3 ⟨hM, hS, hD, hR, ho, be⟩
  have hrb := ho.rb
  go_upto_region 4 with (first
    | (refine at_op (.load 32 (.tmp 3)) rfl ?_; refine wpList_ldA (t := 32) 32 (.tmp 3) rfl rfl (msgC a b 0 d A1 n1 c1) rfl (hM) (whole_ _) u1 u2 (szMs _ _ _ _ _ _ _) ?_)
    | (refine at_op (.load 29 (.tmp 4)) rfl ?_; refine wpList_ldA (t := 29) 29 (.tmp 4) rfl rfl (adC s6 sh sl) rfl (by with_reducible repeat (first | exact hS | refine Bk.later ?_ (below_plus _ _ _) | refine Bk.alloc ?_ _)) (whole_ _) y1 y2 (szAd _ _ _) ?_)
    | (refine at_op (.load 29 (.tmp 5)) rfl ?_; refine wpList_ldA (t := 29) 29 (.tmp 5) rfl rfl (adC d6 dh dl) rfl (by with_reducible repeat (first | exact hD | refine Bk.later ?_ (below_plus _ _ _) | refine Bk.alloc ?_ _)) (whole_ _) y1 y2 (szAd _ _ _) ?_)
    | (go_at_call 99; refine (HC.out _ _ _ _ hrb (by have := hn1.out; omega)).mono ?_; rintro e w1 ⟨A4, n4, c4, A5, n5, c5, bs4, d4, rfl, rfl, hr4, hr5⟩))
  rw [hn1.out] at hr4
  have z3 := hM.lt
  have z4 := hR.lt
  have c3 : W3.cell? ⟨w.heap.size, 2, none⟩ = some (.int .u16 0) := hM.cell 2
  have f3 := hM.frozen 2
  go_wp2_with fail
  refine (HO.out _ _ _ (RdL.litW [.slice A4 n4 c4, .slice A5 n5 c5] _ (by simp [size_plus]) (.cons ⟨_, _, _, rfl, hr4⟩ (.cons ⟨_, _, _, rfl, hr5⟩ .nil)))).mono ?_
  rintro e w1 ⟨rfl, rfl⟩
  go_upto_region 5 with (fail)
  refine gen_world (fun W' => Bk W' w.heap.size 32 (msgC a b s d A1 n1 c1) ∧ Bk W' (w.heap.size + 1 + 1 + 1) 32 (msgC 0 0 0 0 none 0 0) ∧ Ob W' W.heap.size A1 n1 c1 l ∧ Below w.heap.size w W') ⟨((hM.set_ 2 _).later (below_plus _ _ _)).alloc _, ((hR.far (by simp; omega) _).later (below_plus _ _ _)).alloc _, ((ho.setCell z0 _).plus_ _ _).alloc _, Below.allocS (belowP (be.setCell (Nat.le_refl _) _) _ _) _⟩ ?_
  clear hM hS hD hR ho be c3 f3 hrb hr4 hr5
  rintro W5 ⟨hM, hR, ho, be⟩
  go_wp2_with (first
    | (refine at_op (.load 32 (.tmp 3)) rfl ?_; refine wpList_ldA (t := 32) 32 (.tmp 3) rfl rfl (msgC a b s d A1 n1 c1) rfl (hM) (whole_ _) u1 u2 (szMs _ _ _ _ _ _ _) ?_)
    | (refine at_op (.store 32 (.tmp 6) (.tmp 26)) rfl ?_; refine wpList_stA (t := 32) 32 (.tmp 6) (.tmp 26) rfl rfl (msgC a b s d A1 n1 c1) (msgC 0 0 0 0 none 0 0) rfl (msgC_one _ _ _ _ _ _ _) rfl rfl hR (szMs _ _ _ _ _ _ _) ?_; intro W6 hR6 g6))
  refine bodyPost_agg Try.results26 rfl hR6.range u1 u2 (szMs _ _ _ _ _ _ _) rfl (RetMs.mk (ho.grown g6 (fun k hk e => ?_)).rb (below_grown be g6 (by omega)))
  have := (ho.blk k hk).1
  injection e with e
  omega
set_option maxHeartbeats 4000000 in
set_option maxRecDepth 100000 in
theorem refIcmpSummed (a b c d : Nat) (A : Option Addr) (n k : Nat) (s6 : Bool) (sh sl : Nat) (d6 : Bool) (dh dl : Nat) (l : List UInt8) (w : World) (ha : a < 256) (hb : b < 256) (hc : c < 65536) (hd : d < 4294967296) (k1 : sh < 18446744073709551616) (k2 : sl < 18446744073709551616) (k3 : dh < 18446744073709551616) (k4 : dl < 18446744073709551616) (h : Rb w A n k l) (hn : n ≤ 10000) : Calls Try.prog 27 #[.agg (msgC a b c d A n k).toArray, .agg (adC s6 sh sl).toArray, .agg (adC d6 dh dl).toArray] w (RetV w (.agg (msgC a b (65535 - fd (icT s6 sh sl d6 dh dl a b 0 d l)) d A n k).toArray)) := by
  have h0 := h
  obtain ⟨dx, u1, u2⟩ := rowMs
  obtain ⟨dr, r1, r2⟩ := rowMr
  obtain ⟨dy, y1, y2⟩ := rowAd
  have hM : Bk (((w.alloc (.cells (msgC a b c d A n k).toArray 26)).alloc (.cells (adC s6 sh sl).toArray 29)).alloc (.cells (adC d6 dh dl).toArray 29)) w.heap.size 26 (msgC a b c d A n k) := ((Bk.new w 26 (msgC a b c d A n k).toArray).alloc _).alloc _
  have hS : Bk (((w.alloc (.cells (msgC a b c d A n k).toArray 26)).alloc (.cells (adC s6 sh sl).toArray 29)).alloc (.cells (adC d6 dh dl).toArray 29)) (w.heap.size + 1) 29 (adC s6 sh sl) := (Bk.newK _ _ _ (by simp) rfl).alloc _
  have hD : Bk (((w.alloc (.cells (msgC a b c d A n k).toArray 26)).alloc (.cells (adC s6 sh sl).toArray 29)).alloc (.cells (adC d6 dh dl).toArray 29)) (w.heap.size + 1 + 1) 29 (adC d6 dh dl) := Bk.newK _ _ _ (by simp) rfl
  have be : Below w.heap.size w (((w.alloc (.cells (msgC a b c d A n k).toArray 26)).alloc (.cells (adC s6 sh sl).toArray 29)).alloc (.cells (adC d6 dh dl).toArray 29)) := Below.allocS (Below.allocS (Below.allocS (Below.refl _ _) _) _) _
  replace h := ((h.alloc (.cells (msgC a b c d A n k).toArray 26)).alloc (.cells (adC s6 sh sl).toArray 29)).alloc (.cells (adC d6 dh dl).toArray 29)
  replace hM := hM.alloc (.cells #[.int .u8 0, .int .u8 0, .int .u16 0, .int .u32 0, .slice none 0 0] 26)
  replace hS := hS.alloc (.cells #[.int .u8 0, .int .u8 0, .int .u16 0, .int .u32 0, .slice none 0 0] 26)
  replace hD := hD.alloc (.cells #[.int .u8 0, .int .u8 0, .int .u16 0, .int .u32 0, .slice none 0 0] 26)
  have hR : Bk (((((w.alloc (.cells (msgC a b c d A n k).toArray 26)).alloc (.cells (adC s6 sh sl).toArray 29)).alloc (.cells (adC d6 dh dl).toArray 29)).alloc (.cells #[.int .u8 0, .int .u8 0, .int .u16 0, .int .u32 0, .slice none 0 0] 26))) (w.heap.size + 1 + 1 + 1) 26 (msgC 0 0 0 0 none 0 0) := Bk.newK _ _ _ (by simp) rfl
  replace be := Below.allocS be (.cells #[.int .u8 0, .int .u8 0, .int .u16 0, .int .u32 0, .slice none 0 0] 26)
  have HC := Lib.hid (fun w (h : Rb w A n k l) => refCheck a b 0 d A n k s6 sh sl d6 dh dl l w ha hb (by omega) hd k1 k2 k3 k4 h hn)
  have hs := Nat.sub_le 65535 (fd (icT s6 sh sl d6 dh dl a b 0 d l))
  generalize 65535 - fd (icT s6 sh sl d6 dh dl a b 0 d l) = s at *
  clear h
  go_enter Try.func27, Try.ntmps27
  go_upto_region 1 with (fail)
  generalize ((((w.alloc (.cells (msgC a b c d A n k).toArray 26)).alloc (.cells (adC s6 sh sl).toArray 29)).alloc (.cells (adC d6 dh dl).toArray 29)).alloc (.cells #[.int .u8 0, .int .u8 0, .int .u16 0, .int .u32 0, .slice none 0 0] 26)) = W at *
  have q2 : W.cell? ⟨w.heap.size, 2, none⟩ = some (.int .u16 (c : Int)) := hM.cell 2
  have f2 := hM.frozen 2
  go_upto_region 2 with (fail)
  refine gen_world (fun W' => Bk W' w.heap.size 26 (msgC a b 0 d A n k) ∧ Bk W' (w.heap.size + 1) 29 (adC s6 sh sl) ∧ Bk W' (w.heap.size + 1 + 1) 29 (adC d6 dh dl) ∧ Bk W' (w.heap.size + 1 + 1 + 1) 26 (msgC 0 0 0 0 none 0 0) ∧ Below w.heap.size w W') ⟨hM.set_ 2 _, hS.far (by simp) _, hD.far (by simp; omega) _, hR.far (by simp; omega) _, be.setCell (Nat.le_refl _) _⟩ ?_
  clear hM hS hD hR be q2 f2
  rintro W3 ⟨hM, hS, hD, hR, be⟩
  have z3 := hM.lt
  have z4 := hR.lt
  have h3 := h0.later be
  have c3 : W3.cell? ⟨w.heap.size, 2, none⟩ = some (.int .u16 0) := hM.cell 2
  have f3 := hM.frozen 2
  go_upto_region 3 with (first
    | (refine at_op (.load 26 (.tmp 3)) rfl ?_; refine wpList_ldA (t := 26) 26 (.tmp 3) rfl rfl (msgC a b 0 d A n k) rfl (hM) (whole_ _) r1 r2 (szMr _ _ _ _ _ _ _) ?_)
    | (refine at_op (.load 29 (.tmp 4)) rfl ?_; refine wpList_ldA (t := 29) 29 (.tmp 4) rfl rfl (adC s6 sh sl) rfl (by with_reducible repeat (first | exact hS | refine Bk.later ?_ (below_plus _ _ _) | refine Bk.alloc ?_ _)) (whole_ _) y1 y2 (szAd _ _ _) ?_)
    | (refine at_op (.load 29 (.tmp 5)) rfl ?_; refine wpList_ldA (t := 29) 29 (.tmp 5) rfl rfl (adC d6 dh dl) rfl (by with_reducible repeat (first | exact hD | refine Bk.later ?_ (below_plus _ _ _) | refine Bk.alloc ?_ _)) (whole_ _) y1 y2 (szAd _ _ _) ?_)
    | (go_at_call 29; refine (HC.out _ h3).mono ?_; rintro e w1 ⟨bs4, d4, rfl, rfl⟩))
  refine gen_world (fun W' => Bk W' w.heap.size 26 (msgC a b s d A n k) ∧ Bk W' (w.heap.size + 1 + 1 + 1) 26 (msgC 0 0 0 0 none 0 0) ∧ Below w.heap.size w W') ⟨(hM.set_ 2 _).later (below_plus _ _ _), (hR.far (by simp; omega) _).later (below_plus _ _ _), belowP (be.setCell (Nat.le_refl _) _) _ _⟩ ?_
  clear hM hS hD hR be c3 f3 h3
  rintro W5 ⟨hM, hR, be⟩
  go_wp2_with (first
    | (refine at_op (.load 26 (.tmp 3)) rfl ?_; refine wpList_ldA (t := 26) 26 (.tmp 3) rfl rfl (msgC a b s d A n k) rfl (hM) (whole_ _) r1 r2 (szMr _ _ _ _ _ _ _) ?_)
    | (refine at_op (.store 26 (.tmp 6) (.tmp 13)) rfl ?_; refine wpList_stA (t := 26) 26 (.tmp 6) (.tmp 13) rfl rfl (msgC a b s d A n k) (msgC 0 0 0 0 none 0 0) rfl (msgC_one _ _ _ _ _ _ _) rfl rfl hR (szMr _ _ _ _ _ _ _) ?_; intro W6 hR6 g6))
  exact bodyPost_agg Try.results27 rfl hR6.range r1 r2 (szMr _ _ _ _ _ _ _) rfl (RetV.mk (below_grown be g6 (by omega)))
end Go.Proofs.Ytldecdeiibfekaa
