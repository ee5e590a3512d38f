/- Contracts of a datagram's Right, Bytes. -/
import Derived.Test.YticlohlpccollaaUdpR
namespace Go.Proofs.Yticlohlpccollaa
open Go.RowKit
set_option linter.unusedVariables false
set_option linter.unusedSimpArgs false
attribute [local go_sem ↓] sliced_cut
attribute [local go_sem] cutA_zero

theorem RetV.eq_ {w w' : World} {v v' : Value} (hv : v' = v) (hb : Below w.heap.size w w') : RetV w v (.returned v') w' := by
  subst hv
  exact RetV.mk hb
theorem udpRight_yes (a b s : Int) (A : Option Addr) (n k : Nat) (w : World) (hn : n ≤ 65527) : Calls Try.prog 79 #[.agg #[.int .u16 a, .int .u16 b, .int .u16 s, .slice A n k]] w (RetV w (.bool true)) := by
  go_enter Try.func79, Try.ntmps79
  go_wp2
  go_ret
  exact RetV.eq_ (by simp; omega) ((Below.refl _ _).alloc (Nat.le_refl _) _)
theorem udpRight_no (a b s : Int) (A : Option Addr) (n k : Nat) (w : World) (h : 65527 < n) (hn : n ≤ 1099511627776) : Calls Try.prog 79 #[.agg #[.int .u16 a, .int .u16 b, .int .u16 s, .slice A n k]] w (RetV w (.bool false)) := by
  go_enter Try.func79, Try.ntmps79
  go_wp2
  go_ret
  exact RetV.eq_ (by simp; omega) ((Below.refl _ _).alloc (Nat.le_refl _) _)
theorem udpBytes_no (a b s : Int) (A : Option Addr) (n k : Nat) (w : World) (h : 65527 < n) (hn : n ≤ 1099511627776) : Calls Try.prog 80 #[.agg #[.int .u16 a, .int .u16 b, .int .u16 s, .slice A n k]] w (RetV w (.slice none 0 0)) := by
  go_enter Try.func80, Try.ntmps80
  go_wp2_with (go_at_call 79; refine (udpRight_no _ _ _ _ _ _ _ h hn).mono ?_; rintro e w1 ⟨bs1, d1, rfl, rfl⟩)
  go_ret
  exact RetV.mk (belowP ((Below.refl _ _).alloc (Nat.le_refl _) _) _ _)
set_option maxHeartbeats 2000000 in
theorem udpBytes_any (a b s : Int) (A : Option Addr) (n k : Nat) (l : List UInt8) (w : World) (ha : 0 ≤ a ∧ a ≤ 65535) (hb : 0 ≤ b ∧ b ≤ 65535) (hs : 0 ≤ s ∧ s ≤ 65535) (h : Rb w A n k l) (hn : n ≤ 65527) :
    Calls Try.prog 80 #[.agg #[.int .u16 a, .int .u16 b, .int .u16 s, .slice A n k]] w (RetB w (dig a.toNat 2 ++ dig b.toNat 2 ++ dig (8 + n) 2 ++ dig s.toNat 2 ++ l)) := by
  obtain ⟨a0, a1⟩ := ha
  obtain ⟨b0, b1⟩ := hb
  obtain ⟨s0, s1⟩ := hs
  go_enter Try.func80, Try.ntmps80
  go_wp2_with fail
  refine (udpRight_yes _ _ _ _ _ _ _ hn).mono ?_
  rintro e w1 ⟨bs0, m0, rfl, rfl⟩
  go_wp2_with fail
  refine (put_int _ _ _ [] a 2 _ Rb.nil_ (by omega) a0 (by omega) (by omega) (by omega)).mono ?_
  rintro e w1 ⟨A1, n1, k1, bs1, m1, rfl, rfl, ho1⟩
  have l1 : n1 ≤ 100 := by have := ho1.len; simp [dig_length] at this; omega
  go_wp2_with fail
  refine (put_int _ _ _ _ b 2 _ ho1.rb (by omega) b0 (by omega) (by omega) (by omega)).mono ?_
  rintro e w2 ⟨A2, n2, k2, bs2, m2, rfl, rfl, ho2⟩
  have l2 : n2 ≤ 100 := by have := ho2.len; simp [dig_length] at this; omega
  go_wp2_with fail
  refine (put_int _ _ _ _ (8 + (n : Int)) 2 _ ho2.rb (by omega) (by omega) (by omega) (by omega) (by omega)).mono ?_
  rintro e w3 ⟨A3, n3, k3, bs3, m3, rfl, rfl, ho3⟩
  have l3 : n3 ≤ 100 := by have := ho3.len; simp [dig_length] at this; omega
  go_wp2_with fail
  refine (put_int _ _ _ _ s 2 _ ho3.rb (by omega) s0 (by omega) (by omega) (by omega)).mono ?_
  rintro e w4 ⟨A4, n4, k4, bs4, m4, rfl, rfl, ho4⟩
  have l4 : n4 ≤ 100 := by have := ho4.len; simp [dig_length] at this; omega
  go_wp2_with (at_builtin; refine wpList_appP _ bt rfl (.tmp 28) (.tmp 30) rfl (by exact below_plus _ bs4 m4) rfl ho4 rfl (by exact (((((h.alloc _).plus_ _ _).plus_ _ _).plus_ _ _).plus_ _ _).plus_ _ _) (by omega) ?_; intro A5 n5 k5 bs5 m5 ho5 _)
  go_ret
  refine RetB.mk ?_ (belowP (belowP (belowP (belowP (belowP ((Below.refl _ _).alloc (Nat.le_refl _) _) _ _) _ _) _ _) _ _) _ _)
  have e8 : (8 + (n : Int)).toNat = 8 + n := by omega
  rw [e8] at ho5
  simpa using ho5.mono (base' := w.heap.size) (by simp [size_plus]; omega)
end Go.Proofs.Yticlohlpccollaa
