/- ref03.Bytes, addr.Of, headers of IPv6: Right, Bytes. -/
import Derived.Test.YtldecdeiibfekaaCom
import Derived.Test.YtldecdeiibfekaaAddr
import Derived.Test.YtldecdeiibfekaaJoi
import Derived.Test.YtldecdeiibfekaaOwn
namespace Go.Proofs.Ytldecdeiibfekaa
open Go.RowKit
set_option linter.unusedVariables false
set_option linter.unusedSimpArgs false
attribute [local go_sem ↓] sliced_cut
attribute [local go_sem] cutA_zero

/-- the bytes of a header; x0, x1: its first two bytes -/
def ip6R (x0 x1 lb ln nx ht : Nat) (s6 : Bool) (sh sl : Nat) (d6 : Bool) (dh dl : Nat) : List UInt8 := ([[UInt8.ofNat x0, UInt8.ofNat x1], (dig (lb) 2), (dig (ln) 2), [UInt8.ofNat (nx), UInt8.ofNat (ht)], (adrB s6 sh sl), (adrB d6 dh dl)]).flatten
def r6 (lb : Nat) (ln : Int) (s6 d6 : Bool) : Bool := decide (lb < 1048576) && (decide (0 ≤ ln) && (decide (ln < 65536) && (s6 && d6)))
theorem r6_true {lb : Nat} {ln : Int} {s6 d6 : Bool} : r6 lb ln s6 d6 = true ↔ lb < 1048576 ∧ 0 ≤ ln ∧ ln < 65536 ∧ s6 = true ∧ d6 = true := by
  simp [r6]
set_option maxHeartbeats 1000000 in
set_option maxRecDepth 100000 in
theorem ip6Right (cl lb : Nat) (ln : Int) (nx ht : Nat) (s6 : Bool) (sh sl : Nat) (d6 : Bool) (dh dl : Nat) (w : World) (hl : lb < 4294967296) (hi : -9223372036854775808 ≤ ln ∧ ln ≤ 9223372036854775807) : Calls Try.prog 169 #[.agg #[.int .u8 (cl : Int), .int .u32 (lb : Int), .int .i64 ln, .int .u8 (nx : Int), .int .u8 (ht : Int), .bool s6, .int .u64 (sh : Int), .int .u64 (sl : Int), .bool d6, .int .u64 (dh : Int), .int .u64 (dl : Int)]] w (RetV w (.bool (r6 lb ln s6 d6))) := by
  unfold r6
  by_cases c1 : lb < 1048576
  · have t1 : decide (lb ≤ 1048575) = true := by simp; omega
    by_cases c2 : 0 ≤ ln
    · have t2 : decide (0 ≤ ln) = true := by simpa using c2
      by_cases c3 : ln < 65536
      · have t3 : decide (ln ≤ 65535) = true := by simp; omega
        cases s6
        · go_enter Try.func169, Try.ntmps169
          go_wp2
          go_ret
          exact RetV.is_ (by simp) (Below.allocS (Below.refl _ _) _)
        · go_enter Try.func169, Try.ntmps169
          go_wp2
          go_ret
          exact RetV.is_ (by simp [c1, c2, c3]) (Below.allocS (Below.refl _ _) _)
      · have t3 : decide (ln ≤ 65535) = false := by simp; omega
        go_enter Try.func169, Try.ntmps169
        go_wp2
        go_ret
        exact RetV.is_ (by simp; intros; omega) (Below.allocS (Below.refl _ _) _)
    · have t2 : decide (0 ≤ ln) = false := by simpa using c2
      go_enter Try.func169, Try.ntmps169
      go_wp2
      go_ret
      exact RetV.is_ (by simp [c2]) (Below.allocS (Below.refl _ _) _)
  · have t1 : decide (lb ≤ 1048575) = false := by simp; omega
    go_enter Try.func169, Try.ntmps169
    go_wp2
    go_ret
    exact RetV.is_ (by simp [c1]) (Below.allocS (Below.refl _ _) _)
/-- the bytes of a header -/
def ip6B (cl lb ln nx ht : Nat) (sh sl dh dl : Nat) : List UInt8 := dig (1610612736 + cl * 1048576 + lb) 4 ++ dig ln 2 ++ dig nx 1 ++ dig ht 1 ++ (dig sh 8 ++ dig sl 8) ++ (dig dh 8 ++ dig dl 8)
theorem ip6B_length (cl lb ln nx ht : Nat) (sh sl dh dl : Nat) : (ip6B cl lb ln nx ht sh sl dh dl).length = 40 := by simp [ip6B, dig_length]
theorem ip6R_B (cl lb ln nx ht : Nat) (sh sl dh dl : Nat) (h1 : cl < 256) (h2 : lb < 1048576) (h4 : nx < 256) (h5 : ht < 256) : ip6R (96 + cl / 16) (cl % 16 * 16 + lb / 65536) lb ln nx ht true sh sl true dh dl = ip6B cl lb ln nx ht sh sl dh dl := by
  have e : dig (1610612736 + cl * 1048576 + lb) 4 = [UInt8.ofNat (96 + cl / 16), UInt8.ofNat (cl % 16 * 16 + lb / 65536)] ++ dig lb 2 := by
    simp only [dig, List.nil_append, List.cons_append, List.append_assoc]
    rw [ofNat_eq ((1610612736 + cl * 1048576 + lb) / 256 / 256 / 256 % 256) (96 + cl / 16) (by omega), ofNat_eq ((1610612736 + cl * 1048576 + lb) / 256 / 256 % 256) (cl % 16 * 16 + lb / 65536) (by omega), ofNat_eq ((1610612736 + cl * 1048576 + lb) / 256 % 256) (lb / 256 % 256) (by omega), ofNat_eq ((1610612736 + cl * 1048576 + lb) % 256) (lb % 256) (by omega)]
  unfold ip6B ip6R
  rw [e, dig1 nx h4, dig1 ht h5]
  simp [adrB]
theorem first_or (cl lb : Nat) (h1 : cl < 256) (h2 : lb < 1048576) : bits .or .u64 (bits .or .u64 1610612736 ((cl : Int) * 1048576)) (lb : Int) = ((1610612736 + cl * 1048576 + lb : Nat) : Int) := by
  have e1 := u64_or_nat 1610612736 (cl * 1048576) (by omega) (by omega)
  rw [nat_join 28 1610612736 (cl * 1048576) (by decide) (by omega)] at e1
  have e1' : bits .or .u64 1610612736 ((cl : Int) * 1048576) = ((1610612736 + cl * 1048576 : Nat) : Int) := by simpa using e1
  rw [e1', u64_or_nat _ _ (by omega) (by omega), nat_join 20 _ _ (by omega) (by omega)]
set_option maxHeartbeats 4000000 in
set_option maxRecDepth 100000 in
theorem ip6Bytes_yes (cl lb ln nx ht : Nat) (sh sl dh dl : Nat) (w : World) (h1 : cl < 256) (h2 : lb < 1048576) (h3 : ln < 65536) (h4 : nx < 256) (h5 : ht < 256) (k1 : sh < 18446744073709551616) (k2 : sl < 18446744073709551616) (k3 : dh < 18446744073709551616) (k4 : dl < 18446744073709551616) : Calls Try.prog 170 #[.agg #[.int .u8 (cl : Int), .int .u32 (lb : Int), .int .i64 (ln : Int), .int .u8 (nx : Int), .int .u8 (ht : Int), .bool true, .int .u64 (sh : Int), .int .u64 (sl : Int), .bool true, .int .u64 (dh : Int), .int .u64 (dl : Int)]] w (RetB w (ip6B cl lb ln nx ht sh sl dh dl)) := by
  have HR := Lib.hid (fun w => ip6Right cl lb (ln : Int) nx ht true sh sl true dh dl w (by omega) (by omega))
  rw [show r6 lb (ln : Int) true true = true from r6_true.2 ⟨h2, by omega, by omega, rfl, rfl⟩] at HR
  have HO := first_or cl lb h1 h2
  have hX : 1610612736 + cl * 1048576 + lb < 18446744073709551616 := by omega
  unfold ip6B
  generalize 1610612736 + cl * 1048576 + lb = X at *
  go_enter Try.func170, Try.ntmps170
  go_wp2_with fail
  refine (HR.out _).mono ?_
  rintro e w1 ⟨bs0, m0, rfl, rfl⟩
  go_wp2_with fail
  refine (put_full _ _ _ [] X 4 _ Rb.nil_ (by omega) (by omega) (by omega) (by omega)).mono ?_
  rintro e w1 ⟨A1, n1, bs1, m1, rfl, rfl, ho1⟩
  have l1 : n1 ≤ 100 := by rw [← ho1.1]; simp [dig_length]
  go_wp2_with fail
  refine (put_full _ _ _ _ ln 2 _ ho1.rb (by omega) (by omega) (by omega) (by omega)).mono ?_
  rintro e w1 ⟨A2, n2, bs2, m2, rfl, rfl, ho2⟩
  have l2 : n2 ≤ 100 := by rw [← ho2.1]; simp [dig_length]
  go_wp2_with fail
  refine (put_full _ _ _ _ nx 1 _ ho2.rb (by omega) (by omega) (by omega) (by omega)).mono ?_
  rintro e w1 ⟨A3, n3, bs3, m3, rfl, rfl, ho3⟩
  have l3 : n3 ≤ 100 := by rw [← ho3.1]; simp [dig_length]
  go_wp2_with fail
  refine (put_full _ _ _ _ ht 1 _ ho3.rb (by omega) (by omega) (by omega) (by omega)).mono ?_
  rintro e w1 ⟨A4, n4, bs4, m4, rfl, rfl, ho4⟩
  have l4 : n4 ≤ 100 := by rw [← ho4.1]; simp [dig_length]
  go_wp2_with fail
  refine (adrBytes_any true sh sl _ k1 k2).mono ?_
  rintro e w1 ⟨A5, n5, bs5, m5, rfl, rfl, ho5⟩
  have l5 : n5 ≤ 100 := by rw [← ho5.1]; have := adrB_length true sh sl; omega
  go_wp2_with (at_builtin; refine wpList_appP _ bt rfl (.tmp 32) (.tmp 35) rfl (by exact belowP (below_plus _ bs4 m4) bs5 m5) rfl (ho4.plus_ bs5 m5) rfl ho5.rb (by omega) ?_; intro A6 n6 k6 bs6 m6 ho6 hg6)
  have l6 : n6 ≤ 300 := by rw [← ho6.1]; have := adrB_length true sh sl; simp [dig_length]; omega
  refine (adrBytes_any true dh dl _ k3 k4).mono ?_
  rintro e w1 ⟨A7, n7, bs7, m7, rfl, rfl, ho7⟩
  have l7 : n7 ≤ 100 := by rw [← ho7.1]; have := adrB_length true dh dl; omega
  go_wp2_with (at_builtin; refine wpList_appP _ bt rfl (.tmp 37) (.tmp 40) rfl (by exact belowP (below_plus _ bs6 m6) bs7 m7) rfl (ho6.plus_ bs7 m7) rfl ho7.rb (by omega) ?_; intro A8 n8 k8 bs8 m8 ho8 hg8)
  go_ret
  refine RetB.mk ?_ (belowP (belowP (belowP (belowP (belowP (Below.allocS (Below.refl _ _) _) _ _) _ _) _ _) _ _) _ _)
  simpa [adrB] using ho8.mono (base' := w.heap.size) (by simp [size_plus]; omega)
set_option maxRecDepth 100000 in
theorem ip6Bytes_no (cl lb : Nat) (ln : Int) (nx ht : Nat) (s6 : Bool) (sh sl : Nat) (d6 : Bool) (dh dl : Nat) (w : World) (hl : lb < 4294967296) (hi : -9223372036854775808 ≤ ln ∧ ln ≤ 9223372036854775807) (hr : r6 lb ln s6 d6 = false) : Calls Try.prog 170 #[.agg #[.int .u8 (cl : Int), .int .u32 (lb : Int), .int .i64 ln, .int .u8 (nx : Int), .int .u8 (ht : Int), .bool s6, .int .u64 (sh : Int), .int .u64 (sl : Int), .bool d6, .int .u64 (dh : Int), .int .u64 (dl : Int)]] w (RetV w (.slice none 0 0)) := by
  have HR := Lib.hid (fun w => ip6Right cl lb ln nx ht s6 sh sl d6 dh dl w hl hi)
  rw [hr] at HR
  go_enter Try.func170, Try.ntmps170
  go_wp2_with (go_at_call 169; refine (HR.out _).mono ?_; rintro e w1 ⟨bs1, d1, rfl, rfl⟩)
  go_ret
  exact RetV.mk (belowP (Below.allocS (Below.refl _ _) _) _ _)
end Go.Proofs.Ytldecdeiibfekaa
