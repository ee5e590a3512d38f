/- Contracts of the package icmp and its reference. -/
import Derived.Test.YtldecdeiibfekaaOctet
namespace Go.Proofs.Ytldecdeiibfekaa
open Go.RowKit
set_option linter.unusedVariables false
attribute [local go_sem ↓] sliced_cut
attribute [local go_sem] cutA_zero

/-- a new message -/
def RetM (w : World) (ty code sum word : Int) (l : List UInt8) (e : Ending) (w' : World) : Prop :=
  ∃ A n c bs d, e = .returned (.agg #[.int .u8 ty, .int .u8 code, .int .u16 sum, .int .u32 word, .slice A n c]) ∧ w' = plus w bs d ∧ Ob (plus w bs d) w.heap.size A n c l
theorem RetM.mk {w w' : World} {ty code sum word : Int} {l : List UInt8} {A : Option Addr} {n c : Nat} (ho : Ob w' w.heap.size A n c l) (hb : Below w.heap.size w w') :
    RetM w ty code sum word l (.returned (.agg #[.int .u8 ty, .int .u8 code, .int .u16 sum, .int .u32 word, .slice A n c])) w' := by
  obtain ⟨bs, d, rfl⟩ := plus_of hb
  exact ⟨A, n, c, bs, d, rfl, rfl, ho⟩

set_option maxHeartbeats 1000000 in
set_option maxRecDepth 100000 in
theorem icmpBig_any (A : Option Addr) (n c : Nat) (l : List UInt8) (most : Int) (six : Bool) (w : World) (hr : Rb w A n c l) (hn : n ≤ 4000) (h0 : 0 ≤ most) (h1 : most ≤ 65535) :
    Calls Try.prog 90 #[.slice A n c, .int .u16 most, .bool six] w (RetM w (cond six 2 3) (cond six 0 4) 0 most (l.take (cond six 1232 548))) := by
  have hc := hr.cap
  cases six
  · by_cases hlt : 548 < n
    · go_enter Try.func90, Try.ntmps90
      go_wp2_with (go_at_call 95; refine (clone_any _ _ _ (l.take 548) _ (by exact ((hr.take (by omega)).alloc _).alloc _) (by omega)).mono ?_; rintro e w1 ⟨A1, n1, c1, bs1, d1, rfl, rfl, ho1⟩)
      refine bodyPost_ret (v := .agg #[.int .u8 3, .int .u8 4, .int .u16 0, .int .u32 most, .slice A1 n1 c1]) (by simp [results, Try.results90, go_sem]) rfl (RetM.mk ?_ ?_)
      · simp only [cond_false]
        exact (ho1.swap (Nat.le_refl _) (by simp)).mono (by simp; omega)
      · exact toPlus (((Below.refl _ _).alloc (Nat.le_refl _) _).alloc (by simp) _) (by simp; omega) _ _
    · go_enter Try.func90, Try.ntmps90
      go_wp2_with (go_at_call 95; refine (clone_any _ _ _ l _ (by exact (hr.alloc _).alloc _) (by omega)).mono ?_; rintro e w1 ⟨A1, n1, c1, bs1, d1, rfl, rfl, ho1⟩)
      refine bodyPost_ret (v := .agg #[.int .u8 3, .int .u8 4, .int .u16 0, .int .u32 most, .slice A1 n1 c1]) (by simp [results, Try.results90, go_sem]) rfl (RetM.mk ?_ ?_)
      · rw [cond_false, List.take_of_length_le (by rw [hr.1]; omega)]
        exact (ho1.swap (Nat.le_refl _) (by simp)).mono (by simp; omega)
      · exact toPlus (((Below.refl _ _).alloc (Nat.le_refl _) _).alloc (by simp) _) (by simp; omega) _ _
  · by_cases hlt : 1232 < n
    · go_enter Try.func90, Try.ntmps90
      go_wp2_with (go_at_call 95; refine (clone_any _ _ _ (l.take 1232) _ (by exact ((hr.take (by omega)).alloc _).alloc _) (by omega)).mono ?_; rintro e w1 ⟨A1, n1, c1, bs1, d1, rfl, rfl, ho1⟩)
      refine bodyPost_ret (v := .agg #[.int .u8 2, .int .u8 0, .int .u16 0, .int .u32 most, .slice A1 n1 c1]) (by simp [results, Try.results90, go_sem]) rfl (RetM.mk ?_ ?_)
      · simp only [cond_true]
        exact (ho1.swap (Nat.le_refl _) (by simp)).mono (by simp; omega)
      · exact toPlus (((Below.refl _ _).alloc (Nat.le_refl _) _).alloc (by simp) _) (by simp; omega) _ _
    · go_enter Try.func90, Try.ntmps90
      go_wp2_with (go_at_call 95; refine (clone_any _ _ _ l _ (by exact (hr.alloc _).alloc _) (by omega)).mono ?_; rintro e w1 ⟨A1, n1, c1, bs1, d1, rfl, rfl, ho1⟩)
      refine bodyPost_ret (v := .agg #[.int .u8 2, .int .u8 0, .int .u16 0, .int .u32 most, .slice A1 n1 c1]) (by simp [results, Try.results90, go_sem]) rfl (RetM.mk ?_ ?_)
      · rw [cond_true, List.take_of_length_le (by rw [hr.1]; omega)]
        exact (ho1.swap (Nat.le_refl _) (by simp)).mono (by simp; omega)
      · exact toPlus (((Below.refl _ _).alloc (Nat.le_refl _) _).alloc (by simp) _) (by simp; omega) _ _

theorem icmpOf_any (a b c d : Int) (A : Option Addr) (n k : Nat) (w : World) :
    Calls Try.prog 22 #[.agg #[.int .u8 a, .int .u8 b, .int .u16 c, .int .u32 d, .slice A n k]] w fun e w' => e = .returned (.agg #[.int .u8 a, .int .u8 b, .int .u16 c, .int .u32 d, .slice A n k]) ∧ ∃ bs m, w' = plus w bs m := by
  go_enter Try.func22, Try.ntmps22
  go_wp2
  refine bodyPost_ret (v := .agg #[.int .u8 a, .int .u8 b, .int .u16 c, .int .u32 d, .slice A n k]) (by simp [results, Try.results22, go_sem]) rfl ⟨rfl, plus_of ?_⟩
  exact ((Below.refl _ _).alloc (Nat.le_refl _) _).alloc (by simp) _

theorem icmpSame_any (a b c d : Int) (A : Option Addr) (n k : Nat) (A' : Option Addr) (n' k' : Nat) (l : List UInt8) (w : World) (h : Rb w A n k l) (h' : Rb w A' n' k' l) :
    Calls Try.prog 21 #[.agg #[.int .u8 a, .int .u8 b, .int .u16 c, .int .u32 d, .slice A n k], .agg #[.int .u8 a, .int .u8 b, .int .u16 c, .int .u32 d, .slice A' n' k']] w fun e w' => e = .returned (.bool true) ∧ ∃ bs m, w' = plus w bs m := by
  have e1 := fun o1 o2 => run_str bt Try.underlying9 ((h.alloc o1).alloc o2)
  have e2 := fun o1 o2 => run_str bt Try.underlying9 ((h'.alloc o1).alloc o2)
  go_enter Try.func21, Try.ntmps21
  go_wp2
  go_ret
  exact ⟨rfl, plus_of (((Below.refl _ _).alloc (Nat.le_refl _) _).alloc (by simp) _)⟩

set_option maxHeartbeats 1000000 in
theorem icmpBytes_any (a b c d : Int) (A : Option Addr) (n k : Nat) (l : List UInt8) (w : World) (ha : 0 ≤ a ∧ a ≤ 255) (hb : 0 ≤ b ∧ b ≤ 255) (hc : 0 ≤ c ∧ c ≤ 65535) (hd : 0 ≤ d ∧ d ≤ 4294967295) (h : Rb w A n k l) (hn : n ≤ 1000000) :
    Calls Try.prog 19 #[.agg #[.int .u8 a, .int .u8 b, .int .u16 c, .int .u32 d, .slice A n k]] w (RetB w (dig a.toNat 1 ++ dig b.toNat 1 ++ dig c.toNat 2 ++ dig d.toNat 4 ++ l)) := by
  obtain ⟨a0, a1⟩ := ha
  obtain ⟨b0, b1⟩ := hb
  obtain ⟨c0, c1⟩ := hc
  obtain ⟨d0, d1⟩ := hd
  go_enter Try.func19, Try.ntmps19
  go_wp2_with fail
  refine (put_int _ _ _ [] a 1 _ Rb.nil_ (by omega) a0 (by omega) (by omega) (by omega)).mono ?_
  rintro e w1 ⟨A1, n1, k1, bs1, m1, rfl, rfl, ho1⟩
  have l1 : n1 ≤ 100 := by have := ho1.len; simp [dig_length] at this; omega
  go_wp2_with fail
  refine (put_int _ _ _ _ b 1 _ ho1.rb (by omega) b0 (by omega) (by omega) (by omega)).mono ?_
  rintro e w2 ⟨A2, n2, k2, bs2, m2, rfl, rfl, ho2⟩
  have l2 : n2 ≤ 100 := by have := ho2.len; simp [dig_length] at this; omega
  go_wp2_with fail
  refine (put_int _ _ _ _ c 2 _ ho2.rb (by omega) c0 (by omega) (by omega) (by omega)).mono ?_
  rintro e w3 ⟨A3, n3, k3, bs3, m3, rfl, rfl, ho3⟩
  have l3 : n3 ≤ 100 := by have := ho3.len; simp [dig_length] at this; omega
  go_wp2_with fail
  refine (put_int _ _ _ _ d 4 _ ho3.rb (by omega) d0 (by omega) (by omega) (by omega)).mono ?_
  rintro e w4 ⟨A4, n4, k4, bs4, m4, rfl, rfl, ho4⟩
  have l4 : n4 ≤ 100 := by have := ho4.len; simp [dig_length] at this; omega
  go_wp2_with (at_builtin; refine wpList_appP _ bt rfl (.tmp 23) (.tmp 25) rfl (by exact below_plus _ bs4 m4) rfl ho4 rfl (by exact ((((h.alloc _).plus_ _ _).plus_ _ _).plus_ _ _).plus_ _ _) (by omega) ?_; intro A5 n5 k5 bs5 m5 ho5 _)
  go_ret
  refine RetB.mk ?_ (toPlus (toPlus (toPlus (toPlus ((Below.refl _ _).alloc (Nat.le_refl _) _) (by simp) _ _) (by simp [size_plus]; omega) _ _) (by simp [size_plus]; omega) _ _) (by simp [size_plus]; omega) _ _)
  simpa using ho5.mono (base' := w.heap.size) (by simp [size_plus]; omega)
end Go.Proofs.Ytldecdeiibfekaa
