/- Contracts of icmp.Parse and its reference. -/
import Derived.Test.YtldecdeiibfekaaIcmp
import Derived.Test.YtldecdeiibfekaaRef01
namespace Go.Proofs.Ytldecdeiibfekaa
open Go.RowKit
set_option linter.unusedVariables false
attribute [local go_sem ↓] sliced_cut
attribute [local go_sem] cutA_zero

/-- a new message, and a second result -/
def RetM2 (w : World) (ty code sum word : Int) (l : List UInt8) (v : Value) (e : Ending) (w' : World) : Prop :=
  ∃ A n c bs d, e = .returned (.tuple #[.agg #[.int .u8 ty, .int .u8 code, .int .u16 sum, .int .u32 word, .slice A n c], v]) ∧ w' = plus w bs d ∧ Ob (plus w bs d) w.heap.size A n c l
theorem RetM2.mk {w w' : World} {ty code sum word : Int} {l : List UInt8} {A : Option Addr} {n c : Nat} {v : Value} (ho : Ob w' w.heap.size A n c l) (hb : Below w.heap.size w w') :
    RetM2 w ty code sum word l v (.returned (.tuple #[.agg #[.int .u8 ty, .int .u8 code, .int .u16 sum, .int .u32 word, .slice A n c], v])) w' := by
  obtain ⟨bs, d, rfl⟩ := plus_of hb
  exact ⟨A, n, c, bs, d, rfl, rfl, ho⟩

theorem icmpParse_short (A : Option Addr) (n c : Nat) (l : List UInt8) (w : World) (hr : Rb w A n c l) (hn : n < 8) : Calls Try.prog 18 #[.slice A n c] w (RetM2 w 0 0 0 0 [] (.int .i64 20)) := by
  go_enter Try.func18, Try.ntmps18
  go_wp2
  exact bodyPost_ret (v := .tuple #[.agg #[.int .u8 0, .int .u8 0, .int .u16 0, .int .u32 0, .slice none 0 0], .int .i64 20]) (by simp [results, Try.results18, go_sem]) rfl (RetM2.mk Ob.nil_ ((Below.refl _ _).alloc (Nat.le_refl _) _))

set_option maxHeartbeats 2000000 in
theorem icmpParse_any (A : Option Addr) (n c : Nat) (l : List UInt8) (w : World) (hr : Rb w A n c l) (h8 : 8 ≤ n) (hn : n ≤ 1000000) :
    Calls Try.prog 18 #[.slice A n c] w (RetM2 w (num (l.take 1) : Nat) (num ((l.drop 1).take 1) : Nat) (num ((l.drop 2).take 2) : Nat) (num ((l.drop 4).take 4) : Nat) (l.drop 8) (.int .i64 0)) := by
  have hc := hr.cap
  have h8i : (8 : Int) ≤ (n : Int) := by omega
  go_enter Try.func18, Try.ntmps18
  go_wp2_with fail
  refine (read_any _ _ _ (l.take 8) _ ((hr.take h8).alloc _) (by omega)).mono ?_
  rintro e w1 ⟨r, bs1, d1, rfl, rfl, hr1, hR1⟩
  have hl8 : (l.take 8).length = 8 := by rw [List.length_take, hr.1]; omega
  have HL := Lib.hid hl8
  clear hl8
  go_wp2_with fail
  refine (byteP _ _ _ r _ false hR1 hr1 (by rw [HL.out]; omega) (by rw [HL.out]; omega)).mono ?_
  rintro e w1 ⟨bs2, d2, rfl, rfl, hR2, -⟩
  go_wp2_with fail
  refine (byteP _ _ _ r _ false hR2 hr1 (by rw [List.length_drop, HL.out]; omega) (by rw [List.length_drop, HL.out]; omega)).mono ?_
  rintro e w1 ⟨bs3, d3, rfl, rfl, hR3, -⟩
  go_wp2_with fail
  refine (wordP _ _ _ r _ false hR3 hr1 (by simp only [List.length_drop, HL.out]; omega) (by simp only [List.length_drop, HL.out]; omega)).mono ?_
  rintro e w1 ⟨bs4, d4, rfl, rfl, hR4, -⟩
  go_wp2_with fail
  refine (longP _ _ _ r _ false hR4 hr1 (by simp only [List.length_drop, HL.out]; omega) (by simp only [List.length_drop, HL.out]; omega)).mono ?_
  rintro e w1 ⟨bs5, d5, rfl, rfl, -, -⟩
  go_wp2_with fail
  refine (clone_any _ _ _ (l.drop 8) _ (((hr.cut h8).alloc _).plus_ _ _ |>.alloc _) (by omega)).mono ?_
  rintro e w1 ⟨A1, n1, c1, bs6, d6, rfl, rfl, ho6⟩
  go_wp2
  refine bodyPost_ret (v := .tuple #[.agg #[.int .u8 (num (l.take 1) : Nat), .int .u8 (num ((l.drop 1).take 1) : Nat), .int .u16 (num ((l.drop 2).take 2) : Nat), .int .u32 (num ((l.drop 4).take 4) : Nat), .slice A1 n1 c1], .int .i64 0])
    (by simp [results, Try.results18, go_sem, List.drop_take, List.take_take, ← List.drop_one]) rfl (RetM2.mk ?_ ?_)
  · exact (ho6.swap (Nat.le_refl _) (by simp [size_plus])).mono (by simp [size_plus]; omega)
  · exact toPlus ((toPlus ((Below.refl _ _).alloc (Nat.le_refl _) _) (by simp) _ _).alloc (by simp [size_plus]; omega) _) (by simp [size_plus]; omega) _ _

end Go.Proofs.Ytldecdeiibfekaa
