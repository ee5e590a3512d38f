/- Contracts of tcp.Parse. -/
import Derived.Test.YtfmkndemkpecpaaOctK
import Derived.Test.YtfmkndemkpecpaaAgg
import Derived.Deep.RegionWith
import Derived.Deep.DeepCutAuto
namespace Go.Proofs.Ytfmkndemkpecpaa
open Go.RowKit
set_option linter.unusedVariables false
set_option linter.unusedSimpArgs false
attribute [local go_sem ↓] sliced_cut
attribute [local go_sem] cutA_zero

theorem szSeg (cs : List Value) (h : cs.length = 10) : (Try.prog.info? 47).map (·.size) = some cs.length := by rw [h]; kernel_rfl
set_option maxRecDepth 100000 in
theorem run_buildSeg0 (w : World) : (Instr.build 47 #[]).run Try.prog w = .ok (.agg #[.int .u16 0, .int .u16 0, .int .u32 0, .int .u32 0, .int .u8 0, .int .u16 0, .int .u16 0, .int .u16 0, .slice none 0 0, .slice none 0 0]) w := by kernel_rfl
/-- a segment in new memory, and a second result -/
def RetSeg (w : World) (x0 x1 x2 x3 x4 x5 x6 x7 : Nat) (l l2 : List UInt8) (v : Value) (e : Ending) (w' : World) : Prop :=
  ∃ A n c A2 n2 c2 bs d, e = .returned (.tuple #[.agg #[.int .u16 x0, .int .u16 x1, .int .u32 x2, .int .u32 x3, .int .u8 x4, .int .u16 x5, .int .u16 x6, .int .u16 x7, .slice A n c, .slice A2 n2 c2], v]) ∧ w' = plus w bs d ∧ Rb (plus w bs d) A n c l ∧ Rb (plus w bs d) A2 n2 c2 l2
theorem RetSeg.mk {w w' : World} {x0 x1 x2 x3 x4 x5 x6 x7 : Nat} {l l2 : List UInt8} {A : Option Addr} {n c : Nat} {A2 : Option Addr} {n2 c2 : Nat} {v : Value} (h1 : Rb w' A n c l) (h2 : Rb w' A2 n2 c2 l2) (hb : Below w.heap.size w w') :
    RetSeg w x0 x1 x2 x3 x4 x5 x6 x7 l l2 v (.returned (.tuple #[.agg #[.int .u16 x0, .int .u16 x1, .int .u32 x2, .int .u32 x3, .int .u8 x4, .int .u16 x5, .int .u16 x6, .int .u16 x7, .slice A n c, .slice A2 n2 c2], v])) w' := by
  obtain ⟨bs, d, rfl⟩ := plus_of hb
  exact ⟨A, n, c, A2, n2, c2, bs, d, rfl, rfl, h1, h2⟩
theorem RetSeg.zero {w w' : World} {v : Value} (hb : Below w.heap.size w w') : RetSeg w 0 0 0 0 0 0 0 0 [] [] v (.returned (.tuple #[.agg #[.int .u16 0, .int .u16 0, .int .u32 0, .int .u32 0, .int .u8 0, .int .u16 0, .int .u16 0, .int .u16 0, .slice none 0 0, .slice none 0 0], v])) w' := RetSeg.mk Rb.nil_ Rb.nil_ hb

theorem tcpParse_short (A : Option Addr) (n c : Nat) (l : List UInt8) (w : World) (hr : Rb w A n c l) (hn : n < 20) : Calls Try.prog 157 #[.slice A n c] w (RetSeg w 0 0 0 0 0 0 0 0 [] [] (.int .i64 20)) := by
  go_enter Try.func157, Try.ntmps157
  go_wp2
  refine bodyPost_ret (v := .tuple #[.agg #[.int .u16 0, .int .u16 0, .int .u32 0, .int .u32 0, .int .u8 0, .int .u16 0, .int .u16 0, .int .u16 0, .slice none 0 0, .slice none 0 0], .int .i64 20]) (by simp [results, Try.results157, go_sem]) rfl (RetSeg.zero ?_)
  repeat (first | exact Below.refl _ _ | refine Below.alloc ?_ (by simp) _)

set_option maxHeartbeats 4000000 in
theorem tcpParse_form1 (A : Option Addr) (n c : Nat) (l : List UInt8) (w : World) (hr : Rb w A n c l) (h20 : 20 ≤ n) (hn : n ≤ 1000000) (x0 : Nat) (x1 : Nat) (x2 : Nat) (x3 : Nat) (xf : Nat) (x4 : Nat) (x5 : Nat) (x6 : Nat) (x7 : Nat) (hx0 : num ((l.drop 0).take 2) = x0) (hx1 : num ((l.drop 2).take 2) = x1) (hx2 : num ((l.drop 4).take 4) = x2) (hx3 : num ((l.drop 8).take 4) = x3) (hxf : num ((l.drop 12).take 1) = xf) (hx4 : num ((l.drop 13).take 1) = x4) (hx5 : num ((l.drop 14).take 2) = x5) (hx6 : num ((l.drop 16).take 2) = x6) (hx7 : num ((l.drop 18).take 2) = x7) (hs : xf / 16 < 5) :
    Calls Try.prog 157 #[.slice A n c] w (RetSeg w 0 0 0 0 0 0 0 0 [] [] (.int .i64 21)) := by
  have hc := hr.cap
  have h20i : (20 : Int) ≤ (n : Int) := by omega
  have hf : xf < 256 := by rw [← hxf]; exact num_lt' l 12 1 256 (by decide)
  have hand := u8_and15 xf hf
  have Hx0 := Lib.hid hx0
  have Hx1 := Lib.hid hx1
  have Hx2 := Lib.hid hx2
  have Hx3 := Lib.hid hx3
  have Hxf := Lib.hid hxf
  have Hx4 := Lib.hid hx4
  have Hx5 := Lib.hid hx5
  have Hx6 := Lib.hid hx6
  have Hx7 := Lib.hid hx7
  clear hx0 hx1 hx2 hx3 hxf hx4 hx5 hx6 hx7
  have t1 : decide (4 * ((xf : Int) / 16) < 20) = true := by simp; omega
  go_enter Try.func157, Try.ntmps157
  go_wp2_with fail
  refine (readK _ _ _ (l.take 20) _ ((hr.take h20).alloc _) (by omega)).mono ?_
  rintro e w1 ⟨r, bs1, d1, rfl, rfl, hr1, hR0⟩
  have HL := Lib.hid (show (l.take 20).length = 20 by rw [List.length_take, hr.1]; omega)
  go_wp2_with fail
  refine (wordK _ _ _ r (l.take 20) 0 x0 hR0 hr1 (by rw [HL.out]; omega) (by rw [HL.out]; omega) (by rw [num_in _ _ _ _ (by omega)]; exact Hx0.out)).mono ?_
  rintro e w1 ⟨bs2, d2, rfl, rfl, hR1, -⟩
  go_wp2_with fail
  refine (wordK _ _ _ r (l.take 20) 2 x1 hR1 hr1 (by rw [HL.out]; omega) (by rw [HL.out]; omega) (by rw [num_in _ _ _ _ (by omega)]; exact Hx1.out)).mono ?_
  rintro e w1 ⟨bs3, d3, rfl, rfl, hR2, -⟩
  go_wp2_with fail
  refine (longK _ _ _ r (l.take 20) 4 x2 hR2 hr1 (by rw [HL.out]; omega) (by rw [HL.out]; omega) (by rw [num_in _ _ _ _ (by omega)]; exact Hx2.out)).mono ?_
  rintro e w1 ⟨bs4, d4, rfl, rfl, hR3, -⟩
  go_wp2_with fail
  refine (longK _ _ _ r (l.take 20) 8 x3 hR3 hr1 (by rw [HL.out]; omega) (by rw [HL.out]; omega) (by rw [num_in _ _ _ _ (by omega)]; exact Hx3.out)).mono ?_
  rintro e w1 ⟨bs5, d5, rfl, rfl, hR4, -⟩
  have hB0 : Below w.heap.size w (plus (w.alloc (.cells #[.int .u16 0, .int .u16 0, .int .u32 0, .int .u32 0, .int .u8 0, .int .u16 0, .int .u16 0, .int .u16 0, .slice none 0 0, .slice none 0 0] 47)) bs5 d5) := belowP ((Below.refl _ _).alloc (Nat.le_refl _) _) _ _
  have hX0 : Bk ((plus (w.alloc (.cells #[.int .u16 0, .int .u16 0, .int .u32 0, .int .u32 0, .int .u8 0, .int .u16 0, .int .u16 0, .int .u16 0, .slice none 0 0, .slice none 0 0] 47)) bs5 d5).alloc (.cells #[.int .u16 (x0 : Nat), .int .u16 (x1 : Nat), .int .u32 (x2 : Nat), .int .u32 (x3 : Nat), .int .u8 0, .int .u16 0, .int .u16 0, .int .u16 0, .slice none 0 0, .slice none 0 0] 47)) (w.heap.size + 1 + bs5.length) 47 [.int .u16 (x0 : Nat), .int .u16 (x1 : Nat), .int .u32 (x2 : Nat), .int .u32 (x3 : Nat), .int .u8 0, .int .u16 0, .int .u16 0, .int .u16 0, .slice none 0 0, .slice none 0 0] := by
    have := Bk.new (plus (w.alloc (.cells #[.int .u16 0, .int .u16 0, .int .u32 0, .int .u32 0, .int .u8 0, .int .u16 0, .int .u16 0, .int .u16 0, .slice none 0 0, .slice none 0 0] 47)) bs5 d5) 47 #[.int .u16 (x0 : Nat), .int .u16 (x1 : Nat), .int .u32 (x2 : Nat), .int .u32 (x3 : Nat), .int .u8 0, .int .u16 0, .int .u16 0, .int .u16 0, .slice none 0 0, .slice none 0 0]
    rw [size_plus, World.size_alloc] at this
    exact this
  have hZ0 : Bk ((plus (w.alloc (.cells #[.int .u16 0, .int .u16 0, .int .u32 0, .int .u32 0, .int .u8 0, .int .u16 0, .int .u16 0, .int .u16 0, .slice none 0 0, .slice none 0 0] 47)) bs5 d5).alloc (.cells #[.int .u16 (x0 : Nat), .int .u16 (x1 : Nat), .int .u32 (x2 : Nat), .int .u32 (x3 : Nat), .int .u8 0, .int .u16 0, .int .u16 0, .int .u16 0, .slice none 0 0, .slice none 0 0] 47)) w.heap.size 47 [.int .u16 0, .int .u16 0, .int .u32 0, .int .u32 0, .int .u8 0, .int .u16 0, .int .u16 0, .int .u16 0, .slice none 0 0, .slice none 0 0] := ((Bk.new w 47 #[.int .u16 0, .int .u16 0, .int .u32 0, .int .u32 0, .int .u8 0, .int .u16 0, .int .u16 0, .int .u16 0, .slice none 0 0, .slice none 0 0]).later (below_plus _ _ _)).alloc _
  have hlt : r < w.heap.size + 1 + bs5.length := by have := hR4.lt; simpa [size_plus] using this
  have hR5 := hR4.later ((Below.refl _ _).alloc (Nat.le_refl _) (.cells #[.int .u16 (x0 : Nat), .int .u16 (x1 : Nat), .int .u32 (x2 : Nat), .int .u32 (x3 : Nat), .int .u8 0, .int .u16 0, .int .u16 0, .int .u16 0, .slice none 0 0, .slice none 0 0] 47))
  have hB1 := hB0.alloc hB0.size (.cells #[.int .u16 (x0 : Nat), .int .u16 (x1 : Nat), .int .u32 (x2 : Nat), .int .u32 (x3 : Nat), .int .u8 0, .int .u16 0, .int .u16 0, .int .u16 0, .slice none 0 0, .slice none 0 0] 47)
  have hr2 : w.heap.size < r := by have := hr1; simp at this; omega
  go_wp2_with fail
  generalize (plus (w.alloc (.cells #[.int .u16 0, .int .u16 0, .int .u32 0, .int .u32 0, .int .u8 0, .int .u16 0, .int .u16 0, .int .u16 0, .slice none 0 0, .slice none 0 0] 47)) bs5 d5).alloc _ = W1 at hX0 hZ0 hR5 hB1 ⊢
  generalize w.heap.size + 1 + bs5.length = g at *
  refine (byteG _ r (l.take 20) 12 xf hR5 (by rw [HL.out]; omega) (by rw [HL.out]; omega) (by rw [num_in _ _ _ _ (by omega)]; exact Hxf.out)).mono ?_
  rintro e w1 ⟨rfl, hR6, hg6⟩
  have hX6 := hX0.grown hg6 (by simp; omega)
  have hZ6 := hZ0.grown hg6 (by simp; omega)
  have hB6 := hB1.trans (below_of_grown hg6 hB1.size (fun k hk => by injection hk with hk; omega))
  clear hg6 hX0 hZ0 hR5 hB1 hR0 hR1 hR2 hR3 hR4 hB0
  go_wp2_with (first
    | (refine at_op (.build 47 #[]) rfl ?_; refine wpList_build 47 [] rfl rfl (.agg #[.int .u16 0, .int .u16 0, .int .u32 0, .int .u32 0, .int .u8 0, .int .u16 0, .int .u16 0, .int .u16 0, .slice none 0 0, .slice none 0 0]) ?_ ?_; exact run_buildSeg0 _)
    | (refine at_op (.store 47 (.tmp 2) (.tmp 37)) rfl ?_; refine wpList_stA (t := 47) 47 (.tmp 2) (.tmp 37) rfl rfl [.int .u16 0, .int .u16 0, .int .u32 0, .int .u32 0, .int .u8 0, .int .u16 0, .int .u16 0, .int .u16 0, .slice none 0 0, .slice none 0 0] [.int .u16 0, .int .u16 0, .int .u32 0, .int .u32 0, .int .u8 0, .int .u16 0, .int .u16 0, .int .u16 0, .slice none 0 0, .slice none 0 0] rfl (by simp [Value.oneCell']) rfl rfl hZ6 (szSeg _ rfl) ?_; intro w2 hb2 hg2))
  refine bodyPost_agg2 Try.results157 rfl rfl hb2.range Try.underlying47 rfl (szSeg _ rfl) rfl (RetSeg.zero ?_)
  exact below_grown hB6 hg2 (Nat.le_refl _)

set_option maxHeartbeats 4000000 in
theorem tcpParse_form2 (A : Option Addr) (n c : Nat) (l : List UInt8) (w : World) (hr : Rb w A n c l) (h20 : 20 ≤ n) (hn : n ≤ 1000000) (x0 : Nat) (x1 : Nat) (x2 : Nat) (x3 : Nat) (xf : Nat) (x4 : Nat) (x5 : Nat) (x6 : Nat) (x7 : Nat) (hx0 : num ((l.drop 0).take 2) = x0) (hx1 : num ((l.drop 2).take 2) = x1) (hx2 : num ((l.drop 4).take 4) = x2) (hx3 : num ((l.drop 8).take 4) = x3) (hxf : num ((l.drop 12).take 1) = xf) (hx4 : num ((l.drop 13).take 1) = x4) (hx5 : num ((l.drop 14).take 2) = x5) (hx6 : num ((l.drop 16).take 2) = x6) (hx7 : num ((l.drop 18).take 2) = x7) (hs : 5 ≤ xf / 16) (hm : xf % 16 ≠ 0) :
    Calls Try.prog 157 #[.slice A n c] w (RetSeg w 0 0 0 0 0 0 0 0 [] [] (.int .i64 21)) := by
  have hc := hr.cap
  have h20i : (20 : Int) ≤ (n : Int) := by omega
  have hf : xf < 256 := by rw [← hxf]; exact num_lt' l 12 1 256 (by decide)
  have hand := u8_and15 xf hf
  have Hx0 := Lib.hid hx0
  have Hx1 := Lib.hid hx1
  have Hx2 := Lib.hid hx2
  have Hx3 := Lib.hid hx3
  have Hxf := Lib.hid hxf
  have Hx4 := Lib.hid hx4
  have Hx5 := Lib.hid hx5
  have Hx6 := Lib.hid hx6
  have Hx7 := Lib.hid hx7
  clear hx0 hx1 hx2 hx3 hxf hx4 hx5 hx6 hx7
  have t1 : decide (4 * ((xf : Int) / 16) < 20) = false := by simp; omega
  have t2 : (((xf % 16 : Nat) : Int) != 0) = true := by rw [bne_iff_ne]; omega
  go_enter Try.func157, Try.ntmps157
  go_wp2_with fail
  refine (readK _ _ _ (l.take 20) _ ((hr.take h20).alloc _) (by omega)).mono ?_
  rintro e w1 ⟨r, bs1, d1, rfl, rfl, hr1, hR0⟩
  have HL := Lib.hid (show (l.take 20).length = 20 by rw [List.length_take, hr.1]; omega)
  go_wp2_with fail
  refine (wordK _ _ _ r (l.take 20) 0 x0 hR0 hr1 (by rw [HL.out]; omega) (by rw [HL.out]; omega) (by rw [num_in _ _ _ _ (by omega)]; exact Hx0.out)).mono ?_
  rintro e w1 ⟨bs2, d2, rfl, rfl, hR1, -⟩
  go_wp2_with fail
  refine (wordK _ _ _ r (l.take 20) 2 x1 hR1 hr1 (by rw [HL.out]; omega) (by rw [HL.out]; omega) (by rw [num_in _ _ _ _ (by omega)]; exact Hx1.out)).mono ?_
  rintro e w1 ⟨bs3, d3, rfl, rfl, hR2, -⟩
  go_wp2_with fail
  refine (longK _ _ _ r (l.take 20) 4 x2 hR2 hr1 (by rw [HL.out]; omega) (by rw [HL.out]; omega) (by rw [num_in _ _ _ _ (by omega)]; exact Hx2.out)).mono ?_
  rintro e w1 ⟨bs4, d4, rfl, rfl, hR3, -⟩
  go_wp2_with fail
  refine (longK _ _ _ r (l.take 20) 8 x3 hR3 hr1 (by rw [HL.out]; omega) (by rw [HL.out]; omega) (by rw [num_in _ _ _ _ (by omega)]; exact Hx3.out)).mono ?_
  rintro e w1 ⟨bs5, d5, rfl, rfl, hR4, -⟩
  have hB0 : Below w.heap.size w (plus (w.alloc (.cells #[.int .u16 0, .int .u16 0, .int .u32 0, .int .u32 0, .int .u8 0, .int .u16 0, .int .u16 0, .int .u16 0, .slice none 0 0, .slice none 0 0] 47)) bs5 d5) := belowP ((Below.refl _ _).alloc (Nat.le_refl _) _) _ _
  have hX0 : Bk ((plus (w.alloc (.cells #[.int .u16 0, .int .u16 0, .int .u32 0, .int .u32 0, .int .u8 0, .int .u16 0, .int .u16 0, .int .u16 0, .slice none 0 0, .slice none 0 0] 47)) bs5 d5).alloc (.cells #[.int .u16 (x0 : Nat), .int .u16 (x1 : Nat), .int .u32 (x2 : Nat), .int .u32 (x3 : Nat), .int .u8 0, .int .u16 0, .int .u16 0, .int .u16 0, .slice none 0 0, .slice none 0 0] 47)) (w.heap.size + 1 + bs5.length) 47 [.int .u16 (x0 : Nat), .int .u16 (x1 : Nat), .int .u32 (x2 : Nat), .int .u32 (x3 : Nat), .int .u8 0, .int .u16 0, .int .u16 0, .int .u16 0, .slice none 0 0, .slice none 0 0] := by
    have := Bk.new (plus (w.alloc (.cells #[.int .u16 0, .int .u16 0, .int .u32 0, .int .u32 0, .int .u8 0, .int .u16 0, .int .u16 0, .int .u16 0, .slice none 0 0, .slice none 0 0] 47)) bs5 d5) 47 #[.int .u16 (x0 : Nat), .int .u16 (x1 : Nat), .int .u32 (x2 : Nat), .int .u32 (x3 : Nat), .int .u8 0, .int .u16 0, .int .u16 0, .int .u16 0, .slice none 0 0, .slice none 0 0]
    rw [size_plus, World.size_alloc] at this
    exact this
  have hZ0 : Bk ((plus (w.alloc (.cells #[.int .u16 0, .int .u16 0, .int .u32 0, .int .u32 0, .int .u8 0, .int .u16 0, .int .u16 0, .int .u16 0, .slice none 0 0, .slice none 0 0] 47)) bs5 d5).alloc (.cells #[.int .u16 (x0 : Nat), .int .u16 (x1 : Nat), .int .u32 (x2 : Nat), .int .u32 (x3 : Nat), .int .u8 0, .int .u16 0, .int .u16 0, .int .u16 0, .slice none 0 0, .slice none 0 0] 47)) w.heap.size 47 [.int .u16 0, .int .u16 0, .int .u32 0, .int .u32 0, .int .u8 0, .int .u16 0, .int .u16 0, .int .u16 0, .slice none 0 0, .slice none 0 0] := ((Bk.new w 47 #[.int .u16 0, .int .u16 0, .int .u32 0, .int .u32 0, .int .u8 0, .int .u16 0, .int .u16 0, .int .u16 0, .slice none 0 0, .slice none 0 0]).later (below_plus _ _ _)).alloc _
  have hlt : r < w.heap.size + 1 + bs5.length := by have := hR4.lt; simpa [size_plus] using this
  have hR5 := hR4.later ((Below.refl _ _).alloc (Nat.le_refl _) (.cells #[.int .u16 (x0 : Nat), .int .u16 (x1 : Nat), .int .u32 (x2 : Nat), .int .u32 (x3 : Nat), .int .u8 0, .int .u16 0, .int .u16 0, .int .u16 0, .slice none 0 0, .slice none 0 0] 47))
  have hB1 := hB0.alloc hB0.size (.cells #[.int .u16 (x0 : Nat), .int .u16 (x1 : Nat), .int .u32 (x2 : Nat), .int .u32 (x3 : Nat), .int .u8 0, .int .u16 0, .int .u16 0, .int .u16 0, .slice none 0 0, .slice none 0 0] 47)
  have hr2 : w.heap.size < r := by have := hr1; simp at this; omega
  go_wp2_with fail
  generalize (plus (w.alloc (.cells #[.int .u16 0, .int .u16 0, .int .u32 0, .int .u32 0, .int .u8 0, .int .u16 0, .int .u16 0, .int .u16 0, .slice none 0 0, .slice none 0 0] 47)) bs5 d5).alloc _ = W1 at hX0 hZ0 hR5 hB1 ⊢
  generalize w.heap.size + 1 + bs5.length = g at *
  refine (byteG _ r (l.take 20) 12 xf hR5 (by rw [HL.out]; omega) (by rw [HL.out]; omega) (by rw [num_in _ _ _ _ (by omega)]; exact Hxf.out)).mono ?_
  rintro e w1 ⟨rfl, hR6, hg6⟩
  have hX6 := hX0.grown hg6 (by simp; omega)
  have hZ6 := hZ0.grown hg6 (by simp; omega)
  have hB6 := hB1.trans (below_of_grown hg6 hB1.size (fun k hk => by injection hk with hk; omega))
  clear hg6 hX0 hZ0 hR5 hB1 hR0 hR1 hR2 hR3 hR4 hB0
  go_wp2_with (first
    | (refine at_op (.build 47 #[]) rfl ?_; refine wpList_build 47 [] rfl rfl (.agg #[.int .u16 0, .int .u16 0, .int .u32 0, .int .u32 0, .int .u8 0, .int .u16 0, .int .u16 0, .int .u16 0, .slice none 0 0, .slice none 0 0]) ?_ ?_; exact run_buildSeg0 _)
    | (refine at_op (.store 47 (.tmp 2) (.tmp 37)) rfl ?_; refine wpList_stA (t := 47) 47 (.tmp 2) (.tmp 37) rfl rfl [.int .u16 0, .int .u16 0, .int .u32 0, .int .u32 0, .int .u8 0, .int .u16 0, .int .u16 0, .int .u16 0, .slice none 0 0, .slice none 0 0] [.int .u16 0, .int .u16 0, .int .u32 0, .int .u32 0, .int .u8 0, .int .u16 0, .int .u16 0, .int .u16 0, .slice none 0 0, .slice none 0 0] rfl (by simp [Value.oneCell']) rfl rfl hZ6 (szSeg _ rfl) ?_; intro w2 hb2 hg2))
  refine bodyPost_agg2 Try.results157 rfl rfl hb2.range Try.underlying47 rfl (szSeg _ rfl) rfl (RetSeg.zero ?_)
  exact below_grown hB6 hg2 (Nat.le_refl _)

set_option maxHeartbeats 4000000 in
theorem tcpParse_short2 (A : Option Addr) (n c : Nat) (l : List UInt8) (w : World) (hr : Rb w A n c l) (h20 : 20 ≤ n) (hn : n ≤ 1000000) (x0 : Nat) (x1 : Nat) (x2 : Nat) (x3 : Nat) (xf : Nat) (x4 : Nat) (x5 : Nat) (x6 : Nat) (x7 : Nat) (hx0 : num ((l.drop 0).take 2) = x0) (hx1 : num ((l.drop 2).take 2) = x1) (hx2 : num ((l.drop 4).take 4) = x2) (hx3 : num ((l.drop 8).take 4) = x3) (hxf : num ((l.drop 12).take 1) = xf) (hx4 : num ((l.drop 13).take 1) = x4) (hx5 : num ((l.drop 14).take 2) = x5) (hx6 : num ((l.drop 16).take 2) = x6) (hx7 : num ((l.drop 18).take 2) = x7) (hs : 5 ≤ xf / 16) (hm : xf % 16 = 0) (hz : n < 4 * (xf / 16)) :
    Calls Try.prog 157 #[.slice A n c] w (RetSeg w 0 0 0 0 0 0 0 0 [] [] (.int .i64 20)) := by
  have hc := hr.cap
  have h20i : (20 : Int) ≤ (n : Int) := by omega
  have hf : xf < 256 := by rw [← hxf]; exact num_lt' l 12 1 256 (by decide)
  have hand := u8_and15 xf hf
  have Hx0 := Lib.hid hx0
  have Hx1 := Lib.hid hx1
  have Hx2 := Lib.hid hx2
  have Hx3 := Lib.hid hx3
  have Hxf := Lib.hid hxf
  have Hx4 := Lib.hid hx4
  have Hx5 := Lib.hid hx5
  have Hx6 := Lib.hid hx6
  have Hx7 := Lib.hid hx7
  clear hx0 hx1 hx2 hx3 hxf hx4 hx5 hx6 hx7
  rw [hm] at hand
  clear hm
  have t1 : decide (4 * ((xf : Int) / 16) < 20) = false := by simp; omega
  have t2 : decide ((n : Int) < 4 * ((xf : Int) / 16)) = true := by simp; omega
  go_enter Try.func157, Try.ntmps157
  go_wp2_with fail
  refine (readK _ _ _ (l.take 20) _ ((hr.take h20).alloc _) (by omega)).mono ?_
  rintro e w1 ⟨r, bs1, d1, rfl, rfl, hr1, hR0⟩
  have HL := Lib.hid (show (l.take 20).length = 20 by rw [List.length_take, hr.1]; omega)
  go_wp2_with fail
  refine (wordK _ _ _ r (l.take 20) 0 x0 hR0 hr1 (by rw [HL.out]; omega) (by rw [HL.out]; omega) (by rw [num_in _ _ _ _ (by omega)]; exact Hx0.out)).mono ?_
  rintro e w1 ⟨bs2, d2, rfl, rfl, hR1, -⟩
  go_wp2_with fail
  refine (wordK _ _ _ r (l.take 20) 2 x1 hR1 hr1 (by rw [HL.out]; omega) (by rw [HL.out]; omega) (by rw [num_in _ _ _ _ (by omega)]; exact Hx1.out)).mono ?_
  rintro e w1 ⟨bs3, d3, rfl, rfl, hR2, -⟩
  go_wp2_with fail
  refine (longK _ _ _ r (l.take 20) 4 x2 hR2 hr1 (by rw [HL.out]; omega) (by rw [HL.out]; omega) (by rw [num_in _ _ _ _ (by omega)]; exact Hx2.out)).mono ?_
  rintro e w1 ⟨bs4, d4, rfl, rfl, hR3, -⟩
  go_wp2_with fail
  refine (longK _ _ _ r (l.take 20) 8 x3 hR3 hr1 (by rw [HL.out]; omega) (by rw [HL.out]; omega) (by rw [num_in _ _ _ _ (by omega)]; exact Hx3.out)).mono ?_
  rintro e w1 ⟨bs5, d5, rfl, rfl, hR4, -⟩
  have hB0 : Below w.heap.size w (plus (w.alloc (.cells #[.int .u16 0, .int .u16 0, .int .u32 0, .int .u32 0, .int .u8 0, .int .u16 0, .int .u16 0, .int .u16 0, .slice none 0 0, .slice none 0 0] 47)) bs5 d5) := belowP ((Below.refl _ _).alloc (Nat.le_refl _) _) _ _
  have hX0 : Bk ((plus (w.alloc (.cells #[.int .u16 0, .int .u16 0, .int .u32 0, .int .u32 0, .int .u8 0, .int .u16 0, .int .u16 0, .int .u16 0, .slice none 0 0, .slice none 0 0] 47)) bs5 d5).alloc (.cells #[.int .u16 (x0 : Nat), .int .u16 (x1 : Nat), .int .u32 (x2 : Nat), .int .u32 (x3 : Nat), .int .u8 0, .int .u16 0, .int .u16 0, .int .u16 0, .slice none 0 0, .slice none 0 0] 47)) (w.heap.size + 1 + bs5.length) 47 [.int .u16 (x0 : Nat), .int .u16 (x1 : Nat), .int .u32 (x2 : Nat), .int .u32 (x3 : Nat), .int .u8 0, .int .u16 0, .int .u16 0, .int .u16 0, .slice none 0 0, .slice none 0 0] := by
    have := Bk.new (plus (w.alloc (.cells #[.int .u16 0, .int .u16 0, .int .u32 0, .int .u32 0, .int .u8 0, .int .u16 0, .int .u16 0, .int .u16 0, .slice none 0 0, .slice none 0 0] 47)) bs5 d5) 47 #[.int .u16 (x0 : Nat), .int .u16 (x1 : Nat), .int .u32 (x2 : Nat), .int .u32 (x3 : Nat), .int .u8 0, .int .u16 0, .int .u16 0, .int .u16 0, .slice none 0 0, .slice none 0 0]
    rw [size_plus, World.size_alloc] at this
    exact this
  have hZ0 : Bk ((plus (w.alloc (.cells #[.int .u16 0, .int .u16 0, .int .u32 0, .int .u32 0, .int .u8 0, .int .u16 0, .int .u16 0, .int .u16 0, .slice none 0 0, .slice none 0 0] 47)) bs5 d5).alloc (.cells #[.int .u16 (x0 : Nat), .int .u16 (x1 : Nat), .int .u32 (x2 : Nat), .int .u32 (x3 : Nat), .int .u8 0, .int .u16 0, .int .u16 0, .int .u16 0, .slice none 0 0, .slice none 0 0] 47)) w.heap.size 47 [.int .u16 0, .int .u16 0, .int .u32 0, .int .u32 0, .int .u8 0, .int .u16 0, .int .u16 0, .int .u16 0, .slice none 0 0, .slice none 0 0] := ((Bk.new w 47 #[.int .u16 0, .int .u16 0, .int .u32 0, .int .u32 0, .int .u8 0, .int .u16 0, .int .u16 0, .int .u16 0, .slice none 0 0, .slice none 0 0]).later (below_plus _ _ _)).alloc _
  have hlt : r < w.heap.size + 1 + bs5.length := by have := hR4.lt; simpa [size_plus] using this
  have hR5 := hR4.later ((Below.refl _ _).alloc (Nat.le_refl _) (.cells #[.int .u16 (x0 : Nat), .int .u16 (x1 : Nat), .int .u32 (x2 : Nat), .int .u32 (x3 : Nat), .int .u8 0, .int .u16 0, .int .u16 0, .int .u16 0, .slice none 0 0, .slice none 0 0] 47))
  have hB1 := hB0.alloc hB0.size (.cells #[.int .u16 (x0 : Nat), .int .u16 (x1 : Nat), .int .u32 (x2 : Nat), .int .u32 (x3 : Nat), .int .u8 0, .int .u16 0, .int .u16 0, .int .u16 0, .slice none 0 0, .slice none 0 0] 47)
  have hr2 : w.heap.size < r := by have := hr1; simp at this; omega
  go_wp2_with fail
  generalize (plus (w.alloc (.cells #[.int .u16 0, .int .u16 0, .int .u32 0, .int .u32 0, .int .u8 0, .int .u16 0, .int .u16 0, .int .u16 0, .slice none 0 0, .slice none 0 0] 47)) bs5 d5).alloc _ = W1 at hX0 hZ0 hR5 hB1 ⊢
  generalize w.heap.size + 1 + bs5.length = g at *
  refine (byteG _ r (l.take 20) 12 xf hR5 (by rw [HL.out]; omega) (by rw [HL.out]; omega) (by rw [num_in _ _ _ _ (by omega)]; exact Hxf.out)).mono ?_
  rintro e w1 ⟨rfl, hR6, hg6⟩
  have hX6 := hX0.grown hg6 (by simp; omega)
  have hZ6 := hZ0.grown hg6 (by simp; omega)
  have hB6 := hB1.trans (below_of_grown hg6 hB1.size (fun k hk => by injection hk with hk; omega))
  clear hg6 hX0 hZ0 hR5 hB1 hR0 hR1 hR2 hR3 hR4 hB0
  go_wp2_with (first
    | (refine at_op (.build 47 #[]) rfl ?_; refine wpList_build 47 [] rfl rfl (.agg #[.int .u16 0, .int .u16 0, .int .u32 0, .int .u32 0, .int .u8 0, .int .u16 0, .int .u16 0, .int .u16 0, .slice none 0 0, .slice none 0 0]) ?_ ?_; exact run_buildSeg0 _)
    | (refine at_op (.store 47 (.tmp 2) (.tmp 42)) rfl ?_; refine wpList_stA (t := 47) 47 (.tmp 2) (.tmp 42) rfl rfl [.int .u16 0, .int .u16 0, .int .u32 0, .int .u32 0, .int .u8 0, .int .u16 0, .int .u16 0, .int .u16 0, .slice none 0 0, .slice none 0 0] [.int .u16 0, .int .u16 0, .int .u32 0, .int .u32 0, .int .u8 0, .int .u16 0, .int .u16 0, .int .u16 0, .slice none 0 0, .slice none 0 0] rfl (by simp [Value.oneCell']) rfl rfl hZ6 (szSeg _ rfl) ?_; intro w2 hb2 hg2))
  refine bodyPost_agg2 Try.results157 rfl rfl hb2.range Try.underlying47 rfl (szSeg _ rfl) rfl (RetSeg.zero ?_)
  exact below_grown hB6 hg2 (Nat.le_refl _)

set_option maxHeartbeats 4000000 in
theorem tcpParse_ok (A : Option Addr) (n c : Nat) (l : List UInt8) (w : World) (hr : Rb w A n c l) (h20 : 20 ≤ n) (hn : n ≤ 1000000) (x0 : Nat) (x1 : Nat) (x2 : Nat) (x3 : Nat) (xf : Nat) (x4 : Nat) (x5 : Nat) (x6 : Nat) (x7 : Nat) (hx0 : num ((l.drop 0).take 2) = x0) (hx1 : num ((l.drop 2).take 2) = x1) (hx2 : num ((l.drop 4).take 4) = x2) (hx3 : num ((l.drop 8).take 4) = x3) (hxf : num ((l.drop 12).take 1) = xf) (hx4 : num ((l.drop 13).take 1) = x4) (hx5 : num ((l.drop 14).take 2) = x5) (hx6 : num ((l.drop 16).take 2) = x6) (hx7 : num ((l.drop 18).take 2) = x7) (hs : 5 ≤ xf / 16) (hm : xf % 16 = 0) (sz : Nat) (hsz : sz = 4 * (xf / 16)) (hz : sz ≤ n) :
    Calls Try.prog 157 #[.slice A n c] w (RetSeg w x0 x1 x2 x3 x4 x5 x6 x7 ((l.drop 20).take (sz - 20)) (l.drop sz) (.int .i64 0)) := by
  have hc := hr.cap
  have h20i : (20 : Int) ≤ (n : Int) := by omega
  have hf : xf < 256 := by rw [← hxf]; exact num_lt' l 12 1 256 (by decide)
  have hand := u8_and15 xf hf
  have Hx0 := Lib.hid hx0
  have Hx1 := Lib.hid hx1
  have Hx2 := Lib.hid hx2
  have Hx3 := Lib.hid hx3
  have Hxf := Lib.hid hxf
  have Hx4 := Lib.hid hx4
  have Hx5 := Lib.hid hx5
  have Hx6 := Lib.hid hx6
  have Hx7 := Lib.hid hx7
  clear hx0 hx1 hx2 hx3 hxf hx4 hx5 hx6 hx7
  rw [hm] at hand
  clear hm
  have esz : 4 * ((xf : Int) / 16) = (sz : Int) := by omega
  have hs2 : 20 ≤ sz := by omega
  have HSZ := Lib.hid hsz
  clear hsz
  have t1 : decide ((sz : Int) < 20) = false := by simp; omega
  go_enter Try.func157, Try.ntmps157
  go_wp2_with fail
  refine (readK _ _ _ (l.take 20) _ ((hr.take h20).alloc _) (by omega)).mono ?_
  rintro e w1 ⟨r, bs1, d1, rfl, rfl, hr1, hR0⟩
  have HL := Lib.hid (show (l.take 20).length = 20 by rw [List.length_take, hr.1]; omega)
  go_wp2_with fail
  refine (wordK _ _ _ r (l.take 20) 0 x0 hR0 hr1 (by rw [HL.out]; omega) (by rw [HL.out]; omega) (by rw [num_in _ _ _ _ (by omega)]; exact Hx0.out)).mono ?_
  rintro e w1 ⟨bs2, d2, rfl, rfl, hR1, -⟩
  go_wp2_with fail
  refine (wordK _ _ _ r (l.take 20) 2 x1 hR1 hr1 (by rw [HL.out]; omega) (by rw [HL.out]; omega) (by rw [num_in _ _ _ _ (by omega)]; exact Hx1.out)).mono ?_
  rintro e w1 ⟨bs3, d3, rfl, rfl, hR2, -⟩
  go_wp2_with fail
  refine (longK _ _ _ r (l.take 20) 4 x2 hR2 hr1 (by rw [HL.out]; omega) (by rw [HL.out]; omega) (by rw [num_in _ _ _ _ (by omega)]; exact Hx2.out)).mono ?_
  rintro e w1 ⟨bs4, d4, rfl, rfl, hR3, -⟩
  go_wp2_with fail
  refine (longK _ _ _ r (l.take 20) 8 x3 hR3 hr1 (by rw [HL.out]; omega) (by rw [HL.out]; omega) (by rw [num_in _ _ _ _ (by omega)]; exact Hx3.out)).mono ?_
  rintro e w1 ⟨bs5, d5, rfl, rfl, hR4, -⟩
  have hB0 : Below w.heap.size w (plus (w.alloc (.cells #[.int .u16 0, .int .u16 0, .int .u32 0, .int .u32 0, .int .u8 0, .int .u16 0, .int .u16 0, .int .u16 0, .slice none 0 0, .slice none 0 0] 47)) bs5 d5) := belowP ((Below.refl _ _).alloc (Nat.le_refl _) _) _ _
  have hX0 : Bk ((plus (w.alloc (.cells #[.int .u16 0, .int .u16 0, .int .u32 0, .int .u32 0, .int .u8 0, .int .u16 0, .int .u16 0, .int .u16 0, .slice none 0 0, .slice none 0 0] 47)) bs5 d5).alloc (.cells #[.int .u16 (x0 : Nat), .int .u16 (x1 : Nat), .int .u32 (x2 : Nat), .int .u32 (x3 : Nat), .int .u8 0, .int .u16 0, .int .u16 0, .int .u16 0, .slice none 0 0, .slice none 0 0] 47)) (w.heap.size + 1 + bs5.length) 47 [.int .u16 (x0 : Nat), .int .u16 (x1 : Nat), .int .u32 (x2 : Nat), .int .u32 (x3 : Nat), .int .u8 0, .int .u16 0, .int .u16 0, .int .u16 0, .slice none 0 0, .slice none 0 0] := by
    have := Bk.new (plus (w.alloc (.cells #[.int .u16 0, .int .u16 0, .int .u32 0, .int .u32 0, .int .u8 0, .int .u16 0, .int .u16 0, .int .u16 0, .slice none 0 0, .slice none 0 0] 47)) bs5 d5) 47 #[.int .u16 (x0 : Nat), .int .u16 (x1 : Nat), .int .u32 (x2 : Nat), .int .u32 (x3 : Nat), .int .u8 0, .int .u16 0, .int .u16 0, .int .u16 0, .slice none 0 0, .slice none 0 0]
    rw [size_plus, World.size_alloc] at this
    exact this
  have hZ0 : Bk ((plus (w.alloc (.cells #[.int .u16 0, .int .u16 0, .int .u32 0, .int .u32 0, .int .u8 0, .int .u16 0, .int .u16 0, .int .u16 0, .slice none 0 0, .slice none 0 0] 47)) bs5 d5).alloc (.cells #[.int .u16 (x0 : Nat), .int .u16 (x1 : Nat), .int .u32 (x2 : Nat), .int .u32 (x3 : Nat), .int .u8 0, .int .u16 0, .int .u16 0, .int .u16 0, .slice none 0 0, .slice none 0 0] 47)) w.heap.size 47 [.int .u16 0, .int .u16 0, .int .u32 0, .int .u32 0, .int .u8 0, .int .u16 0, .int .u16 0, .int .u16 0, .slice none 0 0, .slice none 0 0] := ((Bk.new w 47 #[.int .u16 0, .int .u16 0, .int .u32 0, .int .u32 0, .int .u8 0, .int .u16 0, .int .u16 0, .int .u16 0, .slice none 0 0, .slice none 0 0]).later (below_plus _ _ _)).alloc _
  have hlt : r < w.heap.size + 1 + bs5.length := by have := hR4.lt; simpa [size_plus] using this
  have hR5 := hR4.later ((Below.refl _ _).alloc (Nat.le_refl _) (.cells #[.int .u16 (x0 : Nat), .int .u16 (x1 : Nat), .int .u32 (x2 : Nat), .int .u32 (x3 : Nat), .int .u8 0, .int .u16 0, .int .u16 0, .int .u16 0, .slice none 0 0, .slice none 0 0] 47))
  have hB1 := hB0.alloc hB0.size (.cells #[.int .u16 (x0 : Nat), .int .u16 (x1 : Nat), .int .u32 (x2 : Nat), .int .u32 (x3 : Nat), .int .u8 0, .int .u16 0, .int .u16 0, .int .u16 0, .slice none 0 0, .slice none 0 0] 47)
  have hr2 : w.heap.size < r := by have := hr1; simp at this; omega
  go_wp2_with fail
  generalize (plus (w.alloc (.cells #[.int .u16 0, .int .u16 0, .int .u32 0, .int .u32 0, .int .u8 0, .int .u16 0, .int .u16 0, .int .u16 0, .slice none 0 0, .slice none 0 0] 47)) bs5 d5).alloc _ = W1 at hX0 hZ0 hR5 hB1 ⊢
  generalize w.heap.size + 1 + bs5.length = g at *
  refine (byteG _ r (l.take 20) 12 xf hR5 (by rw [HL.out]; omega) (by rw [HL.out]; omega) (by rw [num_in _ _ _ _ (by omega)]; exact Hxf.out)).mono ?_
  rintro e w1 ⟨rfl, hR6, hg6⟩
  have hX6 := hX0.grown hg6 (by simp; omega)
  have hZ6 := hZ0.grown hg6 (by simp; omega)
  have hB6 := hB1.trans (below_of_grown hg6 hB1.size (fun k hk => by injection hk with hk; omega))
  clear hg6 hX0 hZ0 hR5 hB1 hR0 hR1 hR2 hR3 hR4 hB0
  go_wp2_with fail
  refine (byteG _ r (l.take 20) 13 x4 hR6 (by rw [HL.out]; omega) (by rw [HL.out]; omega) (by rw [num_in _ _ _ _ (by omega)]; exact Hx4.out)).mono ?_
  clear hR6
  rintro e v0 ⟨rfl, hR6, hg6⟩
  replace hX6 := hX6.grown hg6 (by simp; omega)
  replace hZ6 := hZ6.grown hg6 (by simp; omega)
  replace hB6 := hB6.trans (below_of_grown hg6 hB6.size (fun k hk => by injection hk with hk; omega))
  clear hg6
  have q : v0.cell? ⟨g, 4, none⟩ = some (.int .u8 0) := hX6.cell 4
  have f := hX6.frozen 4
  go_wp2_with fail
  clear q f
  replace hX6 := hX6.set_ 4 (.int .u8 (x4 : Nat))
  simp only [List.set_cons_zero, List.set_cons_succ] at hX6
  replace hR6 := hR6.far (p := ⟨g, 4, none⟩) hlt (.int .u8 (x4 : Nat))
  replace hZ6 := hZ6.far (p := ⟨g, 4, none⟩) (by simp; omega) (.int .u8 (x4 : Nat))
  replace hB6 := hB6.setCell (p := ⟨g, 4, none⟩) (by simp; omega) (.int .u8 (x4 : Nat))
  generalize v0.setCell ⟨g, 4, none⟩ (.int .u8 (x4 : Nat)) = W0 at hX6 hR6 hZ6 hB6 ⊢
  go_wp2_with fail
  refine (wordG _ r (l.take 20) 14 x5 hR6 (by rw [HL.out]; omega) (by rw [HL.out]; omega) (by rw [num_in _ _ _ _ (by omega)]; exact Hx5.out)).mono ?_
  clear hR6
  rintro e v1 ⟨rfl, hR6, hg6⟩
  replace hX6 := hX6.grown hg6 (by simp; omega)
  replace hZ6 := hZ6.grown hg6 (by simp; omega)
  replace hB6 := hB6.trans (below_of_grown hg6 hB6.size (fun k hk => by injection hk with hk; omega))
  clear hg6
  have q : v1.cell? ⟨g, 5, none⟩ = some (.int .u16 0) := hX6.cell 5
  have f := hX6.frozen 5
  go_wp2_with fail
  clear q f
  replace hX6 := hX6.set_ 5 (.int .u16 (x5 : Nat))
  simp only [List.set_cons_zero, List.set_cons_succ] at hX6
  replace hR6 := hR6.far (p := ⟨g, 5, none⟩) hlt (.int .u16 (x5 : Nat))
  replace hZ6 := hZ6.far (p := ⟨g, 5, none⟩) (by simp; omega) (.int .u16 (x5 : Nat))
  replace hB6 := hB6.setCell (p := ⟨g, 5, none⟩) (by simp; omega) (.int .u16 (x5 : Nat))
  generalize v1.setCell ⟨g, 5, none⟩ (.int .u16 (x5 : Nat)) = W1 at hX6 hR6 hZ6 hB6 ⊢
  go_wp2_with fail
  refine (wordG _ r (l.take 20) 16 x6 hR6 (by rw [HL.out]; omega) (by rw [HL.out]; omega) (by rw [num_in _ _ _ _ (by omega)]; exact Hx6.out)).mono ?_
  clear hR6
  rintro e v2 ⟨rfl, hR6, hg6⟩
  replace hX6 := hX6.grown hg6 (by simp; omega)
  replace hZ6 := hZ6.grown hg6 (by simp; omega)
  replace hB6 := hB6.trans (below_of_grown hg6 hB6.size (fun k hk => by injection hk with hk; omega))
  clear hg6
  have q : v2.cell? ⟨g, 6, none⟩ = some (.int .u16 0) := hX6.cell 6
  have f := hX6.frozen 6
  go_wp2_with fail
  clear q f
  replace hX6 := hX6.set_ 6 (.int .u16 (x6 : Nat))
  simp only [List.set_cons_zero, List.set_cons_succ] at hX6
  replace hR6 := hR6.far (p := ⟨g, 6, none⟩) hlt (.int .u16 (x6 : Nat))
  replace hZ6 := hZ6.far (p := ⟨g, 6, none⟩) (by simp; omega) (.int .u16 (x6 : Nat))
  replace hB6 := hB6.setCell (p := ⟨g, 6, none⟩) (by simp; omega) (.int .u16 (x6 : Nat))
  generalize v2.setCell ⟨g, 6, none⟩ (.int .u16 (x6 : Nat)) = W2 at hX6 hR6 hZ6 hB6 ⊢
  go_wp2_with fail
  refine (wordG _ r (l.take 20) 18 x7 hR6 (by rw [HL.out]; omega) (by rw [HL.out]; omega) (by rw [num_in _ _ _ _ (by omega)]; exact Hx7.out)).mono ?_
  clear hR6
  rintro e v3 ⟨rfl, hR6, hg6⟩
  replace hX6 := hX6.grown hg6 (by simp; omega)
  replace hZ6 := hZ6.grown hg6 (by simp; omega)
  replace hB6 := hB6.trans (below_of_grown hg6 hB6.size (fun k hk => by injection hk with hk; omega))
  clear hg6
  have q : v3.cell? ⟨g, 7, none⟩ = some (.int .u16 0) := hX6.cell 7
  have f := hX6.frozen 7
  go_wp2_with fail
  clear q f
  replace hX6 := hX6.set_ 7 (.int .u16 (x7 : Nat))
  simp only [List.set_cons_zero, List.set_cons_succ] at hX6
  replace hR6 := hR6.far (p := ⟨g, 7, none⟩) hlt (.int .u16 (x7 : Nat))
  replace hZ6 := hZ6.far (p := ⟨g, 7, none⟩) (by simp; omega) (.int .u16 (x7 : Nat))
  replace hB6 := hB6.setCell (p := ⟨g, 7, none⟩) (by simp; omega) (.int .u16 (x7 : Nat))
  generalize v3.setCell ⟨g, 7, none⟩ (.int .u16 (x7 : Nat)) = W3 at hX6 hR6 hZ6 hB6 ⊢
  refine (clone_any _ _ _ ((l.drop 20).take (sz - 20)) _ (((hr.cut (k := 20) (by omega)).take (k := sz - 20) (by omega)).later hB6) (by omega)).mono ?_
  rintro e wc ⟨A1, n1, c1, bsA1, dA1, rfl, rfl, ho0⟩
  have q : W3.cell? ⟨g, 8, none⟩ = some (.slice none 0 0) := hX6.cell 8
  have f := hX6.frozen 8
  have hgl0 := hX6.lt
  go_wp2_with fail
  clear q f
  replace ho0 := ho0.swap (W' := W3.setCell ⟨g, 8, none⟩ (.slice A1 n1 c1)) (d' := dA1) (Nat.le_refl _) (by simp)
  obtain ⟨B0, hB0⟩ : ∃ B0, B0 = W3.heap.size := ⟨_, rfl⟩
  rw [← hB0] at ho0 hgl0
  have hwB : w.heap.size < B0 := by omega
  clear hB0
  replace hX6 := (hX6.set_ 8 (.slice A1 n1 c1)).later (below_plus _ bsA1 dA1)
  simp only [List.set_cons_zero, List.set_cons_succ] at hX6
  replace hZ6 := (hZ6.far (p := ⟨g, 8, none⟩) (by simp; omega) (.slice A1 n1 c1)).later (below_plus _ bsA1 dA1)
  replace hB6 := belowP (hB6.setCell (p := ⟨g, 8, none⟩) (by simp; omega) (.slice A1 n1 c1)) bsA1 dA1
  clear hR6
  generalize plus (W3.setCell ⟨g, 8, none⟩ (.slice A1 n1 c1)) bsA1 dA1 = W4 at hX6 hZ6 hB6 ho0 ⊢
  refine (clone_any _ _ _ (l.drop sz) _ ((hr.cut (k := sz) (by omega)).later hB6) (by omega)).mono ?_
  rintro e wc ⟨A2, n2, c2, bsA2, dA2, rfl, rfl, ho1⟩
  have q : W4.cell? ⟨g, 9, none⟩ = some (.slice none 0 0) := hX6.cell 9
  have f := hX6.frozen 9
  have hgl1 := hX6.lt
  go_upto_region 17 with fail
  clear q f
  replace ho1 := (ho1.swap (W' := W4.setCell ⟨g, 9, none⟩ (.slice A2 n2 c2)) (d' := dA2) (Nat.le_refl _) (by simp)).mono (show w.heap.size + 1 ≤ W4.heap.size by omega)
  replace ho0 := (ho0.setCell (p := ⟨g, 9, none⟩) hgl0 (.slice A2 n2 c2)).plus_ bsA2 dA2
  replace hX6 := (hX6.set_ 9 (.slice A2 n2 c2)).later (below_plus _ bsA2 dA2)
  simp only [List.set_cons_zero, List.set_cons_succ] at hX6
  replace hZ6 := (hZ6.far (p := ⟨g, 9, none⟩) (by simp; omega) (.slice A2 n2 c2)).later (below_plus _ bsA2 dA2)
  replace hB6 := belowP (hB6.setCell (p := ⟨g, 9, none⟩) (by simp; omega) (.slice A2 n2 c2)) bsA2 dA2
  generalize plus (W4.setCell ⟨g, 9, none⟩ (.slice A2 n2 c2)) bsA2 dA2 = W5 at hX6 hZ6 hB6 ho0 ho1 ⊢
  go_wp2_with (first
    | (refine at_op (.load 47 (.tmp 5)) rfl ?_; refine wpList_ldA (t := 47) 47 (.tmp 5) rfl rfl [.int .u16 (x0 : Nat), .int .u16 (x1 : Nat), .int .u32 (x2 : Nat), .int .u32 (x3 : Nat), .int .u8 (x4 : Nat), .int .u16 (x5 : Nat), .int .u16 (x6 : Nat), .int .u16 (x7 : Nat), .slice A1 n1 c1, .slice A2 n2 c2] rfl hX6 rfl Try.underlying47 rfl (szSeg _ rfl) ?_)
    | (refine at_op (.store 47 (.tmp 2) (.tmp 65)) rfl ?_; refine wpList_stA (t := 47) 47 (.tmp 2) (.tmp 65) rfl rfl [.int .u16 (x0 : Nat), .int .u16 (x1 : Nat), .int .u32 (x2 : Nat), .int .u32 (x3 : Nat), .int .u8 (x4 : Nat), .int .u16 (x5 : Nat), .int .u16 (x6 : Nat), .int .u16 (x7 : Nat), .slice A1 n1 c1, .slice A2 n2 c2] [.int .u16 0, .int .u16 0, .int .u32 0, .int .u32 0, .int .u8 0, .int .u16 0, .int .u16 0, .int .u16 0, .slice none 0 0, .slice none 0 0] rfl (by simp [Value.oneCell']) rfl rfl hZ6 (szSeg _ rfl) ?_; intro w2 hb2 hg2))
  refine bodyPost_agg2 Try.results157 rfl rfl hb2.range Try.underlying47 rfl (szSeg _ rfl) rfl (RetSeg.mk ?_ ?_ (below_grown hB6 hg2 (Nat.le_refl _)))
  · exact (ho0.grown hg2 (fun k hk => by have := (ho0.blk k hk).1; simp; omega)).rb
  · exact (ho1.grown hg2 (fun k hk => by have := (ho1.blk k hk).1; simp; omega)).rb
end Go.Proofs.Ytfmkndemkpecpaa
