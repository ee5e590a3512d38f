/- Contracts of udp.Parse and its reference. -/
import Derived.Test.YticlohlpccollaaOctK
import Derived.Test.YticlohlpccollaaAgg
import Derived.Deep.RegionWith
import Derived.Deep.DeepCutAuto
namespace Go.Proofs.Yticlohlpccollaa
open Go.RowKit
set_option linter.unusedVariables false
set_option linter.unusedSimpArgs false
attribute [local go_sem ↓] sliced_cut
attribute [local go_sem] cutA_zero

theorem szDg (cs : List Value) (h : cs.length = 4) : (Try.prog.info? 38).map (·.size) = some cs.length := by rw [h]; kernel_rfl
theorem szDgR (cs : List Value) (h : cs.length = 4) : (Try.prog.info? 41).map (·.size) = some cs.length := by rw [h]; kernel_rfl
set_option maxRecDepth 100000 in
theorem run_buildDg0 (w : World) : (Instr.build 38 #[]).run Try.prog w = .ok (.agg #[.int .u16 0, .int .u16 0, .int .u16 0, .slice none 0 0]) w := by kernel_rfl
set_option maxRecDepth 100000 in
theorem run_buildDgR0 (w : World) : (Instr.build 41 #[]).run Try.prog w = .ok (.agg #[.int .u16 0, .int .u16 0, .int .u16 0, .slice none 0 0]) w := by kernel_rfl
theorem dgGetV (A : Option Addr) (n c : Nat) (l : List UInt8) (k s : Int) (k' s' x : Nat) (w : World) (h : Rb w A n c l) (hk : k = k') (hs : s = s') (hx : num ((l.drop k').take s') = x) (hm : n ≤ 1099511627776) (hn : k' + s' ≤ n) (h8 : s' ≤ 8) :
    Calls Try.prog 100 #[.slice A n c, .int .i64 k, .int .i64 s] w fun e w' => e = .returned (.int .u64 (x : Nat)) ∧ w = w' := by
  subst hk hs hx
  exact refGet_any A n c l k' s' w h hm hn h8

def MP.dg (x0 x1 x2 base : Nat) (l : List UInt8) : MP := ⟨fun v w => ∃ A n c, v = .agg #[.int .u16 (x0 : Nat), .int .u16 (x1 : Nat), .int .u16 (x2 : Nat), .slice A n c] ∧ Rb w A n c l ∧ ∀ a, A = some a → base ≤ a.block, fun _ _ _ ⟨A, n, c, h1, h2, h3⟩ h => ⟨A, n, c, h1, h2.later h.below, h3⟩⟩
/-- a datagram in new memory, and a second result -/
def RetDg (w : World) (x0 x1 x2 : Nat) (l : List UInt8) (v : Value) (e : Ending) (w' : World) : Prop :=
  ∃ A n c bs d, e = .returned (.tuple #[.agg #[.int .u16 x0, .int .u16 x1, .int .u16 x2, .slice A n c], v]) ∧ w' = plus w bs d ∧ Rb (plus w bs d) A n c l
theorem RetDg.mk {w w' : World} {x0 x1 x2 : Nat} {l : List UInt8} {A : Option Addr} {n c : Nat} {v : Value} (h1 : Rb w' A n c l) (hb : Below w.heap.size w w') :
    RetDg w x0 x1 x2 l v (.returned (.tuple #[.agg #[.int .u16 x0, .int .u16 x1, .int .u16 x2, .slice A n c], v])) w' := by
  obtain ⟨bs, d, rfl⟩ := plus_of hb
  exact ⟨A, n, c, bs, d, rfl, rfl, h1⟩
theorem RetDg.zero {w w' : World} {v : Value} (hb : Below w.heap.size w w') : RetDg w 0 0 0 [] v (.returned (.tuple #[.agg #[.int .u16 0, .int .u16 0, .int .u16 0, .slice none 0 0], v])) w' := RetDg.mk Rb.nil_ hb
theorem udpParse_short (A : Option Addr) (n c : Nat) (l : List UInt8) (w : World) (hr : Rb w A n c l) (hn : n < 8) : Calls Try.prog 21 #[.slice A n c] w (RetDg w 0 0 0 [] (.int .i64 20)) := by
  have hZ : Bk (w.alloc (.cells #[.int .u16 0, .int .u16 0, .int .u16 0, .slice none 0 0] 38)) w.heap.size 38 [.int .u16 0, .int .u16 0, .int .u16 0, .slice none 0 0] := Bk.new w 38 #[.int .u16 0, .int .u16 0, .int .u16 0, .slice none 0 0]
  go_enter Try.func21, Try.ntmps21
  go_wp2_with (first
    | (refine at_op (.build 38 #[]) rfl ?_; refine wpList_build 38 [] rfl rfl (.agg #[.int .u16 0, .int .u16 0, .int .u16 0, .slice none 0 0]) ?_ ?_; exact run_buildDg0 _)
    | (refine at_op (.store 38 (.tmp 2) (.tmp 10)) rfl ?_; refine wpList_stA (t := 38) 38 (.tmp 2) (.tmp 10) rfl rfl [.int .u16 0, .int .u16 0, .int .u16 0, .slice none 0 0] [.int .u16 0, .int .u16 0, .int .u16 0, .slice none 0 0] rfl (by simp [Value.oneCell']) rfl rfl hZ (szDg _ rfl) ?_; intro w2 hb2 hg2))
  refine bodyPost_agg2 Try.results21 rfl rfl hb2.range Try.underlying38 rfl (szDg _ rfl) rfl (RetDg.zero ?_)
  exact below_grown ((Below.refl _ _).alloc (Nat.le_refl _) _) hg2 (Nat.le_refl _)
theorem refUdpParse_short (A : Option Addr) (n c : Nat) (l : List UInt8) (w : World) (hr : Rb w A n c l) (hn : n < 8) : Calls Try.prog 22 #[.slice A n c] w (RetDg w 0 0 0 [] (.int .i64 20)) := by
  have hZ : Bk (w.alloc (.cells #[.int .u16 0, .int .u16 0, .int .u16 0, .slice none 0 0] 41)) w.heap.size 41 [.int .u16 0, .int .u16 0, .int .u16 0, .slice none 0 0] := Bk.new w 41 #[.int .u16 0, .int .u16 0, .int .u16 0, .slice none 0 0]
  go_enter Try.func22, Try.ntmps22
  go_wp2_with (first
    | (refine at_op (.build 41 #[]) rfl ?_; refine wpList_build 41 [] rfl rfl (.agg #[.int .u16 0, .int .u16 0, .int .u16 0, .slice none 0 0]) ?_ ?_; exact run_buildDgR0 _)
    | (refine at_op (.store 41 (.tmp 2) (.tmp 8)) rfl ?_; refine wpList_stA (t := 41) 41 (.tmp 2) (.tmp 8) rfl rfl [.int .u16 0, .int .u16 0, .int .u16 0, .slice none 0 0] [.int .u16 0, .int .u16 0, .int .u16 0, .slice none 0 0] rfl (by simp [Value.oneCell']) rfl rfl hZ (szDgR _ rfl) ?_; intro w2 hb2 hg2))
  refine bodyPost_agg2 Try.results22 rfl rfl hb2.range Try.underlying41 rfl (szDgR _ rfl) rfl (RetDg.zero ?_)
  exact below_grown ((Below.refl _ _).alloc (Nat.le_refl _) _) hg2 (Nat.le_refl _)

set_option maxHeartbeats 4000000 in
set_option maxRecDepth 100000 in
theorem udpParse_form (A : Option Addr) (n c : Nat) (l : List UInt8) (w : World) (hr : Rb w A n c l) (h8 : 8 ≤ n) (hn : n ≤ 1000000) (x0 : Nat) (x1 : Nat) (xs : Nat) (x2 : Nat) (hx0 : num ((l.drop 0).take 2) = x0) (hx1 : num ((l.drop 2).take 2) = x1) (hxs : num ((l.drop 4).take 2) = xs) (hx2 : num ((l.drop 6).take 2) = x2) (hs : xs < 8) :
    Calls Try.prog 21 #[.slice A n c] w (RetDg w 0 0 0 [] (.int .i64 21)) := by
  have hc := hr.cap
  have h8i : (8 : Int) ≤ (n : Int) := by omega
  have kxs : xs < 65536 := by rw [← hxs]; exact num_lt' l 4 2 65536 (by decide)
  have Hx0 := Lib.hid hx0
  have Hx1 := Lib.hid hx1
  have Hxs := Lib.hid hxs
  have Hx2 := Lib.hid hx2
  clear hx0 hx1 hxs hx2
  have t1 : decide ((xs : Int) < 8) = true := by simp; omega
  go_enter Try.func21, Try.ntmps21
  go_wp2_with fail
  refine (readK _ _ _ (l.take 8) _ ((hr.take h8).alloc _) (by omega)).mono ?_
  rintro e w1 ⟨r, bs1, d1, rfl, rfl, hr1, hR0⟩
  have HL := Lib.hid (show (l.take 8).length = 8 by rw [List.length_take, hr.1]; omega)
  go_wp2_with fail
  refine (wordK _ _ _ r (l.take 8) 0 x0 hR0 hr1 (by rw [HL.out]; omega) (by rw [HL.out]; omega) (by rw [num_in _ _ _ _ (by omega)]; exact Hx0.out)).mono ?_
  rintro e w1 ⟨bs2, d2, rfl, rfl, hR1, -⟩
  go_wp2_with fail
  refine (wordK _ _ _ r (l.take 8) 2 x1 hR1 hr1 (by rw [HL.out]; omega) (by rw [HL.out]; omega) (by rw [num_in _ _ _ _ (by omega)]; exact Hx1.out)).mono ?_
  rintro e w1 ⟨bs3, d3, rfl, rfl, hR2, -⟩
  have hB0 : Below w.heap.size w (plus (w.alloc (.cells #[.int .u16 0, .int .u16 0, .int .u16 0, .slice none 0 0] 38)) bs3 d3) := belowP ((Below.refl _ _).alloc (Nat.le_refl _) _) _ _
  have hX6 : Bk ((plus (w.alloc (.cells #[.int .u16 0, .int .u16 0, .int .u16 0, .slice none 0 0] 38)) bs3 d3).alloc (.cells #[.int .u16 (x0 : Nat), .int .u16 (x1 : Nat), .int .u16 0, .slice none 0 0] 38)) (w.heap.size + 1 + bs3.length) 38 [.int .u16 (x0 : Nat), .int .u16 (x1 : Nat), .int .u16 0, .slice none 0 0] := by
    have := Bk.new (plus (w.alloc (.cells #[.int .u16 0, .int .u16 0, .int .u16 0, .slice none 0 0] 38)) bs3 d3) 38 #[.int .u16 (x0 : Nat), .int .u16 (x1 : Nat), .int .u16 0, .slice none 0 0]
    rw [size_plus, World.size_alloc] at this
    exact this
  have hZ6 : Bk ((plus (w.alloc (.cells #[.int .u16 0, .int .u16 0, .int .u16 0, .slice none 0 0] 38)) bs3 d3).alloc (.cells #[.int .u16 (x0 : Nat), .int .u16 (x1 : Nat), .int .u16 0, .slice none 0 0] 38)) w.heap.size 38 [.int .u16 0, .int .u16 0, .int .u16 0, .slice none 0 0] := ((Bk.new w 38 #[.int .u16 0, .int .u16 0, .int .u16 0, .slice none 0 0]).later (below_plus _ _ _)).alloc _
  have hlt : r < w.heap.size + 1 + bs3.length := by have := hR2.lt; simpa [size_plus] using this
  have hR6 := hR2.later ((Below.refl _ _).alloc (Nat.le_refl _) (.cells #[.int .u16 (x0 : Nat), .int .u16 (x1 : Nat), .int .u16 0, .slice none 0 0] 38))
  have hB6 := hB0.alloc hB0.size (.cells #[.int .u16 (x0 : Nat), .int .u16 (x1 : Nat), .int .u16 0, .slice none 0 0] 38)
  have hr2 : w.heap.size < r := by have := hr1; simp at this; omega
  go_wp2_with fail
  generalize (plus (w.alloc (.cells #[.int .u16 0, .int .u16 0, .int .u16 0, .slice none 0 0] 38)) bs3 d3).alloc _ = W1 at hX6 hZ6 hR6 hB6 ⊢
  generalize w.heap.size + 1 + bs3.length = g at *
  refine (wordG _ r (l.take 8) 4 xs hR6 (by rw [HL.out]; omega) (by rw [HL.out]; omega) (by rw [num_in _ _ _ _ (by omega)]; exact Hxs.out)).mono ?_
  clear hR6
  rintro e w1 ⟨rfl, hR6, hg6⟩
  replace hX6 := hX6.grown hg6 (by simp; omega)
  replace hZ6 := hZ6.grown hg6 (by simp; omega)
  replace hB6 := hB6.trans (below_of_grown hg6 hB6.size (fun k hk => by injection hk with hk; omega))
  clear hg6 hR0 hR1 hR2 hB0
  go_wp2_with (first
    | (refine at_op (.build 38 #[]) rfl ?_; refine wpList_build 38 [] rfl rfl (.agg #[.int .u16 0, .int .u16 0, .int .u16 0, .slice none 0 0]) ?_ ?_; exact run_buildDg0 _)
    | (refine at_op (.store 38 (.tmp 2) (.tmp 24)) rfl ?_; refine wpList_stA (t := 38) 38 (.tmp 2) (.tmp 24) rfl rfl [.int .u16 0, .int .u16 0, .int .u16 0, .slice none 0 0] [.int .u16 0, .int .u16 0, .int .u16 0, .slice none 0 0] rfl (by simp [Value.oneCell']) rfl rfl hZ6 (szDg _ rfl) ?_; intro w2 hb2 hg2))
  refine bodyPost_agg2 Try.results21 rfl rfl hb2.range Try.underlying38 rfl (szDg _ rfl) rfl (RetDg.zero ?_)
  exact below_grown hB6 hg2 (Nat.le_refl _)

set_option maxHeartbeats 4000000 in
set_option maxRecDepth 100000 in
theorem udpParse_short2 (A : Option Addr) (n c : Nat) (l : List UInt8) (w : World) (hr : Rb w A n c l) (h8 : 8 ≤ n) (hn : n ≤ 1000000) (x0 : Nat) (x1 : Nat) (xs : Nat) (x2 : Nat) (hx0 : num ((l.drop 0).take 2) = x0) (hx1 : num ((l.drop 2).take 2) = x1) (hxs : num ((l.drop 4).take 2) = xs) (hx2 : num ((l.drop 6).take 2) = x2) (hs : 8 ≤ xs) (hz : n < xs) :
    Calls Try.prog 21 #[.slice A n c] w (RetDg w 0 0 0 [] (.int .i64 20)) := by
  have hc := hr.cap
  have h8i : (8 : Int) ≤ (n : Int) := by omega
  have kxs : xs < 65536 := by rw [← hxs]; exact num_lt' l 4 2 65536 (by decide)
  have Hx0 := Lib.hid hx0
  have Hx1 := Lib.hid hx1
  have Hxs := Lib.hid hxs
  have Hx2 := Lib.hid hx2
  clear hx0 hx1 hxs hx2
  have t1 : decide ((xs : Int) < 8) = false := by simp; omega
  have t2 : decide (n < xs) = true := by simp; omega
  go_enter Try.func21, Try.ntmps21
  go_wp2_with fail
  refine (readK _ _ _ (l.take 8) _ ((hr.take h8).alloc _) (by omega)).mono ?_
  rintro e w1 ⟨r, bs1, d1, rfl, rfl, hr1, hR0⟩
  have HL := Lib.hid (show (l.take 8).length = 8 by rw [List.length_take, hr.1]; omega)
  go_wp2_with fail
  refine (wordK _ _ _ r (l.take 8) 0 x0 hR0 hr1 (by rw [HL.out]; omega) (by rw [HL.out]; omega) (by rw [num_in _ _ _ _ (by omega)]; exact Hx0.out)).mono ?_
  rintro e w1 ⟨bs2, d2, rfl, rfl, hR1, -⟩
  go_wp2_with fail
  refine (wordK _ _ _ r (l.take 8) 2 x1 hR1 hr1 (by rw [HL.out]; omega) (by rw [HL.out]; omega) (by rw [num_in _ _ _ _ (by omega)]; exact Hx1.out)).mono ?_
  rintro e w1 ⟨bs3, d3, rfl, rfl, hR2, -⟩
  have hB0 : Below w.heap.size w (plus (w.alloc (.cells #[.int .u16 0, .int .u16 0, .int .u16 0, .slice none 0 0] 38)) bs3 d3) := belowP ((Below.refl _ _).alloc (Nat.le_refl _) _) _ _
  have hX6 : Bk ((plus (w.alloc (.cells #[.int .u16 0, .int .u16 0, .int .u16 0, .slice none 0 0] 38)) bs3 d3).alloc (.cells #[.int .u16 (x0 : Nat), .int .u16 (x1 : Nat), .int .u16 0, .slice none 0 0] 38)) (w.heap.size + 1 + bs3.length) 38 [.int .u16 (x0 : Nat), .int .u16 (x1 : Nat), .int .u16 0, .slice none 0 0] := by
    have := Bk.new (plus (w.alloc (.cells #[.int .u16 0, .int .u16 0, .int .u16 0, .slice none 0 0] 38)) bs3 d3) 38 #[.int .u16 (x0 : Nat), .int .u16 (x1 : Nat), .int .u16 0, .slice none 0 0]
    rw [size_plus, World.size_alloc] at this
    exact this
  have hZ6 : Bk ((plus (w.alloc (.cells #[.int .u16 0, .int .u16 0, .int .u16 0, .slice none 0 0] 38)) bs3 d3).alloc (.cells #[.int .u16 (x0 : Nat), .int .u16 (x1 : Nat), .int .u16 0, .slice none 0 0] 38)) w.heap.size 38 [.int .u16 0, .int .u16 0, .int .u16 0, .slice none 0 0] := ((Bk.new w 38 #[.int .u16 0, .int .u16 0, .int .u16 0, .slice none 0 0]).later (below_plus _ _ _)).alloc _
  have hlt : r < w.heap.size + 1 + bs3.length := by have := hR2.lt; simpa [size_plus] using this
  have hR6 := hR2.later ((Below.refl _ _).alloc (Nat.le_refl _) (.cells #[.int .u16 (x0 : Nat), .int .u16 (x1 : Nat), .int .u16 0, .slice none 0 0] 38))
  have hB6 := hB0.alloc hB0.size (.cells #[.int .u16 (x0 : Nat), .int .u16 (x1 : Nat), .int .u16 0, .slice none 0 0] 38)
  have hr2 : w.heap.size < r := by have := hr1; simp at this; omega
  go_wp2_with fail
  generalize (plus (w.alloc (.cells #[.int .u16 0, .int .u16 0, .int .u16 0, .slice none 0 0] 38)) bs3 d3).alloc _ = W1 at hX6 hZ6 hR6 hB6 ⊢
  generalize w.heap.size + 1 + bs3.length = g at *
  refine (wordG _ r (l.take 8) 4 xs hR6 (by rw [HL.out]; omega) (by rw [HL.out]; omega) (by rw [num_in _ _ _ _ (by omega)]; exact Hxs.out)).mono ?_
  clear hR6
  rintro e w1 ⟨rfl, hR6, hg6⟩
  replace hX6 := hX6.grown hg6 (by simp; omega)
  replace hZ6 := hZ6.grown hg6 (by simp; omega)
  replace hB6 := hB6.trans (below_of_grown hg6 hB6.size (fun k hk => by injection hk with hk; omega))
  clear hg6 hR0 hR1 hR2 hB0
  go_wp2_with (first
    | (refine at_op (.build 38 #[]) rfl ?_; refine wpList_build 38 [] rfl rfl (.agg #[.int .u16 0, .int .u16 0, .int .u16 0, .slice none 0 0]) ?_ ?_; exact run_buildDg0 _)
    | (refine at_op (.store 38 (.tmp 2) (.tmp 29)) rfl ?_; refine wpList_stA (t := 38) 38 (.tmp 2) (.tmp 29) rfl rfl [.int .u16 0, .int .u16 0, .int .u16 0, .slice none 0 0] [.int .u16 0, .int .u16 0, .int .u16 0, .slice none 0 0] rfl (by simp [Value.oneCell']) rfl rfl hZ6 (szDg _ rfl) ?_; intro w2 hb2 hg2))
  refine bodyPost_agg2 Try.results21 rfl rfl hb2.range Try.underlying38 rfl (szDg _ rfl) rfl (RetDg.zero ?_)
  exact below_grown hB6 hg2 (Nat.le_refl _)

set_option maxHeartbeats 4000000 in
set_option maxRecDepth 100000 in
theorem udpParse_ok (A : Option Addr) (n c : Nat) (l : List UInt8) (w : World) (hr : Rb w A n c l) (h8 : 8 ≤ n) (hn : n ≤ 1000000) (x0 : Nat) (x1 : Nat) (xs : Nat) (x2 : Nat) (hx0 : num ((l.drop 0).take 2) = x0) (hx1 : num ((l.drop 2).take 2) = x1) (hxs : num ((l.drop 4).take 2) = xs) (hx2 : num ((l.drop 6).take 2) = x2) (hs : 8 ≤ xs) (hz : xs ≤ n) :
    Calls Try.prog 21 #[.slice A n c] w (RetDg w x0 x1 x2 ((l.drop 8).take (xs - 8)) (.int .i64 0)) := by
  have hc := hr.cap
  have h8i : (8 : Int) ≤ (n : Int) := by omega
  have kxs : xs < 65536 := by rw [← hxs]; exact num_lt' l 4 2 65536 (by decide)
  have Hx0 := Lib.hid hx0
  have Hx1 := Lib.hid hx1
  have Hxs := Lib.hid hxs
  have Hx2 := Lib.hid hx2
  clear hx0 hx1 hxs hx2
  have t1 : decide ((xs : Int) < 8) = false := by simp; omega
  have t2 : decide (n < xs) = false := by simp; omega
  go_enter Try.func21, Try.ntmps21
  go_wp2_with fail
  refine (readK _ _ _ (l.take 8) _ ((hr.take h8).alloc _) (by omega)).mono ?_
  rintro e w1 ⟨r, bs1, d1, rfl, rfl, hr1, hR0⟩
  have HL := Lib.hid (show (l.take 8).length = 8 by rw [List.length_take, hr.1]; omega)
  go_wp2_with fail
  refine (wordK _ _ _ r (l.take 8) 0 x0 hR0 hr1 (by rw [HL.out]; omega) (by rw [HL.out]; omega) (by rw [num_in _ _ _ _ (by omega)]; exact Hx0.out)).mono ?_
  rintro e w1 ⟨bs2, d2, rfl, rfl, hR1, -⟩
  go_wp2_with fail
  refine (wordK _ _ _ r (l.take 8) 2 x1 hR1 hr1 (by rw [HL.out]; omega) (by rw [HL.out]; omega) (by rw [num_in _ _ _ _ (by omega)]; exact Hx1.out)).mono ?_
  rintro e w1 ⟨bs3, d3, rfl, rfl, hR2, -⟩
  have hB0 : Below w.heap.size w (plus (w.alloc (.cells #[.int .u16 0, .int .u16 0, .int .u16 0, .slice none 0 0] 38)) bs3 d3) := belowP ((Below.refl _ _).alloc (Nat.le_refl _) _) _ _
  have hX6 : Bk ((plus (w.alloc (.cells #[.int .u16 0, .int .u16 0, .int .u16 0, .slice none 0 0] 38)) bs3 d3).alloc (.cells #[.int .u16 (x0 : Nat), .int .u16 (x1 : Nat), .int .u16 0, .slice none 0 0] 38)) (w.heap.size + 1 + bs3.length) 38 [.int .u16 (x0 : Nat), .int .u16 (x1 : Nat), .int .u16 0, .slice none 0 0] := by
    have := Bk.new (plus (w.alloc (.cells #[.int .u16 0, .int .u16 0, .int .u16 0, .slice none 0 0] 38)) bs3 d3) 38 #[.int .u16 (x0 : Nat), .int .u16 (x1 : Nat), .int .u16 0, .slice none 0 0]
    rw [size_plus, World.size_alloc] at this
    exact this
  have hZ6 : Bk ((plus (w.alloc (.cells #[.int .u16 0, .int .u16 0, .int .u16 0, .slice none 0 0] 38)) bs3 d3).alloc (.cells #[.int .u16 (x0 : Nat), .int .u16 (x1 : Nat), .int .u16 0, .slice none 0 0] 38)) w.heap.size 38 [.int .u16 0, .int .u16 0, .int .u16 0, .slice none 0 0] := ((Bk.new w 38 #[.int .u16 0, .int .u16 0, .int .u16 0, .slice none 0 0]).later (below_plus _ _ _)).alloc _
  have hlt : r < w.heap.size + 1 + bs3.length := by have := hR2.lt; simpa [size_plus] using this
  have hR6 := hR2.later ((Below.refl _ _).alloc (Nat.le_refl _) (.cells #[.int .u16 (x0 : Nat), .int .u16 (x1 : Nat), .int .u16 0, .slice none 0 0] 38))
  have hB6 := hB0.alloc hB0.size (.cells #[.int .u16 (x0 : Nat), .int .u16 (x1 : Nat), .int .u16 0, .slice none 0 0] 38)
  have hr2 : w.heap.size < r := by have := hr1; simp at this; omega
  go_wp2_with fail
  generalize (plus (w.alloc (.cells #[.int .u16 0, .int .u16 0, .int .u16 0, .slice none 0 0] 38)) bs3 d3).alloc _ = W1 at hX6 hZ6 hR6 hB6 ⊢
  generalize w.heap.size + 1 + bs3.length = g at *
  refine (wordG _ r (l.take 8) 4 xs hR6 (by rw [HL.out]; omega) (by rw [HL.out]; omega) (by rw [num_in _ _ _ _ (by omega)]; exact Hxs.out)).mono ?_
  clear hR6
  rintro e w1 ⟨rfl, hR6, hg6⟩
  replace hX6 := hX6.grown hg6 (by simp; omega)
  replace hZ6 := hZ6.grown hg6 (by simp; omega)
  replace hB6 := hB6.trans (below_of_grown hg6 hB6.size (fun k hk => by injection hk with hk; omega))
  clear hg6 hR0 hR1 hR2 hB0
  go_wp2_with fail
  refine (wordG _ r (l.take 8) 6 x2 hR6 (by rw [HL.out]; omega) (by rw [HL.out]; omega) (by rw [num_in _ _ _ _ (by omega)]; exact Hx2.out)).mono ?_
  clear hR6
  rintro e v0 ⟨rfl, hR6, hg6⟩
  replace hX6 := hX6.grown hg6 (by simp; omega)
  replace hZ6 := hZ6.grown hg6 (by simp; omega)
  replace hB6 := hB6.trans (below_of_grown hg6 hB6.size (fun k hk => by injection hk with hk; omega))
  clear hg6
  have q : v0.cell? ⟨g, 2, none⟩ = some (.int .u16 0) := hX6.cell 2
  have f := hX6.frozen 2
  go_wp2_with fail
  clear q f
  replace hX6 := hX6.set_ 2 (.int .u16 (x2 : Nat))
  simp only [List.set_cons_zero, List.set_cons_succ] at hX6
  replace hZ6 := hZ6.far (p := ⟨g, 2, none⟩) (by simp; omega) (.int .u16 (x2 : Nat))
  replace hB6 := hB6.setCell (p := ⟨g, 2, none⟩) (by simp; omega) (.int .u16 (x2 : Nat))
  clear hR6
  generalize v0.setCell ⟨g, 2, none⟩ (.int .u16 (x2 : Nat)) = W3 at hX6 hZ6 hB6 ⊢
  refine (clone_any _ _ _ ((l.drop 8).take (xs - 8)) _ (((hr.cut (k := 8) (by omega)).take (k := xs - 8) (by omega)).later hB6) (by omega)).mono ?_
  rintro e wc ⟨A1, n1, c1, bsA, dA, rfl, rfl, ho0⟩
  have q : W3.cell? ⟨g, 3, none⟩ = some (.slice none 0 0) := hX6.cell 3
  have f := hX6.frozen 3
  have hgl := hX6.lt
  go_upto_region 12 with fail
  clear q f
  replace ho0 := (ho0.swap (W' := W3.setCell ⟨g, 3, none⟩ (.slice A1 n1 c1)) (d' := dA) (Nat.le_refl _) (by simp)).mono (show w.heap.size + 1 ≤ W3.heap.size by omega)
  replace hX6 := (hX6.set_ 3 (.slice A1 n1 c1)).later (below_plus _ bsA dA)
  simp only [List.set_cons_zero, List.set_cons_succ] at hX6
  replace hZ6 := (hZ6.far (p := ⟨g, 3, none⟩) (by simp; omega) (.slice A1 n1 c1)).later (below_plus _ bsA dA)
  replace hB6 := belowP (hB6.setCell (p := ⟨g, 3, none⟩) (by simp; omega) (.slice A1 n1 c1)) bsA dA
  generalize plus (W3.setCell ⟨g, 3, none⟩ (.slice A1 n1 c1)) bsA dA = W5 at hX6 hZ6 hB6 ho0 ⊢
  go_wp2_with (first
    | (refine at_op (.load 38 (.tmp 5)) rfl ?_; refine wpList_ldA (t := 38) 38 (.tmp 5) rfl rfl [.int .u16 (x0 : Nat), .int .u16 (x1 : Nat), .int .u16 (x2 : Nat), .slice A1 n1 c1] rfl hX6 rfl Try.underlying38 rfl (szDg _ rfl) ?_)
    | (refine at_op (.store 38 (.tmp 2) (.tmp 38)) rfl ?_; refine wpList_stA (t := 38) 38 (.tmp 2) (.tmp 38) rfl rfl [.int .u16 (x0 : Nat), .int .u16 (x1 : Nat), .int .u16 (x2 : Nat), .slice A1 n1 c1] [.int .u16 0, .int .u16 0, .int .u16 0, .slice none 0 0] rfl (by simp [Value.oneCell']) rfl rfl hZ6 (szDg _ rfl) ?_; intro w2 hb2 hg2))
  refine bodyPost_agg2 Try.results21 rfl rfl hb2.range Try.underlying38 rfl (szDg _ rfl) rfl (RetDg.mk ?_ (below_grown hB6 hg2 (Nat.le_refl _)))
  exact (ho0.grown hg2 (fun k hk => by have := (ho0.blk k hk).1; simp; omega)).rb

set_option maxHeartbeats 4000000 in
set_option maxRecDepth 100000 in
theorem refUdpParse_form (A : Option Addr) (n c : Nat) (l : List UInt8) (w : World) (hr : Rb w A n c l) (h8 : 8 ≤ n) (hn : n ≤ 1000000) (x0 : Nat) (x1 : Nat) (xs : Nat) (x2 : Nat) (hx0 : num ((l.drop 0).take 2) = x0) (hx1 : num ((l.drop 2).take 2) = x1) (hxs : num ((l.drop 4).take 2) = xs) (hx2 : num ((l.drop 6).take 2) = x2) (hs : xs < 8) :
    Calls Try.prog 22 #[.slice A n c] w (RetDg w 0 0 0 [] (.int .i64 21)) := by
  have hc := hr.cap
  have h8i : (8 : Int) ≤ (n : Int) := by omega
  have kx0 : x0 < 65536 := by rw [← hx0]; exact num_lt' l 0 2 65536 (by decide)
  have kx1 : x1 < 65536 := by rw [← hx1]; exact num_lt' l 2 2 65536 (by decide)
  have kxs : xs < 65536 := by rw [← hxs]; exact num_lt' l 4 2 65536 (by decide)
  have kx2 : x2 < 65536 := by rw [← hx2]; exact num_lt' l 6 2 65536 (by decide)
  have Hx0 := Lib.hid hx0
  have Hx1 := Lib.hid hx1
  have Hxs := Lib.hid hxs
  have Hx2 := Lib.hid hx2
  clear hx0 hx1 hxs hx2
  have cw : ∀ y : Nat, y < 65536 → IntKind.u16.wrap (y : Int) = (y : Int) := fun y hy => by rw [IntKind.wrap_u16]; omega
  have cx0 := cw x0 kx0
  have cx1 := cw x1 kx1
  have cx2 := cw x2 kx2
  clear cw
  have t1 : decide ((xs : Int) < 8) = true := by simp; omega
  have hZ : Bk (w.alloc (.cells #[.int .u16 0, .int .u16 0, .int .u16 0, .slice none 0 0] 41)) w.heap.size 41 [.int .u16 0, .int .u16 0, .int .u16 0, .slice none 0 0] := Bk.new w 41 #[.int .u16 0, .int .u16 0, .int .u16 0, .slice none 0 0]
  go_enter Try.func22, Try.ntmps22
  go_wp2_with fail
  refine (dgGetV _ n c l _ _ 4 2 xs _ (hr.alloc _) rfl rfl Hxs.out (by omega) (by omega) (by omega)).mono ?_
  rintro e w1 ⟨rfl, rfl⟩
  go_wp2_with (first
    | (refine at_op (.build 41 #[]) rfl ?_; refine wpList_build 41 [] rfl rfl (.agg #[.int .u16 0, .int .u16 0, .int .u16 0, .slice none 0 0]) ?_ ?_; exact run_buildDgR0 _)
    | (refine at_op (.store 41 (.tmp 2) (.tmp 14)) rfl ?_; refine wpList_stA (t := 41) 41 (.tmp 2) (.tmp 14) rfl rfl [.int .u16 0, .int .u16 0, .int .u16 0, .slice none 0 0] [.int .u16 0, .int .u16 0, .int .u16 0, .slice none 0 0] rfl (by simp [Value.oneCell']) rfl rfl hZ (szDgR _ rfl) ?_; intro w2 hb2 hg2))
  refine bodyPost_agg2 Try.results22 rfl rfl hb2.range Try.underlying41 rfl (szDgR _ rfl) rfl (RetDg.zero ?_)
  exact below_grown ((Below.refl _ _).alloc (Nat.le_refl _) _) hg2 (Nat.le_refl _)

set_option maxHeartbeats 4000000 in
set_option maxRecDepth 100000 in
theorem refUdpParse_short2 (A : Option Addr) (n c : Nat) (l : List UInt8) (w : World) (hr : Rb w A n c l) (h8 : 8 ≤ n) (hn : n ≤ 1000000) (x0 : Nat) (x1 : Nat) (xs : Nat) (x2 : Nat) (hx0 : num ((l.drop 0).take 2) = x0) (hx1 : num ((l.drop 2).take 2) = x1) (hxs : num ((l.drop 4).take 2) = xs) (hx2 : num ((l.drop 6).take 2) = x2) (hs : 8 ≤ xs) (hz : n < xs) :
    Calls Try.prog 22 #[.slice A n c] w (RetDg w 0 0 0 [] (.int .i64 20)) := by
  have hc := hr.cap
  have h8i : (8 : Int) ≤ (n : Int) := by omega
  have kx0 : x0 < 65536 := by rw [← hx0]; exact num_lt' l 0 2 65536 (by decide)
  have kx1 : x1 < 65536 := by rw [← hx1]; exact num_lt' l 2 2 65536 (by decide)
  have kxs : xs < 65536 := by rw [← hxs]; exact num_lt' l 4 2 65536 (by decide)
  have kx2 : x2 < 65536 := by rw [← hx2]; exact num_lt' l 6 2 65536 (by decide)
  have Hx0 := Lib.hid hx0
  have Hx1 := Lib.hid hx1
  have Hxs := Lib.hid hxs
  have Hx2 := Lib.hid hx2
  clear hx0 hx1 hxs hx2
  have cw : ∀ y : Nat, y < 65536 → IntKind.u16.wrap (y : Int) = (y : Int) := fun y hy => by rw [IntKind.wrap_u16]; omega
  have cx0 := cw x0 kx0
  have cx1 := cw x1 kx1
  have cx2 := cw x2 kx2
  clear cw
  have t1 : decide ((xs : Int) < 8) = false := by simp; omega
  have t2 : decide (n < xs) = true := by simp; omega
  have hZ : Bk (w.alloc (.cells #[.int .u16 0, .int .u16 0, .int .u16 0, .slice none 0 0] 41)) w.heap.size 41 [.int .u16 0, .int .u16 0, .int .u16 0, .slice none 0 0] := Bk.new w 41 #[.int .u16 0, .int .u16 0, .int .u16 0, .slice none 0 0]
  go_enter Try.func22, Try.ntmps22
  go_wp2_with fail
  refine (dgGetV _ n c l _ _ 4 2 xs _ (hr.alloc _) rfl rfl Hxs.out (by omega) (by omega) (by omega)).mono ?_
  rintro e w1 ⟨rfl, rfl⟩
  go_wp2_with (first
    | (refine at_op (.build 41 #[]) rfl ?_; refine wpList_build 41 [] rfl rfl (.agg #[.int .u16 0, .int .u16 0, .int .u16 0, .slice none 0 0]) ?_ ?_; exact run_buildDgR0 _)
    | (refine at_op (.store 41 (.tmp 2) (.tmp 19)) rfl ?_; refine wpList_stA (t := 41) 41 (.tmp 2) (.tmp 19) rfl rfl [.int .u16 0, .int .u16 0, .int .u16 0, .slice none 0 0] [.int .u16 0, .int .u16 0, .int .u16 0, .slice none 0 0] rfl (by simp [Value.oneCell']) rfl rfl hZ (szDgR _ rfl) ?_; intro w2 hb2 hg2))
  refine bodyPost_agg2 Try.results22 rfl rfl hb2.range Try.underlying41 rfl (szDgR _ rfl) rfl (RetDg.zero ?_)
  exact below_grown ((Below.refl _ _).alloc (Nat.le_refl _) _) hg2 (Nat.le_refl _)

set_option maxHeartbeats 4000000 in
set_option maxRecDepth 100000 in
theorem refUdpParse_ok (A : Option Addr) (n c : Nat) (l : List UInt8) (w : World) (hr : Rb w A n c l) (h8 : 8 ≤ n) (hn : n ≤ 1000000) (x0 : Nat) (x1 : Nat) (xs : Nat) (x2 : Nat) (hx0 : num ((l.drop 0).take 2) = x0) (hx1 : num ((l.drop 2).take 2) = x1) (hxs : num ((l.drop 4).take 2) = xs) (hx2 : num ((l.drop 6).take 2) = x2) (hs : 8 ≤ xs) (hz : xs ≤ n) :
    Calls Try.prog 22 #[.slice A n c] w (RetDg w x0 x1 x2 ((l.drop 8).take (xs - 8)) (.int .i64 0)) := by
  have hc := hr.cap
  have h8i : (8 : Int) ≤ (n : Int) := by omega
  have kx0 : x0 < 65536 := by rw [← hx0]; exact num_lt' l 0 2 65536 (by decide)
  have kx1 : x1 < 65536 := by rw [← hx1]; exact num_lt' l 2 2 65536 (by decide)
  have kxs : xs < 65536 := by rw [← hxs]; exact num_lt' l 4 2 65536 (by decide)
  have kx2 : x2 < 65536 := by rw [← hx2]; exact num_lt' l 6 2 65536 (by decide)
  have Hx0 := Lib.hid hx0
  have Hx1 := Lib.hid hx1
  have Hxs := Lib.hid hxs
  have Hx2 := Lib.hid hx2
  clear hx0 hx1 hxs hx2
  have cw : ∀ y : Nat, y < 65536 → IntKind.u16.wrap (y : Int) = (y : Int) := fun y hy => by rw [IntKind.wrap_u16]; omega
  have cx0 := cw x0 kx0
  have cx1 := cw x1 kx1
  have cx2 := cw x2 kx2
  clear cw
  have t1 : decide ((xs : Int) < 8) = false := by simp; omega
  have t2 : decide (n < xs) = false := by simp; omega
  have hZ : Bk (w.alloc (.cells #[.int .u16 0, .int .u16 0, .int .u16 0, .slice none 0 0] 41)) w.heap.size 41 [.int .u16 0, .int .u16 0, .int .u16 0, .slice none 0 0] := Bk.new w 41 #[.int .u16 0, .int .u16 0, .int .u16 0, .slice none 0 0]
  go_enter Try.func22, Try.ntmps22
  go_wp2_with fail
  refine (dgGetV _ n c l _ _ 4 2 xs _ (hr.alloc _) rfl rfl Hxs.out (by omega) (by omega) (by omega)).mono ?_
  rintro e w1 ⟨rfl, rfl⟩
  go_wp2
  refine wp_relE 15 35 [0, 2, 3, 5, 6, 8, 10, 11] rfl (by kernel_rfl) (by kernel_rfl) (fun i => match i with | 0 => MP.eq (.slice A n c) | 1 => MP.eq (.int .u64 (x0 : Nat)) | 2 => MP.eq (.int .u16 (x0 : Nat)) | 3 => MP.eq (.slice A n c) | 4 => MP.eq (.int .u64 (x1 : Nat)) | 5 => MP.eq (.int .u16 (x1 : Nat)) | 6 => MP.eq (.slice A n c) | 7 => MP.eq (.int .u64 (x2 : Nat)) | 8 => MP.eq (.int .u16 (x2 : Nat)) | 9 => MP.fullN (w.heap.size + 1) [] | 10 => MP.eq (.slice A n c) | 11 => MP.eq (.int .i64 (xs : Int)) | 12 => MP.eq (.slice (cutA A c 8 1) (xs - 8) (c - 8)) | 13 => MP.rbN (w.heap.size + 1) ((l.drop 8).take (xs - 8)) | 14 => MP.dg x0 x1 x2 (w.heap.size + 1) ((l.drop 8).take (xs - 8)) | _ => MP.any) ?_ ?_
  · intro i hi o ho FA x hO hD
    match i, hi, ho, hO, hD with
    | 0, _, ho, hO, hD => 
      obtain rfl := Option.some.inj ho.symm
      clear ho
      have ev0 : FA.eval (.tmp 0) = .slice A n c := hO 0 (by kernel_rfl)
      have e0 : FA.tmps[0]?.getD undef = .slice A n c := by simpa [Act.eval] using ev0
      replace ev0 := Lib.hid ev0
      clear hO hD
      rw [if_pos (by decide)]
      refine ⟨.slice A n c, .inl ⟨by simp [Region.wanted], fun w => ?_⟩, rfl⟩
      go_simp
    | 1, _, ho, hO, hD => 
      obtain rfl := Option.some.inj ho.symm
      clear ho
      have ev20 : FA.eval (.tmp 20) = .slice A n c := hD 0 20 (by kernel_rfl)
      have e20 : FA.tmps[20]?.getD undef = .slice A n c := by simpa [Act.eval] using ev20
      replace ev20 := Lib.hid ev20
      clear hO hD
      rw [if_neg (by decide)]
      intro K hK
      go_simp
      refine (dgGetV _ n c l _ _ 0 2 x0 _ ((hr.alloc _).plus_ _ _) rfl rfl Hx0.out (by omega) (by omega) (by omega)).mono ?_
      rintro e w1 ⟨rfl, rfl⟩
      exact hK.out _ _ (Ex.refl _) rfl
    | 2, _, ho, hO, hD => 
      obtain rfl := Option.some.inj ho.symm
      clear ho
      have ev21 : FA.eval (.tmp 21) = .int .u64 (x0 : Nat) := hD 1 21 (by kernel_rfl)
      have e21 : FA.tmps[21]?.getD undef = .int .u64 (x0 : Nat) := by simpa [Act.eval] using ev21
      replace ev21 := Lib.hid ev21
      clear hO hD
      rw [if_pos (by decide)]
      refine ⟨.int .u16 (x0 : Nat), .inl ⟨by simp [Region.wanted], fun w => ?_⟩, rfl⟩
      go_simp
    | 3, _, ho, hO, hD => 
      obtain rfl := Option.some.inj ho.symm
      clear ho
      have ev0 : FA.eval (.tmp 0) = .slice A n c := hO 0 (by kernel_rfl)
      have e0 : FA.tmps[0]?.getD undef = .slice A n c := by simpa [Act.eval] using ev0
      replace ev0 := Lib.hid ev0
      clear hO hD
      rw [if_pos (by decide)]
      refine ⟨.slice A n c, .inl ⟨by simp [Region.wanted], fun w => ?_⟩, rfl⟩
      go_simp
    | 4, _, ho, hO, hD => 
      obtain rfl := Option.some.inj ho.symm
      clear ho
      have ev23 : FA.eval (.tmp 23) = .slice A n c := hD 3 23 (by kernel_rfl)
      have e23 : FA.tmps[23]?.getD undef = .slice A n c := by simpa [Act.eval] using ev23
      replace ev23 := Lib.hid ev23
      clear hO hD
      rw [if_neg (by decide)]
      intro K hK
      go_simp
      refine (dgGetV _ n c l _ _ 2 2 x1 _ ((hr.alloc _).plus_ _ _) rfl rfl Hx1.out (by omega) (by omega) (by omega)).mono ?_
      rintro e w1 ⟨rfl, rfl⟩
      exact hK.out _ _ (Ex.refl _) rfl
    | 5, _, ho, hO, hD => 
      obtain rfl := Option.some.inj ho.symm
      clear ho
      have ev24 : FA.eval (.tmp 24) = .int .u64 (x1 : Nat) := hD 4 24 (by kernel_rfl)
      have e24 : FA.tmps[24]?.getD undef = .int .u64 (x1 : Nat) := by simpa [Act.eval] using ev24
      replace ev24 := Lib.hid ev24
      clear hO hD
      rw [if_pos (by decide)]
      refine ⟨.int .u16 (x1 : Nat), .inl ⟨by simp [Region.wanted], fun w => ?_⟩, rfl⟩
      go_simp
    | 6, _, ho, hO, hD => 
      obtain rfl := Option.some.inj ho.symm
      clear ho
      have ev0 : FA.eval (.tmp 0) = .slice A n c := hO 0 (by kernel_rfl)
      have e0 : FA.tmps[0]?.getD undef = .slice A n c := by simpa [Act.eval] using ev0
      replace ev0 := Lib.hid ev0
      clear hO hD
      rw [if_pos (by decide)]
      refine ⟨.slice A n c, .inl ⟨by simp [Region.wanted], fun w => ?_⟩, rfl⟩
      go_simp
    | 7, _, ho, hO, hD => 
      obtain rfl := Option.some.inj ho.symm
      clear ho
      have ev26 : FA.eval (.tmp 26) = .slice A n c := hD 6 26 (by kernel_rfl)
      have e26 : FA.tmps[26]?.getD undef = .slice A n c := by simpa [Act.eval] using ev26
      replace ev26 := Lib.hid ev26
      clear hO hD
      rw [if_neg (by decide)]
      intro K hK
      go_simp
      refine (dgGetV _ n c l _ _ 6 2 x2 _ ((hr.alloc _).plus_ _ _) rfl rfl Hx2.out (by omega) (by omega) (by omega)).mono ?_
      rintro e w1 ⟨rfl, rfl⟩
      exact hK.out _ _ (Ex.refl _) rfl
    | 8, _, ho, hO, hD => 
      obtain rfl := Option.some.inj ho.symm
      clear ho
      have ev27 : FA.eval (.tmp 27) = .int .u64 (x2 : Nat) := hD 7 27 (by kernel_rfl)
      have e27 : FA.tmps[27]?.getD undef = .int .u64 (x2 : Nat) := by simpa [Act.eval] using ev27
      replace ev27 := Lib.hid ev27
      clear hO hD
      rw [if_pos (by decide)]
      refine ⟨.int .u16 (x2 : Nat), .inl ⟨by simp [Region.wanted], fun w => ?_⟩, rfl⟩
      go_simp
    | 9, _, ho, hO, hD => 
      obtain rfl := Option.some.inj ho.symm
      clear ho
      clear hO hD
      rw [if_neg (by decide)]
      intro K hK
      go_simp
      refine hK.out _ _ (Ex.alloc _ _) ⟨_, _, rfl, ?_, ?_⟩
      · refine Rb.litW _ [] ?_ rfl (by decide) rfl
        simp [size_plus]
      · intro a ha
        injection ha with ha
        subst ha
        simp
    | 10, _, ho, hO, hD => 
      obtain rfl := Option.some.inj ho.symm
      clear ho
      have ev0 : FA.eval (.tmp 0) = .slice A n c := hO 0 (by kernel_rfl)
      have e0 : FA.tmps[0]?.getD undef = .slice A n c := by simpa [Act.eval] using ev0
      replace ev0 := Lib.hid ev0
      clear hO hD
      rw [if_pos (by decide)]
      refine ⟨.slice A n c, .inl ⟨by simp [Region.wanted], fun w => ?_⟩, rfl⟩
      go_simp
    | 11, _, ho, hO, hD => 
      obtain rfl := Option.some.inj ho.symm
      clear ho
      have ev4 : FA.eval (.tmp 4) = .int .i64 (xs : Int) := hO 4 (by kernel_rfl)
      have e4 : FA.tmps[4]?.getD undef = .int .i64 (xs : Int) := by simpa [Act.eval] using ev4
      replace ev4 := Lib.hid ev4
      clear hO hD
      rw [if_pos (by decide)]
      refine ⟨.int .i64 (xs : Int), .inl ⟨by simp [Region.wanted], fun w => ?_⟩, rfl⟩
      go_simp
    | 12, _, ho, hO, hD => 
      obtain rfl := Option.some.inj ho.symm
      clear ho
      have ev30 : FA.eval (.tmp 30) = .slice A n c := hD 10 30 (by kernel_rfl)
      have e30 : FA.tmps[30]?.getD undef = .slice A n c := by simpa [Act.eval] using ev30
      replace ev30 := Lib.hid ev30
      have ev31 : FA.eval (.tmp 31) = .int .i64 (xs : Int) := hD 11 31 (by kernel_rfl)
      have e31 : FA.tmps[31]?.getD undef = .int .i64 (xs : Int) := by simpa [Act.eval] using ev31
      replace ev31 := Lib.hid ev31
      clear hO hD
      rw [if_neg (by decide)]
      intro K hK
      have s1 : xs ≤ c := by omega
      have s2 : (xs : Int) ≤ (c : Int) := by omega
      have s3 : (8 : Int) ≤ (xs : Int) := by omega
      have s4 : 8 ≤ c := by omega
      go_simp
      exact hK.out _ _ (Ex.refl _) rfl
    | 13, _, ho, hO, hD => 
      obtain rfl := Option.some.inj ho.symm
      clear ho
      have f29 := hD 9 29 (by kernel_rfl)
      generalize eu29 : FA.eval (.tmp 29) = u29 at f29
      have e29 : FA.tmps[29]?.getD undef = u29 := by rw [← eu29]; simp [Act.eval]
      clear eu29
      have ev32 : FA.eval (.tmp 32) = .slice (cutA A c 8 1) (xs - 8) (c - 8) := hD 12 32 (by kernel_rfl)
      have e32 : FA.tmps[32]?.getD undef = .slice (cutA A c 8 1) (xs - 8) (c - 8) := by simpa [Act.eval] using ev32
      replace ev32 := Lib.hid ev32
      clear hO hD
      rw [if_neg (by decide)]
      intro K hK
      obtain ⟨A1, n1, rfl, hr1, hA1⟩ := f29
      obtain rfl : n1 = 0 := hr1.1.symm
      refine wanted_if rfl ?_
      refine rel_appN bt (.tmp 29) (.tmp 32) (w.heap.size + 1) rfl (by simpa [Act.eval] using e29) hr1 hA1 (by simp [size_plus]) ev32.out ((((hr.cut (k := 8) (by omega)).take (k := xs - 8) (by omega)).alloc _).plus_ _ _) (by omega) ?_
      intro A2 n2 c2 w2 hex hr2 hA2
      exact hK.out _ _ hex ⟨_, _, _, rfl, hr2, hA2⟩
    | 14, _, ho, hO, hD => 
      obtain rfl := Option.some.inj ho.symm
      clear ho
      have ev22 : FA.eval (.tmp 22) = .int .u16 (x0 : Nat) := hD 2 22 (by kernel_rfl)
      have e22 : FA.tmps[22]?.getD undef = .int .u16 (x0 : Nat) := by simpa [Act.eval] using ev22
      replace ev22 := Lib.hid ev22
      have ev25 : FA.eval (.tmp 25) = .int .u16 (x1 : Nat) := hD 5 25 (by kernel_rfl)
      have e25 : FA.tmps[25]?.getD undef = .int .u16 (x1 : Nat) := by simpa [Act.eval] using ev25
      replace ev25 := Lib.hid ev25
      have ev28 : FA.eval (.tmp 28) = .int .u16 (x2 : Nat) := hD 8 28 (by kernel_rfl)
      have e28 : FA.tmps[28]?.getD undef = .int .u16 (x2 : Nat) := by simpa [Act.eval] using ev28
      replace ev28 := Lib.hid ev28
      have f33 := hD 13 33 (by kernel_rfl)
      generalize eu33 : FA.eval (.tmp 33) = u33 at f33
      have e33 : FA.tmps[33]?.getD undef = u33 := by rw [← eu33]; simp [Act.eval]
      clear eu33
      clear hO hD
      rw [if_neg (by decide)]
      intro K hK
      obtain ⟨A1, n1, c1, rfl, hr1, hA1⟩ := f33
      go_simp
      exact hK.out _ _ (Ex.refl _) ⟨_, _, _, rfl, hr1, hA1⟩
    | (k + 15), hi, _, _, _ => exact absurd hi (by omega)
  intro vs x hp
  have p0 : vs 0 = .slice A n c := hp 0 (by omega)
  have p1 : vs 1 = .int .u64 (x0 : Nat) := hp 1 (by omega)
  have p2 : vs 2 = .int .u16 (x0 : Nat) := hp 2 (by omega)
  have p3 : vs 3 = .slice A n c := hp 3 (by omega)
  have p4 : vs 4 = .int .u64 (x1 : Nat) := hp 4 (by omega)
  have p5 : vs 5 = .int .u16 (x1 : Nat) := hp 5 (by omega)
  have p6 : vs 6 = .slice A n c := hp 6 (by omega)
  have p7 : vs 7 = .int .u64 (x2 : Nat) := hp 7 (by omega)
  have p8 : vs 8 = .int .u16 (x2 : Nat) := hp 8 (by omega)
  have p9 := hp 9 (by omega)
  have p10 : vs 10 = .slice A n c := hp 10 (by omega)
  have p11 : vs 11 = .int .i64 (xs : Int) := hp 11 (by omega)
  have p12 : vs 12 = .slice (cutA A c 8 1) (xs - 8) (c - 8) := hp 12 (by omega)
  have p13 := hp 13 (by omega)
  have p14 := hp 14 (by omega)
  clear hp
  simp only [List.take_succ_cons, List.take_zero, List.drop_succ_cons, List.drop_zero, putAll, Nat.zero_add, Nat.reduceAdd, Act.put, List.setIfInBounds_toArray, List.set_cons_zero, List.set_cons_succ, p0, p1, p2, p3, p4, p5, p6, p7, p8, p10, p11, p12]
  clear p0 p1 p2 p3 p4 p5 p6 p7 p8 p10 p11 p12
  generalize vs 9 = y9 at *
  generalize vs 13 = y13 at *
  generalize vs 14 = y14 at *
  clear vs
  obtain ⟨A1, n1, c1, rfl, hr1, hA1⟩ := p14
  go_wp2_with (refine at_op (.store 41 (.tmp 2) (.tmp 34)) rfl ?_; refine wpList_stA (t := 41) 41 (.tmp 2) (.tmp 34) rfl rfl [.int .u16 (x0 : Nat), .int .u16 (x1 : Nat), .int .u16 (x2 : Nat), .slice A1 n1 c1] [.int .u16 0, .int .u16 0, .int .u16 0, .slice none 0 0] rfl (by simp [Value.oneCell']) rfl rfl (hZ.later (below_plus _ _ _)) (szDgR _ rfl) ?_; intro w2 hb2 hg2)
  refine NoPanic.normal ?_
  go_wp2
  refine bodyPost_agg2 Try.results22 rfl rfl hb2.range Try.underlying41 rfl (szDgR _ rfl) rfl (RetDg.mk ?_ (below_grown (belowP ((Below.refl _ _).alloc (Nat.le_refl _) _) _ _) hg2 (Nat.le_refl _)))
  exact hr1.grownN hA1 hg2 (by omega)
end Go.Proofs.Yticlohlpccollaa
