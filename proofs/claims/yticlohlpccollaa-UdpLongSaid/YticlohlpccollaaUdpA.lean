/- The example of chapter 7. -/
import Derived.Test.YticlohlpccollaaOctB
import Derived.Deep.RegionWith
import Derived.Deep.DeepCutAuto
namespace Go.Proofs.Yticlohlpccollaa
open Go.RowKit
set_option linter.unusedVariables false
set_option linter.unusedSimpArgs false
attribute [local go_sem ↓] sliced_cut
attribute [local go_sem] cutA_zero

theorem szQuic (cs : List Value) (h : cs.length = 5) : (Try.prog.info? 163).map (·.size) = some cs.length := by rw [h]; kernel_rfl
set_option maxHeartbeats 1000000 in
theorem idG (w : World) (r : Nat) (L : List UInt8) (k x : Nat) (h : Rdr w r (L.drop k) false) (hm : L.length ≤ 549755813888) (hx : num ((L.drop k).take 1) = x) (hx20 : x ≤ 20) (hn : k + 1 + x ≤ L.length) :
    Calls Try.prog 170 #[.pointer (some ⟨r, 0, none⟩)] w fun e w' => ∃ A n c, e = .returned (.tuple #[.slice A n c, .int .i64 0]) ∧ Ob w' w.heap.size A n c ((L.drop (k + 1)).take x) ∧ Rdr w' r (L.drop (k + 1 + x)) false ∧ w.grownBy w' (some r) := by
  have HX := Lib.hid hx
  clear hx
  go_enter Try.func170, Try.ntmps170
  go_wp2_with fail
  refine (byteG _ r L k x h (by omega) (by omega) HX.out).mono ?_
  rintro e w1 ⟨rfl, hR1, hg1⟩
  go_wp2_with fail
  refine (bytesG _ r L (k + 1) x hR1 (by omega) hn).mono ?_
  rintro e w2 ⟨A, n, c, rfl, ho2, hR2, hg2⟩
  go_wp2_with fail
  refine (badG _ r _ false hR2).mono ?_
  rintro e w3 ⟨rfl, rfl⟩
  go_wp2
  go_ret2
  exact ⟨A, n, c, rfl, ho2.mono hg1.size, hR2, hg1.trans hg2⟩
def exQ : List UInt8 := [192, 0, 0, 0, 1, 2, 171, 205, 0]
def RetQ (w : World) (e : Ending) (w' : World) : Prop := ∃ A n c A2 n2 c2, e = .returned (.tuple #[.agg #[.bool true, .int .u32 1, .slice A n c, .slice A2 n2 c2, .bool true], .int .i64 0]) ∧ Ob w' w.heap.size A n c [171, 205] ∧ Below w.heap.size w w'
set_option maxHeartbeats 4000000 in
set_option maxRecDepth 100000 in
theorem udpLong_ex (w : World) (A : Option Addr) (c : Nat) (hr : Rb w A 9 c exQ) : Calls Try.prog 150 #[.slice A 9 c] w (RetQ w) := by
  have hc := hr.cap
  have hand : bits .and .u8 192 48 = 0 := by decide +kernel
  go_enter Try.func150, Try.ntmps150
  go_wp2_with fail
  refine (readK _ _ _ exQ _ (hr.alloc _) (by omega)).mono ?_
  rintro e w1 ⟨r, bs1, d1, rfl, rfl, hr1, hR0⟩
  go_wp2_with fail
  refine (byteK _ _ _ r exQ 0 192 hR0 hr1 (by decide) (by decide) (by decide +kernel)).mono ?_
  rintro e w1 ⟨bs2, d2, rfl, rfl, hR1, -⟩
  go_wp2_with fail
  refine (longK _ _ _ r exQ 1 1 hR1 hr1 (by decide) (by decide) (by decide +kernel)).mono ?_
  rintro e w1 ⟨bs3, d3, rfl, rfl, hR2, -⟩
  have hB0 : Below w.heap.size w (plus (w.alloc (.cells #[.bool false, .int .u32 0, .slice none 0 0, .slice none 0 0, .bool false] 163)) bs3 d3) := belowP ((Below.refl _ _).alloc (Nat.le_refl _) _) _ _
  have hX6 : Bk ((plus (w.alloc (.cells #[.bool false, .int .u32 0, .slice none 0 0, .slice none 0 0, .bool false] 163)) bs3 d3).alloc (.cells #[.bool true, .int .u32 1, .slice none 0 0, .slice none 0 0, .bool false] 163)) (w.heap.size + 1 + bs3.length) 163 [.bool true, .int .u32 1, .slice none 0 0, .slice none 0 0, .bool false] := by
    have := Bk.new (plus (w.alloc (.cells #[.bool false, .int .u32 0, .slice none 0 0, .slice none 0 0, .bool false] 163)) bs3 d3) 163 #[.bool true, .int .u32 1, .slice none 0 0, .slice none 0 0, .bool false]
    rw [size_plus, World.size_alloc] at this
    exact this
  have hZ6 : Bk ((plus (w.alloc (.cells #[.bool false, .int .u32 0, .slice none 0 0, .slice none 0 0, .bool false] 163)) bs3 d3).alloc (.cells #[.bool true, .int .u32 1, .slice none 0 0, .slice none 0 0, .bool false] 163)) w.heap.size 163 [.bool false, .int .u32 0, .slice none 0 0, .slice none 0 0, .bool false] := ((Bk.new w 163 #[.bool false, .int .u32 0, .slice none 0 0, .slice none 0 0, .bool false]).later (below_plus _ _ _)).alloc _
  have hlt : r < w.heap.size + 1 + bs3.length := by have := hR2.lt; simpa [size_plus] using this
  have hR6 := hR2.later ((Below.refl _ _).alloc (Nat.le_refl _) (.cells #[.bool true, .int .u32 1, .slice none 0 0, .slice none 0 0, .bool false] 163))
  have hB6 := hB0.alloc hB0.size (.cells #[.bool true, .int .u32 1, .slice none 0 0, .slice none 0 0, .bool false] 163)
  have hr2 : w.heap.size < r := by have := hr1; simp at this; omega
  go_wp2_with fail
  generalize (plus (w.alloc (.cells #[.bool false, .int .u32 0, .slice none 0 0, .slice none 0 0, .bool false] 163)) bs3 d3).alloc _ = W1 at hX6 hZ6 hR6 hB6 ⊢
  generalize w.heap.size + 1 + bs3.length = g at *
  refine (idG _ r exQ 5 2 hR6 (by decide) (by decide +kernel) (by omega) (by decide)).mono ?_
  clear hR6
  rintro e v1 ⟨A1, n1, c1, rfl, ho1, hR6, hg6⟩
  have hgW := hX6.lt
  replace hX6 := hX6.grown hg6 (by simp; omega)
  replace hZ6 := hZ6.grown hg6 (by simp; omega)
  replace hB6 := hB6.trans (below_of_grown hg6 hB6.size (fun k hk => by injection hk with hk; omega))
  clear hg6
  have q : v1.cell? ⟨g, 2, none⟩ = some (.slice none 0 0) := hX6.cell 2
  have f := hX6.frozen 2
  go_wp2_with fail
  clear q f
  replace hX6 := hX6.set_ 2 (.slice A1 n1 c1)
  simp only [List.set_cons_zero, List.set_cons_succ] at hX6
  replace hR6 := hR6.far (p := ⟨g, 2, none⟩) hlt (.slice A1 n1 c1)
  replace hZ6 := hZ6.far (p := ⟨g, 2, none⟩) (by simp; omega) (.slice A1 n1 c1)
  replace hB6 := hB6.setCell (p := ⟨g, 2, none⟩) (by simp; omega) (.slice A1 n1 c1)
  replace ho1 := ho1.setCell (p := ⟨g, 2, none⟩) hgW (.slice A1 n1 c1)
  generalize v1.setCell ⟨g, 2, none⟩ (.slice A1 n1 c1) = W2 at hX6 hR6 hZ6 hB6 ho1 ⊢
  refine (idG _ r exQ 8 0 hR6 (by decide) (by decide +kernel) (by omega) (by decide)).mono ?_
  clear hR6
  rintro e v2 ⟨A2, n2, c2, rfl, ho2, hR6, hg6⟩
  have hgW2 := hX6.lt
  replace hX6 := hX6.grown hg6 (by simp; omega)
  replace hZ6 := hZ6.grown hg6 (by simp; omega)
  replace hB6 := hB6.trans (below_of_grown hg6 hB6.size (fun k hk => by injection hk with hk; omega))
  replace ho1 := ho1.grown hg6 (fun k hk => by have := (ho1.blk k hk).1; simp; omega)
  clear hg6 hR6
  have q1 : v2.cell? ⟨g, 1, none⟩ = some (.int .u32 1) := hX6.cell 1
  have q : v2.cell? ⟨g, 3, none⟩ = some (.slice none 0 0) := hX6.cell 3
  have f := hX6.frozen 3
  have q4 : v2.cell? ⟨g, 4, none⟩ = some (.bool false) := hX6.cell 4
  have f4 := hX6.frozen 4
  go_upto_region 12 with fail
  clear q f q1 q4 f4
  replace hX6 := (hX6.set_ 3 (.slice A2 n2 c2)).set_ 4 (.bool true)
  simp only [List.set_cons_zero, List.set_cons_succ] at hX6
  replace hZ6 := (hZ6.far (p := ⟨g, 3, none⟩) (by simp; omega) (.slice A2 n2 c2)).far (p := ⟨g, 4, none⟩) (by simp; omega) (.bool true)
  replace hB6 := (hB6.setCell (p := ⟨g, 3, none⟩) (by simp; omega) (.slice A2 n2 c2)).setCell (p := ⟨g, 4, none⟩) (by simp; omega) (.bool true)
  replace ho1 := (ho1.setCell (p := ⟨g, 3, none⟩) hgW (.slice A2 n2 c2)).setCell (p := ⟨g, 4, none⟩) hgW (.bool true)
  generalize (v2.setCell ⟨g, 3, none⟩ (.slice A2 n2 c2)).setCell ⟨g, 4, none⟩ (.bool true) = W3 at hX6 hZ6 hB6 ho1 ⊢
  go_wp2_with (first
    | (refine at_op (.load 163 (.tmp 6)) rfl ?_; refine wpList_ldA (t := 163) 163 (.tmp 6) rfl rfl [.bool true, .int .u32 1, .slice A1 n1 c1, .slice A2 n2 c2, .bool true] rfl hX6 rfl Try.underlying163 rfl (szQuic _ rfl) ?_)
    | (refine at_op (.store 163 (.tmp 2) (.tmp 48)) rfl ?_; refine wpList_stA (t := 163) 163 (.tmp 2) (.tmp 48) rfl rfl [.bool true, .int .u32 1, .slice A1 n1 c1, .slice A2 n2 c2, .bool true] [.bool false, .int .u32 0, .slice none 0 0, .slice none 0 0, .bool false] rfl (by simp [Value.oneCell']) rfl rfl hZ6 (szQuic _ rfl) ?_; intro w2 hb2 hg2))
  refine bodyPost_agg2 Try.results150 rfl rfl hb2.range Try.underlying163 rfl (szQuic _ rfl) rfl ?_
  refine ⟨A1, n1, c1, A2, n2, c2, rfl, ?_, below_grown hB6 hg2 (Nat.le_refl _)⟩
  exact (ho1.grown hg2 (fun k hk => by have := (ho1.blk k hk).1; simp; omega)).mono (by omega)
set_option maxHeartbeats 4000000 in
set_option maxRecDepth 100000 in
theorem udpShow_ex (w : World) (A : Option Addr) (c : Nat) (hr : Rb w A 9 c exQ) : Calls Try.prog 101 #[.slice A 9 c, .int .i64 8] w (RetQ w) := by
  obtain ⟨b, off, rfl, hlt, hcell⟩ := hr.2.2.at_ (by decide)
  have q0 : w.cell? ⟨b, off, none⟩ = some (.int .u8 192) := by have := hcell 0 _ rfl; rw [Nat.add_zero] at this; exact this
  have hand : bits .and .u8 192 128 = 128 := by decide +kernel
  have hZ : Bk (w.alloc (.cells #[.bool false, .int .u32 0, .slice none 0 0, .slice none 0 0, .bool false] 163)) w.heap.size 163 [.bool false, .int .u32 0, .slice none 0 0, .slice none 0 0, .bool false] := Bk.new w 163 #[.bool false, .int .u32 0, .slice none 0 0, .slice none 0 0, .bool false]
  clear hcell
  go_enter Try.func101, Try.ntmps101
  go_wp2_with fail
  refine (udpLong_ex _ _ c (hr.alloc _)).mono ?_
  rintro e w1 ⟨A1, n1, c1, A2, n2, c2, rfl, h1, hb1⟩
  have hZ1 := hZ.later hb1
  go_wp2_with (refine at_op (.store 163 (.tmp 4) (.tmp 19)) rfl ?_; refine wpList_stA (t := 163) 163 (.tmp 4) (.tmp 19) rfl rfl [.bool true, .int .u32 1, .slice A1 n1 c1, .slice A2 n2 c2, .bool true] [.bool false, .int .u32 0, .slice none 0 0, .slice none 0 0, .bool false] rfl (by simp [Value.oneCell']) rfl rfl hZ1 (szQuic _ rfl) ?_; intro w2 hb2 hg2)
  refine bodyPost_agg2 Try.results101 rfl rfl hb2.range Try.underlying163 rfl (szQuic _ rfl) rfl ?_
  refine ⟨A1, n1, c1, A2, n2, c2, rfl, ?_, below_grown ((((Below.refl w.heap.size w).alloc (Nat.le_refl _) _).trans (hb1.mono (by simp)))) hg2 (Nat.le_refl _)⟩
  exact (h1.grown hg2 (fun k hk => by have := (h1.blk k hk).1; simp at this; simp; omega)).mono (by simp)
set_option maxHeartbeats 4000000 in
set_option maxRecDepth 100000 in
theorem udpAwake (w : World) : Calls Try.prog 20 #[] w (RetV w (.bool true)) := by
  have hlit : Rb (w.alloc (.cells #[.int .u8 192, .int .u8 0, .int .u8 0, .int .u8 0, .int .u8 1, .int .u8 2, .int .u8 171, .int .u8 205, .int .u8 0] 5)) (some ⟨w.heap.size, 0, none⟩) 9 9 exQ := (Ob.lit w (Nat.le_refl _) #[.int .u8 192, .int .u8 0, .int .u8 0, .int .u8 0, .int .u8 1, .int .u8 2, .int .u8 171, .int .u8 205, .int .u8 0] exQ 9 rfl (by decide) rfl).rb
  go_enter Try.func20, Try.ntmps20
  go_wp2_with fail
  refine (udpShow_ex _ _ 9 hlit).mono ?_
  rintro e w1 ⟨A1, n1, c1, A2, n2, c2, rfl, h1, hb1⟩
  have e1 := fun o => run_str bt Try.underlying9 (h1.rb.alloc o)
  go_wp2
  go_ret
  refine RetV.mk (Below.allocS ?_ _)
  exact ((Below.refl w.heap.size w).alloc (Nat.le_refl _) _).trans (hb1.mono (by simp))
end Go.Proofs.Yticlohlpccollaa
