/- siphash's round. -/
import Derived.Test.YtfmkndemkpecpaaSipM
import Derived.StillTailTactics
namespace Go.Proofs.Ytfmkndemkpecpaa
open Go.RowKit
set_option linter.unusedVariables false
attribute [local go_sem ↓] sliced_cut
attribute [local go_sem] cutA_zero wadd wxor

set_option maxHeartbeats 4000000 in
set_option maxRecDepth 100000 in
theorem round_any (g : Nat) (v : W4) (w : World) (h0 : Bk w g 287 v.cells) : Calls Try.prog 186 #[.pointer (some ⟨g, 0, none⟩)] w (RetW w g 287 (sround v)) := by
  go_enter Try.func186, Try.ntmps186
  go_wp2
  have q0 : w.cell? ⟨g, 0, none⟩ = some (.int .u64 (v.a.toNat : Int)) := h0.cell 0
  have q1 : w.cell? ⟨g, 1, none⟩ = some (.int .u64 (v.b.toNat : Int)) := h0.cell 1
  have f := h0.frozen 0
  refine wp_tail 11 (by kernel_rfl) (by kernel_rfl) ?_
  simp only [List.take_succ_cons, List.take_zero, List.drop_succ_cons, List.drop_zero]
  repeat still_step
  refine wpStill_nil ?_
  go_wp2
  clear q0 q1 f
  refine gen_world (fun w' => Bk w' g 287 (st0 v).cells ∧ w.grownBy w' (some g)) ⟨Bk.drew (by simpa [W4.cells, st0] using h0.set_ 0 _), grownBy_drew (grownBy_setCell _ _ _ _)⟩ ?_
  rintro w1 ⟨h1, k1⟩
  obtain ⟨v1, e1⟩ : ∃ u, u = st0 v := ⟨_, rfl⟩
  rw [← e1] at h1
  have E1 := Lib.hid e1
  clear e1
  go_wp2
  have q0 : w1.cell? ⟨g, 0, none⟩ = some (.int .u64 (v1.a.toNat : Int)) := h1.cell 0
  have q1 : w1.cell? ⟨g, 1, none⟩ = some (.int .u64 (v1.b.toNat : Int)) := h1.cell 1
  have f := h1.frozen 1
  refine wp_tail 13 (by kernel_rfl) (by kernel_rfl) ?_
  simp only [List.take_succ_cons, List.take_zero, List.drop_succ_cons, List.drop_zero]
  repeat (first | still_step | still_call (still_of (rotl13 _ _)))
  refine wpStill_nil ?_
  go_wp2
  clear q0 q1 f
  refine gen_world (fun w' => Bk w' g 287 (st1 v1).cells ∧ w1.grownBy w' (some g)) ⟨Bk.drew (by simpa [W4.cells, st1] using h1.set_ 1 _), grownBy_drew (grownBy_setCell _ _ _ _)⟩ ?_
  rintro w2 ⟨h2, k2⟩
  obtain ⟨v2, e2⟩ : ∃ u, u = st1 v1 := ⟨_, rfl⟩
  rw [← e2] at h2
  have E2 := Lib.hid e2
  clear e2
  go_wp2
  have q0 : w2.cell? ⟨g, 0, none⟩ = some (.int .u64 (v2.a.toNat : Int)) := h2.cell 0
  have f := h2.frozen 0
  refine wp_tail 8 (by kernel_rfl) (by kernel_rfl) ?_
  simp only [List.take_succ_cons, List.take_zero, List.drop_succ_cons, List.drop_zero]
  repeat (first | still_step | still_call (still_of (rotl32 _ _)))
  refine wpStill_nil ?_
  go_wp2
  clear q0 f
  refine gen_world (fun w' => Bk w' g 287 (st2 v2).cells ∧ w2.grownBy w' (some g)) ⟨Bk.drew (by simpa [W4.cells, st2] using h2.set_ 0 _), grownBy_drew (grownBy_setCell _ _ _ _)⟩ ?_
  rintro w3 ⟨h3, k3⟩
  obtain ⟨v3, e3⟩ : ∃ u, u = st2 v2 := ⟨_, rfl⟩
  rw [← e3] at h3
  have E3 := Lib.hid e3
  clear e3
  go_wp2
  have q2 : w3.cell? ⟨g, 2, none⟩ = some (.int .u64 (v3.c.toNat : Int)) := h3.cell 2
  have q3 : w3.cell? ⟨g, 3, none⟩ = some (.int .u64 (v3.d.toNat : Int)) := h3.cell 3
  have f := h3.frozen 2
  refine wp_tail 11 (by kernel_rfl) (by kernel_rfl) ?_
  simp only [List.take_succ_cons, List.take_zero, List.drop_succ_cons, List.drop_zero]
  repeat still_step
  refine wpStill_nil ?_
  go_wp2
  clear q2 q3 f
  refine gen_world (fun w' => Bk w' g 287 (st3 v3).cells ∧ w3.grownBy w' (some g)) ⟨Bk.drew (by simpa [W4.cells, st3] using h3.set_ 2 _), grownBy_drew (grownBy_setCell _ _ _ _)⟩ ?_
  rintro w4 ⟨h4, k4⟩
  obtain ⟨v4, e4⟩ : ∃ u, u = st3 v3 := ⟨_, rfl⟩
  rw [← e4] at h4
  have E4 := Lib.hid e4
  clear e4
  go_wp2
  have q2 : w4.cell? ⟨g, 2, none⟩ = some (.int .u64 (v4.c.toNat : Int)) := h4.cell 2
  have q3 : w4.cell? ⟨g, 3, none⟩ = some (.int .u64 (v4.d.toNat : Int)) := h4.cell 3
  have f := h4.frozen 3
  refine wp_tail 13 (by kernel_rfl) (by kernel_rfl) ?_
  simp only [List.take_succ_cons, List.take_zero, List.drop_succ_cons, List.drop_zero]
  repeat (first | still_step | still_call (still_of (rotl16 _ _)))
  refine wpStill_nil ?_
  go_wp2
  clear q2 q3 f
  refine gen_world (fun w' => Bk w' g 287 (st4 v4).cells ∧ w4.grownBy w' (some g)) ⟨Bk.drew (by simpa [W4.cells, st4] using h4.set_ 3 _), grownBy_drew (grownBy_setCell _ _ _ _)⟩ ?_
  rintro w5 ⟨h5, k5⟩
  obtain ⟨v5, e5⟩ : ∃ u, u = st4 v4 := ⟨_, rfl⟩
  rw [← e5] at h5
  have E5 := Lib.hid e5
  clear e5
  go_wp2
  have q0 : w5.cell? ⟨g, 0, none⟩ = some (.int .u64 (v5.a.toNat : Int)) := h5.cell 0
  have q3 : w5.cell? ⟨g, 3, none⟩ = some (.int .u64 (v5.d.toNat : Int)) := h5.cell 3
  have f := h5.frozen 0
  refine wp_tail 11 (by kernel_rfl) (by kernel_rfl) ?_
  simp only [List.take_succ_cons, List.take_zero, List.drop_succ_cons, List.drop_zero]
  repeat still_step
  refine wpStill_nil ?_
  go_wp2
  clear q0 q3 f
  refine gen_world (fun w' => Bk w' g 287 (st5 v5).cells ∧ w5.grownBy w' (some g)) ⟨Bk.drew (by simpa [W4.cells, st5] using h5.set_ 0 _), grownBy_drew (grownBy_setCell _ _ _ _)⟩ ?_
  rintro w6 ⟨h6, k6⟩
  obtain ⟨v6, e6⟩ : ∃ u, u = st5 v5 := ⟨_, rfl⟩
  rw [← e6] at h6
  have E6 := Lib.hid e6
  clear e6
  go_wp2
  have q0 : w6.cell? ⟨g, 0, none⟩ = some (.int .u64 (v6.a.toNat : Int)) := h6.cell 0
  have q3 : w6.cell? ⟨g, 3, none⟩ = some (.int .u64 (v6.d.toNat : Int)) := h6.cell 3
  have f := h6.frozen 3
  refine wp_tail 13 (by kernel_rfl) (by kernel_rfl) ?_
  simp only [List.take_succ_cons, List.take_zero, List.drop_succ_cons, List.drop_zero]
  repeat (first | still_step | still_call (still_of (rotl21 _ _)))
  refine wpStill_nil ?_
  go_wp2
  clear q0 q3 f
  refine gen_world (fun w' => Bk w' g 287 (st6 v6).cells ∧ w6.grownBy w' (some g)) ⟨Bk.drew (by simpa [W4.cells, st6] using h6.set_ 3 _), grownBy_drew (grownBy_setCell _ _ _ _)⟩ ?_
  rintro w7 ⟨h7, k7⟩
  obtain ⟨v7, e7⟩ : ∃ u, u = st6 v6 := ⟨_, rfl⟩
  rw [← e7] at h7
  have E7 := Lib.hid e7
  clear e7
  go_wp2
  have q1 : w7.cell? ⟨g, 1, none⟩ = some (.int .u64 (v7.b.toNat : Int)) := h7.cell 1
  have q2 : w7.cell? ⟨g, 2, none⟩ = some (.int .u64 (v7.c.toNat : Int)) := h7.cell 2
  have f := h7.frozen 2
  refine wp_tail 11 (by kernel_rfl) (by kernel_rfl) ?_
  simp only [List.take_succ_cons, List.take_zero, List.drop_succ_cons, List.drop_zero]
  repeat still_step
  refine wpStill_nil ?_
  go_wp2
  clear q1 q2 f
  refine gen_world (fun w' => Bk w' g 287 (st7 v7).cells ∧ w7.grownBy w' (some g)) ⟨Bk.drew (by simpa [W4.cells, st7] using h7.set_ 2 _), grownBy_drew (grownBy_setCell _ _ _ _)⟩ ?_
  rintro w8 ⟨h8, k8⟩
  obtain ⟨v8, e8⟩ : ∃ u, u = st7 v7 := ⟨_, rfl⟩
  rw [← e8] at h8
  have E8 := Lib.hid e8
  clear e8
  go_wp2
  have q1 : w8.cell? ⟨g, 1, none⟩ = some (.int .u64 (v8.b.toNat : Int)) := h8.cell 1
  have q2 : w8.cell? ⟨g, 2, none⟩ = some (.int .u64 (v8.c.toNat : Int)) := h8.cell 2
  have f := h8.frozen 1
  refine wp_tail 13 (by kernel_rfl) (by kernel_rfl) ?_
  simp only [List.take_succ_cons, List.take_zero, List.drop_succ_cons, List.drop_zero]
  repeat (first | still_step | still_call (still_of (rotl17 _ _)))
  refine wpStill_nil ?_
  go_wp2
  clear q1 q2 f
  refine gen_world (fun w' => Bk w' g 287 (st8 v8).cells ∧ w8.grownBy w' (some g)) ⟨Bk.drew (by simpa [W4.cells, st8] using h8.set_ 1 _), grownBy_drew (grownBy_setCell _ _ _ _)⟩ ?_
  rintro w9 ⟨h9, k9⟩
  obtain ⟨v9, e9⟩ : ∃ u, u = st8 v8 := ⟨_, rfl⟩
  rw [← e9] at h9
  have E9 := Lib.hid e9
  clear e9
  go_wp2
  have q2 : w9.cell? ⟨g, 2, none⟩ = some (.int .u64 (v9.c.toNat : Int)) := h9.cell 2
  have f := h9.frozen 2
  refine wp_tail 8 (by kernel_rfl) (by kernel_rfl) ?_
  simp only [List.take_succ_cons, List.take_zero, List.drop_succ_cons, List.drop_zero]
  repeat (first | still_step | still_call (still_of (rotl32 _ _)))
  refine wpStill_nil ?_
  go_wp2
  clear q2 f
  go_end0
  have h10 : Bk (w9.setCell ⟨g, 2, none⟩ (.int .u64 ((rol 32 v9.c).toNat : Int))) g 287 (st9 v9).cells := by simpa [W4.cells, st9] using h9.set_ 2 (.int .u64 ((rol 32 v9.c).toNat : Int))
  have e : st9 v9 = sround v := by rw [E9.out, E8.out, E7.out, E6.out, E5.out, E4.out, E3.out, E2.out, E1.out]; rfl
  rw [e] at h10
  exact ⟨rfl, Bk.drew h10, ((((((((k1.trans k2).trans k3).trans k4).trans k5).trans k6).trans k7).trans k8).trans k9).trans (grownBy_drew (grownBy_setCell _ _ _ _))⟩
end Go.Proofs.Ytfmkndemkpecpaa
