/- siphash: absorb, start, Sum. -/
import Derived.Test.YtfmkndemkpecpaaSipX
import Derived.Test.YtfmkndemkpecpaaSipL
namespace Go.Proofs.Ytfmkndemkpecpaa
open Go.RowKit
set_option linter.unusedVariables false
attribute [local go_sem ↓] sliced_cut
attribute [local go_sem] cutA_zero wadd wxor

noncomputable def inD (v : W4) (m : UInt64) : W4 := ⟨v.a, v.b, v.c, uxor v.d m⟩
noncomputable def inA (v : W4) (m : UInt64) : W4 := ⟨uxor v.a m, v.b, v.c, v.d⟩
noncomputable def absorb (v : W4) (m : UInt64) : W4 := inA (sround (sround (inD v m))) m
/-- the first j chunks of l are absorbed -/
noncomputable def feed (v : W4) (l : List UInt8) : Nat → W4
  | 0 => v
  | j + 1 => absorb (feed v l j) (lit ((l.drop (8 * j)).take 8))
noncomputable def begin4 (key : List UInt8) : W4 := ⟨uxor (lit (key.take 8)) 8317987319222330741, uxor (lit (key.drop 8)) 7237128888997146477, uxor (lit (key.take 8)) 7816392313619706465, uxor (lit (key.drop 8)) 8387220255154660723⟩
noncomputable def inC (v : W4) : W4 := ⟨v.a, v.b, uxor v.c 255, v.d⟩
noncomputable def lastW (l : List UInt8) : UInt64 := UInt64.ofNat (lnum (l.drop (8 * (l.length / 8))) + l.length % 256 * 72057594037927936)
noncomputable def finish (v : W4) : UInt64 :=
  let u := sround (sround (sround (sround (inC v))))
  uxor (uxor (uxor u.a u.b) u.c) u.d
noncomputable def sip (key l : List UInt8) : UInt64 := finish (absorb (feed (begin4 key) l (l.length / 8)) (lastW l))

set_option maxHeartbeats 2000000 in
set_option maxRecDepth 100000 in
theorem absorb_any (g : Nat) (v : W4) (m : UInt64) (w : World) (h : Bk w g 287 v.cells) : Calls Try.prog 184 #[.pointer (some ⟨g, 0, none⟩), .int .u64 (m.toNat : Int)] w (RetW w g 287 (absorb v m)) := by
  have q3 : w.cell? ⟨g, 3, none⟩ = some (.int .u64 (v.d.toNat : Int)) := h.cell 3
  have ff := h.frozen 3
  go_enter Try.func184, Try.ntmps184
  go_wp2
  refine wp_tail 8 (by kernel_rfl) (by kernel_rfl) ?_
  simp only [List.take_succ_cons, List.take_zero, List.drop_succ_cons, List.drop_zero]
  repeat still_step
  refine wpStill_nil ?_
  go_wp2_with fail
  clear q3
  have h1 : Bk (w.setCell ⟨g, 3, none⟩ (.int .u64 ((uxor v.d m).toNat : Int))).drew g 287 (inD v m).cells := Bk.drew (h.set_ 3 _)
  refine (round_any g (inD v m) _ h1).mono ?_
  rintro e w2 ⟨rfl, h2, hg2⟩
  have hg1 : w.grownBy w2 (some g) := (grownBy_drew (grownBy_setCell _ _ _ _)).trans hg2
  clear hg2 h1 ff
  go_wp2_with fail
  refine (round_any g _ _ h2).mono ?_
  rintro e w3 ⟨rfl, h3, hg3⟩
  obtain ⟨u, e⟩ : ∃ u, u = sround (sround (inD v m)) := ⟨_, rfl⟩
  rw [← e] at h3
  have E := Lib.hid e
  clear e
  have q0 : w3.cell? ⟨g, 0, none⟩ = some (.int .u64 (u.a.toNat : Int)) := h3.cell 0
  have f0 := h3.frozen 0
  go_wp2
  refine wp_tail 8 (by kernel_rfl) (by kernel_rfl) ?_
  simp only [List.take_succ_cons, List.take_zero, List.drop_succ_cons, List.drop_zero]
  repeat still_step
  refine wpStill_nil ?_
  go_wp2
  go_end0
  refine ⟨rfl, Bk.drew ?_, grownBy_drew ((hg1.trans hg3).trans (grownBy_setCell _ _ _ _))⟩
  unfold absorb
  rw [← E.out]
  exact h3.set_ 0 _

theorem wxorc (x : UInt64) (k : Nat) (hk : k < 18446744073709551616) : bits .xor .u64 (x.toNat : Int) (k : Nat) = ((uxor x (UInt64.ofNat k)).toNat : Int) := by
  have e : k = (UInt64.ofNat k).toNat := by rw [UInt64.toNat_ofNat', Nat.mod_eq_of_lt hk]
  have := wxor x (UInt64.ofNat k)
  rw [← e] at this
  exact this
theorem xc1 (x : UInt64) : bits .xor .u64 (x.toNat : Int) 8317987319222330741 = ((uxor x 8317987319222330741).toNat : Int) := wxorc x 8317987319222330741 (by decide)
theorem xc2 (x : UInt64) : bits .xor .u64 (x.toNat : Int) 7237128888997146477 = ((uxor x 7237128888997146477).toNat : Int) := wxorc x 7237128888997146477 (by decide)
theorem xc3 (x : UInt64) : bits .xor .u64 (x.toNat : Int) 7816392313619706465 = ((uxor x 7816392313619706465).toNat : Int) := wxorc x 7816392313619706465 (by decide)
theorem xc4 (x : UInt64) : bits .xor .u64 (x.toNat : Int) 8387220255154660723 = ((uxor x 8387220255154660723).toNat : Int) := wxorc x 8387220255154660723 (by decide)
theorem xc5 (x : UInt64) : bits .xor .u64 (x.toNat : Int) 255 = ((uxor x 255).toNat : Int) := wxorc x 255 (by decide)
attribute [local go_sem] xc1 xc2 xc3 xc4 xc5

theorem key_rb {w : World} {key : List UInt8} (hk : key.length = 16) (t : TypeId) : Rb (w.alloc (.cells (bcs key).toArray t)) (some ⟨w.heap.size, 0, none⟩) 16 16 key := by
  refine ⟨hk, Nat.le_refl _, .inr ⟨w.heap.size, 0, rfl, by simp, fun i u hu => ?_⟩⟩
  rw [Nat.zero_add]
  simpa using hu

theorem key_rb8 {w : World} {key : List UInt8} (hk : key.length = 16) (t : TypeId) : Rb (w.alloc (.cells (bcs key).toArray t)) (some ⟨w.heap.size, 8, none⟩) 8 8 (key.drop 8) := by
  have h := (key_rb (w := w) hk t).cut (k := 8) (by omega)
  rw [cutA_some _ _ _ _ (by omega)] at h
  exact h

set_option maxHeartbeats 2000000 in
set_option maxRecDepth 100000 in
theorem start_any (key : List UInt8) (hk : key.length = 16) (w : World) : Calls Try.prog 183 #[.agg (bcs key).toArray] w
    fun e w' => e = .returned (.agg (begin4 key).cells.toArray) ∧ ∃ bs d, w' = plus w bs d := by
  have hrb := fun t => (key_rb (w := w) hk t).take (k := 8) (by omega)
  have hrc := fun t => key_rb8 (w := w) hk t
  go_enter Try.func183, Try.ntmps183
  go_wp2_with fail
  go_quiet ((go_at_call 185; exact quiet_same (little_any _ _ _ _ _ (by with_reducible first | exact ((hrb _).alloc _).drewN _ | exact ((hrc _).alloc _).drewN _) (by omega))))
  go_wp2
  refine bodyPost_ret (v := .agg (begin4 key).cells.toArray) (by simp [results, Try.results183, go_sem, begin4, W4.cells]) rfl ⟨rfl, plus_of ?_⟩
  repeat (first | exact Below.refl _ _ | refine Below.setCell ?_ (by simp) _ | refine belowN ?_ _ | refine Below.alloc ?_ (by simp) _)
end Go.Proofs.Ytfmkndemkpecpaa
