/- (ring.Ring).Bytes. -/
import Derived.Test.YticlohlpccollaaRingR
namespace Go.Proofs.Yticlohlpccollaa
open Go.RowKit
set_option linter.unusedVariables false
set_option linter.unusedSimpArgs false
attribute [local go_sem ↓] sliced_cut
attribute [local go_sem] cutA_zero

theorem ring_rb {w : World} {key : List UInt8} (hk : K16 key) (n : Nat) (t : TypeId) : Rb (w.alloc (.cells (ringC key n).toArray t)) (some ⟨w.heap.size, 0, none⟩) 16 16 key := by
  refine ⟨hk, Nat.le_refl _, .inr ⟨w.heap.size, 0, rfl, by simp, fun i u hu => ?_⟩⟩
  rw [Nat.zero_add]
  have hi : i < (bcs key).length := (List.getElem?_eq_some_iff.1 hu).1
  simpa [ringC, List.getElem?_append_left hi] using hu
set_option maxHeartbeats 2000000 in
set_option maxRecDepth 100000 in
theorem ringBytes_any (key : List UInt8) (hk : K16 key) (n : Nat) (w : World) (hn : n < 18446744073709551616) : Calls Try.prog 34 #[.agg (ringC key n).toArray] w (RetB w (key ++ dig n 8)) := by
  have q := ringC_16 key hk n
  have hrk := ring_rb (w := w) hk n 55
  go_enter Try.func34, Try.ntmps34
  go_wp2
  refine wp_rel 6 8 rfl (by kernel_rfl) (by kernel_rfl) (fun i => match i with | 0 => MP.eq (.pointer (some ⟨w.heap.size, 0, none⟩)) | 1 => MP.eq (.slice (some ⟨w.heap.size, 0, none⟩) 16 16) | 2 => MP.eq (.pointer (some ⟨w.heap.size, 16, none⟩)) | 3 => MP.eq (.int .u64 (n : Int)) | 4 => MP.ob w.heap.size (key ++ dig n 8) | 5 => MP.ob w.heap.size (key ++ dig n 8) | _ => MP.any) ?_ ?_
  · intro i hi o ho FA x hO hD K hK
    match i, hi, ho, hO, hD, hK with
    | 0, _, ho, hO, hD, hK => 
      obtain rfl := Option.some.inj ho.symm
      clear ho
      have ev1 : FA.eval (.tmp 1) = .pointer (some ⟨w.heap.size, 0, none⟩) := hO 1 (by kernel_rfl)
      have e1 : FA.tmps[1]?.getD undef = .pointer (some ⟨w.heap.size, 0, none⟩) := by simpa [Act.eval] using ev1
      replace ev1 := Lib.hid ev1
      clear hO hD
      go_simp
      exact hK.out _ _ (Ex.refl _) rfl
    | 1, _, ho, hO, hD, hK => 
      obtain rfl := Option.some.inj ho.symm
      clear ho
      have ev3 : FA.eval (.tmp 3) = .pointer (some ⟨w.heap.size, 0, none⟩) := hD 0 3 (by kernel_rfl)
      have e3 : FA.tmps[3]?.getD undef = .pointer (some ⟨w.heap.size, 0, none⟩) := by simpa [Act.eval] using ev3
      replace ev3 := Lib.hid ev3
      clear hO hD
      go_simp
      exact hK.out _ _ (Ex.refl _) rfl
    | 2, _, ho, hO, hD, hK => 
      obtain rfl := Option.some.inj ho.symm
      clear ho
      have ev1 : FA.eval (.tmp 1) = .pointer (some ⟨w.heap.size, 0, none⟩) := hO 1 (by kernel_rfl)
      have e1 : FA.tmps[1]?.getD undef = .pointer (some ⟨w.heap.size, 0, none⟩) := by simpa [Act.eval] using ev1
      replace ev1 := Lib.hid ev1
      clear hO hD
      go_simp
      exact hK.out _ _ (Ex.refl _) rfl
    | 3, _, ho, hO, hD, hK => 
      obtain rfl := Option.some.inj ho.symm
      clear ho
      have ev5 : FA.eval (.tmp 5) = .pointer (some ⟨w.heap.size, 16, none⟩) := hD 2 5 (by kernel_rfl)
      have e5 : FA.tmps[5]?.getD undef = .pointer (some ⟨w.heap.size, 16, none⟩) := by simpa [Act.eval] using ev5
      replace ev5 := Lib.hid ev5
      clear hO hD
      go_simp
      exact hK.out _ _ (Ex.refl _) rfl
    | 4, _, ho, hO, hD, hK => 
      obtain rfl := Option.some.inj ho.symm
      clear ho
      have ev4 : FA.eval (.tmp 4) = .slice (some ⟨w.heap.size, 0, none⟩) 16 16 := hD 1 4 (by kernel_rfl)
      have e4 : FA.tmps[4]?.getD undef = .slice (some ⟨w.heap.size, 0, none⟩) 16 16 := by simpa [Act.eval] using ev4
      replace ev4 := Lib.hid ev4
      have ev6 : FA.eval (.tmp 6) = .int .u64 (n : Int) := hD 3 6 (by kernel_rfl)
      have e6 : FA.tmps[6]?.getD undef = .int .u64 (n : Int) := by simpa [Act.eval] using ev6
      replace ev6 := Lib.hid ev6
      clear hO hD
      go_simp
      refine (put_any _ 16 16 key n 8 _ (hrk.plus_ _ _) (by omega) hn (by omega) (by omega)).mono ?_
      rintro e w1 ⟨A2, n2, c2, bs2, d2, rfl, rfl, ho2⟩
      exact hK.out _ _ (Ex.plus_ _ _ _) ⟨_, _, _, rfl, ho2.mono (by simp [size_plus]; omega)⟩
    | 5, _, ho, hO, hD, hK => 
      obtain rfl := Option.some.inj ho.symm
      clear ho
      have f7 := hD 4 7 (by kernel_rfl)
      generalize eu7 : FA.eval (.tmp 7) = u7 at f7
      have e7 : FA.tmps[7]?.getD undef = u7 := by rw [← eu7]; simp [Act.eval]
      clear eu7
      clear hO hD
      obtain ⟨A1, n1, c1, rfl, ho1⟩ := f7
      go_simp
      exact hK.out _ _ (Ex.refl _) ⟨_, _, _, rfl, ho1⟩
    | (k + 6), hi, _, _, _, _ => exact absurd hi (by omega)
  intro vs x hp
  have p0 : vs 0 = .pointer (some ⟨w.heap.size, 0, none⟩) := hp 0 (by omega)
  have p1 : vs 1 = .slice (some ⟨w.heap.size, 0, none⟩) 16 16 := hp 1 (by omega)
  have p2 : vs 2 = .pointer (some ⟨w.heap.size, 16, none⟩) := hp 2 (by omega)
  have p3 : vs 3 = .int .u64 (n : Int) := hp 3 (by omega)
  have p4 := hp 4 (by omega)
  have p5 := hp 5 (by omega)
  clear hp
  simp only [List.take_succ_cons, List.take_zero, List.drop_succ_cons, List.drop_zero, putAll, Nat.zero_add, Nat.reduceAdd, Act.put, List.setIfInBounds_toArray, List.set_cons_zero, List.set_cons_succ, p0, p1, p2, p3]
  clear p0 p1 p2 p3
  generalize vs 4 = y4 at *
  generalize vs 5 = y5 at *
  clear vs
  obtain ⟨A1, n1, c1, rfl, ho1⟩ := p5
  go_wp2
  go_ret
  exact RetB.mk ho1 (belowP ((Below.refl _ _).alloc (Nat.le_refl _) _) _ _)
end Go.Proofs.Yticlohlpccollaa
