/- The reference's Bytes of rings; both Parse. -/
import Derived.Test.YticlohlpccollaaRingB
import Derived.Test.YticlohlpccollaaRelO
import Derived.Test.YticlohlpccollaaOctB
import Derived.Test.YticlohlpccollaaSt
namespace Go.Proofs.Yticlohlpccollaa
open Go.RowKit
set_option linter.unusedVariables false
set_option linter.unusedSimpArgs false
attribute [local go_sem ↓] sliced_cut
attribute [local go_sem] cutA_zero

set_option maxHeartbeats 2000000 in
set_option maxRecDepth 100000 in
theorem refRingBytes_any (key : List UInt8) (hk : K16 key) (n : Nat) (w : World) (hn : n < 18446744073709551616) : Calls Try.prog 35 #[.agg (ringC key n).toArray] w (RetB w (key ++ dig n 8)) := by
  have q := ringC_16 key hk n
  have hrk := ring_rb (w := w) hk n 52
  go_enter Try.func35, Try.ntmps35
  go_wp2
  refine wp_relE 7 11 [1, 4] rfl (by kernel_rfl) (by kernel_rfl) (fun i => match i with | 0 => MP.fullO (w.heap.size + 1) [] | 1 => MP.eq (.pointer (some ⟨w.heap.size, 0, none⟩)) | 2 => MP.eq (.slice (some ⟨w.heap.size, 0, none⟩) 16 16) | 3 => MP.ob (w.heap.size + 1) key | 4 => MP.eq (.pointer (some ⟨w.heap.size, 16, none⟩)) | 5 => MP.eq (.int .u64 (n : Int)) | 6 => MP.ob (w.heap.size + 1) (dig n 8) | _ => MP.any) ?_ ?_
  · intro i hi o ho FA x hO hD
    match i, hi, ho, hO, hD with
    | 0, _, ho, hO, hD => 
      obtain rfl := Option.some.inj ho.symm
      clear ho
      clear hO hD
      rw [if_neg (by decide)]
      intro K hK
      go_simp
      refine hK.out _ _ (Ex.alloc _ _) ⟨_, _, rfl, ?_⟩
      have := Ob.lit (plus (w.alloc (.cells (ringC key n).toArray 52)) x.bs x.d) (base := w.heap.size + 1) (by simp [size_plus]) #[] [] 0 rfl (Nat.zero_le _) rfl
      simpa [size_plus] using this
    | 1, _, ho, hO, hD => 
      obtain rfl := Option.some.inj ho.symm
      clear ho
      have ev1 : FA.eval (.tmp 1) = .pointer (some ⟨w.heap.size, 0, none⟩) := hO 1 (by kernel_rfl)
      have e1 : FA.tmps[1]?.getD undef = .pointer (some ⟨w.heap.size, 0, none⟩) := by simpa [Act.eval] using ev1
      replace ev1 := Lib.hid ev1
      clear hO hD
      rw [if_pos (by decide)]
      refine ⟨.pointer (some ⟨w.heap.size, 0, none⟩), .inl ⟨by simp [Region.wanted], fun w => ?_⟩, rfl⟩
      go_simp
    | 2, _, ho, hO, hD => 
      obtain rfl := Option.some.inj ho.symm
      clear ho
      have ev4 : FA.eval (.tmp 4) = .pointer (some ⟨w.heap.size, 0, none⟩) := hD 1 4 (by kernel_rfl)
      have e4 : FA.tmps[4]?.getD undef = .pointer (some ⟨w.heap.size, 0, none⟩) := by simpa [Act.eval] using ev4
      replace ev4 := Lib.hid ev4
      clear hO hD
      rw [if_neg (by decide)]
      intro K hK
      go_simp
      exact hK.out _ _ (Ex.refl _) rfl
    | 3, _, ho, hO, hD => 
      obtain rfl := Option.some.inj ho.symm
      clear ho
      have f3 := hD 0 3 (by kernel_rfl)
      generalize eu3 : FA.eval (.tmp 3) = u3 at f3
      have e3 : FA.tmps[3]?.getD undef = u3 := by rw [← eu3]; simp [Act.eval]
      have ev3 := Lib.hid eu3
      clear eu3
      have ev5 : FA.eval (.tmp 5) = .slice (some ⟨w.heap.size, 0, none⟩) 16 16 := hD 2 5 (by kernel_rfl)
      have e5 : FA.tmps[5]?.getD undef = .slice (some ⟨w.heap.size, 0, none⟩) 16 16 := by simpa [Act.eval] using ev5
      replace ev5 := Lib.hid ev5
      clear hO hD
      rw [if_neg (by decide)]
      intro K hK
      obtain ⟨A1, n1, rfl, ho1⟩ := f3
      refine wanted_if rfl ?_
      refine rel_appO bt (.tmp 3) (.tmp 5) (w.heap.size + 1) rfl ev3.out ho1 (by simp [size_plus]) ev5.out (hrk.plus_ _ _) (by have := ho1.len; simp at this; omega) ?_
      intro A' n' c' w' hex ho
      exact hK.out _ _ hex ⟨_, _, _, rfl, by simpa using ho⟩
    | 4, _, ho, hO, hD => 
      obtain rfl := Option.some.inj ho.symm
      clear ho
      have ev1 : FA.eval (.tmp 1) = .pointer (some ⟨w.heap.size, 0, none⟩) := hO 1 (by kernel_rfl)
      have e1 : FA.tmps[1]?.getD undef = .pointer (some ⟨w.heap.size, 0, none⟩) := by simpa [Act.eval] using ev1
      replace ev1 := Lib.hid ev1
      clear hO hD
      rw [if_pos (by decide)]
      refine ⟨.pointer (some ⟨w.heap.size, 16, none⟩), .inl ⟨by simp [Region.wanted], fun w => ?_⟩, rfl⟩
      go_simp
    | 5, _, ho, hO, hD => 
      obtain rfl := Option.some.inj ho.symm
      clear ho
      have ev7 : FA.eval (.tmp 7) = .pointer (some ⟨w.heap.size, 16, none⟩) := hD 4 7 (by kernel_rfl)
      have e7 : FA.tmps[7]?.getD undef = .pointer (some ⟨w.heap.size, 16, none⟩) := by simpa [Act.eval] using ev7
      replace ev7 := Lib.hid ev7
      clear hO hD
      rw [if_neg (by decide)]
      intro K hK
      go_simp
      exact hK.out _ _ (Ex.refl _) rfl
    | 6, _, ho, hO, hD => 
      obtain rfl := Option.some.inj ho.symm
      clear ho
      have ev8 : FA.eval (.tmp 8) = .int .u64 (n : Int) := hD 5 8 (by kernel_rfl)
      have e8 : FA.tmps[8]?.getD undef = .int .u64 (n : Int) := by simpa [Act.eval] using ev8
      replace ev8 := Lib.hid ev8
      clear hO hD
      rw [if_neg (by decide)]
      intro K hK
      go_simp
      refine (refBytes_any n 8 _ hn (by omega)).mono ?_
      rintro e w1 ⟨A2, n2, c2, bs2, d2, rfl, rfl, ho2⟩
      exact hK.out _ _ (Ex.plus_ _ _ _) ⟨_, _, _, rfl, ho2.mono (by simp [size_plus])⟩
    | (k + 7), hi, _, _, _ => exact absurd hi (by omega)
  intro vs x hp
  have p0 := hp 0 (by omega)
  have p1 : vs 1 = .pointer (some ⟨w.heap.size, 0, none⟩) := hp 1 (by omega)
  have p2 : vs 2 = .slice (some ⟨w.heap.size, 0, none⟩) 16 16 := hp 2 (by omega)
  have p3 := hp 3 (by omega)
  have p4 : vs 4 = .pointer (some ⟨w.heap.size, 16, none⟩) := hp 4 (by omega)
  have p5 : vs 5 = .int .u64 (n : Int) := hp 5 (by omega)
  have p6 := hp 6 (by omega)
  clear hp
  simp only [List.take_succ_cons, List.take_zero, List.drop_succ_cons, List.drop_zero, putAll, Nat.zero_add, Nat.reduceAdd, Act.put, List.setIfInBounds_toArray, List.set_cons_zero, List.set_cons_succ, p1, p2, p4, p5]
  clear p1 p2 p4 p5
  generalize vs 0 = y0 at *
  generalize vs 3 = y3 at *
  generalize vs 6 = y6 at *
  clear vs
  obtain ⟨A1, n1, c1, rfl, ho1⟩ := p3
  obtain ⟨A2, n2, c2, rfl, ho2⟩ := p6
  have l1 : n1 = 16 := by have := ho1.len; rw [show key.length = 16 from hk] at this; omega
  have l2 : n2 = 8 := by have := ho2.len; simp [dig_length] at this; omega
  go_wp2_with (at_builtin; refine wpList_app bt rfl (.tmp 6) (.tmp 9) rfl rfl ho1 rfl ho2.rb (by omega) (by simp [size_plus]) ?_; intro A3 n3 c3 w3 ho3 hb3 _)
  refine NoPanic.normal ?_
  go_wp2
  go_ret
  refine RetB.mk (ho3.mono (by omega)) ?_
  exact (belowP ((Below.refl _ _).alloc (Nat.le_refl _) _) _ _).trans (hb3.mono (by omega))

theorem run_buildRef (key : List UInt8) (hk : K16 key) (n : Nat) (w : World) : (Instr.build 52 #[(0, .agg (bcs key).toArray), (1, .int .u64 (n : Int))]).run Try.prog w = .ok (.agg (ringC key n).toArray) w := by
  obtain ⟨a, b, c, d, e, f, g, i, j, k, m, n, o, p, q, r, rfl⟩ := list16 hk
  kernel_rfl
theorem run_buildRing0 (w : World) : (Instr.build 55 #[]).run Try.prog w = .ok (.agg (ringC key0 0).toArray) w := by kernel_rfl
theorem run_buildRef0 (w : World) : (Instr.build 52 #[]).run Try.prog w = .ok (.agg (ringC key0 0).toArray) w := by kernel_rfl
theorem rowRef : ∃ d, Try.prog.underlying 52 = some d ∧ d.isRow = true ∧ (Try.prog.info? 52).map (·.size) = some 17 := ⟨_, Try.underlying52, rfl, by kernel_rfl⟩
theorem szRef (key : List UInt8) (hk : K16 key) (n : Nat) : (Try.prog.info? 52).map (·.size) = some (ringC key n).length := by rw [ringC_length key hk n]; kernel_rfl

set_option maxHeartbeats 1000000 in
set_option maxRecDepth 100000 in
theorem refRingParse_no (A : Option Addr) (n c : Nat) (w : World) (hn : n ≠ 24) (hm : n ≤ 1099511627776) : Calls Try.prog 32 #[.slice A n c] w (RetV w (.tuple #[.agg (ringC key0 0).toArray, .bool false])) := by
  obtain ⟨dr, v1, v2, v3⟩ := rowRef
  have t1 : ((n : Int) != 24) = true := by rw [bne_iff_ne]; omega
  go_enter Try.func32, Try.ntmps32
  go_wp2_with (first
    | (refine at_op (.build 52 #[]) rfl ?_; refine wpList_build 52 [] rfl rfl (.agg (ringC key0 0).toArray) ?_ ?_; exact run_buildRef0 _)
    | (refine at_op (.store 52 (.tmp 2) (.tmp 7)) rfl ?_; refine wpList_stA (t := 52) 52 (.tmp 2) (.tmp 7) rfl rfl (ringC key0 0) ring0 (by rw [ringC_length key0 K16_0]; rfl) (ringC_one key0 0) rfl rfl ?_ (szRef _ K16_0 _) ?_; (· refine Bk.newK _ _ _ ?_ rfl; simp [size_plus]); intro w2 hb2 hg2))
  refine bodyPost_agg2 Try.results32 rfl rfl hb2.range v1 v2 (szRef _ K16_0 _) rfl (RetV.mk ?_)
  refine below_grown ?_ hg2 (by omega)
  repeat (first | exact Below.refl _ _ | refine belowP ?_ _ _ | refine Below.alloc ?_ (by simp) _)
set_option maxHeartbeats 1000000 in
set_option maxRecDepth 100000 in
theorem ringParse_no (A : Option Addr) (n c : Nat) (w : World) (hn : n ≠ 24) (hm : n ≤ 1099511627776) : Calls Try.prog 31 #[.slice A n c] w (RetV w (.tuple #[.agg (ringC key0 0).toArray, .int .i64 20])) := by
  obtain ⟨dr, v1, v2, v3⟩ := rowRing
  have t1 : ((n : Int) != 24) = true := by rw [bne_iff_ne]; omega
  go_enter Try.func31, Try.ntmps31
  go_wp2_with (first
    | (refine at_op (.build 55 #[]) rfl ?_; refine wpList_build 55 [] rfl rfl (.agg (ringC key0 0).toArray) ?_ ?_; exact run_buildRing0 _)
    | (refine at_op (.store 55 (.tmp 2) (.tmp 9)) rfl ?_; refine wpList_stA (t := 55) 55 (.tmp 2) (.tmp 9) rfl rfl (ringC key0 0) ring0 (by rw [ringC_length key0 K16_0]; rfl) (ringC_one key0 0) rfl rfl ?_ (szRing _ K16_0 _) ?_; (· refine Bk.newK _ _ _ ?_ rfl; simp [size_plus]); intro w2 hb2 hg2))
  refine bodyPost_agg2 Try.results31 rfl rfl hb2.range v1 v2 (szRing _ K16_0 _) rfl (RetV.mk ?_)
  refine below_grown ?_ hg2 (by omega)
  repeat (first | exact Below.refl _ _ | refine belowP ?_ _ _ | refine Below.alloc ?_ (by simp) _)

set_option maxHeartbeats 2000000 in
set_option maxRecDepth 100000 in
theorem refRingParse_24 (A : Option Addr) (c : Nat) (l : List UInt8) (w : World) (h : Rb w A 24 c l) : Calls Try.prog 32 #[.slice A 24 c] w (RetV w (.tuple #[.agg (ringC (ofK (num (l.take 8)) (num ((l.drop 8).take 8))) (num (l.drop 16))).toArray, .bool true])) := by
  obtain ⟨dr, v1, v2, v3⟩ := rowRef
  obtain ⟨b, off, rfl, hbl, hcell⟩ := h.2.2.at_ (by rw [bcs_length, h.1]; omega)
  have hc := h.2.1
  have k8 : (8 : Int) ≤ c := by omega
  have k16 : (16 : Int) ≤ c := by omega
  have hr0 : Rb (w.alloc (.cells ring0.toArray 52)) (some ⟨b, off, none⟩) 8 c (l.take 8) := (h.take (k := 8) (by omega)).alloc _
  have hr1 : Rb (w.alloc (.cells ring0.toArray 52)) (cutA (some ⟨b, off, none⟩) c 8 1) 8 (c - 8) ((l.drop 8).take 8) := ((h.cut (k := 8) (by omega)).take (k := 8) (by omega)).alloc _
  have hr2 : Rb (w.alloc (.cells ring0.toArray 52)) (cutA (some ⟨b, off, none⟩) c 16 1) 8 (c - 16) (l.drop 16) := (h.cut (k := 16) (by omega)).alloc _
  have hlt0 : num (l.take 8) < 18446744073709551616 := num_small l 8 _ (by decide)
  have hlt1 : num ((l.drop 8).take 8) < 18446744073709551616 := num_small _ 8 _ (by decide)
  have hlt2 : num (l.drop 16) < 18446744073709551616 := num_lt 8 _ (by rw [List.length_drop, h.1]; omega)
  generalize ex0 : num (l.take 8) = x0 at *
  generalize ex1 : num ((l.drop 8).take 8) = x1 at *
  generalize ex2 : num (l.drop 16) = x2 at *
  have hx0 := Lib.hid ex0.symm
  have hx1 := Lib.hid ex1.symm
  have hx2 := Lib.hid ex2.symm
  clear ex0 ex1 ex2 hcell h
  go_enter Try.func32, Try.ntmps32
  go_wp2
  refine wp_relE 11 19 [0, 3, 7] rfl (by kernel_rfl) (by kernel_rfl) (fun i => match i with | 0 => MP.eq (.slice (some ⟨b, off, none⟩) 24 c) | 1 => MP.eq (.slice (some ⟨b, off, none⟩) 8 c) | 2 => MP.eq (.int .u64 (x0 : Nat)) | 3 => MP.eq (.slice (some ⟨b, off, none⟩) 24 c) | 4 => MP.eq (.slice (cutA (some ⟨b, off, none⟩) c 8 1) 8 (c - 8)) | 5 => MP.eq (.int .u64 (x1 : Nat)) | 6 => MP.eq (.agg (bcs (ofK x0 x1)).toArray) | 7 => MP.eq (.slice (some ⟨b, off, none⟩) 24 c) | 8 => MP.eq (.slice (cutA (some ⟨b, off, none⟩) c 16 1) 8 (c - 16)) | 9 => MP.eq (.int .u64 (x2 : Nat)) | 10 => MP.eq (.agg (ringC (ofK x0 x1) x2).toArray) | _ => MP.any) ?_ ?_
  · intro i hi o ho FA x hO hD
    match i, hi, ho, hO, hD with
    | 0, _, ho, hO, hD => 
      obtain rfl := Option.some.inj ho.symm
      clear ho
      have ev0 : FA.eval (.tmp 0) = .slice (some ⟨b, off, none⟩) 24 c := hO 0 (by kernel_rfl)
      have e0 : FA.tmps[0]?.getD undef = .slice (some ⟨b, off, none⟩) 24 c := by simpa [Act.eval] using ev0
      replace ev0 := Lib.hid ev0
      clear hO hD
      rw [if_pos (by decide)]
      refine ⟨.slice (some ⟨b, off, none⟩) 24 c, .inl ⟨by simp [Region.wanted], fun w => ?_⟩, rfl⟩
      go_simp
    | 1, _, ho, hO, hD => 
      obtain rfl := Option.some.inj ho.symm
      clear ho
      have ev8 : FA.eval (.tmp 8) = .slice (some ⟨b, off, none⟩) 24 c := hD 0 8 (by kernel_rfl)
      have e8 : FA.tmps[8]?.getD undef = .slice (some ⟨b, off, none⟩) 24 c := by simpa [Act.eval] using ev8
      replace ev8 := Lib.hid ev8
      clear hO hD
      rw [if_neg (by decide)]
      intro K hK
      go_simp
      exact hK.out _ _ (Ex.refl _) rfl
    | 2, _, ho, hO, hD => 
      obtain rfl := Option.some.inj ho.symm
      clear ho
      have ev9 : FA.eval (.tmp 9) = .slice (some ⟨b, off, none⟩) 8 c := hD 1 9 (by kernel_rfl)
      have e9 : FA.tmps[9]?.getD undef = .slice (some ⟨b, off, none⟩) 8 c := by simpa [Act.eval] using ev9
      replace ev9 := Lib.hid ev9
      clear hO hD
      rw [if_neg (by decide)]
      intro K hK
      go_simp
      refine (RetV.same (refNum_any _ _ _ _ _ (hr0.plus_ _ _) (by omega))).mono ?_
      rintro e w1 ⟨bs2, d2, rfl, rfl⟩
      rw [← hx0.out]
      exact hK.out _ _ (Ex.plus_ _ _ _) rfl
    | 3, _, ho, hO, hD => 
      obtain rfl := Option.some.inj ho.symm
      clear ho
      have ev0 : FA.eval (.tmp 0) = .slice (some ⟨b, off, none⟩) 24 c := hO 0 (by kernel_rfl)
      have e0 : FA.tmps[0]?.getD undef = .slice (some ⟨b, off, none⟩) 24 c := by simpa [Act.eval] using ev0
      replace ev0 := Lib.hid ev0
      clear hO hD
      rw [if_pos (by decide)]
      refine ⟨.slice (some ⟨b, off, none⟩) 24 c, .inl ⟨by simp [Region.wanted], fun w => ?_⟩, rfl⟩
      go_simp
    | 4, _, ho, hO, hD => 
      obtain rfl := Option.some.inj ho.symm
      clear ho
      have ev11 : FA.eval (.tmp 11) = .slice (some ⟨b, off, none⟩) 24 c := hD 3 11 (by kernel_rfl)
      have e11 : FA.tmps[11]?.getD undef = .slice (some ⟨b, off, none⟩) 24 c := by simpa [Act.eval] using ev11
      replace ev11 := Lib.hid ev11
      clear hO hD
      rw [if_neg (by decide)]
      intro K hK
      go_simp
      exact hK.out _ _ (Ex.refl _) rfl
    | 5, _, ho, hO, hD => 
      obtain rfl := Option.some.inj ho.symm
      clear ho
      have ev12 : FA.eval (.tmp 12) = .slice (cutA (some ⟨b, off, none⟩) c 8 1) 8 (c - 8) := hD 4 12 (by kernel_rfl)
      have e12 : FA.tmps[12]?.getD undef = .slice (cutA (some ⟨b, off, none⟩) c 8 1) 8 (c - 8) := by simpa [Act.eval] using ev12
      replace ev12 := Lib.hid ev12
      clear hO hD
      rw [if_neg (by decide)]
      intro K hK
      go_simp
      refine (RetV.same (refNum_any _ _ _ _ _ (hr1.plus_ _ _) (by omega))).mono ?_
      rintro e w1 ⟨bs2, d2, rfl, rfl⟩
      rw [← hx1.out]
      exact hK.out _ _ (Ex.plus_ _ _ _) rfl
    | 6, _, ho, hO, hD => 
      obtain rfl := Option.some.inj ho.symm
      clear ho
      have ev10 : FA.eval (.tmp 10) = .int .u64 (x0 : Nat) := hD 2 10 (by kernel_rfl)
      have e10 : FA.tmps[10]?.getD undef = .int .u64 (x0 : Nat) := by simpa [Act.eval] using ev10
      replace ev10 := Lib.hid ev10
      have ev13 : FA.eval (.tmp 13) = .int .u64 (x1 : Nat) := hD 5 13 (by kernel_rfl)
      have e13 : FA.tmps[13]?.getD undef = .int .u64 (x1 : Nat) := by simpa [Act.eval] using ev13
      replace ev13 := Lib.hid ev13
      clear hO hD
      rw [if_neg (by decide)]
      intro K hK
      go_simp
      refine (refOf_any x0 x1 _ hlt0 hlt1).mono ?_
      rintro e w1 ⟨bs2, d2, rfl, rfl⟩
      exact hK.out _ _ (Ex.plus_ _ _ _) rfl
    | 7, _, ho, hO, hD => 
      obtain rfl := Option.some.inj ho.symm
      clear ho
      have ev0 : FA.eval (.tmp 0) = .slice (some ⟨b, off, none⟩) 24 c := hO 0 (by kernel_rfl)
      have e0 : FA.tmps[0]?.getD undef = .slice (some ⟨b, off, none⟩) 24 c := by simpa [Act.eval] using ev0
      replace ev0 := Lib.hid ev0
      clear hO hD
      rw [if_pos (by decide)]
      refine ⟨.slice (some ⟨b, off, none⟩) 24 c, .inl ⟨by simp [Region.wanted], fun w => ?_⟩, rfl⟩
      go_simp
    | 8, _, ho, hO, hD => 
      obtain rfl := Option.some.inj ho.symm
      clear ho
      have ev15 : FA.eval (.tmp 15) = .slice (some ⟨b, off, none⟩) 24 c := hD 7 15 (by kernel_rfl)
      have e15 : FA.tmps[15]?.getD undef = .slice (some ⟨b, off, none⟩) 24 c := by simpa [Act.eval] using ev15
      replace ev15 := Lib.hid ev15
      clear hO hD
      rw [if_neg (by decide)]
      intro K hK
      go_simp
      exact hK.out _ _ (Ex.refl _) rfl
    | 9, _, ho, hO, hD => 
      obtain rfl := Option.some.inj ho.symm
      clear ho
      have ev16 : FA.eval (.tmp 16) = .slice (cutA (some ⟨b, off, none⟩) c 16 1) 8 (c - 16) := hD 8 16 (by kernel_rfl)
      have e16 : FA.tmps[16]?.getD undef = .slice (cutA (some ⟨b, off, none⟩) c 16 1) 8 (c - 16) := by simpa [Act.eval] using ev16
      replace ev16 := Lib.hid ev16
      clear hO hD
      rw [if_neg (by decide)]
      intro K hK
      go_simp
      refine (RetV.same (refNum_any _ _ _ _ _ (hr2.plus_ _ _) (by omega))).mono ?_
      rintro e w1 ⟨bs2, d2, rfl, rfl⟩
      rw [← hx2.out]
      exact hK.out _ _ (Ex.plus_ _ _ _) rfl
    | 10, _, ho, hO, hD => 
      obtain rfl := Option.some.inj ho.symm
      clear ho
      have ev14 : FA.eval (.tmp 14) = .agg (bcs (ofK x0 x1)).toArray := hD 6 14 (by kernel_rfl)
      have e14 : FA.tmps[14]?.getD undef = .agg (bcs (ofK x0 x1)).toArray := by simpa [Act.eval] using ev14
      replace ev14 := Lib.hid ev14
      have ev17 : FA.eval (.tmp 17) = .int .u64 (x2 : Nat) := hD 9 17 (by kernel_rfl)
      have e17 : FA.tmps[17]?.getD undef = .int .u64 (x2 : Nat) := by simpa [Act.eval] using ev17
      replace ev17 := Lib.hid ev17
      clear hO hD
      rw [if_neg (by decide)]
      intro K hK
      refine wanted_if rfl ?_
      unfold Oper.wp execOp
      simp only [Sem.run_bind, List.map_toArray, List.map_cons, List.map_nil, ev14.out, ev17.out, run_buildRef (ofK x0 x1) (K16_of _ _) x2, Result.andThen_ok, Sem.run_pure]
      exact hK.out _ _ (Ex.refl _) rfl
    | (k + 11), hi, _, _, _ => exact absurd hi (by omega)
  intro vs x hp
  have p0 : vs 0 = .slice (some ⟨b, off, none⟩) 24 c := hp 0 (by omega)
  have p1 : vs 1 = .slice (some ⟨b, off, none⟩) 8 c := hp 1 (by omega)
  have p2 : vs 2 = .int .u64 (x0 : Nat) := hp 2 (by omega)
  have p3 : vs 3 = .slice (some ⟨b, off, none⟩) 24 c := hp 3 (by omega)
  have p4 : vs 4 = .slice (cutA (some ⟨b, off, none⟩) c 8 1) 8 (c - 8) := hp 4 (by omega)
  have p5 : vs 5 = .int .u64 (x1 : Nat) := hp 5 (by omega)
  have p6 : vs 6 = .agg (bcs (ofK x0 x1)).toArray := hp 6 (by omega)
  have p7 : vs 7 = .slice (some ⟨b, off, none⟩) 24 c := hp 7 (by omega)
  have p8 : vs 8 = .slice (cutA (some ⟨b, off, none⟩) c 16 1) 8 (c - 16) := hp 8 (by omega)
  have p9 : vs 9 = .int .u64 (x2 : Nat) := hp 9 (by omega)
  have p10 : vs 10 = .agg (ringC (ofK x0 x1) x2).toArray := hp 10 (by omega)
  clear hp
  simp only [List.take_succ_cons, List.take_zero, List.drop_succ_cons, List.drop_zero, putAll, Nat.zero_add, Nat.reduceAdd, Act.put, List.setIfInBounds_toArray, List.set_cons_zero, List.set_cons_succ, p0, p1, p2, p3, p4, p5, p6, p7, p8, p9, p10]
  clear p0 p1 p2 p3 p4 p5 p6 p7 p8 p9 p10
  clear vs
  go_wp2_with (refine at_op (.store 52 (.tmp 2) (.tmp 18)) rfl ?_; refine wpList_stA (t := 52) 52 (.tmp 2) (.tmp 18) rfl rfl (ringC (ofK x0 x1) x2) ring0 (by rw [ringC_length _ (K16_of _ _)]; rfl) (ringC_one _ _) rfl rfl ?_ (szRef _ (K16_of _ _) _) ?_; (· refine Bk.later ?_ (below_plus _ _ _); refine Bk.newK _ _ _ ?_ rfl; rfl); intro w2 hb2 hg2)
  refine NoPanic.normal ?_
  go_wp2
  refine bodyPost_agg2 Try.results32 rfl rfl hb2.range v1 v2 (szRef _ (K16_of _ _) _) rfl (RetV.mk ?_)
  refine below_grown ?_ hg2 (by omega)
  repeat (first | exact Below.refl _ _ | refine belowP ?_ _ _ | refine Below.alloc ?_ (by simp) _)

set_option maxHeartbeats 2000000 in
set_option maxRecDepth 100000 in
theorem ringParse_24 (A : Option Addr) (c : Nat) (l : List UInt8) (w : World) (h : Rb w A 24 c l) : Calls Try.prog 31 #[.slice A 24 c] w (RetV w (.tuple #[.agg (ringC (l.take 16) (num ((l.drop 16).take 8))).toArray, .int .i64 0])) := by
  obtain ⟨dr, v1, v2, v3⟩ := rowRing
  obtain ⟨dk, u1, u2, u3⟩ := rowKey
  have hc := h.2.1
  have hl := h.1
  have hk16 : K16 (l.take 16) := by show (l.take 16).length = 16; rw [List.length_take]; omega
  generalize ex : num ((l.drop 16).take 8) = x
  have HX := Lib.hid ex
  clear ex
  go_enter Try.func31, Try.ntmps31
  go_upto_region 4 with (go_at_call 95; refine (readK _ _ _ l _ (h.alloc _) (by omega)).mono ?_; rintro e w1 ⟨r, bs1, d1, rfl, rfl, hr1, hR1⟩)
  have hb0 : Bk (plus (w.alloc (.cells ring0.toArray 55)) bs1 d1) w.heap.size 55 ring0 := (Bk.new w 55 ring0.toArray).later (below_plus _ _ _)
  have hrw : w.heap.size < r := by simp at hr1; omega
  go_upto_region 5 with (first
    | (go_at_call 107; refine (bytesG _ r l 0 16 hR1 (by omega) (by omega)).mono ?_; rintro e w2 ⟨A2, n2, c2, rfl, ho2, hR2, hg2⟩; obtain rfl : n2 = 16 := (by have := ho2.len; simp at this; omega); obtain ⟨g2, cap2, hv2, hge2, hlt2⟩ := ho2.2.form (by omega); injection hv2 with hv2 _ hv3; subst hv2; have hcells := ho2.2.cells (g := g2) rfl; have hat := fun W => run_arrayAt (P := Try.prog) W 53 5 16 (some ⟨g2, 0, none⟩) 16 cap2 Try.underlying53 (Nat.le_refl _))
    | (refine at_op (.load 53 (.tmp 14)) rfl ?_; refine wpList_load_mid rfl 53 (.tmp 14) rfl g2 0 rfl (bcs (l.take 16)) dk (fun j v hj => (by have := hcells j v (by simpa using hj); rwa [add_plain] at this)) u1 u2 (szKey _ hk16) ?_)
    | (refine at_op (.store 53 (.tmp 5) (.tmp 15)) rfl ?_; refine wpList_stA (t := 53) 53 (.tmp 5) (.tmp 15) rfl rfl (bcs (l.take 16)) (bcs key0) (by rw [bcs_length, hk16]; rfl) (bcs_one _) rfl rfl ?_ (szKey _ hk16) ?_; (· exact Bk.newK _ _ _ rfl rfl); intro w4 hb4 hg4))
  have hb5 : Bk w4 w.heap.size 55 ring0 := ((hb0.grown hg2 (by simp; omega)).alloc _).grown hg4 (by have := (hb0.grown hg2 (by simp; omega)).lt; simp; omega)
  have z2 := hg2.size
  have hR4 : Rdr w4 r (l.drop 16) false := by
    obtain ⟨A5, n5, c5, h1, h2, h3, h4⟩ := hR2.later ((Below.refl _ _).alloc (Nat.le_refl _) (.cells (bcs key0).toArray 53))
    have hlt := hR2.lt
    exact ⟨A5, n5, c5, h1.grown hg4 (by simp; omega), h2, h3, h4.grown hg4 (by simp; omega) (fun k hk => by injection hk with hk; omega)⟩
  have bw2 : Below w.heap.size w w2 := (belowP ((Below.refl _ _).alloc (Nat.le_refl _) _) _ _).trans (below_of_grown hg2 (by simp [size_plus]; omega) (fun k hk => by injection hk with hk; omega))
  have bw4 : Below w.heap.size w w4 := (bw2.alloc bw2.size _).trans (below_of_grown hg4 (by have := bw2.size; simp; omega) (fun k hk => by injection hk with hk; have := bw2.size; omega))
  have hgr : g2 < w2.heap.size := hlt2
  have hrg : r < w2.heap.size := hR2.lt
  clear hg4 hg2 hcells ho2 hb0 hR1 hR2 bw2
  generalize w2.heap.size = g at *
  refine wp_st (fun b => b = r) 4 20 2 [2] rfl (by kernel_rfl) (by kernel_rfl) (fun i => match i with | 0 => MC.eq (.agg (bcs (l.take 16)).toArray) | 1 => MC.eq (.pointer (some ⟨r, 0, none⟩)) | 2 => MC.eq (.int .u64 (x : Nat)) | 3 => MC.eq (.agg (ringC (l.take 16) x).toArray) | _ => MC.any) (fun k w => Rdr w r (l.drop (16 + 8 * k)) false) ?_ ?_ ?_ ?_ ?_
  · exact fun k w w' h h' => h.later h'.below
  · simpa using hR4
  · intro i hi o ho hq FA w' hC hO hD K hK
    match i, hi, ho, hq, hO, hD, hK with
    | 0, _, ho, hq, hO, hD, hK => 
      obtain rfl := Option.some.inj ho.symm
      clear ho hq
      have ev5 : FA.eval (.tmp 5) = .pointer (some ⟨g, 0, none⟩) := hO 5 (by kernel_rfl)
      have e5 : FA.tmps[5]?.getD undef = .pointer (some ⟨g, 0, none⟩) := by simpa [Act.eval] using ev5
      replace ev5 := Lib.hid ev5
      clear hO hD
      refine wanted_if rfl ?_
      refine wp_load_mid 53 (.tmp 5) rfl g 0 ev5.out (bcs (l.take 16)) dk (Bk.range (hb4.chg hC (by omega))) u1 u2 (szKey _ hk16) ?_
      exact hK.out _ _ (Ex.refl _) rfl
    | 1, _, ho, hq, hO, hD, hK => 
      obtain rfl := Option.some.inj ho.symm
      clear ho hq
      have ev4 : FA.eval (.tmp 4) = .pointer (some ⟨r, 0, none⟩) := hO 4 (by kernel_rfl)
      have e4 : FA.tmps[4]?.getD undef = .pointer (some ⟨r, 0, none⟩) := by simpa [Act.eval] using ev4
      replace ev4 := Lib.hid ev4
      clear hO hD
      go_simp
      exact hK.out _ _ (Ex.refl _) rfl
    | 2, _, _, hq, _, _, _ => exact absurd hq (by decide)
    | 3, _, ho, hq, hO, hD, hK => 
      obtain rfl := Option.some.inj ho.symm
      clear ho hq
      have ev16 : FA.eval (.tmp 16) = .agg (bcs (l.take 16)).toArray := hD 0 16 (by kernel_rfl)
      have e16 : FA.tmps[16]?.getD undef = .agg (bcs (l.take 16)).toArray := by simpa [Act.eval] using ev16
      replace ev16 := Lib.hid ev16
      have ev18 : FA.eval (.tmp 18) = .int .u64 (x : Nat) := hD 2 18 (by kernel_rfl)
      have e18 : FA.tmps[18]?.getD undef = .int .u64 (x : Nat) := by simpa [Act.eval] using ev18
      replace ev18 := Lib.hid ev18
      clear hO hD
      go_simp
      refine (ringNew_any (l.take 16) hk16 x _).mono ?_
      rintro e w1 ⟨bs2, d2, rfl, rfl⟩
      exact hK.out _ _ (Ex.plus_ _ _ _) rfl
    | (k + 4), hi, _, _, _, _, _ => exact absurd hi (by omega)
  · intro k i hk o ho FA w' hC hS hO hD K hK
    match k, hk, hS, hK with
    | 0, hk, hS, hK => 
      obtain rfl : 2 = i := Option.some.inj hk
      obtain rfl := Option.some.inj ho.symm
      clear ho hk
      have ev17 : FA.eval (.tmp 17) = .pointer (some ⟨r, 0, none⟩) := hD 1 17 (by kernel_rfl)
      have e17 : FA.tmps[17]?.getD undef = .pointer (some ⟨r, 0, none⟩) := by simpa [Act.eval] using ev17
      replace ev17 := Lib.hid ev17
      clear hO hD
      go_simp
      refine (numG _ r l 16 x 8 (by omega) hS (by omega) (by omega) HX.out).mono ?_
      rintro e w1 ⟨rfl, hR5, hg5⟩
      exact hK.out _ _ (Chg.grown hg5 (fun k hk => by injection hk with hk; exact hk.symm)) hR5 rfl
    | (k + 1), hk, _, _ => simp at hk
  intro vs w' hC hS hp
  have p0 : vs 0 = .agg (bcs (l.take 16)).toArray := hp 0 (by omega)
  have p1 : vs 1 = .pointer (some ⟨r, 0, none⟩) := hp 1 (by omega)
  have p2 : vs 2 = .int .u64 (x : Nat) := hp 2 (by omega)
  have p3 : vs 3 = .agg (ringC (l.take 16) x).toArray := hp 3 (by omega)
  clear hp
  simp only [List.take_succ_cons, List.take_zero, List.drop_succ_cons, List.drop_zero, putAll, Nat.zero_add, Nat.reduceAdd, Act.put, List.setIfInBounds_toArray, List.set_cons_zero, List.set_cons_succ, p0, p1, p2, p3]
  clear p0 p1 p2 p3
  clear vs
  go_wp2_with (refine at_op (.store 55 (.tmp 2) (.tmp 19)) rfl ?_; refine wpList_stA (t := 55) 55 (.tmp 2) (.tmp 19) rfl rfl (ringC (l.take 16) x) ring0 (by rw [ringC_length _ hk16]; rfl) (ringC_one _ _) rfl rfl (hb5.chg hC (by omega)) (szRing _ hk16 _) ?_; intro w6 hb6 hg6)
  refine bodyPost_agg2 Try.results31 rfl rfl hb6.range v1 v2 (szRing _ hk16 _) rfl (RetV.mk ?_)
  refine below_grown (bw4.trans (hC.below (by intro b hb; omega) bw4.size)) hg6 (Nat.le_refl _)
end Go.Proofs.Yticlohlpccollaa
