/- Texts of the law PacketReads, part 7. -/
import Derived.Test.YtfmkndemkpecpaaZPacketReads6
/- What a packet is, on both sides alike; the law PacketReads (chapter 28). -/
namespace Go.Proofs.Ytfmkndemkpecpaa
open Go.RowKit
set_option linter.unusedVariables false
set_option linter.unusedSimpArgs false
attribute [local go_sem ↓] sliced_cut

attribute [local go_sem] cutA_zero

set_option maxHeartbeats 2000000 in
set_option maxRecDepth 100000 in
theorem segSame_any (a b c d f wi sm ur : Int) (A : Option Addr) (n k : Nat) (A2 : Option Addr) (n2 k2 : Nat) (A' : Option Addr) (n' k' : Nat) (A3 : Option Addr) (n3 k3 : Nat) (l l2 : List UInt8) (w : World) (h1 : Rb w A n k l) (h2 : Rb w A2 n2 k2 l2) (h3 : Rb w A' n' k' l) (h4 : Rb w A3 n3 k3 l2) :
    Calls Try.prog 65 #[.agg #[.int .u16 a, .int .u16 b, .int .u32 c, .int .u32 d, .int .u8 f, .int .u16 wi, .int .u16 sm, .int .u16 ur, .slice A n k, .slice A2 n2 k2], .agg #[.int .u16 a, .int .u16 b, .int .u32 c, .int .u32 d, .int .u8 f, .int .u16 wi, .int .u16 sm, .int .u16 ur, .slice A' n' k', .slice A3 n3 k3]] w (RetV w (.bool true)) := by
  have e1 := fun o1 o2 => run_str bt Try.underlying9 ((h1.alloc o1).alloc o2)
  have e2 := fun o1 o2 => run_str bt Try.underlying9 ((h2.alloc o1).alloc o2)
  have e3 := fun o1 o2 => run_str bt Try.underlying9 ((h3.alloc o1).alloc o2)
  have e4 := fun o1 o2 => run_str bt Try.underlying9 ((h4.alloc o1).alloc o2)
  go_enter Try.func65, Try.ntmps65
  go_wp2
  go_ret
  exact RetV.mk (((Below.refl _ _).alloc (Nat.le_refl _) _).alloc (by simp) _)
set_option maxRecDepth 100000 in
theorem eq_flC (w : World) (s6 : Bool) (sh sl : Nat) (d6 : Bool) (dh dl sp dp pr : Nat) : (binOp .eql 29 (.agg (flC s6 sh sl d6 dh dl sp dp pr).toArray) (.agg (flC s6 sh sl d6 dh dl sp dp pr).toArray)).run Try.prog w = .ok (.bool true) w := by
  unfold flC
  go_simp
attribute [local go_sem ↓] eq_flC

set_option maxHeartbeats 2000000 in
set_option maxRecDepth 100000 in
theorem msgSame_any (a b c d : Nat) (A : Option Addr) (n k : Nat) (A' : Option Addr) (n' k' : Nat) (l : List UInt8) (w : World) (h : Rb w A n k l) (h' : Rb w A' n' k' l) : Calls Try.prog 66 #[.agg (msgC a b c d A n k).toArray, .agg (msgC a b c d A' n' k').toArray] w (RetV w (.bool true)) :=
  (icmpSame_any (a : Int) b c d A n k A' n' k' l w h h').mono fun _ _ ⟨he, bs, m, hw⟩ => ⟨bs, m, he, hw⟩
theorem Bk.rangeM {w : World} {g : Nat} {t : TypeId} {cs part : List Value} {off : Nat} (h : Bk w g t cs) (hp : (cs.drop off).take part.length = part) : w.rangeAt g off part := fun j v hv => by
  rw [h.cell]
  rw [← hp, List.getElem?_take] at hv
  split at hv
  · rw [List.getElem?_drop] at hv; exact hv
  · cases hv
set_option maxHeartbeats 4000000 in
set_option maxRecDepth 100000 in
theorem is_any (p : PI) (A1 : Option Addr) (n1 c1 : Nat) (A2 : Option Addr) (n2 c2 : Nat) (A3 : Option Addr) (n3 c3 : Nat) (A4 : Option Addr) (n4 c4 : Nat) (B1 : Option Addr) (m1 k1 : Nat) (B2 : Option Addr) (m2 k2 : Nat) (B3 : Option Addr) (m3 k3 : Nat) (B4 : Option Addr) (m4 k4 : Nat) (w : World) (h1 : Rb w A1 n1 c1 p.o1) (h2 : Rb w A2 n2 c2 p.o2) (h3 : Rb w A3 n3 c3 p.o3) (h4 : Rb w A4 n4 c4 p.o4) (g1 : Rb w B1 m1 k1 p.o1) (g2 : Rb w B2 m2 k2 p.o2) (g3 : Rb w B3 m3 k3 p.o3) (g4 : Rb w B4 m4 k4 p.o4) : Calls Try.prog 24 #[.agg (p.cs A1 n1 c1 A2 n2 c2 A3 n3 c3 A4 n4 c4).toArray, .agg (p.cs B1 m1 k1 B2 m2 k2 B3 m3 k3 B4 m4 k4).toArray] w (RetV w (.bool true)) := by
  obtain ⟨df_, f1, f2⟩ := rowFl
  obtain ⟨ds_, s1, s2⟩ : ∃ d, Try.prog.underlying 56 = some d ∧ d.isRow = true := ⟨_, Try.underlying56, rfl⟩
  obtain ⟨dq_, q1, q2⟩ := rowDX
  obtain ⟨dq2_, q3, q4⟩ := rowRX
  obtain ⟨dm_, m1_, m2_⟩ := rowMr
  have HS1 := Lib.hid (fun w (h1 : Rb w A1 n1 c1 p.o1) (h2 : Rb w A2 n2 c2 p.o2) (g1 : Rb w B1 m1 k1 p.o1) (g2 : Rb w B2 m2 k2 p.o2) => (segSame_any (p.x0 : Int) p.x1 p.x2 p.x3 p.x4 p.x5 p.x6 p.x7 A1 n1 c1 A2 n2 c2 B1 m1 k1 B2 m2 k2 p.o1 p.o2 w h1 h2 g1 g2 : Calls Try.prog 65 #[.agg (tcC p.x0 p.x1 p.x2 p.x3 p.x4 p.x5 p.x6 p.x7 A1 n1 c1 A2 n2 c2).toArray, .agg (tcC p.x0 p.x1 p.x2 p.x3 p.x4 p.x5 p.x6 p.x7 B1 m1 k1 B2 m2 k2).toArray] w (RetV w (.bool true))))
  have HS2 := Lib.hid (fun w (h4 : Rb w A4 n4 c4 p.o4) (g4 : Rb w B4 m4 k4 p.o4) => msgSame_any p.m0 p.m1 p.m2 p.m3 A4 n4 c4 B4 m4 k4 p.o4 w h4 g4)
  obtain ⟨di1, i1, i2⟩ := rowIn
  obtain ⟨dr1, r1, r2⟩ := rowRI
  have hA : Bk ((w.alloc (.cells (p.cs A1 n1 c1 A2 n2 c2 A3 n3 c3 A4 n4 c4).toArray 53)).alloc (.cells (p.cs B1 m1 k1 B2 m2 k2 B3 m3 k3 B4 m4 k4).toArray 60)) w.heap.size 53 (p.cs A1 n1 c1 A2 n2 c2 A3 n3 c3 A4 n4 c4) := (Bk.new w 53 (p.cs A1 n1 c1 A2 n2 c2 A3 n3 c3 A4 n4 c4).toArray).alloc _
  have hB : Bk ((w.alloc (.cells (p.cs A1 n1 c1 A2 n2 c2 A3 n3 c3 A4 n4 c4).toArray 53)).alloc (.cells (p.cs B1 m1 k1 B2 m2 k2 B3 m3 k3 B4 m4 k4).toArray 60)) (w.heap.size + 1) 60 (p.cs B1 m1 k1 B2 m2 k2 B3 m3 k3 B4 m4 k4) := Bk.newK _ _ _ (by simp) rfl
  have be : Below w.heap.size w ((w.alloc (.cells (p.cs A1 n1 c1 A2 n2 c2 A3 n3 c3 A4 n4 c4).toArray 53)).alloc (.cells (p.cs B1 m1 k1 B2 m2 k2 B3 m3 k3 B4 m4 k4).toArray 60)) := Below.allocS (Below.allocS (Below.refl _ _) _) _
  have zV : w.heap.size + 2 ≤ ((w.alloc (.cells (p.cs A1 n1 c1 A2 n2 c2 A3 n3 c3 A4 n4 c4).toArray 53)).alloc (.cells (p.cs B1 m1 k1 B2 m2 k2 B3 m3 k3 B4 m4 k4).toArray 60)).heap.size := by simp
  go_enter Try.func24, Try.ntmps24
  go_upto_region 1 with (fail)
  generalize (w.alloc (.cells (p.cs A1 n1 c1 A2 n2 c2 A3 n3 c3 A4 n4 c4).toArray 53)).alloc (.cells (p.cs B1 m1 k1 B2 m2 k2 B3 m3 k3 B4 m4 k4).toArray 60) = V at *
  refine wp_region_lit ?_
  refine wpList_plain rfl (fun K hK => ?_)
  go_simp
  with_reducible refine hK _ _ ?_
  clear hK K
  refine wpList_plain rfl (fun K hK => ?_)
  go_simp
  with_reducible refine hK _ _ ?_
  clear hK K
  refine wpList_ld1 (t := 53) (cs := p.cs A1 n1 c1 A2 n2 c2 A3 n3 c3 A4 n4 c4) 27 (.tmp 10) rfl (by rfl) rfl (hA) rfl Try.underlying27 rfl ?_
  simp only [Act.put, List.setIfInBounds_toArray, List.set_cons_zero, List.set_cons_succ]
  refine wpList_plain rfl (fun K hK => ?_)
  go_simp
  with_reducible refine hK _ _ ?_
  clear hK K
  refine wpList_plain rfl (fun K hK => ?_)
  go_simp
  with_reducible refine hK _ _ ?_
  clear hK K
  refine wpList_ld1 (t := 53) (cs := p.cs A1 n1 c1 A2 n2 c2 A3 n3 c3 A4 n4 c4) 27 (.tmp 13) rfl (by rfl) rfl (hA) rfl Try.underlying27 rfl ?_
  simp only [Act.put, List.setIfInBounds_toArray, List.set_cons_zero, List.set_cons_succ]
  refine wpList_plain rfl (fun K hK => ?_)
  go_simp
  with_reducible refine hK _ _ ?_
  clear hK K
  refine wpList_plain rfl (fun K hK => ?_)
  go_simp
  with_reducible refine hK _ _ ?_
  clear hK K
  refine wpList_ld1 (t := 53) (cs := p.cs A1 n1 c1 A2 n2 c2 A3 n3 c3 A4 n4 c4) 30 (.tmp 16) rfl (by rfl) rfl (hA) rfl Try.underlying30 rfl ?_
  simp only [Act.put, List.setIfInBounds_toArray, List.set_cons_zero, List.set_cons_succ]
  refine wpList_plain rfl (fun K hK => ?_)
  go_simp
  with_reducible refine hK _ _ ?_
  clear hK K
  refine wpList_plain rfl (fun K hK => ?_)
  go_simp
  with_reducible refine hK _ _ ?_
  clear hK K
  refine wpList_ld1 (t := 53) (cs := p.cs A1 n1 c1 A2 n2 c2 A3 n3 c3 A4 n4 c4) 30 (.tmp 19) rfl (by rfl) rfl (hA) rfl Try.underlying30 rfl ?_
  simp only [Act.put, List.setIfInBounds_toArray, List.set_cons_zero, List.set_cons_succ]
  refine wpList_plain rfl (fun K hK => ?_)
  go_simp
  with_reducible refine hK _ _ ?_
  clear hK K
  refine wpList_plain rfl (fun K hK => ?_)
  go_simp
  with_reducible refine hK _ _ ?_
  clear hK K
  refine wpList_ld1 (t := 53) (cs := p.cs A1 n1 c1 A2 n2 c2 A3 n3 c3 A4 n4 c4) 5 (.tmp 22) rfl (by rfl) rfl (hA) rfl Try.underlying5 rfl ?_
  simp only [Act.put, List.setIfInBounds_toArray, List.set_cons_zero, List.set_cons_succ]
  refine wpList_plain rfl (fun K hK => ?_)
  go_simp
  with_reducible refine hK _ _ ?_
  clear hK K
  refine wpList_plain rfl (fun K hK => ?_)
  go_simp
  with_reducible refine hK _ _ ?_
  clear hK K
  refine wpList_ld1 (t := 53) (cs := p.cs A1 n1 c1 A2 n2 c2 A3 n3 c3 A4 n4 c4) 27 (.tmp 25) rfl (by rfl) rfl (hA) rfl Try.underlying27 rfl ?_
  simp only [Act.put, List.setIfInBounds_toArray, List.set_cons_zero, List.set_cons_succ]
  refine wpList_plain rfl (fun K hK => ?_)
  go_simp
  with_reducible refine hK _ _ ?_
  clear hK K
  refine wpList_plain rfl (fun K hK => ?_)
  go_simp
  with_reducible refine hK _ _ ?_
  clear hK K
  refine wpList_ld1 (t := 53) (cs := p.cs A1 n1 c1 A2 n2 c2 A3 n3 c3 A4 n4 c4) 27 (.tmp 28) rfl (by rfl) rfl (hA) rfl Try.underlying27 rfl ?_
  simp only [Act.put, List.setIfInBounds_toArray, List.set_cons_zero, List.set_cons_succ]
  refine wpList_plain rfl (fun K hK => ?_)
  go_simp
  with_reducible refine hK _ _ ?_
  clear hK K
  refine wpList_plain rfl (fun K hK => ?_)
  go_simp
  with_reducible refine hK _ _ ?_
  clear hK K
  refine wpList_ld1 (t := 53) (cs := p.cs A1 n1 c1 A2 n2 c2 A3 n3 c3 A4 n4 c4) 27 (.tmp 31) rfl (by rfl) rfl (hA) rfl Try.underlying27 rfl ?_
  simp only [Act.put, List.setIfInBounds_toArray, List.set_cons_zero, List.set_cons_succ]
  refine wpList_plain rfl (fun K hK => ?_)
  go_simp
  with_reducible refine hK _ _ ?_
  clear hK K
  refine wpList_plain rfl (fun K hK => ?_)
  go_simp
  with_reducible refine hK _ _ ?_
  clear hK K
  refine wpList_ld1 (t := 53) (cs := p.cs A1 n1 c1 A2 n2 c2 A3 n3 c3 A4 n4 c4) 22 (.tmp 34) rfl (by rfl) rfl (hA) rfl Try.underlying22 rfl ?_
  simp only [Act.put, List.setIfInBounds_toArray, List.set_cons_zero, List.set_cons_succ]
  refine wpList_plain rfl (fun K hK => ?_)
  go_simp
  with_reducible refine hK _ _ ?_
  clear hK K
  refine wpList_plain rfl (fun K hK => ?_)
  go_simp
  with_reducible refine hK _ _ ?_
  clear hK K
  refine wpList_ld1 (t := 53) (cs := p.cs A1 n1 c1 A2 n2 c2 A3 n3 c3 A4 n4 c4) 22 (.tmp 37) rfl (by rfl) rfl (hA) rfl Try.underlying22 rfl ?_
  simp only [Act.put, List.setIfInBounds_toArray, List.set_cons_zero, List.set_cons_succ]
  refine wpList_plain rfl (fun K hK => ?_)
  go_simp
  with_reducible refine hK _ _ ?_
  clear hK K
  refine wpList_plain rfl (fun K hK => ?_)
  go_simp
  with_reducible refine hK _ _ ?_
  clear hK K
  refine wpList_stA (t := 56) 56 (.tmp 5) (.tmp 39) rfl rfl (tcC p.x0 p.x1 p.x2 p.x3 p.x4 p.x5 p.x6 p.x7 A1 n1 c1 A2 n2 c2) (tcC 0 0 0 0 0 0 0 0 none 0 0 none 0 0) rfl (tcC_one _ _ _ _ _ _ _ _ _ _ _ _ _ _ ) rfl rfl ?_ (szSegR _ rfl) ?_
  · refine Bk.newK _ _ _ ?_ rfl
    simp
  intro W1 hT gr_
  have b_ := below_grown (Below.allocS (Below.refl V.heap.size V) _) gr_ (Nat.le_refl _)
  replace be := be.trans (b_.mono be.size)
  replace hA := hA.later b_
  replace hB := hB.later b_
  clear gr_ b_
  have zhT := hT.lt
  generalize V.heap.size = gT at *
  simp only [Act.put, List.setIfInBounds_toArray, List.set_cons_zero, List.set_cons_succ]
  go_upto_region 2 with (fail)
  refine wp_region_lit ?_
  refine wpList_plain rfl (fun K hK => ?_)
  go_simp
  with_reducible refine hK _ _ ?_
  clear hK K
  refine wpList_plain rfl (fun K hK => ?_)
  go_simp
  with_reducible refine hK _ _ ?_
  clear hK K
  refine wpList_ld1 (t := 53) (cs := p.cs A1 n1 c1 A2 n2 c2 A3 n3 c3 A4 n4 c4) 5 (.tmp 41) rfl (by rfl) rfl (hA) rfl Try.underlying5 rfl ?_
  simp only [Act.put, List.setIfInBounds_toArray, List.set_cons_zero, List.set_cons_succ]
  refine wpList_plain rfl (fun K hK => ?_)
  go_simp
  with_reducible refine hK _ _ ?_
  clear hK K
  refine wpList_plain rfl (fun K hK => ?_)
  go_simp
  with_reducible refine hK _ _ ?_
  clear hK K
  refine wpList_ld1 (t := 53) (cs := p.cs A1 n1 c1 A2 n2 c2 A3 n3 c3 A4 n4 c4) 5 (.tmp 44) rfl (by rfl) rfl (hA) rfl Try.underlying5 rfl ?_
  simp only [Act.put, List.setIfInBounds_toArray, List.set_cons_zero, List.set_cons_succ]
  refine wpList_plain rfl (fun K hK => ?_)
  go_simp
  with_reducible refine hK _ _ ?_
  clear hK K
  refine wpList_plain rfl (fun K hK => ?_)
  go_simp
  with_reducible refine hK _ _ ?_
  clear hK K
  refine wpList_ld1 (t := 53) (cs := p.cs A1 n1 c1 A2 n2 c2 A3 n3 c3 A4 n4 c4) 27 (.tmp 47) rfl (by rfl) rfl (hA) rfl Try.underlying27 rfl ?_
  simp only [Act.put, List.setIfInBounds_toArray, List.set_cons_zero, List.set_cons_succ]
  refine wpList_plain rfl (fun K hK => ?_)
  go_simp
  with_reducible refine hK _ _ ?_
  clear hK K
  refine wpList_plain rfl (fun K hK => ?_)
  go_simp
  with_reducible refine hK _ _ ?_
  clear hK K
  refine wpList_ld1 (t := 53) (cs := p.cs A1 n1 c1 A2 n2 c2 A3 n3 c3 A4 n4 c4) 30 (.tmp 50) rfl (by rfl) rfl (hA) rfl Try.underlying30 rfl ?_
  simp only [Act.put, List.setIfInBounds_toArray, List.set_cons_zero, List.set_cons_succ]
  refine wpList_plain rfl (fun K hK => ?_)
  go_simp
  with_reducible refine hK _ _ ?_
  clear hK K
  refine wpList_plain rfl (fun K hK => ?_)
  go_simp
  with_reducible refine hK _ _ ?_
  clear hK K
  refine wpList_ld1 (t := 53) (cs := p.cs A1 n1 c1 A2 n2 c2 A3 n3 c3 A4 n4 c4) 22 (.tmp 53) rfl (by rfl) rfl (hA) rfl Try.underlying22 rfl ?_
  simp only [Act.put, List.setIfInBounds_toArray, List.set_cons_zero, List.set_cons_succ]
  refine wpList_plain rfl (fun K hK => ?_)
  go_simp
  with_reducible refine hK _ _ ?_
  clear hK K
  refine wpList_plain rfl (fun K hK => ?_)
  go_simp
  with_reducible refine hK _ _ ?_
  clear hK K
  refine wpList_stA (t := 58) 58 (.tmp 6) (.tmp 55) rfl rfl (msgC p.m0 p.m1 p.m2 p.m3 A4 n4 c4) (msgC 0 0 0 0 none 0 0) rfl (msgC_one _ _ _ _ _ _ _ ) rfl rfl ?_ (szMr _ _ _ _ _ _ _ ) ?_
  · refine Bk.newK _ _ _ ?_ rfl
    simp
  intro W2 hM gr_
  have b_ := below_grown (Below.allocS (Below.refl W1.heap.size W1) _) gr_ (Nat.le_refl _)
  replace be := be.trans (b_.mono be.size)
  replace hA := hA.later b_
  replace hB := hB.later b_
  replace hT := hT.later b_
  clear gr_ b_
  have zhM := hM.lt
  generalize W1.heap.size = gM at *
  simp only [Act.put, List.setIfInBounds_toArray, List.set_cons_zero, List.set_cons_succ]
  go_upto_region 3 with (fail)
  go_wp2
  refine wp_own (fun b => b < W2.heap.size) 8 0 128 2 (fun i => match i with | 6 => 4 | 7 => 5 | i => i) (fun i => match i with | 6 => [4] | 7 => [5] | _ => []) (fun i => match i with | _ => undef) rfl (by kernel_rfl) (by kernel_rfl) (fun i => match i with | 0 => Own.eq (.pointer (some ⟨w.heap.size, 22, none⟩)) | 1 => Own.eq (.agg (dgX p.u0 p.u1 p.u2 A3 n3 c3).toArray) | 2 => Own.eq (.pointer (some ⟨w.heap.size + 1, 22, none⟩)) | 3 => Own.eq (.agg (dgX p.u0 p.u1 p.u2 B3 m3 k3).toArray) | 4 => Own.blk 49 (dgX 0 0 0 none 0 0) | 5 => Own.blk 57 (dgX 0 0 0 none 0 0) | 6 => Own.into 49 (fun cs _ => cs = dgX p.u0 p.u1 p.u2 A3 n3 c3) (fun _ _ _ h _ => h) | 7 => Own.into 57 (fun cs _ => cs = dgX p.u0 p.u1 p.u2 B3 m3 k3) (fun _ _ _ h _ => h) | _ => Own.any) (fun b h => h) ?_ ?_ ?_ ?_ ?_
  · exact fun t ht => absurd ht (by omega)
  · exact fun t t' ht => absurd ht (by omega)
  · exact fun t ht => absurd ht (by omega)
  · intro i hi o ho FA w' vs H K hK
    match i, hi, ho, H, hK with
    | 0, _, ho, H, hK => 
      obtain rfl := Option.some.inj ho.symm
      clear ho
      have ev2 : FA.eval (.tmp 2) = .pointer (some ⟨w.heap.size, 0, none⟩) := H.out 2 (by kernel_rfl)
      have e2 : FA.tmps[2]?.getD undef = .pointer (some ⟨w.heap.size, 0, none⟩) := by simpa [Act.eval] using ev2
      replace ev2 := Lib.hid ev2
      go_simp
      exact hK.out _ _ (chgX (Ex.refl _)) rfl (fun _ h => h.elim)
    | 1, _, ho, H, hK => 
      obtain rfl := Option.some.inj ho.symm
      clear ho
      have ev56 : FA.eval (.tmp 56) = .pointer (some ⟨w.heap.size, 22, none⟩) := (H.dep 0 56 (by kernel_rfl)).trans (H.word 0 (by omega) (by kernel_rfl))
      have e56 : FA.tmps[56]?.getD undef = .pointer (some ⟨w.heap.size, 22, none⟩) := by simpa [Act.eval] using ev56
      replace ev56 := Lib.hid ev56
      refine wanted_if rfl ?_
      refine wp_load_mid 49 (.tmp 56) rfl (w.heap.size) 22 ev56.out (dgX p.u0 p.u1 p.u2 A3 n3 c3) _ (Bk.rangeM (hA.kept H.kept hA.lt) rfl) q1 q2 (szDX _ _ _ _ _ _) ?_
      exact hK.out _ _ (chgX (Ex.refl _)) rfl (fun _ h => h.elim)
    | 2, _, ho, H, hK => 
      obtain rfl := Option.some.inj ho.symm
      clear ho
      have ev3 : FA.eval (.tmp 3) = .pointer (some ⟨w.heap.size + 1, 0, none⟩) := H.out 3 (by kernel_rfl)
      have e3 : FA.tmps[3]?.getD undef = .pointer (some ⟨w.heap.size + 1, 0, none⟩) := by simpa [Act.eval] using ev3
      replace ev3 := Lib.hid ev3
      go_simp
      exact hK.out _ _ (chgX (Ex.refl _)) rfl (fun _ h => h.elim)
    | 3, _, ho, H, hK => 
      obtain rfl := Option.some.inj ho.symm
      clear ho
      have ev58 : FA.eval (.tmp 58) = .pointer (some ⟨w.heap.size + 1, 22, none⟩) := (H.dep 2 58 (by kernel_rfl)).trans (H.word 2 (by omega) (by kernel_rfl))
      have e58 : FA.tmps[58]?.getD undef = .pointer (some ⟨w.heap.size + 1, 22, none⟩) := by simpa [Act.eval] using ev58
      replace ev58 := Lib.hid ev58
      refine wanted_if rfl ?_
      refine wp_load_mid 57 (.tmp 58) rfl (w.heap.size + 1) 22 ev58.out (dgX p.u0 p.u1 p.u2 B3 m3 k3) _ (Bk.rangeM (hB.kept H.kept hB.lt) rfl) q3 q4 (szRX _ _ _ _ _ _) ?_
      exact hK.out _ _ (chgX (Ex.refl _)) rfl (fun _ h => h.elim)
    | 4, _, ho, H, hK => 
      obtain rfl := Option.some.inj ho.symm
      clear ho
      go_simp
      exact hK.out _ _ (chgX (Ex.alloc _ _)) ⟨_, rfl, Bk.newK _ _ _ rfl rfl⟩ (fun b hb => .inr (Nat.le_of_eq (own_ptr hb)))
    | 5, _, ho, H, hK => 
      obtain rfl := Option.some.inj ho.symm
      clear ho
      go_simp
      exact hK.out _ _ (chgX (Ex.alloc _ _)) ⟨_, rfl, Bk.newK _ _ _ rfl rfl⟩ (fun b hb => .inr (Nat.le_of_eq (own_ptr hb)))
    | 6, _, ho, H, hK => 
      obtain rfl := Option.some.inj ho.symm
      clear ho
      have ev7 := H.dep 4 7 (by kernel_rfl)
      have e7 : FA.tmps[7]?.getD undef = vs 4 := by simpa [Act.eval] using ev7
      replace ev7 := Lib.hid ev7
      have ev57 : FA.eval (.tmp 57) = .agg (dgX p.u0 p.u1 p.u2 A3 n3 c3).toArray := (H.dep 1 57 (by kernel_rfl)).trans (H.word 1 (by omega) (by kernel_rfl))
      have e57 : FA.tmps[57]?.getD undef = .agg (dgX p.u0 p.u1 p.u2 A3 n3 c3).toArray := by simpa [Act.eval] using ev57
      replace ev57 := Lib.hid ev57
      obtain ⟨g0, hg0, hb0⟩ := H.word 4 (by omega) (by kernel_rfl)
      refine wanted_if rfl ?_
      refine wp_stA 49 (.tmp 7) (.tmp 57) rfl (dgX p.u0 p.u1 p.u2 A3 n3 c3) (dgX 0 0 0 none 0 0) rfl (dgX_one _ _ _ _ _ _ ) (ev7.out.trans hg0) ev57.out hb0 (szDX _ _ _ _ _ _) ?_
      intro w'' hn hgr
      exact hK.out undef _ (Chg.one hgr ⟨4, rfl, hg0⟩) ⟨_, _, hg0, hn, rfl⟩ (fun b hb => .inl ⟨4, rfl, hb⟩)
    | 7, _, ho, H, hK => 
      obtain rfl := Option.some.inj ho.symm
      clear ho
      have ev8 := H.dep 5 8 (by kernel_rfl)
      have e8 : FA.tmps[8]?.getD undef = vs 5 := by simpa [Act.eval] using ev8
      replace ev8 := Lib.hid ev8
      have ev59 : FA.eval (.tmp 59) = .agg (dgX p.u0 p.u1 p.u2 B3 m3 k3).toArray := (H.dep 3 59 (by kernel_rfl)).trans (H.word 3 (by omega) (by kernel_rfl))
      have e59 : FA.tmps[59]?.getD undef = .agg (dgX p.u0 p.u1 p.u2 B3 m3 k3).toArray := by simpa [Act.eval] using ev59
      replace ev59 := Lib.hid ev59
      obtain ⟨g0, hg0, hb0⟩ := H.word 5 (by omega) (by kernel_rfl)
      refine wanted_if rfl ?_
      refine wp_stA 57 (.tmp 8) (.tmp 59) rfl (dgX p.u0 p.u1 p.u2 B3 m3 k3) (dgX 0 0 0 none 0 0) rfl (dgX_one _ _ _ _ _ _ ) (ev8.out.trans hg0) ev59.out hb0 (szRX _ _ _ _ _ _) ?_
      intro w'' hn hgr
      exact hK.out undef _ (Chg.one hgr ⟨5, rfl, hg0⟩) ⟨_, _, hg0, hn, rfl⟩ (fun b hb => .inl ⟨5, rfl, hb⟩)
    | (k + 8), hi, _, _, _ => exact absurd hi (by omega)
  intro vs w' hC hV hW hDis hFr
  have p0 : vs 0 = .pointer (some ⟨w.heap.size, 22, none⟩) := hW 0 (by omega) (by kernel_rfl)
  have p1 : vs 1 = .agg (dgX p.u0 p.u1 p.u2 A3 n3 c3).toArray := hW 1 (by omega) (by kernel_rfl)
  have p2 : vs 2 = .pointer (some ⟨w.heap.size + 1, 22, none⟩) := hW 2 (by omega) (by kernel_rfl)
  have p3 : vs 3 = .agg (dgX p.u0 p.u1 p.u2 B3 m3 k3).toArray := hW 3 (by omega) (by kernel_rfl)
  have p6 := hW 6 (by omega) (by kernel_rfl)
  have p7 := hW 7 (by omega) (by kernel_rfl)
  clear hW
  simp only [List.take_succ_cons, List.take_zero, List.drop_succ_cons, List.drop_zero, putAll, Nat.zero_add, Nat.reduceAdd, Act.put, List.setIfInBounds_toArray, List.set_cons_zero, List.set_cons_succ, p0, p1, p2, p3]
  obtain ⟨gU, cU, hgU, hU, rfl⟩ := p6
  obtain ⟨gW, cW, hgW, hW, rfl⟩ := p7
  replace hgU : vs 4 = .pointer (some ⟨gU, 0, none⟩) := hgU
  replace hgW : vs 5 = .pointer (some ⟨gW, 0, none⟩) := hgW
  have b3 : Below W2.heap.size W2 w' := hC.below (B := W2.heap.size) (Nat.le_refl _) (fun b hb => hb)
  replace be : Below w.heap.size w w' := be.trans (b3.mono be.size)
  replace hA := hA.later b3
  replace hB := hB.later b3
  replace hT := hT.later b3
  replace hM := hM.later b3
  rw [hgU, hgW]
  clear hgU hgW hC hV hDis hFr p0 p1 p2 p3 b3
  clear vs
  generalize w' = W3 at *
  go_upto_region 4 with (fail)
  refine wp_region_lit ?_
  refine wpList_plain rfl (fun K hK => ?_)
  go_simp
  with_reducible refine hK _ _ ?_
  clear hK K
  refine wpList_ld1 (t := 53) (cs := p.cs A1 n1 c1 A2 n2 c2 A3 n3 c3 A4 n4 c4) 4 (.tmp 60) rfl (by rfl) rfl (hA) rfl Try.underlying4 rfl ?_
  simp only [Act.put, List.setIfInBounds_toArray, List.set_cons_zero, List.set_cons_succ]
  refine wpList_plain rfl (fun K hK => ?_)
  go_simp
  with_reducible refine hK _ _ ?_
  clear hK K
  refine wpList_ld1 (t := 60) (cs := p.cs B1 m1 k1 B2 m2 k2 B3 m3 k3 B4 m4 k4) 4 (.tmp 62) rfl (by rfl) rfl (hB) rfl Try.underlying4 rfl ?_
  simp only [Act.put, List.setIfInBounds_toArray, List.set_cons_zero, List.set_cons_succ]
  refine wpList_plain rfl (fun K hK => ?_)
  go_simp
  with_reducible refine hK _ _ ?_
  clear hK K
  refine wpList_plain rfl (fun K hK => ?_)
  go_simp
  with_reducible refine hK _ _ ?_
  clear hK K
  refine wpList_step (fun K hK => ?_)
  go_simp
  with_reducible refine hK _ _ ?_
  clear hK K
  refine wpList_ld1 (t := 53) (cs := p.cs A1 n1 c1 A2 n2 c2 A3 n3 c3 A4 n4 c4) 4 (.tmp 66) rfl (by go_simp) rfl (hA) rfl Try.underlying4 rfl ?_
  simp only [Act.put, List.setIfInBounds_toArray, List.set_cons_zero, List.set_cons_succ]
  refine wpList_step (fun K hK => ?_)
  go_simp
  with_reducible refine hK _ _ ?_
  clear hK K
  refine wpList_ld1 (t := 60) (cs := p.cs B1 m1 k1 B2 m2 k2 B3 m3 k3 B4 m4 k4) 4 (.tmp 68) rfl (by go_simp) rfl (hB) rfl Try.underlying4 rfl ?_
  simp only [Act.put, List.setIfInBounds_toArray, List.set_cons_zero, List.set_cons_succ]
  refine wpList_step (fun K hK => ?_)
  go_simp
  with_reducible refine hK _ _ ?_
  clear hK K
  refine wpList_plain rfl (fun K hK => ?_)
  go_simp
  with_reducible refine hK _ _ ?_
  clear hK K
  refine wpList_plain rfl (fun K hK => ?_)
  go_simp
  with_reducible refine hK _ _ ?_
  clear hK K
  refine wpList_step (fun K hK => ?_)
  go_simp
  with_reducible refine hK _ _ ?_
  clear hK K
  refine wpList_ld1 (t := 53) (cs := p.cs A1 n1 c1 A2 n2 c2 A3 n3 c3 A4 n4 c4) 5 (.tmp 73) rfl (by go_simp) rfl (hA) rfl Try.underlying5 rfl ?_
  simp only [Act.put, List.setIfInBounds_toArray, List.set_cons_zero, List.set_cons_succ]
  refine wpList_step (fun K hK => ?_)
  go_simp
  with_reducible refine hK _ _ ?_
  clear hK K
  refine wpList_ld1 (t := 60) (cs := p.cs B1 m1 k1 B2 m2 k2 B3 m3 k3 B4 m4 k4) 5 (.tmp 75) rfl (by go_simp) rfl (hB) rfl Try.underlying5 rfl ?_
  simp only [Act.put, List.setIfInBounds_toArray, List.set_cons_zero, List.set_cons_succ]
  refine wpList_step (fun K hK => ?_)
  go_simp
  with_reducible refine hK _ _ ?_
  clear hK K
  refine wpList_plain rfl (fun K hK => ?_)
  go_simp
  with_reducible refine hK _ _ ?_
  clear hK K
  refine wpList_plain rfl (fun K hK => ?_)
  go_simp
  with_reducible refine hK _ _ ?_
  clear hK K
  refine wpList_step (fun K hK => ?_)
  go_simp
  with_reducible refine hK _ _ ?_
  clear hK K
  refine wpList_ldG (t := 53) (cs := p.cs A1 n1 c1 A2 n2 c2 A3 n3 c3 A4 n4 c4) 29 (.tmp 80) rfl (by go_simp) (flC p.s6 p.sh p.sl p.d6 p.dh p.dl p.sp p.dp p.pr) rfl (hA) rfl f1 f2 (szFl _ _ _ _ _ _ _ _ _ ) ?_
  simp only [Act.put, List.setIfInBounds_toArray, List.set_cons_zero, List.set_cons_succ]
  refine wpList_step (fun K hK => ?_)
  go_simp
  with_reducible refine hK _ _ ?_
  clear hK K
  refine wpList_ldG (t := 60) (cs := p.cs B1 m1 k1 B2 m2 k2 B3 m3 k3 B4 m4 k4) 29 (.tmp 82) rfl (by go_simp) (flC p.s6 p.sh p.sl p.d6 p.dh p.dl p.sp p.dp p.pr) rfl (hB) rfl f1 f2 (szFl _ _ _ _ _ _ _ _ _ ) ?_
  simp only [Act.put, List.setIfInBounds_toArray, List.set_cons_zero, List.set_cons_succ]
  refine wpList_step (fun K hK => ?_)
  go_simp
  with_reducible refine hK _ _ ?_
  clear hK K
  refine wpList_plain rfl (fun K hK => ?_)
  go_simp
  with_reducible refine hK _ _ ?_
  clear hK K
  refine wpList_plain rfl (fun K hK => ?_)
  go_simp
  with_reducible refine hK _ _ ?_
  clear hK K
  refine wpList_ldG (t := 56) 56 (.tmp 5) rfl (by go_simp) (tcC p.x0 p.x1 p.x2 p.x3 p.x4 p.x5 p.x6 p.x7 A1 n1 c1 A2 n2 c2) rfl (hT) (whole_ _) s1 s2 (szSegR _ rfl) ?_
  simp only [Act.put, List.setIfInBounds_toArray, List.set_cons_zero, List.set_cons_succ]
  refine wpList_step (fun K hK => ?_)
  go_simp
  with_reducible refine hK _ _ ?_
  clear hK K
  refine wpList_ldG (t := 60) (cs := p.cs B1 m1 k1 B2 m2 k2 B3 m3 k3 B4 m4 k4) 56 (.tmp 88) rfl (by go_simp) (tcC p.x0 p.x1 p.x2 p.x3 p.x4 p.x5 p.x6 p.x7 B1 m1 k1 B2 m2 k2) rfl (hB) rfl s1 s2 (szSegR _ rfl) ?_
  simp only [Act.put, List.setIfInBounds_toArray, List.set_cons_zero, List.set_cons_succ]
  refine wpList_step (fun K hK => ?_)
  go_simp
  refine (HS1.out _ (h1.later be) (h2.later be) (g1.later be) (g2.later be)).mono ?_
  rintro e w1 ⟨bs1, d1, rfl, rfl⟩
  with_reducible refine hK _ _ ?_
  clear hK K
  replace hA := hA.later (below_plus _ bs1 d1)
  replace hB := hB.later (below_plus _ bs1 d1)
  replace hT := hT.later (below_plus _ bs1 d1)
  replace hM := hM.later (below_plus _ bs1 d1)
  replace hU := hU.later (below_plus _ bs1 d1)
  replace hW := hW.later (below_plus _ bs1 d1)
  replace be := belowP be bs1 d1
  generalize plus W3 bs1 d1 = W4 at *
  refine wpList_plain rfl (fun K hK => ?_)
  go_simp
  with_reducible refine hK _ _ ?_
  clear hK K
  refine wpList_plain rfl (fun K hK => ?_)
  go_simp
  with_reducible refine hK _ _ ?_
  clear hK K
  refine wpList_ldG (t := 58) 58 (.tmp 6) rfl (by go_simp) (msgC p.m0 p.m1 p.m2 p.m3 A4 n4 c4) rfl (hM) (whole_ _) m1_ m2_ (szMr _ _ _ _ _ _ _ ) ?_
  simp only [Act.put, List.setIfInBounds_toArray, List.set_cons_zero, List.set_cons_succ]
  refine wpList_step (fun K hK => ?_)
  go_simp
  with_reducible refine hK _ _ ?_
  clear hK K
  refine wpList_ldG (t := 60) (cs := p.cs B1 m1 k1 B2 m2 k2 B3 m3 k3 B4 m4 k4) 58 (.tmp 94) rfl (by go_simp) (msgC p.m0 p.m1 p.m2 p.m3 B4 m4 k4) rfl (hB) rfl m1_ m2_ (szMr _ _ _ _ _ _ _ ) ?_
  simp only [Act.put, List.setIfInBounds_toArray, List.set_cons_zero, List.set_cons_succ]
  refine wpList_step (fun K hK => ?_)
  go_simp
  refine (HS2.out _ (h4.later be) (g4.later be)).mono ?_
  rintro e w1 ⟨bs2, d2, rfl, rfl⟩
  with_reducible refine hK _ _ ?_
  clear hK K
  replace hA := hA.later (below_plus _ bs2 d2)
  replace hB := hB.later (below_plus _ bs2 d2)
  replace hT := hT.later (below_plus _ bs2 d2)
  replace hM := hM.later (below_plus _ bs2 d2)
  replace hU := hU.later (below_plus _ bs2 d2)
  replace hW := hW.later (below_plus _ bs2 d2)
  replace be := belowP be bs2 d2
  generalize plus W4 bs2 d2 = W5 at *
  refine wpList_plain rfl (fun K hK => ?_)
  go_simp
  with_reducible refine hK _ _ ?_
  clear hK K
  refine wpList_plain rfl (fun K hK => ?_)
  go_simp
  with_reducible refine hK _ _ ?_
  clear hK K
  refine wpList_step (fun K hK => ?_)
  go_simp
  with_reducible refine hK _ _ ?_
  clear hK K
  refine wpList_ld1 (t := 49) (cs := dgX p.u0 p.u1 p.u2 A3 n3 c3) 27 (.tmp 99) rfl (by go_simp) rfl (hU) rfl Try.underlying27 rfl ?_
  simp only [Act.put, List.setIfInBounds_toArray, List.set_cons_zero, List.set_cons_succ]
  refine wpList_step (fun K hK => ?_)
  go_simp
  with_reducible refine hK _ _ ?_
  clear hK K
  refine wpList_ld1 (t := 57) (cs := dgX p.u0 p.u1 p.u2 B3 m3 k3) 27 (.tmp 101) rfl (by go_simp) rfl (hW) rfl Try.underlying27 rfl ?_
  simp only [Act.put, List.setIfInBounds_toArray, List.set_cons_zero, List.set_cons_succ]
  refine wpList_step (fun K hK => ?_)
  go_simp
  with_reducible refine hK _ _ ?_
  clear hK K
  refine wpList_plain rfl (fun K hK => ?_)
  go_simp
  with_reducible refine hK _ _ ?_
  clear hK K
  refine wpList_plain rfl (fun K hK => ?_)
  go_simp
  with_reducible refine hK _ _ ?_
  clear hK K
  refine wpList_step (fun K hK => ?_)
  go_simp
  with_reducible refine hK _ _ ?_
  clear hK K
  refine wpList_ld1 (t := 49) (cs := dgX p.u0 p.u1 p.u2 A3 n3 c3) 27 (.tmp 106) rfl (by go_simp) rfl (hU) rfl Try.underlying27 rfl ?_
  simp only [Act.put, List.setIfInBounds_toArray, List.set_cons_zero, List.set_cons_succ]
  refine wpList_step (fun K hK => ?_)
  go_simp
  with_reducible refine hK _ _ ?_
  clear hK K
  refine wpList_ld1 (t := 57) (cs := dgX p.u0 p.u1 p.u2 B3 m3 k3) 27 (.tmp 108) rfl (by go_simp) rfl (hW) rfl Try.underlying27 rfl ?_
  simp only [Act.put, List.setIfInBounds_toArray, List.set_cons_zero, List.set_cons_succ]
  refine wpList_step (fun K hK => ?_)
  go_simp
  with_reducible refine hK _ _ ?_
  clear hK K
  refine wpList_plain rfl (fun K hK => ?_)
  go_simp
  with_reducible refine hK _ _ ?_
  clear hK K
  refine wpList_plain rfl (fun K hK => ?_)
  go_simp
  with_reducible refine hK _ _ ?_
  clear hK K
  refine wpList_step (fun K hK => ?_)
  go_simp
  with_reducible refine hK _ _ ?_
  clear hK K
  refine wpList_ld1 (t := 49) (cs := dgX p.u0 p.u1 p.u2 A3 n3 c3) 27 (.tmp 113) rfl (by go_simp) rfl (hU) rfl Try.underlying27 rfl ?_
  simp only [Act.put, List.setIfInBounds_toArray, List.set_cons_zero, List.set_cons_succ]
  refine wpList_step (fun K hK => ?_)
  go_simp
  with_reducible refine hK _ _ ?_
  clear hK K
  refine wpList_ld1 (t := 57) (cs := dgX p.u0 p.u1 p.u2 B3 m3 k3) 27 (.tmp 115) rfl (by go_simp) rfl (hW) rfl Try.underlying27 rfl ?_
  simp only [Act.put, List.setIfInBounds_toArray, List.set_cons_zero, List.set_cons_succ]
  refine wpList_step (fun K hK => ?_)
  go_simp
  with_reducible refine hK _ _ ?_
  clear hK K
  refine wpList_plain rfl (fun K hK => ?_)
  go_simp
  with_reducible refine hK _ _ ?_
  clear hK K
  refine wpList_plain rfl (fun K hK => ?_)
  go_simp
  with_reducible refine hK _ _ ?_
  clear hK K
  refine wpList_step (fun K hK => ?_)
  go_simp
  with_reducible refine hK _ _ ?_
  clear hK K
  refine wpList_ld1 (t := 49) (cs := dgX p.u0 p.u1 p.u2 A3 n3 c3) 22 (.tmp 120) rfl (by go_simp) rfl (hU) rfl Try.underlying22 rfl ?_
  simp only [Act.put, List.setIfInBounds_toArray, List.set_cons_zero, List.set_cons_succ]
  have es := run_str bt Try.underlying9 (h3.later be)
  refine wpList_step (fun K hK => ?_)
  go_simp
  with_reducible refine hK _ _ ?_
  clear hK K es
  refine wpList_step (fun K hK => ?_)
  go_simp
  with_reducible refine hK _ _ ?_
  clear hK K
  refine wpList_ld1 (t := 57) (cs := dgX p.u0 p.u1 p.u2 B3 m3 k3) 22 (.tmp 123) rfl (by go_simp) rfl (hW) rfl Try.underlying22 rfl ?_
  simp only [Act.put, List.setIfInBounds_toArray, List.set_cons_zero, List.set_cons_succ]
  have es := run_str bt Try.underlying9 (g3.later be)
  refine wpList_step (fun K hK => ?_)
  go_simp
  with_reducible refine hK _ _ ?_
  clear hK K es
  refine wpList_step (fun K hK => ?_)
  go_simp
  with_reducible refine hK _ _ ?_
  clear hK K
  refine wpList_plain rfl (fun K hK => ?_)
  go_simp
  with_reducible refine hK _ _ ?_
  clear hK K
  go_wp2
  go_ret
  exact RetV.is_ rfl be
end Go.Proofs.Ytfmkndemkpecpaa

/- Read and Host of any bytes, both sides alike; the law PacketReads (chapter 28). -/
namespace Go.Proofs.Ytfmkndemkpecpaa
open Go.RowKit
set_option linter.unusedVariables false
set_option linter.unusedSimpArgs false
attribute [local go_sem ↓] sliced_cut

attribute [local go_sem] cutA_zero

set_option maxHeartbeats 4000000 in
set_option maxRecDepth 100000 in
theorem pkRead (A : Option Addr) (n c : Nat) (p : PI) (why : Int) (w : World) (HL : ∀ w', Below w.heap.size w w' → Calls Try.prog 58 #[.slice A n c, .int .i64 (1)] w' (RetPI w' p why)) : Calls Try.prog 20 #[.slice A n c] w (RetPI w p why) := by
  replace HL := Lib.hid HL
  obtain ⟨di_, i1, i2⟩ := rowIn
  have b3 : Bk (w.alloc (.cells #[.bool false, .bool false, .int .u8 0, .bool false, .int .u64 0, .int .u64 0, .bool false, .int .u64 0, .int .u64 0, .int .u16 0, .int .u16 0, .int .u8 0, .int .u16 0, .int .u16 0, .int .u32 0, .int .u32 0, .int .u8 0, .int .u16 0, .int .u16 0, .int .u16 0, .slice none 0 0, .slice none 0 0, .int .u16 0, .int .u16 0, .int .u16 0, .slice none 0 0, .int .u8 0, .int .u8 0, .int .u16 0, .int .u32 0, .slice none 0 0] 53)) w.heap.size 53 (inC (fhC false false 0 false 0 0 false 0 0 0 0 0) (tcC 0 0 0 0 0 0 0 0 none 0 0 none 0 0) (dgX 0 0 0 none 0 0) (msgC 0 0 0 0 none 0 0)) := Bk.new w 53 #[.bool false, .bool false, .int .u8 0, .bool false, .int .u64 0, .int .u64 0, .bool false, .int .u64 0, .int .u64 0, .int .u16 0, .int .u16 0, .int .u8 0, .int .u16 0, .int .u16 0, .int .u32 0, .int .u32 0, .int .u8 0, .int .u16 0, .int .u16 0, .int .u16 0, .slice none 0 0, .slice none 0 0, .int .u16 0, .int .u16 0, .int .u16 0, .slice none 0 0, .int .u8 0, .int .u8 0, .int .u16 0, .int .u32 0, .slice none 0 0]
  have be : Below w.heap.size w (w.alloc (.cells #[.bool false, .bool false, .int .u8 0, .bool false, .int .u64 0, .int .u64 0, .bool false, .int .u64 0, .int .u64 0, .int .u16 0, .int .u16 0, .int .u8 0, .int .u16 0, .int .u16 0, .int .u32 0, .int .u32 0, .int .u8 0, .int .u16 0, .int .u16 0, .int .u16 0, .slice none 0 0, .slice none 0 0, .int .u16 0, .int .u16 0, .int .u16 0, .slice none 0 0, .int .u8 0, .int .u8 0, .int .u16 0, .int .u32 0, .slice none 0 0] 53)) := Below.allocS (Below.refl _ _) _
  have zV : w.heap.size + 1 ≤ (w.alloc (.cells #[.bool false, .bool false, .int .u8 0, .bool false, .int .u64 0, .int .u64 0, .bool false, .int .u64 0, .int .u64 0, .int .u16 0, .int .u16 0, .int .u8 0, .int .u16 0, .int .u16 0, .int .u32 0, .int .u32 0, .int .u8 0, .int .u16 0, .int .u16 0, .int .u16 0, .slice none 0 0, .slice none 0 0, .int .u16 0, .int .u16 0, .int .u16 0, .slice none 0 0, .int .u8 0, .int .u8 0, .int .u16 0, .int .u32 0, .slice none 0 0] 53)).heap.size := by simp
  go_enter Try.func20, Try.ntmps20
  go_upto_region 1 with (fail)
  generalize w.alloc (.cells #[.bool false, .bool false, .int .u8 0, .bool false, .int .u64 0, .int .u64 0, .bool false, .int .u64 0, .int .u64 0, .int .u16 0, .int .u16 0, .int .u8 0, .int .u16 0, .int .u16 0, .int .u32 0, .int .u32 0, .int .u8 0, .int .u16 0, .int .u16 0, .int .u16 0, .slice none 0 0, .slice none 0 0, .int .u16 0, .int .u16 0, .int .u16 0, .slice none 0 0, .int .u8 0, .int .u8 0, .int .u16 0, .int .u32 0, .slice none 0 0] 53) = V at *
  refine wp_region_lit ?_
  refine wpList_plain rfl (fun K hK => ?_)
  go_simp
  with_reducible refine hK _ _ ?_
  clear hK K
  refine wpList_plain rfl (fun K hK => ?_)
  go_simp
  refine (HL.out _ be).mono ?_
  rintro e w1 ⟨A1, n1, c1, A2, n2, c2, A3, n3, c3, A4, n4, c4, bs2, d2, rfl, rfl, r1, r2, r3, r4, f1, f2, f3, f4⟩
  with_reducible refine hK _ _ ?_
  clear hK K
  replace b3 := b3.later (below_plus V bs2 d2)
  replace be := belowP be bs2 d2
  generalize plus V bs2 d2 = W9 at *
  refine wpList_plain rfl (fun K hK => ?_)
  go_simp
  with_reducible refine hK _ _ ?_
  clear hK K
  refine wpList_plain rfl (fun K hK => ?_)
  go_simp
  with_reducible refine hK _ _ ?_
  clear hK K
  refine wpList_stA 53 (.tmp 2) (.tmp 6) rfl rfl (p.cs A1 n1 c1 A2 n2 c2 A3 n3 c3 A4 n4 c4) (inC (fhC false false 0 false 0 0 false 0 0 0 0 0) (tcC 0 0 0 0 0 0 0 0 none 0 0 none 0 0) (dgX 0 0 0 none 0 0) (msgC 0 0 0 0 none 0 0)) rfl (p.one _ _ _ _ _ _ _ _ _ _ _ _) rfl rfl b3 (szIN_ (by rfl)) ?_
  intro W10 h9 g9
  simp only [Act.put, List.setIfInBounds_toArray, List.set_cons_zero, List.set_cons_succ]
  refine wpList_plain rfl (fun K hK => ?_)
  go_simp
  with_reducible refine hK _ _ ?_
  clear hK K
  go_wp2
  refine bodyPost_agg2 Try.results20 rfl rfl h9.range i1 i2 (szIN_ (by rfl)) rfl ?_
  have hCg : Chg (fun b => b = w.heap.size) W9 W10 := Chg.one g9 rfl
  exact RetPI.mk (p := p) (r1.chg hCg (fun a ha hb => by have h' : a.block = w.heap.size := hb; have := f1 a ha; omega)) (r2.chg hCg (fun a ha hb => by have h' : a.block = w.heap.size := hb; have := f2 a ha; omega)) (r3.chg hCg (fun a ha hb => by have h' : a.block = w.heap.size := hb; have := f3 a ha; omega)) (r4.chg hCg (fun a ha hb => by have h' : a.block = w.heap.size := hb; have := f4 a ha; omega)) (fun a ha => by have := f1 a ha; omega) (fun a ha => by have := f2 a ha; omega) (fun a ha => by have := f3 a ha; omega) (fun a ha => by have := f4 a ha; omega) (below_grown be g9 (by omega))
set_option maxHeartbeats 4000000 in
set_option maxRecDepth 100000 in
theorem pkHost (A : Option Addr) (n c : Nat) (p : PI) (why : Int) (w : World) (HL : ∀ w', Below w.heap.size w w' → Calls Try.prog 58 #[.slice A n c, .int .i64 (-1)] w' (RetPI w' p why)) : Calls Try.prog 22 #[.slice A n c] w (RetPI w p why) := by
  replace HL := Lib.hid HL
  obtain ⟨di_, i1, i2⟩ := rowIn
  have b3 : Bk (w.alloc (.cells #[.bool false, .bool false, .int .u8 0, .bool false, .int .u64 0, .int .u64 0, .bool false, .int .u64 0, .int .u64 0, .int .u16 0, .int .u16 0, .int .u8 0, .int .u16 0, .int .u16 0, .int .u32 0, .int .u32 0, .int .u8 0, .int .u16 0, .int .u16 0, .int .u16 0, .slice none 0 0, .slice none 0 0, .int .u16 0, .int .u16 0, .int .u16 0, .slice none 0 0, .int .u8 0, .int .u8 0, .int .u16 0, .int .u32 0, .slice none 0 0] 53)) w.heap.size 53 (inC (fhC false false 0 false 0 0 false 0 0 0 0 0) (tcC 0 0 0 0 0 0 0 0 none 0 0 none 0 0) (dgX 0 0 0 none 0 0) (msgC 0 0 0 0 none 0 0)) := Bk.new w 53 #[.bool false, .bool false, .int .u8 0, .bool false, .int .u64 0, .int .u64 0, .bool false, .int .u64 0, .int .u64 0, .int .u16 0, .int .u16 0, .int .u8 0, .int .u16 0, .int .u16 0, .int .u32 0, .int .u32 0, .int .u8 0, .int .u16 0, .int .u16 0, .int .u16 0, .slice none 0 0, .slice none 0 0, .int .u16 0, .int .u16 0, .int .u16 0, .slice none 0 0, .int .u8 0, .int .u8 0, .int .u16 0, .int .u32 0, .slice none 0 0]
  have be : Below w.heap.size w (w.alloc (.cells #[.bool false, .bool false, .int .u8 0, .bool false, .int .u64 0, .int .u64 0, .bool false, .int .u64 0, .int .u64 0, .int .u16 0, .int .u16 0, .int .u8 0, .int .u16 0, .int .u16 0, .int .u32 0, .int .u32 0, .int .u8 0, .int .u16 0, .int .u16 0, .int .u16 0, .slice none 0 0, .slice none 0 0, .int .u16 0, .int .u16 0, .int .u16 0, .slice none 0 0, .int .u8 0, .int .u8 0, .int .u16 0, .int .u32 0, .slice none 0 0] 53)) := Below.allocS (Below.refl _ _) _
  have zV : w.heap.size + 1 ≤ (w.alloc (.cells #[.bool false, .bool false, .int .u8 0, .bool false, .int .u64 0, .int .u64 0, .bool false, .int .u64 0, .int .u64 0, .int .u16 0, .int .u16 0, .int .u8 0, .int .u16 0, .int .u16 0, .int .u32 0, .int .u32 0, .int .u8 0, .int .u16 0, .int .u16 0, .int .u16 0, .slice none 0 0, .slice none 0 0, .int .u16 0, .int .u16 0, .int .u16 0, .slice none 0 0, .int .u8 0, .int .u8 0, .int .u16 0, .int .u32 0, .slice none 0 0] 53)).heap.size := by simp
  go_enter Try.func22, Try.ntmps22
  go_upto_region 1 with (fail)
  generalize w.alloc (.cells #[.bool false, .bool false, .int .u8 0, .bool false, .int .u64 0, .int .u64 0, .bool false, .int .u64 0, .int .u64 0, .int .u16 0, .int .u16 0, .int .u8 0, .int .u16 0, .int .u16 0, .int .u32 0, .int .u32 0, .int .u8 0, .int .u16 0, .int .u16 0, .int .u16 0, .slice none 0 0, .slice none 0 0, .int .u16 0, .int .u16 0, .int .u16 0, .slice none 0 0, .int .u8 0, .int .u8 0, .int .u16 0, .int .u32 0, .slice none 0 0] 53) = V at *
  refine wp_region_lit ?_
  refine wpList_plain rfl (fun K hK => ?_)
  go_simp
  with_reducible refine hK _ _ ?_
  clear hK K
  refine wpList_plain rfl (fun K hK => ?_)
  go_simp
  refine (HL.out _ be).mono ?_
  rintro e w1 ⟨A1, n1, c1, A2, n2, c2, A3, n3, c3, A4, n4, c4, bs2, d2, rfl, rfl, r1, r2, r3, r4, f1, f2, f3, f4⟩
  with_reducible refine hK _ _ ?_
  clear hK K
  replace b3 := b3.later (below_plus V bs2 d2)
  replace be := belowP be bs2 d2
  generalize plus V bs2 d2 = W9 at *
  refine wpList_plain rfl (fun K hK => ?_)
  go_simp
  with_reducible refine hK _ _ ?_
  clear hK K
  refine wpList_plain rfl (fun K hK => ?_)
  go_simp
  with_reducible refine hK _ _ ?_
  clear hK K
  refine wpList_stA 53 (.tmp 2) (.tmp 6) rfl rfl (p.cs A1 n1 c1 A2 n2 c2 A3 n3 c3 A4 n4 c4) (inC (fhC false false 0 false 0 0 false 0 0 0 0 0) (tcC 0 0 0 0 0 0 0 0 none 0 0 none 0 0) (dgX 0 0 0 none 0 0) (msgC 0 0 0 0 none 0 0)) rfl (p.one _ _ _ _ _ _ _ _ _ _ _ _) rfl rfl b3 (szIN_ (by rfl)) ?_
  intro W10 h9 g9
  simp only [Act.put, List.setIfInBounds_toArray, List.set_cons_zero, List.set_cons_succ]
  refine wpList_plain rfl (fun K hK => ?_)
  go_simp
  with_reducible refine hK _ _ ?_
  clear hK K
  go_wp2
  refine bodyPost_agg2 Try.results22 rfl rfl h9.range i1 i2 (szIN_ (by rfl)) rfl ?_
  have hCg : Chg (fun b => b = w.heap.size) W9 W10 := Chg.one g9 rfl
  exact RetPI.mk (p := p) (r1.chg hCg (fun a ha hb => by have h' : a.block = w.heap.size := hb; have := f1 a ha; omega)) (r2.chg hCg (fun a ha hb => by have h' : a.block = w.heap.size := hb; have := f2 a ha; omega)) (r3.chg hCg (fun a ha hb => by have h' : a.block = w.heap.size := hb; have := f3 a ha; omega)) (r4.chg hCg (fun a ha hb => by have h' : a.block = w.heap.size := hb; have := f4 a ha; omega)) (fun a ha => by have := f1 a ha; omega) (fun a ha => by have := f2 a ha; omega) (fun a ha => by have := f3 a ha; omega) (fun a ha => by have := f4 a ha; omega) (below_grown be g9 (by omega))
/-- both sides open alike -/
theorem opens (A : Option Addr) (n c : Nat) (l : List UInt8) (w : World) (h : Rb w A n c l) (hm : n ≤ 3000) : ∃ (si st : Bool) (tl : Nat) (s6 : Bool) (sh sl dh dl pr : Nat) (fr : Bool) (load : List UInt8) (E : Int), (pr < 256 ∧ tl < 256 ∧ load.length ≤ 5000 ∧ sh < 18446744073709551616 ∧ sl < 18446744073709551616 ∧ dh < 18446744073709551616 ∧ dl < 18446744073709551616) ∧
    (∀ w', Below w.heap.size w w' → Calls Try.prog 114 #[.slice A n c] w' (OpR w' (fhC si st tl s6 sh sl s6 dh dl 0 0 pr) fr load E)) ∧ (∀ w', Below w.heap.size w w' → Calls Try.prog 59 #[.slice A n c] w' (OuR w' (fhC si st tl s6 sh sl s6 dh dl 0 0 pr) fr load E)) := by
  have up : ∀ w1, Below w.heap.size w w1 → ∀ w2, Below w1.heap.size w1 w2 → Below w.heap.size w w2 := fun w1 h1 w2 h2 => h1.trans (h2.mono h1.size)
  obtain ⟨N, B, E, s⟩ := sx_any l
  have HS : ∀ w1, Below w.heap.size w w1 → ∀ w', Below w1.heap.size w1 w' → Calls Try.prog 68 #[.slice A n c] w' fun e w2 => e = .returned (.tuple #[.bool B, .int .i64 E]) ∧ w' = w2 := fun w1 h1 w2 h2 => tunSix A n c l w2 (h.later (up w1 h1 w2 h2)) N B E s
  have HR : ∀ w1, Below w.heap.size w w1 → ∀ w', Below w1.heap.size w1 w' → Calls Try.prog 75 #[.slice A n c] w' fun e w2 => e = .returned (.int .i64 N) ∧ w' = w2 := fun w1 h1 w2 h2 => refSix A n c l w2 (h.later (up w1 h1 w2 h2)) N B E s
  have bz : (0 : Nat) < 256 ∧ (0 : Nat) < 256 ∧ ([] : List UInt8).length ≤ 5000 ∧ (0 : Nat) < 18446744073709551616 ∧ (0 : Nat) < 18446744073709551616 ∧ (0 : Nat) < 18446744073709551616 ∧ (0 : Nat) < 18446744073709551616 := by simp
  cases s
  case none_ => exact ⟨false, false, 0, false, 0, 0, 0, 0, 0, false, [], 20, bz, fun w1 hb => open_err A n c w1 _ _ _ _ _ rfl (HS w1 hb), fun w1 hb => refOuter_s A n c w1 _ _ _ (HR w1 hb)⟩
  case other => exact ⟨false, false, 0, false, 0, 0, 0, 0, 0, false, [], 21, bz, fun w1 hb => open_err A n c w1 _ _ _ _ _ rfl (HS w1 hb), fun w1 hb => refOuter_0 A n c w1 _ _ _ (HR w1 hb)⟩
  case four =>
    obtain ⟨ts, ln, id, st, mo, fo, tl, pr, sm, sa, da, o, load, E1, F, H1, H2⟩ := reads4F A n c _ w h (by omega)
    obtain ⟨b1, b2, b3, b4, b5, b6, b7, b8, b9, b10, b11⟩ := F.b
    exact ⟨false, st, tl, false, 0, sa, 0, da, pr, (mo || decide (0 < (fo : Int))), load, E1, ⟨b5, b4, by omega, by omega, by omega, by omega, by omega⟩,
      fun w1 hb => open_4 A n c w1 ts ln id st mo fo tl pr sm sa da o load E1 (HS w1 hb) (fun w2 hb2 => H1 w2 (up w1 hb w2 hb2)), fun w1 hb => refOuter_4 A n c w1 ts ln id st mo fo tl pr sm sa da o load E1 _ rfl (HR w1 hb) (fun w2 hb2 => H2 w2 (up w1 hb w2 hb2))⟩
  case six =>
    obtain ⟨cl, lb, ln, nx, ht, s6, sh, sl, dh, dl, load, E1, F, ⟨b1, b2, b3, b4, b5, b6, b7⟩, H1, H2⟩ := reads6F A n c _ w h (by omega)
    exact ⟨true, true, ht, s6, sh, sl, dh, dl, nx, false, load, E1, ⟨b1, b2, by omega, b3, b4, b5, b6⟩,
      fun w1 hb => open_6 A n c w1 cl lb ln nx ht s6 sh sl dh dl load E1 (HS w1 hb) (fun w2 hb2 => H1 w2 (up w1 hb w2 hb2)), fun w1 hb => refOuter_6 A n c w1 cl lb ln nx ht s6 sh sl dh dl load E1 (HR w1 hb) (fun w2 hb2 => H2 w2 (up w1 hb w2 hb2))⟩
/-- both sides read alike -/
theorem packets (A : Option Addr) (n c : Nat) (l : List UInt8) (w : World) (h : Rb w A n c l) (hm : n ≤ 3000) : ∃ (p : PI) (why : Int) (q : PI) (whz : Int),
    (∀ w', Below w.heap.size w w' → Calls Try.prog 20 #[.slice A n c] w' (RetPI w' p why)) ∧ (∀ w', Below w.heap.size w w' → Calls Try.prog 21 #[.slice A n c] w' (RetPI w' p why)) ∧
    (∀ w', Below w.heap.size w w' → Calls Try.prog 22 #[.slice A n c] w' (RetPI w' q whz)) ∧ (∀ w', Below w.heap.size w w' → Calls Try.prog 23 #[.slice A n c] w' (RetPI w' q whz)) := by
  have up : ∀ w1, Below w.heap.size w w1 → ∀ w2, Below w1.heap.size w1 w2 → Below w.heap.size w w2 := fun w1 h1 w2 h2 => h1.trans (h2.mono h1.size)
  obtain ⟨si, st, tl, s6, sh, sl, dh, dl, pr, fr, load, E, ⟨b1, b2, b3, b4, b5, b6, b7⟩, HO, HR⟩ := opens A n c l w h hm
  obtain ⟨p, why, L⟩ := lk_any si st tl s6 sh sl dh dl pr fr load 1 E (by omega)
  obtain ⟨q, whz, M⟩ := lk_any si st tl s6 sh sl dh dl pr fr load (-1) E (by omega)
  refine ⟨p, why, q, whz, fun w1 hb => pkRead A n c p why w1 (fun w2 hb2 => look_all A n c si st tl s6 sh sl dh dl pr fr load 1 E w2 p why L b1 b2 b3 b4 b5 b6 b7 (fun w3 hb3 => HO w3 (up w2 (up w1 hb w2 hb2) w3 hb3))),
    fun w1 hb => refRead_all A n c si st tl s6 sh sl dh dl pr fr load E w1 p why L b1 b2 b3 b4 b5 b6 b7 (fun w2 hb2 => HR w2 (up w1 hb w2 hb2)),
    fun w1 hb => pkHost A n c q whz w1 (fun w2 hb2 => look_all A n c si st tl s6 sh sl dh dl pr fr load (-1) E w2 q whz M b1 b2 b3 b4 b5 b6 b7 (fun w3 hb3 => HO w3 (up w2 (up w1 hb w2 hb2) w3 hb3))),
    fun w1 hb => refHost_all A n c si st tl s6 sh sl dh dl pr fr load E w1 q whz M b1 b2 b3 b4 b5 b6 b7 (fun w2 hb2 => HR w2 (up w1 hb w2 hb2))⟩
set_option maxHeartbeats 4000000 in
set_option maxRecDepth 100000 in
theorem packetReads_walk (w : World) (A : Option Addr) (n c : Nat) (l : List UInt8) (h : Rb w A n c l) (hc : c ≤ maxLen) : Calls Try.prog 5 #[.slice A n c] w fun e w' => e = .returned (.bool true) ∧ Below w.heap.size w w' := by
  have HAW := Lib.hid awake28
  have hcn := h.2.1
  simp only [maxLen] at hc
  by_cases hbig : 3000 < n
  · have d1 : decide (3000 < (n : Int)) = true := by simp only [decide_eq_true_eq]; omega
    go_enter Try.func5, Try.ntmps5
    go_wp2_with (go_at_call 19; refine (HAW.out _).mono ?_; rintro e w1 ⟨bs1, d1, rfl, rfl⟩)
    go_ret
    exact ⟨rfl, below_plus _ _ _⟩
  have d1 : decide (3000 < (n : Int)) = false := by simp only [decide_eq_false_iff_not]; omega
  obtain ⟨p, why, q, whz, H1, H2, H3, H4⟩ := packets A n c l w h (by omega)
  obtain ⟨di_, i1, i2⟩ := rowIn
  obtain ⟨dr_, r1_, r2_⟩ := rowRI
  replace H1 := Lib.hid H1
  replace H2 := Lib.hid H2
  replace H3 := Lib.hid H3
  replace H4 := Lib.hid H4
  have be : Below w.heap.size w w := Below.refl _ _
  clear hbig hc hcn h
  go_enter Try.func5, Try.ntmps5
  go_wp2_with fail
  refine (H1.out _ be).mono ?_
  rintro e w1 ⟨A1, n1, c1, A2, n2, c2, A3, n3, c3, A4, n4, c4, bs1, dbs1, rfl, rfl, r1, r2, r3, r4, -, -, -, -⟩
  go_upto_region 4 with (refine at_op (.store 53 (.tmp 3) (.tmp 18)) rfl ?_; refine wpList_stA (t := 53) 53 (.tmp 3) (.tmp 18) rfl rfl (p.cs A1 n1 c1 A2 n2 c2 A3 n3 c3 A4 n4 c4) (inC (fhC false false 0 false 0 0 false 0 0 0 0 0) (tcC 0 0 0 0 0 0 0 0 none 0 0 none 0 0) (dgX 0 0 0 none 0 0) (msgC 0 0 0 0 none 0 0)) rfl (PI.one _ _ _ _ _ _ _ _ _ _ _ _ _) rfl rfl ?_ (szIN_ (by rfl)) ?_; (· refine Bk.newK _ _ _ ?_ rfl; simp [size_plus]); intro W1 hX1 gr1)
  have b1 := below_grown (Below.allocS (below_plus w bs1 dbs1) _) gr1 (by have := be.size; simp [size_plus])
  have c1_ := below_grown (Below.allocS (Below.refl _ _) _) gr1 (by simp [size_plus])
  replace be := be.trans (b1.mono be.size)
  replace r1 := r1.later c1_
  replace r2 := r2.later c1_
  replace r3 := r3.later c1_
  replace r4 := r4.later c1_
  clear b1 c1_ gr1
  generalize w.heap.size + bs1.length = g3 at *
  go_wp2_with fail
  refine (H2.out _ be).mono ?_
  rintro e w1 ⟨B1, m1, k1, B2, m2, k2, B3, m3, k3, B4, m4, k4, bs2, dbs2, rfl, rfl, s1, s2, s3, s4, -, -, -, -⟩
  go_upto_region 5 with (refine at_op (.store 60 (.tmp 5) (.tmp 23)) rfl ?_; refine wpList_stA (t := 60) 60 (.tmp 5) (.tmp 23) rfl rfl (p.cs B1 m1 k1 B2 m2 k2 B3 m3 k3 B4 m4 k4) (inC (fhC false false 0 false 0 0 false 0 0 0 0 0) (tcC 0 0 0 0 0 0 0 0 none 0 0 none 0 0) (dgX 0 0 0 none 0 0) (msgC 0 0 0 0 none 0 0)) rfl (PI.one _ _ _ _ _ _ _ _ _ _ _ _ _) rfl rfl ?_ (szRI_ (by rfl)) ?_; (· refine Bk.newK _ _ _ ?_ rfl; simp [size_plus]); intro W2 hX2 gr2)
  have b2 := below_grown (Below.allocS (below_plus W1 bs2 dbs2) _) gr2 (by have := be.size; simp [size_plus])
  have c2_ := below_grown (Below.allocS (Below.refl _ _) _) gr2 (by simp [size_plus])
  replace be := be.trans (b2.mono be.size)
  replace s1 := s1.later c2_
  replace s2 := s2.later c2_
  replace s3 := s3.later c2_
  replace s4 := s4.later c2_
  replace hX1 := hX1.later b2
  replace r1 := r1.later b2
  replace r2 := r2.later b2
  replace r3 := r3.later b2
  replace r4 := r4.later b2
  clear b2 c2_ gr2
  generalize W1.heap.size + bs2.length = g5 at *
  go_wp2_with fail
  refine (H3.out _ be).mono ?_
  rintro e w1 ⟨C1, x1, y1, C2, x2, y2, C3, x3, y3, C4, x4, y4, bs3, dbs3, rfl, rfl, t1, t2, t3, t4, -, -, -, -⟩
  go_upto_region 6 with (refine at_op (.store 53 (.tmp 7) (.tmp 28)) rfl ?_; refine wpList_stA (t := 53) 53 (.tmp 7) (.tmp 28) rfl rfl (q.cs C1 x1 y1 C2 x2 y2 C3 x3 y3 C4 x4 y4) (inC (fhC false false 0 false 0 0 false 0 0 0 0 0) (tcC 0 0 0 0 0 0 0 0 none 0 0 none 0 0) (dgX 0 0 0 none 0 0) (msgC 0 0 0 0 none 0 0)) rfl (PI.one _ _ _ _ _ _ _ _ _ _ _ _ _) rfl rfl ?_ (szIN_ (by rfl)) ?_; (· refine Bk.newK _ _ _ ?_ rfl; simp [size_plus]); intro W3 hX3 gr3)
  have b3 := below_grown (Below.allocS (below_plus W2 bs3 dbs3) _) gr3 (by have := be.size; simp [size_plus])
  have c3_ := below_grown (Below.allocS (Below.refl _ _) _) gr3 (by simp [size_plus])
  replace be := be.trans (b3.mono be.size)
  replace t1 := t1.later c3_
  replace t2 := t2.later c3_
  replace t3 := t3.later c3_
  replace t4 := t4.later c3_
  replace hX1 := hX1.later b3
  replace hX2 := hX2.later b3
  replace r1 := r1.later b3
  replace r2 := r2.later b3
  replace r3 := r3.later b3
  replace r4 := r4.later b3
  replace s1 := s1.later b3
  replace s2 := s2.later b3
  replace s3 := s3.later b3
  replace s4 := s4.later b3
  clear b3 c3_ gr3
  generalize W2.heap.size + bs3.length = g7 at *
  go_wp2_with fail
  refine (H4.out _ be).mono ?_
  rintro e w1 ⟨D1, u1, v1, D2, u2, v2, D3, u3, v3, D4, u4, v4, bs4, dbs4, rfl, rfl, z1, z2, z3, z4, -, -, -, -⟩
  go_upto_region 7 with (refine at_op (.store 60 (.tmp 9) (.tmp 33)) rfl ?_; refine wpList_stA (t := 60) 60 (.tmp 9) (.tmp 33) rfl rfl (q.cs D1 u1 v1 D2 u2 v2 D3 u3 v3 D4 u4 v4) (inC (fhC false false 0 false 0 0 false 0 0 0 0 0) (tcC 0 0 0 0 0 0 0 0 none 0 0 none 0 0) (dgX 0 0 0 none 0 0) (msgC 0 0 0 0 none 0 0)) rfl (PI.one _ _ _ _ _ _ _ _ _ _ _ _ _) rfl rfl ?_ (szRI_ (by rfl)) ?_; (· refine Bk.newK _ _ _ ?_ rfl; simp [size_plus]); intro W4 hX4 gr4)
  have b4 := below_grown (Below.allocS (below_plus W3 bs4 dbs4) _) gr4 (by have := be.size; simp [size_plus])
  have c4_ := below_grown (Below.allocS (Below.refl _ _) _) gr4 (by simp [size_plus])
  replace be := be.trans (b4.mono be.size)
  replace z1 := z1.later c4_
  replace z2 := z2.later c4_
  replace z3 := z3.later c4_
  replace z4 := z4.later c4_
  replace hX1 := hX1.later b4
  replace hX2 := hX2.later b4
  replace hX3 := hX3.later b4
  replace r1 := r1.later b4
  replace r2 := r2.later b4
  replace r3 := r3.later b4
  replace r4 := r4.later b4
  replace s1 := s1.later b4
  replace s2 := s2.later b4
  replace s3 := s3.later b4
  replace s4 := s4.later b4
  replace t1 := t1.later b4
  replace t2 := t2.later b4
  replace t3 := t3.later b4
  replace t4 := t4.later b4
  clear b4 c4_ gr4
  generalize W3.heap.size + bs4.length = g9 at *
  have HI1 := Lib.hid (fun w r1 r2 r3 r4 s1 s2 s3 s4 => is_any p A1 n1 c1 A2 n2 c2 A3 n3 c3 A4 n4 c4 B1 m1 k1 B2 m2 k2 B3 m3 k3 B4 m4 k4 w r1 r2 r3 r4 s1 s2 s3 s4)
  have HI2 := Lib.hid (fun w r1 r2 r3 r4 s1 s2 s3 s4 => is_any q C1 x1 y1 C2 x2 y2 C3 x3 y3 C4 x4 y4 D1 u1 v1 D2 u2 v2 D3 u3 v3 D4 u4 v4 w r1 r2 r3 r4 s1 s2 s3 s4)
  refine wp_region_lit ?_
  refine wpList_ldA (t := 53) 53 (.tmp 3) rfl rfl (p.cs A1 n1 c1 A2 n2 c2 A3 n3 c3 A4 n4 c4) rfl (hX1) (whole_ _) i1 i2 (szIN_ (by rfl)) ?_
  simp only [Act.put, List.setIfInBounds_toArray, List.set_cons_zero, List.set_cons_succ]
  refine wpList_ldA (t := 60) 60 (.tmp 5) rfl rfl (p.cs B1 m1 k1 B2 m2 k2 B3 m3 k3 B4 m4 k4) rfl (hX2) (whole_ _) r1_ r2_ (szRI_ (by rfl)) ?_
  simp only [Act.put, List.setIfInBounds_toArray, List.set_cons_zero, List.set_cons_succ]
  refine wpList_plain rfl (fun K hK => ?_)
  go_simp
  refine (HI1.out _ r1 r2 r3 r4 s1 s2 s3 s4).mono ?_
  rintro e w1 ⟨bi1, di1, rfl, rfl⟩
  with_reducible refine hK _ _ ?_
  clear hK K
  replace hX3 := hX3.later (below_plus _ bi1 di1)
  replace hX4 := hX4.later (below_plus _ bi1 di1)
  refine wpList_plain rfl (fun K hK => ?_)
  go_simp
  with_reducible refine hK _ _ ?_
  clear hK K
  refine wpList_step (fun K hK => ?_)
  go_simp
  with_reducible refine hK _ _ ?_
  clear hK K
  refine wpList_step (fun K hK => ?_)
  go_simp
  with_reducible refine hK _ _ ?_
  clear hK K
  refine wpList_step (fun K hK => ?_)
  go_simp
  with_reducible refine hK _ _ ?_
  clear hK K
  refine wpList_plain rfl (fun K hK => ?_)
  go_simp
  with_reducible refine hK _ _ ?_
  clear hK K
  refine wpList_plain rfl (fun K hK => ?_)
  go_simp
  with_reducible refine hK _ _ ?_
  clear hK K
  refine wpList_ldG (t := 53) 53 (.tmp 7) rfl (by go_simp) (q.cs C1 x1 y1 C2 x2 y2 C3 x3 y3 C4 x4 y4) rfl (hX3) (whole_ _) i1 i2 (szIN_ (by rfl)) ?_
  simp only [Act.put, List.setIfInBounds_toArray, List.set_cons_zero, List.set_cons_succ]
  refine wpList_ldG (t := 60) 60 (.tmp 9) rfl (by go_simp) (q.cs D1 u1 v1 D2 u2 v2 D3 u3 v3 D4 u4 v4) rfl (hX4) (whole_ _) r1_ r2_ (szRI_ (by rfl)) ?_
  simp only [Act.put, List.setIfInBounds_toArray, List.set_cons_zero, List.set_cons_succ]
  refine wpList_step (fun K hK => ?_)
  go_simp
  refine (HI2.out _ (t1.plus_ _ _) (t2.plus_ _ _) (t3.plus_ _ _) (t4.plus_ _ _) (z1.plus_ _ _) (z2.plus_ _ _) (z3.plus_ _ _) (z4.plus_ _ _)).mono ?_
  rintro e w1 ⟨bi2, di2, rfl, rfl⟩
  with_reducible refine hK _ _ ?_
  clear hK K
  refine wpList_plain rfl (fun K hK => ?_)
  go_simp
  with_reducible refine hK _ _ ?_
  clear hK K
  refine wpList_plain rfl (fun K hK => ?_)
  go_simp
  with_reducible refine hK _ _ ?_
  clear hK K
  refine wpList_step (fun K hK => ?_)
  go_simp
  with_reducible refine hK _ _ ?_
  clear hK K
  refine wpList_step (fun K hK => ?_)
  go_simp
  with_reducible refine hK _ _ ?_
  clear hK K
  refine wpList_step (fun K hK => ?_)
  go_simp
  with_reducible refine hK _ _ ?_
  clear hK K
  refine wpList_plain rfl (fun K hK => ?_)
  go_simp
  with_reducible refine hK _ _ ?_
  clear hK K
  refine wpList_plain rfl (fun K hK => ?_)
  go_simp
  with_reducible refine hK _ _ ?_
  clear hK K
  refine wpList_step (fun K hK => ?_)
  go_simp
  refine (HAW.out _).mono ?_
  rintro e w1 ⟨b9, d9, rfl, rfl⟩
  with_reducible refine hK _ _ ?_
  clear hK K
  refine wpList_plain rfl (fun K hK => ?_)
  go_simp
  with_reducible refine hK _ _ ?_
  clear hK K
  refine wpList_plain rfl (fun K hK => ?_)
  go_simp
  with_reducible refine hK _ _ ?_
  clear hK K
  go_wp2
  go_ret
  exact ⟨rfl, belowP (belowP (belowP be _ _) _ _) _ _⟩
theorem packetReads_row (w : World) (A : Option Addr) (c : Nat) (l : List UInt8) (hl : l.length ≤ c) (hc : c ≤ maxLen) (hr : Rd w w.heap.size A (bcs l)) : Calls Try.prog 5 #[.slice A l.length c] w fun e w' => e = .returned (.bool true) ∧ Below w.heap.size w w' :=
  packetReads_walk w A l.length c l ⟨rfl, hl, hr⟩ hc
end Go.Proofs.Ytfmkndemkpecpaa

