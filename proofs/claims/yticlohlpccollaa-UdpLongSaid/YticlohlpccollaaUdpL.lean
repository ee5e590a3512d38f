/- The law UdpLong (chapter 7). -/
import Derived.Test.YticlohlpccollaaUdpB
import Derived.Test.YticlohlpccollaaMk
import Derived.Test.YticlohlpccollaaOwn
namespace Go.Proofs.Yticlohlpccollaa
open Go.RowKit
set_option linter.unusedVariables false
set_option linter.unusedSimpArgs false
attribute [local go_sem ↓] sliced_cut
attribute [local go_sem] cutA_zero

set_option maxRecDepth 100000 in
theorem udpFine_no (a b s : Int) (A : Option Addr) (n k : Nat) (w : World) (h : 65527 < n) (hn : n ≤ 1099511627776) : Calls Try.prog 81 #[.agg #[.int .u16 a, .int .u16 b, .int .u16 s, .slice A n k], .agg #[.bool false, .int .u64 0, .int .u64 0], .agg #[.bool false, .int .u64 0, .int .u64 0]] w (RetV w (.bool false)) := by
  go_enter Try.func81, Try.ntmps81
  go_wp2_with (go_at_call 79; refine (udpRight_no _ _ _ _ _ _ _ h hn).mono ?_; rintro e w1 ⟨bs1, d1, rfl, rfl⟩)
  go_ret
  exact RetV.mk (belowP (Below.allocS (Below.allocS (Below.allocS (Below.refl _ _) _) _) _) _ _)
def dgC (v : Value) : List Value := [.int .u16 0, .int .u16 0, .int .u16 0, v]
theorem szDgC (v : Value) : (Try.prog.info? 38).map (·.size) = some (dgC v).length := by kernel_rfl
theorem dgC_one {v : Value} {A : Option Addr} {n c : Nat} (h : v = .slice A n c) : ∀ u ∈ dgC v, u.oneCell' = true := by
  subst h
  intro u hu
  simp [dgC] at hu
  rcases hu with rfl | rfl <;> rfl
set_option maxHeartbeats 4000000 in
set_option maxRecDepth 100000 in
theorem udpLong_walk (w : World) (a : Int) (wa : 0 ≤ a ∧ a ≤ 255) : Calls Try.prog 12 #[.int .u8 a] w fun e w' => e = .returned (.bool true) ∧ Below w.heap.size w w' := by
  obtain ⟨a, rfl⟩ := Int.eq_ofNat_of_zero_le wa.1
  have ha : a ≤ 255 := by omega
  clear wa
  have e1 : IntKind.i64.wrap (a : Int) = (a : Int) := IntWalk.i64_in _ (by omega)
  have e2 : IntKind.i64.wrap (65528 + (a : Int)) = ((65528 + a : Nat) : Int) := by rw [IntWalk.i64_in _ (by omega)]; omega
  go_enter Try.func12, Try.ntmps12
  go_wp2
  refine wp_own (fun b => b < w.heap.size) 11 0 41 2 (fun i => match i with | 1 => 0 | 6 => 5 | 9 => 7 | 10 => 8 | i => i) (fun i => match i with | 9 => [7, 0] | 10 => [8, 5] | _ => []) (fun i => match i with | _ => undef) rfl (by kernel_rfl) (by kernel_rfl) (fun i => match i with | 0 => Own.of w.heap.size (List.replicate 65527 0) | 1 => Own.fn (fun u => .agg #[.int .u16 0, .int .u16 0, .int .u16 0, u]) | 2 => Own.eq (.int .u8 (a : Int)) | 3 => Own.eq (.int .i64 (a : Int)) | 4 => Own.eq (.int .i64 ((65528 + a : Nat) : Int)) | 5 => Own.of w.heap.size (List.replicate (65528 + a) 0) | 6 => Own.fn (fun u => .agg #[.int .u16 0, .int .u16 0, .int .u16 0, u]) | 7 => Own.blk 38 (dgC (.slice none 0 0)) | 8 => Own.blk 38 (dgC (.slice none 0 0)) | 9 => Own.holds w.heap.size 38 dgC (List.replicate 65527 0) | 10 => Own.holds w.heap.size 38 dgC (List.replicate (65528 + a) 0) | _ => Own.any) (fun b h => h) ?_ ?_ ?_ ?_ ?_
  · exact fun t ht => absurd ht (by omega)
  · exact fun t t' ht => absurd ht (by omega)
  · exact fun t ht => absurd ht (by omega)
  · intro i hi o ho FA w' vs H K hK
    match i, hi, ho, H, hK with
    | 0, _, ho, H, hK => 
      obtain rfl := Option.some.inj ho.symm
      clear ho
      refine wanted_if rfl ?_
      refine rel_mk bt (.const (.int .i64 65527)) rfl _ (65527) (by rfl) (by simp) (by omega) ?_
      intro w'' hex hob
      exact hK.out _ _ (chgX hex) ⟨_, _, rfl, hob.mono H.kept.size⟩ (fun b hb => .inr (hob.blk b hb).1)
    | 1, _, ho, H, hK => 
      obtain rfl := Option.some.inj ho.symm
      clear ho
      have ev5 := H.dep 0 5 (by kernel_rfl)
      have e5 : FA.tmps[5]?.getD undef = vs 0 := by simpa [Act.eval] using ev5
      replace ev5 := Lib.hid ev5
      obtain ⟨A, n, hs, ho⟩ := H.word 0 (by omega) (by kernel_rfl)
      rw [hs] at e5
      go_simp
      exact hK.out _ _ (chgX (Ex.refl _)) (by show _ = Value.agg #[_, _, _, vs 0]; rw [hs]) (fun _ h => h.elim)
    | 2, _, ho, H, hK => 
      obtain rfl := Option.some.inj ho.symm
      clear ho
      have ev0 : FA.eval (.tmp 0) = .int .u8 (a : Int) := H.out 0 (by kernel_rfl)
      have e0 : FA.tmps[0]?.getD undef = .int .u8 (a : Int) := by simpa [Act.eval] using ev0
      replace ev0 := Lib.hid ev0
      go_simp
      exact hK.out _ _ (chgX (Ex.refl _)) rfl (fun _ h => h.elim)
    | 3, _, ho, H, hK => 
      obtain rfl := Option.some.inj ho.symm
      clear ho
      have ev7 : FA.eval (.tmp 7) = .int .u8 (a : Int) := (H.dep 2 7 (by kernel_rfl)).trans (H.word 2 (by omega) (by kernel_rfl))
      have e7 : FA.tmps[7]?.getD undef = .int .u8 (a : Int) := by simpa [Act.eval] using ev7
      replace ev7 := Lib.hid ev7
      go_simp
      exact hK.out _ _ (chgX (Ex.refl _)) rfl (fun _ h => h.elim)
    | 4, _, ho, H, hK => 
      obtain rfl := Option.some.inj ho.symm
      clear ho
      have ev8 : FA.eval (.tmp 8) = .int .i64 (a : Int) := (H.dep 3 8 (by kernel_rfl)).trans (H.word 3 (by omega) (by kernel_rfl))
      have e8 : FA.tmps[8]?.getD undef = .int .i64 (a : Int) := by simpa [Act.eval] using ev8
      replace ev8 := Lib.hid ev8
      go_simp
      exact hK.out _ _ (chgX (Ex.refl _)) rfl (fun _ h => h.elim)
    | 5, _, ho, H, hK => 
      obtain rfl := Option.some.inj ho.symm
      clear ho
      have ev9 : FA.eval (.tmp 9) = .int .i64 ((65528 + a : Nat) : Int) := (H.dep 4 9 (by kernel_rfl)).trans (H.word 4 (by omega) (by kernel_rfl))
      have e9 : FA.tmps[9]?.getD undef = .int .i64 ((65528 + a : Nat) : Int) := by simpa [Act.eval] using ev9
      replace ev9 := Lib.hid ev9
      refine wanted_if rfl ?_
      refine rel_mk bt (.tmp 9) rfl _ (65528 + a) (by exact ev9.out) (by simp) (by omega) ?_
      intro w'' hex hob
      exact hK.out _ _ (chgX hex) ⟨_, _, rfl, hob.mono H.kept.size⟩ (fun b hb => .inr (hob.blk b hb).1)
    | 6, _, ho, H, hK => 
      obtain rfl := Option.some.inj ho.symm
      clear ho
      have ev10 := H.dep 5 10 (by kernel_rfl)
      have e10 : FA.tmps[10]?.getD undef = vs 5 := by simpa [Act.eval] using ev10
      replace ev10 := Lib.hid ev10
      obtain ⟨A, n, hs, ho⟩ := H.word 5 (by omega) (by kernel_rfl)
      rw [hs] at e10
      go_simp
      exact hK.out _ _ (chgX (Ex.refl _)) (by show _ = Value.agg #[_, _, _, vs 5]; rw [hs]) (fun _ h => h.elim)
    | 7, _, ho, H, hK => 
      obtain rfl := Option.some.inj ho.symm
      clear ho
      go_simp
      exact hK.out _ _ (chgX (Ex.alloc _ _)) ⟨_, rfl, Bk.newK _ _ _ rfl rfl⟩ (fun b hb => .inr (Nat.le_of_eq (own_ptr hb)))
    | 8, _, ho, H, hK => 
      obtain rfl := Option.some.inj ho.symm
      clear ho
      go_simp
      exact hK.out _ _ (chgX (Ex.alloc _ _)) ⟨_, rfl, Bk.newK _ _ _ rfl rfl⟩ (fun b hb => .inr (Nat.le_of_eq (own_ptr hb)))
    | 9, _, ho, H, hK => 
      obtain rfl := Option.some.inj ho.symm
      clear ho
      have ev3 := H.dep 7 3 (by kernel_rfl)
      have e3 : FA.tmps[3]?.getD undef = vs 7 := by simpa [Act.eval] using ev3
      replace ev3 := Lib.hid ev3
      have ev6 := H.dep 1 6 (by kernel_rfl)
      have e6 : FA.tmps[6]?.getD undef = vs 1 := by simpa [Act.eval] using ev6
      replace ev6 := Lib.hid ev6
      obtain ⟨g, hg, hb⟩ := H.word 7 (by omega) (by kernel_rfl)
      obtain ⟨A, n, hs, ho⟩ := H.word 0 (by omega) (by kernel_rfl)
      have hv : vs 1 = .agg #[.int .u16 0, .int .u16 0, .int .u16 0, vs 0] := H.word 1 (by omega) (by kernel_rfl)
      have hgb : ¬ (vs 0).ownBlock = some g := fun e => H.dis 7 0 (by omega) (by omega) (by omega) (by kernel_rfl) (by kernel_rfl) g hg e
      refine wanted_if rfl ?_
      refine wp_stA 38 (.tmp 3) (.tmp 6) rfl (dgC (vs 0)) (dgC (.slice none 0 0)) rfl (dgC_one hs) (ev3.out.trans hg) (ev6.out.trans hv) hb (szDgC _) ?_
      intro w'' hn hgr
      refine hK.out (vs 0) _ (Chg.one hgr ⟨7, rfl, hg⟩) ⟨g, A, n, hg, hs, hn, ho.grown hgr (fun k hk e => hgb (by rw [hs, hk]; exact e.symm))⟩ (fun b hb => .inl ?_)
      rcases hb with hb | hb
      · exact ⟨7, rfl, hb⟩
      · exact ⟨0, rfl, hb⟩
    | 10, _, ho, H, hK => 
      obtain rfl := Option.some.inj ho.symm
      clear ho
      have ev4 := H.dep 8 4 (by kernel_rfl)
      have e4 : FA.tmps[4]?.getD undef = vs 8 := by simpa [Act.eval] using ev4
      replace ev4 := Lib.hid ev4
      have ev11 := H.dep 6 11 (by kernel_rfl)
      have e11 : FA.tmps[11]?.getD undef = vs 6 := by simpa [Act.eval] using ev11
      replace ev11 := Lib.hid ev11
      obtain ⟨g, hg, hb⟩ := H.word 8 (by omega) (by kernel_rfl)
      obtain ⟨A, n, hs, ho⟩ := H.word 5 (by omega) (by kernel_rfl)
      have hv : vs 6 = .agg #[.int .u16 0, .int .u16 0, .int .u16 0, vs 5] := H.word 6 (by omega) (by kernel_rfl)
      have hgb : ¬ (vs 5).ownBlock = some g := fun e => H.dis 8 5 (by omega) (by omega) (by omega) (by kernel_rfl) (by kernel_rfl) g hg e
      refine wanted_if rfl ?_
      refine wp_stA 38 (.tmp 4) (.tmp 11) rfl (dgC (vs 5)) (dgC (.slice none 0 0)) rfl (dgC_one hs) (ev4.out.trans hg) (ev11.out.trans hv) hb (szDgC _) ?_
      intro w'' hn hgr
      refine hK.out (vs 5) _ (Chg.one hgr ⟨8, rfl, hg⟩) ⟨g, A, n, hg, hs, hn, ho.grown hgr (fun k hk e => hgb (by rw [hs, hk]; exact e.symm))⟩ (fun b hb => .inl ?_)
      rcases hb with hb | hb
      · exact ⟨8, rfl, hb⟩
      · exact ⟨5, rfl, hb⟩
    | (k + 11), hi, _, _, _ => exact absurd hi (by omega)
  intro vs w' hC hV hW hDis hFr
  have p1 := hW 1 (by omega) (by kernel_rfl)
  have p2 : vs 2 = .int .u8 (a : Int) := hW 2 (by omega) (by kernel_rfl)
  have p3 : vs 3 = .int .i64 (a : Int) := hW 3 (by omega) (by kernel_rfl)
  have p4 : vs 4 = .int .i64 ((65528 + a : Nat) : Int) := hW 4 (by omega) (by kernel_rfl)
  have p6 := hW 6 (by omega) (by kernel_rfl)
  have p9 := hW 9 (by omega) (by kernel_rfl)
  have p10 := hW 10 (by omega) (by kernel_rfl)
  clear hW
  simp only [List.take_succ_cons, List.take_zero, List.drop_succ_cons, List.drop_zero, putAll, Nat.zero_add, Nat.reduceAdd, Act.put, List.setIfInBounds_toArray, List.set_cons_zero, List.set_cons_succ, p2, p3, p4]
  obtain ⟨g1, A1, n1, hg1, hv1, hb1, ho1⟩ := p9
  obtain ⟨g2, A2, n2, hg2, hv2, hb2, ho2⟩ := p10
  replace hg1 : vs 7 = .pointer (some ⟨g1, 0, none⟩) := hg1
  replace hg2 : vs 8 = .pointer (some ⟨g2, 0, none⟩) := hg2
  have hn1 : n1 = 65527 := by rw [← ho1.len, List.length_replicate]
  have hn2 : n2 = 65528 + a := by rw [← ho2.len, List.length_replicate]
  subst hn1
  have hr1 := ho1.rb
  have be : Below w.heap.size w w' := hC.below (Nat.le_refl _) (fun b h => h)
  rw [hv1] at hb1
  rw [hv2] at hb2
  have z1 := hb1.lt
  have z2 := hb2.lt
  have c0 : w'.cell? ⟨g1, 0, none⟩ = some (.int .u16 0) := hb1.cell 0
  have c1 : w'.cell? ⟨g1, 1, none⟩ = some (.int .u16 0) := hb1.cell 1
  have c2 : w'.cell? ⟨g1, 2, none⟩ = some (.int .u16 0) := hb1.cell 2
  have c3 : w'.cell? ⟨g1, 3, none⟩ = some (.slice A1 65527 65527) := hb1.cell 3
  have k0 : w'.cell? ⟨g2, 0, none⟩ = some (.int .u16 0) := hb2.cell 0
  have k1 : w'.cell? ⟨g2, 1, none⟩ = some (.int .u16 0) := hb2.cell 1
  have k2 : w'.cell? ⟨g2, 2, none⟩ = some (.int .u16 0) := hb2.cell 2
  have k3 : w'.cell? ⟨g2, 3, none⟩ = some (.slice A2 n2 n2) := hb2.cell 3
  rw [hg1, hg2]
  generalize vs 0 = y0
  generalize vs 1 = y1
  generalize vs 5 = y5
  generalize vs 6 = y6
  have hn2' : 65527 < n2 := by omega
  have hn2'' : n2 ≤ 1000000 := by omega
  clear hn2 hg1 hg2 hv1 hv2 hb1 hb2 ho1 ho2 hDis hFr hV hC p2 p3 p4 p1 p6 e1 e2
  go_wp2_with fail
  refine (udpRight_yes _ _ _ _ _ _ _ (by omega)).mono ?_
  rintro e w1 ⟨bs1, d1, rfl, rfl⟩
  go_wp2_with fail
  refine (udpBytes_any 0 0 0 A1 65527 65527 _ _ (by omega) (by omega) (by omega) (hr1.plus_ _ _) (by omega)).mono ?_
  rintro e w1 ⟨A5, n5, k5, bs2, d2, rfl, rfl, ho5⟩
  obtain rfl : n5 = 65535 := by rw [← ho5.len]; simp only [List.length_append, dig_length, List.length_replicate]
  clear ho5
  go_wp2_with fail
  refine (udpRight_no _ _ _ _ _ _ _ hn2' (by omega)).mono ?_
  rintro e w1 ⟨bs3, d3, rfl, rfl⟩
  go_wp2_with fail
  refine (udpBytes_no _ _ _ _ _ _ _ hn2' (by omega)).mono ?_
  rintro e w1 ⟨bs4, d4, rfl, rfl⟩
  go_wp2_with fail
  refine (udpFine_no _ _ _ _ _ _ _ hn2' (by omega)).mono ?_
  rintro e w1 ⟨bs5, d5, rfl, rfl⟩
  go_wp2_with fail
  refine (udpAwake _).mono ?_
  rintro e w1 ⟨bs6, d6, rfl, rfl⟩
  go_wp2
  go_ret
  refine ⟨rfl, ?_⟩
  exact belowP (belowP (belowP (belowP (belowP (belowP be _ _) _ _) _ _) _ _) _ _) _ _
end Go.Proofs.Yticlohlpccollaa
