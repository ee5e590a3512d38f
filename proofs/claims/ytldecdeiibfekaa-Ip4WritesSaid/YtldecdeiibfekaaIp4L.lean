/- Headers of IPv4: To, Of, Same. -/
import Derived.Test.YtldecdeiibfekaaIp4C
namespace Go.Proofs.Ytldecdeiibfekaa
open Go.RowKit
set_option linter.unusedVariables false
set_option linter.unusedSimpArgs false
attribute [local go_sem ↓] sliced_cut
attribute [local go_sem] cutA_zero

set_option maxRecDepth 100000 in
theorem to4 (ts : Nat) (ln : Int) (id : Nat) (st mo : Bool) (fo : Int) (tl pr sm : Nat) (s6 : Bool) (sh sl : Nat) (d6 : Bool) (dh dl : Nat) (A : Option Addr) (n k : Nat) (w : World) : Calls Try.prog 48 #[.agg (h4C ts ln id st mo fo tl pr sm s6 sh sl d6 dh dl A n k).toArray] w (RetV w (.agg (h4C ts ln id st mo fo tl pr sm s6 sh sl d6 dh dl A n k).toArray)) := by
  unfold h4C
  go_enter Try.func48, Try.ntmps48
  go_wp2
  refine bodyPost_ret (v := .agg #[.int .u8 (ts : Int), .int .i64 ln, .int .u16 (id : Int), .bool st, .bool mo, .int .i64 fo, .int .u8 (tl : Int), .int .u8 (pr : Int), .int .u16 (sm : Int), .bool s6, .int .u64 (sh : Int), .int .u64 (sl : Int), .bool d6, .int .u64 (dh : Int), .int .u64 (dl : Int), .slice A n k]) (by simp [results, Try.results48, go_sem]) rfl (RetV.mk ?_)
  exact Below.allocS (Below.allocS (Below.refl _ _) _) _
set_option maxRecDepth 100000 in
theorem of4 (ts : Nat) (ln : Int) (id : Nat) (st mo : Bool) (fo : Int) (tl pr sm : Nat) (s6 : Bool) (sh sl : Nat) (d6 : Bool) (dh dl : Nat) (A : Option Addr) (n k : Nat) (w : World) : Calls Try.prog 47 #[.agg (h4C ts ln id st mo fo tl pr sm s6 sh sl d6 dh dl A n k).toArray] w (RetV w (.agg (h4C ts ln id st mo fo tl pr sm s6 sh sl d6 dh dl A n k).toArray)) := by
  unfold h4C
  go_enter Try.func47, Try.ntmps47
  go_wp2
  refine bodyPost_ret (v := .agg #[.int .u8 (ts : Int), .int .i64 ln, .int .u16 (id : Int), .bool st, .bool mo, .int .i64 fo, .int .u8 (tl : Int), .int .u8 (pr : Int), .int .u16 (sm : Int), .bool s6, .int .u64 (sh : Int), .int .u64 (sl : Int), .bool d6, .int .u64 (dh : Int), .int .u64 (dl : Int), .slice A n k]) (by simp [results, Try.results47, go_sem]) rfl (RetV.mk ?_)
  exact Below.allocS (Below.allocS (Below.refl _ _) _) _
set_option maxRecDepth 100000 in
theorem eq_adC (w : World) (s : Bool) (h l : Nat) : (binOp .eql 29 (.agg (adC s h l).toArray) (.agg (adC s h l).toArray)).run Try.prog w = .ok (.bool true) w := by
  unfold adC
  go_simp
attribute [local go_sem ↓] eq_adC
set_option maxHeartbeats 4000000 in
set_option maxRecDepth 100000 in
theorem same4 (ts : Nat) (ln : Int) (id : Nat) (st mo : Bool) (fo : Int) (tl pr sm : Nat) (s6 : Bool) (sh sl : Nat) (d6 : Bool) (dh dl : Nat) (A : Option Addr) (n k : Nat) (A' : Option Addr) (n' k' : Nat) (o : List UInt8) (w : World) (h : Rb w A n k o) (h' : Rb w A' n' k' o) : Calls Try.prog 46 #[.agg (h4C ts ln id st mo fo tl pr sm s6 sh sl d6 dh dl A n k).toArray, .agg (h4C ts ln id st mo fo tl pr sm s6 sh sl d6 dh dl A' n' k').toArray] w (RetV w (.bool true)) := by
  obtain ⟨du, u1, u2⟩ := rowR4
  obtain ⟨dv, v1, v2⟩ := rowAd
  have hA : Bk ((w.alloc (.cells (h4C ts ln id st mo fo tl pr sm s6 sh sl d6 dh dl A n k).toArray 83)).alloc (.cells (h4C ts ln id st mo fo tl pr sm s6 sh sl d6 dh dl A' n' k').toArray 83)) w.heap.size 83 (h4C ts ln id st mo fo tl pr sm s6 sh sl d6 dh dl A n k) := (Bk.new w 83 (h4C ts ln id st mo fo tl pr sm s6 sh sl d6 dh dl A n k).toArray).alloc _
  have hB : Bk ((w.alloc (.cells (h4C ts ln id st mo fo tl pr sm s6 sh sl d6 dh dl A n k).toArray 83)).alloc (.cells (h4C ts ln id st mo fo tl pr sm s6 sh sl d6 dh dl A' n' k').toArray 83)) (w.heap.size + 1) 83 (h4C ts ln id st mo fo tl pr sm s6 sh sl d6 dh dl A' n' k') := Bk.newK _ _ _ (by simp) rfl
  have be : Below w.heap.size w ((w.alloc (.cells (h4C ts ln id st mo fo tl pr sm s6 sh sl d6 dh dl A n k).toArray 83)).alloc (.cells (h4C ts ln id st mo fo tl pr sm s6 sh sl d6 dh dl A' n' k').toArray 83)) := Below.allocS (Below.allocS (Below.refl _ _) _) _
  have hw : w.heap.size + 2 ≤ ((w.alloc (.cells (h4C ts ln id st mo fo tl pr sm s6 sh sl d6 dh dl A n k).toArray 83)).alloc (.cells (h4C ts ln id st mo fo tl pr sm s6 sh sl d6 dh dl A' n' k').toArray 83)).heap.size := by simp
  go_enter Try.func46, Try.ntmps46
  go_upto_region 1 with (fail)
  generalize (w.alloc (.cells (h4C ts ln id st mo fo tl pr sm s6 sh sl d6 dh dl A n k).toArray 83)).alloc (.cells (h4C ts ln id st mo fo tl pr sm s6 sh sl d6 dh dl A' n' k').toArray 83) = V at *
  go_wp2
  refine wp_own (fun b => b < V.heap.size) 6 0 93 2 (fun i => match i with | 4 => 2 | 5 => 3 | i => i) (fun i => match i with | 4 => [2] | 5 => [3] | _ => []) (fun i => match i with | _ => undef) rfl (by kernel_rfl) (by kernel_rfl) (fun i => match i with | 0 => Own.eq (.agg (h4C ts ln id st mo fo tl pr sm s6 sh sl d6 dh dl A n k).toArray) | 1 => Own.eq (.agg (h4C ts ln id st mo fo tl pr sm s6 sh sl d6 dh dl A' n' k').toArray) | 2 => Own.blk 83 (h4C 0 0 0 false false 0 0 0 0 false 0 0 false 0 0 none 0 0) | 3 => Own.blk 83 (h4C 0 0 0 false false 0 0 0 0 false 0 0 false 0 0 none 0 0) | 4 => Own.into 83 (fun cs _ => cs = h4C ts ln id st mo fo tl pr sm s6 sh sl d6 dh dl A n k) (fun _ _ _ h _ => h) | 5 => Own.into 83 (fun cs _ => cs = h4C ts ln id st mo fo tl pr sm s6 sh sl d6 dh dl A' n' k') (fun _ _ _ h _ => h) | _ => Own.any) (fun b h => h) ?_ ?_ ?_ ?_ ?_
  · exact fun t ht => absurd ht (by omega)
  · exact fun t t' ht => absurd ht (by omega)
  · exact fun t ht => absurd ht (by omega)
  · intro i hi o ho FA w' vs H K hK
    match i, hi, ho, H, hK with
    | 0, _, ho, H, hK => 
      obtain rfl := Option.some.inj ho.symm
      clear ho
      have ev2 : FA.eval (.tmp 2) = .pointer (some ⟨w.heap.size, 0, none⟩) := H.out 2 (by kernel_rfl)
      have e2 : FA.tmps[2]?.getD undef = .pointer (some ⟨w.heap.size, 0, none⟩) := by simpa [Act.eval] using ev2
      replace ev2 := Lib.hid ev2
      refine wanted_if rfl ?_
      refine wp_load_mid 83 (.tmp 2) rfl (w.heap.size) 0 ev2.out (h4C ts ln id st mo fo tl pr sm s6 sh sl d6 dh dl A n k) _ (Bk.range (hA.kept H.kept hA.lt)) u1 u2 (szR4 _ _ _ _ _ _ _ _ _ _ _ _ _ _ _ _ _ _) ?_
      exact hK.out _ _ (chgX (Ex.refl _)) rfl (fun _ h => h.elim)
    | 1, _, ho, H, hK => 
      obtain rfl := Option.some.inj ho.symm
      clear ho
      have ev3 : FA.eval (.tmp 3) = .pointer (some ⟨w.heap.size + 1, 0, none⟩) := H.out 3 (by kernel_rfl)
      have e3 : FA.tmps[3]?.getD undef = .pointer (some ⟨w.heap.size + 1, 0, none⟩) := by simpa [Act.eval] using ev3
      replace ev3 := Lib.hid ev3
      refine wanted_if rfl ?_
      refine wp_load_mid 83 (.tmp 3) rfl (w.heap.size + 1) 0 ev3.out (h4C ts ln id st mo fo tl pr sm s6 sh sl d6 dh dl A' n' k') _ (Bk.range (hB.kept H.kept hB.lt)) u1 u2 (szR4 _ _ _ _ _ _ _ _ _ _ _ _ _ _ _ _ _ _) ?_
      exact hK.out _ _ (chgX (Ex.refl _)) rfl (fun _ h => h.elim)
    | 2, _, ho, H, hK => 
      obtain rfl := Option.some.inj ho.symm
      clear ho
      go_simp
      exact hK.out _ _ (chgX (Ex.alloc _ _)) ⟨_, rfl, Bk.newK _ _ _ rfl rfl⟩ (fun b hb => .inr (Nat.le_of_eq (own_ptr hb)))
    | 3, _, ho, H, hK => 
      obtain rfl := Option.some.inj ho.symm
      clear ho
      go_simp
      exact hK.out _ _ (chgX (Ex.alloc _ _)) ⟨_, rfl, Bk.newK _ _ _ rfl rfl⟩ (fun b hb => .inr (Nat.le_of_eq (own_ptr hb)))
    | 4, _, ho, H, hK => 
      obtain rfl := Option.some.inj ho.symm
      clear ho
      have ev5 := H.dep 2 5 (by kernel_rfl)
      have e5 : FA.tmps[5]?.getD undef = vs 2 := by simpa [Act.eval] using ev5
      replace ev5 := Lib.hid ev5
      have ev7 : FA.eval (.tmp 7) = .agg (h4C ts ln id st mo fo tl pr sm s6 sh sl d6 dh dl A n k).toArray := (H.dep 0 7 (by kernel_rfl)).trans (H.word 0 (by omega) (by kernel_rfl))
      have e7 : FA.tmps[7]?.getD undef = .agg (h4C ts ln id st mo fo tl pr sm s6 sh sl d6 dh dl A n k).toArray := by simpa [Act.eval] using ev7
      replace ev7 := Lib.hid ev7
      obtain ⟨g0, hg0, hb0⟩ := H.word 2 (by omega) (by kernel_rfl)
      refine wanted_if rfl ?_
      refine wp_stA 83 (.tmp 5) (.tmp 7) rfl (h4C ts ln id st mo fo tl pr sm s6 sh sl d6 dh dl A n k) (h4C 0 0 0 false false 0 0 0 0 false 0 0 false 0 0 none 0 0) rfl (h4C_one _ _ _ _ _ _ _ _ _ _ _ _ _ _ _ _ _ _) (ev5.out.trans hg0) ev7.out hb0 (szR4 _ _ _ _ _ _ _ _ _ _ _ _ _ _ _ _ _ _) ?_
      intro w'' hn hgr
      exact hK.out undef _ (Chg.one hgr ⟨2, rfl, hg0⟩) ⟨_, _, hg0, hn, rfl⟩ (fun b hb => .inl ⟨2, rfl, hb⟩)
    | 5, _, ho, H, hK => 
      obtain rfl := Option.some.inj ho.symm
      clear ho
      have ev6 := H.dep 3 6 (by kernel_rfl)
      have e6 : FA.tmps[6]?.getD undef = vs 3 := by simpa [Act.eval] using ev6
      replace ev6 := Lib.hid ev6
      have ev8 : FA.eval (.tmp 8) = .agg (h4C ts ln id st mo fo tl pr sm s6 sh sl d6 dh dl A' n' k').toArray := (H.dep 1 8 (by kernel_rfl)).trans (H.word 1 (by omega) (by kernel_rfl))
      have e8 : FA.tmps[8]?.getD undef = .agg (h4C ts ln id st mo fo tl pr sm s6 sh sl d6 dh dl A' n' k').toArray := by simpa [Act.eval] using ev8
      replace ev8 := Lib.hid ev8
      obtain ⟨g0, hg0, hb0⟩ := H.word 3 (by omega) (by kernel_rfl)
      refine wanted_if rfl ?_
      refine wp_stA 83 (.tmp 6) (.tmp 8) rfl (h4C ts ln id st mo fo tl pr sm s6 sh sl d6 dh dl A' n' k') (h4C 0 0 0 false false 0 0 0 0 false 0 0 false 0 0 none 0 0) rfl (h4C_one _ _ _ _ _ _ _ _ _ _ _ _ _ _ _ _ _ _) (ev6.out.trans hg0) ev8.out hb0 (szR4 _ _ _ _ _ _ _ _ _ _ _ _ _ _ _ _ _ _) ?_
      intro w'' hn hgr
      exact hK.out undef _ (Chg.one hgr ⟨3, rfl, hg0⟩) ⟨_, _, hg0, hn, rfl⟩ (fun b hb => .inl ⟨3, rfl, hb⟩)
    | (k + 6), hi, _, _, _ => exact absurd hi (by omega)
  intro vs w' hC hV hW hDis hFr
  have p0 : vs 0 = .agg (h4C ts ln id st mo fo tl pr sm s6 sh sl d6 dh dl A n k).toArray := hW 0 (by omega) (by kernel_rfl)
  have p1 : vs 1 = .agg (h4C ts ln id st mo fo tl pr sm s6 sh sl d6 dh dl A' n' k').toArray := hW 1 (by omega) (by kernel_rfl)
  have p4 := hW 4 (by omega) (by kernel_rfl)
  have p5 := hW 5 (by omega) (by kernel_rfl)
  clear hW
  simp only [List.take_succ_cons, List.take_zero, List.drop_succ_cons, List.drop_zero, putAll, Nat.zero_add, Nat.reduceAdd, Act.put, List.setIfInBounds_toArray, List.set_cons_zero, List.set_cons_succ, p0, p1]
  obtain ⟨g1, c1, hg1, hX, rfl⟩ := p4
  obtain ⟨g2, c2, hg2, hY, rfl⟩ := p5
  replace hg1 : vs 2 = .pointer (some ⟨g1, 0, none⟩) := hg1
  replace hg2 : vs 3 = .pointer (some ⟨g2, 0, none⟩) := hg2
  replace be : Below w.heap.size w w' := be.trans (hC.below (B := w.heap.size) be.size (fun b hb => Nat.lt_of_lt_of_le hb be.size))
  rw [hg1, hg2]
  clear hg1 hg2 hC hV hDis hFr hA hB p0 p1
  clear vs
  generalize w' = W at *
  have z1 := hX.lt
  have z2 := hY.lt
  have x0 : W.cell? ⟨g1, 0, none⟩ = some (.int .u8 (ts : Int)) := hX.cell 0
  have x1 : W.cell? ⟨g1, 1, none⟩ = some (.int .i64 ln) := hX.cell 1
  have x2 : W.cell? ⟨g1, 2, none⟩ = some (.int .u16 (id : Int)) := hX.cell 2
  have x3 : W.cell? ⟨g1, 3, none⟩ = some (.bool st) := hX.cell 3
  have x4 : W.cell? ⟨g1, 4, none⟩ = some (.bool mo) := hX.cell 4
  have x5 : W.cell? ⟨g1, 5, none⟩ = some (.int .i64 fo) := hX.cell 5
  have x6 : W.cell? ⟨g1, 6, none⟩ = some (.int .u8 (tl : Int)) := hX.cell 6
  have x7 : W.cell? ⟨g1, 7, none⟩ = some (.int .u8 (pr : Int)) := hX.cell 7
  have x8 : W.cell? ⟨g1, 8, none⟩ = some (.int .u16 (sm : Int)) := hX.cell 8
  have x15 : W.cell? ⟨g1, 15, none⟩ = some (.slice A n k) := hX.cell 15
  have y0 : W.cell? ⟨g2, 0, none⟩ = some (.int .u8 (ts : Int)) := hY.cell 0
  have y1 : W.cell? ⟨g2, 1, none⟩ = some (.int .i64 ln) := hY.cell 1
  have y2 : W.cell? ⟨g2, 2, none⟩ = some (.int .u16 (id : Int)) := hY.cell 2
  have y3 : W.cell? ⟨g2, 3, none⟩ = some (.bool st) := hY.cell 3
  have y4 : W.cell? ⟨g2, 4, none⟩ = some (.bool mo) := hY.cell 4
  have y5 : W.cell? ⟨g2, 5, none⟩ = some (.int .i64 fo) := hY.cell 5
  have y6 : W.cell? ⟨g2, 6, none⟩ = some (.int .u8 (tl : Int)) := hY.cell 6
  have y7 : W.cell? ⟨g2, 7, none⟩ = some (.int .u8 (pr : Int)) := hY.cell 7
  have y8 : W.cell? ⟨g2, 8, none⟩ = some (.int .u16 (sm : Int)) := hY.cell 8
  have y15 : W.cell? ⟨g2, 15, none⟩ = some (.slice A' n' k') := hY.cell 15
  have e1 := run_str bt Try.underlying9 (h.later be)
  have e2 := run_str bt Try.underlying9 (h'.later be)
  clear h h' hw
  go_wp2_with (first
    | (refine at_op (.load 29 (.tmp 71)) rfl ?_; refine wpList_ldG (t := 83) (cs := h4C ts ln id st mo fo tl pr sm s6 sh sl d6 dh dl A n k) 29 (.tmp 71) rfl rfl (adC s6 sh sl) rfl hX rfl v1 v2 (szAd _ _ _) ?_)
    | (refine at_op (.load 29 (.tmp 73)) rfl ?_; refine wpList_ldG (t := 83) (cs := h4C ts ln id st mo fo tl pr sm s6 sh sl d6 dh dl A' n' k') 29 (.tmp 73) rfl rfl (adC s6 sh sl) rfl hY rfl v1 v2 (szAd _ _ _) ?_)
    | (refine at_op (.load 29 (.tmp 78)) rfl ?_; refine wpList_ldG (t := 83) (cs := h4C ts ln id st mo fo tl pr sm s6 sh sl d6 dh dl A n k) 29 (.tmp 78) rfl rfl (adC d6 dh dl) rfl hX rfl v1 v2 (szAd _ _ _) ?_)
    | (refine at_op (.load 29 (.tmp 80)) rfl ?_; refine wpList_ldG (t := 83) (cs := h4C ts ln id st mo fo tl pr sm s6 sh sl d6 dh dl A' n' k') 29 (.tmp 80) rfl rfl (adC d6 dh dl) rfl hY rfl v1 v2 (szAd _ _ _) ?_))
  go_ret
  exact RetV.is_ rfl be
end Go.Proofs.Ytldecdeiibfekaa
