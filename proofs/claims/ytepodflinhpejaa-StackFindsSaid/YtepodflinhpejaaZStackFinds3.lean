/- Texts of the law StackFinds, part 3. -/
import Derived.Test.YtepodflinhpejaaZStackFinds2
/- does (chapter 15). -/
namespace Go.Proofs.Ytepodflinhpejaa
open Go.RowKit
set_option linter.unusedVariables false
set_option linter.unusedSimpArgs false
attribute [local go_sem ↓] sliced_cut

attribute [local go_sem] cutA_zero

def acC (kd m : Int) (B : Option Addr) (k d : Nat) : List Value := [.int .i64 kd, .int .i64 m, .slice B k d]
theorem szAc (kd m : Int) (B : Option Addr) (k d : Nat) : (Try.prog.info? 67).map (·.size) = some (acC kd m B k d).length := by kernel_rfl
theorem rowAc : ∃ d, Try.prog.underlying 67 = some d ∧ d.isRow = true := ⟨_, Try.underlying67, rfl⟩
theorem Chg.wid {D D' : Nat → Prop} {w w' : World} (h : Chg D w w') (hd : ∀ b, D b → D' b) : Chg D' w w' := ⟨h.os, h.tape, h.output, h.size, fun b hb hn => h.block b hb (fun h => hn (hd b h))⟩
theorem Chg.fre {D : Nat → Prop} {w w1 w2 : World} {g : Nat} (h : Chg D w w1) (hg : w1.grownBy w2 (some g)) (hl : w.heap.size ≤ g) : Chg D w w2 :=
  ⟨hg.os.trans h.os, hg.tape.trans h.tape, hg.output.trans h.output, Nat.le_trans h.size hg.size, fun b hb hd => (hg.block b (Nat.lt_of_lt_of_le hb h.size) (fun e => by injection e with e; omega)).trans (h.block b hb hd)⟩
/-- what does leaves -/
def RetDo (D : Nat → Prop) (w : World) (g : Nat) (S : Stk) (e : Ending) (w' : World) : Prop := ∃ A n c, e = .returned (.tuple #[.agg (rstC A n c S).toArray, .bool true]) ∧ Bk w' g 59 (stkC S) ∧ RSt D w' S.lv A n c ∧ Chg (fun b => b = g) w w'
set_option maxHeartbeats 4000000 in
set_option maxRecDepth 100000 in
theorem does_1 (S : Stk) (hok : StkOk S) (g : Nat) (A : Option Addr) (n c : Nat) (m : Int) (B : Option Addr) (k d : Nat) (w : World) (hm : m ≤ 9223372036854775807) (hS : Bk w g 59 (stkC S)) {D : Nat → Prop} (hDg : D g) (hDw : ∀ b, D b → b < w.heap.size) (hR : RSt D w S.lv A n c) : Calls Try.prog 17 #[.pointer (some ⟨g, 0, none⟩), .agg (rstC A n c S).toArray, .agg (acC 1 m B k d).toArray] w (RetDo D w g (retS S m)) := by
  have H1 := Lib.hid (fun w h => retire_any S hok g m hm w h)
  have H2 := Lib.hid (fun A n c w (D : Nat → Prop) hD (h : RSt D w S.lv A n c) => refRetire_any S hok A n c m w (D := D) hD h)
  obtain ⟨ES, hES⟩ : ∃ ES, retS S m = ES := ⟨_, rfl⟩
  rw [hES] at H1 H2 ⊢
  clear hES
  generalize (retE S m : Nat) = EE at *
  have hzv : ∀ w, (zeroValue 64).run Try.prog w = .ok (.agg (rstC none 0 0 stk0).toArray) w := fun _ => by kernel_rfl
  have hzt : ∀ w, (zeroValue 54).run Try.prog w = .ok (.agg (tabC []).toArray) w := fun _ => by kernel_rfl
  have zg := hS.lt
  have HR := Lib.hid hR
  obtain ⟨dvr1, vr1, vr2⟩ := rowRst
  obtain ⟨dva1, va1, va2⟩ := rowAc
  have bs : Bk (((w.alloc (.cells (rstC A n c S).toArray 64)).alloc (.cells (acC 1 m B k d).toArray 67)).alloc (.cells (rstC none 0 0 stk0).toArray 64)) w.heap.size 64 (rstC A n c S) := ((Bk.new w 64 (rstC A n c S).toArray).alloc _).alloc _
  have ba : Bk (((w.alloc (.cells (rstC A n c S).toArray 64)).alloc (.cells (acC 1 m B k d).toArray 67)).alloc (.cells (rstC none 0 0 stk0).toArray 64)) (w.heap.size + 1) 67 (acC 1 m B k d) := (Bk.newK _ _ _ (by simp) rfl).alloc _
  have bz : Bk (((w.alloc (.cells (rstC A n c S).toArray 64)).alloc (.cells (acC 1 m B k d).toArray 67)).alloc (.cells (rstC none 0 0 stk0).toArray 64)) (w.heap.size + 1 + 1) 64 (rstC none 0 0 stk0) := Bk.newK _ _ _ (by simp) rfl
  have be : Below w.heap.size w (((w.alloc (.cells (rstC A n c S).toArray 64)).alloc (.cells (acC 1 m B k d).toArray 67)).alloc (.cells (rstC none 0 0 stk0).toArray 64)) := Below.allocS (Below.allocS (Below.allocS (Below.refl _ _) _) _) _
  replace hS := (((hS.alloc (.cells (rstC A n c S).toArray 64)).alloc (.cells (acC 1 m B k d).toArray 67)).alloc (.cells (rstC none 0 0 stk0).toArray 64))
  have zV : w.heap.size + 3 ≤ (((w.alloc (.cells (rstC A n c S).toArray 64)).alloc (.cells (acC 1 m B k d).toArray 67)).alloc (.cells (rstC none 0 0 stk0).toArray 64)).heap.size := by simp
  go_enter Try.func17, Try.ntmps17
  go_upto_region 1 with (fail)
  generalize ((w.alloc (.cells (rstC A n c S).toArray 64)).alloc (.cells (acC 1 m B k d).toArray 67)).alloc (.cells (rstC none 0 0 stk0).toArray 64) = V at *
  have hC : Chg (fun b => b = g) w V := Chg.of_below be
  clear hR
  have HRD := Lib.hid (HR.out.more (D' := (fun b => D b ∨ (w.heap.size ≤ b ∧ b < w.heap.size + 3))) (fun b hb => by rcases hb with hb | ⟨hb, _⟩ <;> simp [hb]))
  have hDs : ∀ W : World, w.heap.size + 3 ≤ W.heap.size → ∀ b, (fun b => D b ∨ (w.heap.size ≤ b ∧ b < w.heap.size + 3)) b → b < W.heap.size := fun W hW b hb => by
    rcases hb with hb | ⟨_, hb⟩
    · have := hDw b hb; omega
    · omega
  have q0 : V.cell? ⟨w.heap.size + 1, 0, none⟩ = some (.int .i64 1) := ba.cell 0
  go_upto_region 11 with (fail)
  clear q0
  refine wp_region_lit ?_
  iterate 2 (refine wpList_plain rfl (fun K hK => ?_); go_simp; with_reducible refine hK _ _ ?_; clear hK K)
  refine wpList_ld1 (t := 67) (cs := acC 1 m B k d) 3 (.tmp 71) rfl (by rfl) rfl (ba) rfl Try.underlying3 rfl ?_
  refine wpList_plain rfl (fun K hK => ?_)
  go_simp
  refine (H1.out _ hS).mono ?_
  rintro e w1 ⟨rfl, hS1, hc1⟩
  with_reducible refine hK _ _ ?_
  clear hK K
  replace bs := bs.chg (hc1) (fun e => by have : w.heap.size = g := e; omega)
  replace ba := ba.chg (hc1) (fun e => by have : w.heap.size + 1 = g := e; omega)
  replace bz := bz.chg (hc1) (fun e => by have : w.heap.size + 2 = g := e; omega)
  replace hC := hC.trans (hc1)
  have zw1 := bz.lt
  have hRw := HRD.out.chg (hC.wid (fun b hb => Or.inl (hb ▸ hDg)))
  have hDw := hDs w1 (by omega)
  refine wpList_plain rfl (fun K hK => ?_); go_simp; with_reducible refine hK _ _ ?_; clear hK K
  go_upto_region 12 with (fail)
  refine wp_region_lit ?_
  refine wpList_ldA (t := 64) 64 (.tmp 4) rfl rfl (rstC A n c S) rfl (bs) (whole_ _) vr1 vr2 (szRst _ _ _ _) ?_
  refine wpList_plain rfl (fun K hK => ?_); go_simp; with_reducible refine hK _ _ ?_; clear hK K
  refine wpList_ld1 (t := 67) (cs := acC 1 m B k d) 3 (.tmp 76) rfl (by rfl) rfl (ba) rfl Try.underlying3 rfl ?_
  refine wpList_plain rfl (fun K hK => ?_)
  go_simp
  refine (H2.out _ _ _ _ _ hDw hRw).mono ?_
  rintro e w1 ⟨A1, n1, c1, bs1, d1, rfl, rfl, hR1⟩
  with_reducible refine hK _ _ ?_
  clear hK K
  have hb1 := below_plus w1 bs1 d1
  replace bs := bs.later hb1
  replace ba := ba.later hb1
  replace bz := bz.later hb1
  replace hS1 := hS1.later hb1
  replace hC := hC.trans (Chg.of_below hb1)
  clear hb1 hRw
  generalize plus w1 bs1 d1 = W at *
  iterate 3 (refine wpList_plain rfl (fun K hK => ?_); go_simp; with_reducible refine hK _ _ ?_; clear hK K)
  refine wpList_stA (t := 64) 64 (.tmp 4) (.tmp 79) rfl rfl (rstC A1 n1 c1 ES) (rstC A n c S) (by rw [rstC_len, rstC_len]) (rstC_one _ _ _ _) rfl rfl bs (szRst _ _ _ _) ?_
  intro W4 h4 g4
  refine wpList_plain rfl (fun K hK => ?_); go_simp; with_reducible refine hK _ _ ?_; clear hK K
  replace bs : Bk W4 w.heap.size 64 (rstC A1 n1 c1 ES) := h4
  replace bz := bz.grown g4 (fun e => by injection e with e; omega)
  replace hS1 := hS1.grown g4 (fun e => by injection e with e; omega)
  replace hR1 := hR1.chg (Chg.one g4 (Or.inr ⟨Nat.le_refl _, by omega⟩))
  have hC4 := (hC.wid (fun b hb => hb)).fre g4 (Nat.le_refl _)
  clear h4 g4 hC ba
  go_upto_region 22 with (fail)
  refine wp_region_lit ?_
  refine wpList_ldA (t := 64) 64 (.tmp 4) rfl rfl (rstC A1 n1 c1 ES) rfl (bs) (whole_ _) vr1 vr2 (szRst _ _ _ _) ?_
  iterate 3 (refine wpList_plain rfl (fun K hK => ?_); go_simp; with_reducible refine hK _ _ ?_; clear hK K)
  refine wpList_stA (t := 64) 64 (.tmp 6) (.tmp 120) rfl rfl (rstC A1 n1 c1 ES) (rstC none 0 0 stk0) (by rw [rstC_len, rstC_len]) (rstC_one _ _ _ _) rfl rfl bz (szRst _ _ _ _) ?_
  intro W9 h9 g9
  refine wpList_plain rfl (fun K hK => ?_); go_simp; with_reducible refine hK _ _ ?_; clear hK K
  go_wp2
  refine bodyPost_agg2 Try.results17 rfl rfl h9.range vr1 vr2 (szRst _ _ _ _) rfl ⟨A1, n1, c1, by simp, hS1.grown g9 (fun e => by injection e with e; omega), ?_, hC4.fre g9 (by omega)⟩
  exact (hR1.chg (Chg.one g9 (Or.inr ⟨by omega, by omega⟩))).more (fun b hb => .inl (.inl hb))
set_option maxHeartbeats 4000000 in
set_option maxRecDepth 100000 in
theorem does_2 (S : Stk) (hok : StkOk S) (g : Nat) (A : Option Addr) (n c : Nat) (m : Int) (B : Option Addr) (k d : Nat) (w : World) (hm : m ≤ 9223372036854775807) (hS : Bk w g 59 (stkC S)) {D : Nat → Prop} (hDg : D g) (hDw : ∀ b, D b → b < w.heap.size) (hR : RSt D w S.lv A n c) : Calls Try.prog 17 #[.pointer (some ⟨g, 0, none⟩), .agg (rstC A n c S).toArray, .agg (acC 2 m B k d).toArray] w (RetDo D w g (rlsS S m)) := by
  have H1 := Lib.hid (fun w h => release_any S hok g m hm w h)
  have H2 := Lib.hid (fun A n c w (D : Nat → Prop) hD (h : RSt D w S.lv A n c) => refRelease_any S hok A n c m w (D := D) hD h)
  obtain ⟨ES, hES⟩ : ∃ ES, rlsS S m = ES := ⟨_, rfl⟩
  rw [hES] at H1 H2 ⊢
  clear hES
  generalize (rlsE S m : Nat) = EE at *
  have hzv : ∀ w, (zeroValue 64).run Try.prog w = .ok (.agg (rstC none 0 0 stk0).toArray) w := fun _ => by kernel_rfl
  have hzt : ∀ w, (zeroValue 54).run Try.prog w = .ok (.agg (tabC []).toArray) w := fun _ => by kernel_rfl
  have zg := hS.lt
  have HR := Lib.hid hR
  obtain ⟨dvr1, vr1, vr2⟩ := rowRst
  obtain ⟨dva1, va1, va2⟩ := rowAc
  have bs : Bk (((w.alloc (.cells (rstC A n c S).toArray 64)).alloc (.cells (acC 2 m B k d).toArray 67)).alloc (.cells (rstC none 0 0 stk0).toArray 64)) w.heap.size 64 (rstC A n c S) := ((Bk.new w 64 (rstC A n c S).toArray).alloc _).alloc _
  have ba : Bk (((w.alloc (.cells (rstC A n c S).toArray 64)).alloc (.cells (acC 2 m B k d).toArray 67)).alloc (.cells (rstC none 0 0 stk0).toArray 64)) (w.heap.size + 1) 67 (acC 2 m B k d) := (Bk.newK _ _ _ (by simp) rfl).alloc _
  have bz : Bk (((w.alloc (.cells (rstC A n c S).toArray 64)).alloc (.cells (acC 2 m B k d).toArray 67)).alloc (.cells (rstC none 0 0 stk0).toArray 64)) (w.heap.size + 1 + 1) 64 (rstC none 0 0 stk0) := Bk.newK _ _ _ (by simp) rfl
  have be : Below w.heap.size w (((w.alloc (.cells (rstC A n c S).toArray 64)).alloc (.cells (acC 2 m B k d).toArray 67)).alloc (.cells (rstC none 0 0 stk0).toArray 64)) := Below.allocS (Below.allocS (Below.allocS (Below.refl _ _) _) _) _
  replace hS := (((hS.alloc (.cells (rstC A n c S).toArray 64)).alloc (.cells (acC 2 m B k d).toArray 67)).alloc (.cells (rstC none 0 0 stk0).toArray 64))
  have zV : w.heap.size + 3 ≤ (((w.alloc (.cells (rstC A n c S).toArray 64)).alloc (.cells (acC 2 m B k d).toArray 67)).alloc (.cells (rstC none 0 0 stk0).toArray 64)).heap.size := by simp
  go_enter Try.func17, Try.ntmps17
  go_upto_region 1 with (fail)
  generalize ((w.alloc (.cells (rstC A n c S).toArray 64)).alloc (.cells (acC 2 m B k d).toArray 67)).alloc (.cells (rstC none 0 0 stk0).toArray 64) = V at *
  have hC : Chg (fun b => b = g) w V := Chg.of_below be
  clear hR
  have HRD := Lib.hid (HR.out.more (D' := (fun b => D b ∨ (w.heap.size ≤ b ∧ b < w.heap.size + 3))) (fun b hb => by rcases hb with hb | ⟨hb, _⟩ <;> simp [hb]))
  have hDs : ∀ W : World, w.heap.size + 3 ≤ W.heap.size → ∀ b, (fun b => D b ∨ (w.heap.size ≤ b ∧ b < w.heap.size + 3)) b → b < W.heap.size := fun W hW b hb => by
    rcases hb with hb | ⟨_, hb⟩
    · have := hDw b hb; omega
    · omega
  have q0 : V.cell? ⟨w.heap.size + 1, 0, none⟩ = some (.int .i64 2) := ba.cell 0
  go_upto_region 14 with (fail)
  clear q0
  refine wp_region_lit ?_
  iterate 2 (refine wpList_plain rfl (fun K hK => ?_); go_simp; with_reducible refine hK _ _ ?_; clear hK K)
  refine wpList_ld1 (t := 67) (cs := acC 2 m B k d) 3 (.tmp 84) rfl (by rfl) rfl (ba) rfl Try.underlying3 rfl ?_
  refine wpList_plain rfl (fun K hK => ?_)
  go_simp
  refine (H1.out _ hS).mono ?_
  rintro e w1 ⟨rfl, hS1, hc1⟩
  with_reducible refine hK _ _ ?_
  clear hK K
  replace bs := bs.chg (hc1) (fun e => by have : w.heap.size = g := e; omega)
  replace ba := ba.chg (hc1) (fun e => by have : w.heap.size + 1 = g := e; omega)
  replace bz := bz.chg (hc1) (fun e => by have : w.heap.size + 2 = g := e; omega)
  replace hC := hC.trans (hc1)
  have zw1 := bz.lt
  have hRw := HRD.out.chg (hC.wid (fun b hb => Or.inl (hb ▸ hDg)))
  have hDw := hDs w1 (by omega)
  refine wpList_plain rfl (fun K hK => ?_); go_simp; with_reducible refine hK _ _ ?_; clear hK K
  go_upto_region 15 with (fail)
  refine wp_region_lit ?_
  refine wpList_ldA (t := 64) 64 (.tmp 4) rfl rfl (rstC A n c S) rfl (bs) (whole_ _) vr1 vr2 (szRst _ _ _ _) ?_
  refine wpList_plain rfl (fun K hK => ?_); go_simp; with_reducible refine hK _ _ ?_; clear hK K
  refine wpList_ld1 (t := 67) (cs := acC 2 m B k d) 3 (.tmp 89) rfl (by rfl) rfl (ba) rfl Try.underlying3 rfl ?_
  refine wpList_plain rfl (fun K hK => ?_)
  go_simp
  refine (H2.out _ _ _ _ _ hDw hRw).mono ?_
  rintro e w1 ⟨A1, n1, c1, bs1, d1, rfl, rfl, hR1⟩
  with_reducible refine hK _ _ ?_
  clear hK K
  have hb1 := below_plus w1 bs1 d1
  replace bs := bs.later hb1
  replace ba := ba.later hb1
  replace bz := bz.later hb1
  replace hS1 := hS1.later hb1
  replace hC := hC.trans (Chg.of_below hb1)
  clear hb1 hRw
  generalize plus w1 bs1 d1 = W at *
  iterate 3 (refine wpList_plain rfl (fun K hK => ?_); go_simp; with_reducible refine hK _ _ ?_; clear hK K)
  refine wpList_stA (t := 64) 64 (.tmp 4) (.tmp 92) rfl rfl (rstC A1 n1 c1 ES) (rstC A n c S) (by rw [rstC_len, rstC_len]) (rstC_one _ _ _ _) rfl rfl bs (szRst _ _ _ _) ?_
  intro W4 h4 g4
  refine wpList_plain rfl (fun K hK => ?_); go_simp; with_reducible refine hK _ _ ?_; clear hK K
  replace bs : Bk W4 w.heap.size 64 (rstC A1 n1 c1 ES) := h4
  replace bz := bz.grown g4 (fun e => by injection e with e; omega)
  replace hS1 := hS1.grown g4 (fun e => by injection e with e; omega)
  replace hR1 := hR1.chg (Chg.one g4 (Or.inr ⟨Nat.le_refl _, by omega⟩))
  have hC4 := (hC.wid (fun b hb => hb)).fre g4 (Nat.le_refl _)
  clear h4 g4 hC ba
  go_upto_region 22 with (fail)
  refine wp_region_lit ?_
  refine wpList_ldA (t := 64) 64 (.tmp 4) rfl rfl (rstC A1 n1 c1 ES) rfl (bs) (whole_ _) vr1 vr2 (szRst _ _ _ _) ?_
  iterate 3 (refine wpList_plain rfl (fun K hK => ?_); go_simp; with_reducible refine hK _ _ ?_; clear hK K)
  refine wpList_stA (t := 64) 64 (.tmp 6) (.tmp 120) rfl rfl (rstC A1 n1 c1 ES) (rstC none 0 0 stk0) (by rw [rstC_len, rstC_len]) (rstC_one _ _ _ _) rfl rfl bz (szRst _ _ _ _) ?_
  intro W9 h9 g9
  refine wpList_plain rfl (fun K hK => ?_); go_simp; with_reducible refine hK _ _ ?_; clear hK K
  go_wp2
  refine bodyPost_agg2 Try.results17 rfl rfl h9.range vr1 vr2 (szRst _ _ _ _) rfl ⟨A1, n1, c1, by simp, hS1.grown g9 (fun e => by injection e with e; omega), ?_, hC4.fre g9 (by omega)⟩
  exact (hR1.chg (Chg.one g9 (Or.inr ⟨by omega, by omega⟩))).more (fun b hb => .inl (.inl hb))
set_option maxHeartbeats 4000000 in
set_option maxRecDepth 100000 in
theorem does_3 (S : Stk) (hok : StkOk S) (g : Nat) (A : Option Addr) (n c : Nat) (m : Int) (B : Option Addr) (k d : Nat) (w : World) (hm : m ≤ 9223372036854775807) (hS : Bk w g 59 (stkC S)) {D : Nat → Prop} (hDg : D g) (hDw : ∀ b, D b → b < w.heap.size) (hR : RSt D w S.lv A n c) : Calls Try.prog 17 #[.pointer (some ⟨g, 0, none⟩), .agg (rstC A n c S).toArray, .agg (acC 3 m B k d).toArray] w (RetDo D w g (eviS S m)) := by
  have H1 := Lib.hid (fun w h => evict_any S hok g m hm w h)
  have H2 := Lib.hid (fun A n c w (D : Nat → Prop) hD (h : RSt D w S.lv A n c) => refEvict_any S A n c m w (D := D) hD h)
  obtain ⟨ES, hES⟩ : ∃ ES, eviS S m = ES := ⟨_, rfl⟩
  rw [hES] at H1 H2 ⊢
  clear hES
  generalize (eviE S m : Nat) = EE at *
  have hzv : ∀ w, (zeroValue 64).run Try.prog w = .ok (.agg (rstC none 0 0 stk0).toArray) w := fun _ => by kernel_rfl
  have hzt : ∀ w, (zeroValue 54).run Try.prog w = .ok (.agg (tabC []).toArray) w := fun _ => by kernel_rfl
  have zg := hS.lt
  have HR := Lib.hid hR
  obtain ⟨dvr1, vr1, vr2⟩ := rowRst
  obtain ⟨dva1, va1, va2⟩ := rowAc
  have bs : Bk (((w.alloc (.cells (rstC A n c S).toArray 64)).alloc (.cells (acC 3 m B k d).toArray 67)).alloc (.cells (rstC none 0 0 stk0).toArray 64)) w.heap.size 64 (rstC A n c S) := ((Bk.new w 64 (rstC A n c S).toArray).alloc _).alloc _
  have ba : Bk (((w.alloc (.cells (rstC A n c S).toArray 64)).alloc (.cells (acC 3 m B k d).toArray 67)).alloc (.cells (rstC none 0 0 stk0).toArray 64)) (w.heap.size + 1) 67 (acC 3 m B k d) := (Bk.newK _ _ _ (by simp) rfl).alloc _
  have bz : Bk (((w.alloc (.cells (rstC A n c S).toArray 64)).alloc (.cells (acC 3 m B k d).toArray 67)).alloc (.cells (rstC none 0 0 stk0).toArray 64)) (w.heap.size + 1 + 1) 64 (rstC none 0 0 stk0) := Bk.newK _ _ _ (by simp) rfl
  have be : Below w.heap.size w (((w.alloc (.cells (rstC A n c S).toArray 64)).alloc (.cells (acC 3 m B k d).toArray 67)).alloc (.cells (rstC none 0 0 stk0).toArray 64)) := Below.allocS (Below.allocS (Below.allocS (Below.refl _ _) _) _) _
  replace hS := (((hS.alloc (.cells (rstC A n c S).toArray 64)).alloc (.cells (acC 3 m B k d).toArray 67)).alloc (.cells (rstC none 0 0 stk0).toArray 64))
  have zV : w.heap.size + 3 ≤ (((w.alloc (.cells (rstC A n c S).toArray 64)).alloc (.cells (acC 3 m B k d).toArray 67)).alloc (.cells (rstC none 0 0 stk0).toArray 64)).heap.size := by simp
  go_enter Try.func17, Try.ntmps17
  go_upto_region 1 with (fail)
  generalize ((w.alloc (.cells (rstC A n c S).toArray 64)).alloc (.cells (acC 3 m B k d).toArray 67)).alloc (.cells (rstC none 0 0 stk0).toArray 64) = V at *
  have hC : Chg (fun b => b = g) w V := Chg.of_below be
  clear hR
  have HRD := Lib.hid (HR.out.more (D' := (fun b => D b ∨ (w.heap.size ≤ b ∧ b < w.heap.size + 3))) (fun b hb => by rcases hb with hb | ⟨hb, _⟩ <;> simp [hb]))
  have hDs : ∀ W : World, w.heap.size + 3 ≤ W.heap.size → ∀ b, (fun b => D b ∨ (w.heap.size ≤ b ∧ b < w.heap.size + 3)) b → b < W.heap.size := fun W hW b hb => by
    rcases hb with hb | ⟨_, hb⟩
    · have := hDw b hb; omega
    · omega
  have q0 : V.cell? ⟨w.heap.size + 1, 0, none⟩ = some (.int .i64 3) := ba.cell 0
  go_upto_region 17 with (fail)
  clear q0
  refine wp_region_lit ?_
  iterate 2 (refine wpList_plain rfl (fun K hK => ?_); go_simp; with_reducible refine hK _ _ ?_; clear hK K)
  refine wpList_ld1 (t := 67) (cs := acC 3 m B k d) 3 (.tmp 97) rfl (by rfl) rfl (ba) rfl Try.underlying3 rfl ?_
  refine wpList_plain rfl (fun K hK => ?_)
  go_simp
  refine (H1.out _ hS).mono ?_
  rintro e w1 ⟨rfl, hS1, hc1⟩
  with_reducible refine hK _ _ ?_
  clear hK K
  replace bs := bs.chg (hc1) (fun e => by have : w.heap.size = g := e; omega)
  replace ba := ba.chg (hc1) (fun e => by have : w.heap.size + 1 = g := e; omega)
  replace bz := bz.chg (hc1) (fun e => by have : w.heap.size + 2 = g := e; omega)
  replace hC := hC.trans (hc1)
  have zw1 := bz.lt
  have hRw := HRD.out.chg (hC.wid (fun b hb => Or.inl (hb ▸ hDg)))
  have hDw := hDs w1 (by omega)
  refine wpList_plain rfl (fun K hK => ?_); go_simp; with_reducible refine hK _ _ ?_; clear hK K
  go_upto_region 18 with (fail)
  refine wp_region_lit ?_
  refine wpList_ldA (t := 64) 64 (.tmp 4) rfl rfl (rstC A n c S) rfl (bs) (whole_ _) vr1 vr2 (szRst _ _ _ _) ?_
  refine wpList_plain rfl (fun K hK => ?_); go_simp; with_reducible refine hK _ _ ?_; clear hK K
  refine wpList_ld1 (t := 67) (cs := acC 3 m B k d) 3 (.tmp 102) rfl (by rfl) rfl (ba) rfl Try.underlying3 rfl ?_
  refine wpList_plain rfl (fun K hK => ?_)
  go_simp
  refine (H2.out _ _ _ _ _ hDw hRw).mono ?_
  rintro e w1 ⟨A1, n1, c1, bs1, d1, rfl, rfl, hR1⟩
  with_reducible refine hK _ _ ?_
  clear hK K
  have hb1 := below_plus w1 bs1 d1
  replace bs := bs.later hb1
  replace ba := ba.later hb1
  replace bz := bz.later hb1
  replace hS1 := hS1.later hb1
  replace hC := hC.trans (Chg.of_below hb1)
  clear hb1 hRw
  generalize plus w1 bs1 d1 = W at *
  iterate 3 (refine wpList_plain rfl (fun K hK => ?_); go_simp; with_reducible refine hK _ _ ?_; clear hK K)
  refine wpList_stA (t := 64) 64 (.tmp 4) (.tmp 105) rfl rfl (rstC A1 n1 c1 ES) (rstC A n c S) (by rw [rstC_len, rstC_len]) (rstC_one _ _ _ _) rfl rfl bs (szRst _ _ _ _) ?_
  intro W4 h4 g4
  refine wpList_plain rfl (fun K hK => ?_); go_simp; with_reducible refine hK _ _ ?_; clear hK K
  replace bs : Bk W4 w.heap.size 64 (rstC A1 n1 c1 ES) := h4
  replace bz := bz.grown g4 (fun e => by injection e with e; omega)
  replace hS1 := hS1.grown g4 (fun e => by injection e with e; omega)
  replace hR1 := hR1.chg (Chg.one g4 (Or.inr ⟨Nat.le_refl _, by omega⟩))
  have hC4 := (hC.wid (fun b hb => hb)).fre g4 (Nat.le_refl _)
  clear h4 g4 hC ba
  go_upto_region 22 with (fail)
  refine wp_region_lit ?_
  refine wpList_ldA (t := 64) 64 (.tmp 4) rfl rfl (rstC A1 n1 c1 ES) rfl (bs) (whole_ _) vr1 vr2 (szRst _ _ _ _) ?_
  iterate 3 (refine wpList_plain rfl (fun K hK => ?_); go_simp; with_reducible refine hK _ _ ?_; clear hK K)
  refine wpList_stA (t := 64) 64 (.tmp 6) (.tmp 120) rfl rfl (rstC A1 n1 c1 ES) (rstC none 0 0 stk0) (by rw [rstC_len, rstC_len]) (rstC_one _ _ _ _) rfl rfl bz (szRst _ _ _ _) ?_
  intro W9 h9 g9
  refine wpList_plain rfl (fun K hK => ?_); go_simp; with_reducible refine hK _ _ ?_; clear hK K
  go_wp2
  refine bodyPost_agg2 Try.results17 rfl rfl h9.range vr1 vr2 (szRst _ _ _ _) rfl ⟨A1, n1, c1, by simp, hS1.grown g9 (fun e => by injection e with e; omega), ?_, hC4.fre g9 (by omega)⟩
  exact (hR1.chg (Chg.one g9 (Or.inr ⟨by omega, by omega⟩))).more (fun b hb => .inl (.inl hb))
set_option maxHeartbeats 4000000 in
set_option maxRecDepth 100000 in
theorem does_4 (S : Stk) (hok : StkOk S) (g : Nat) (A : Option Addr) (n c : Nat) (m : Int) (B : Option Addr) (k d : Nat) (w : World) (hm : m ≤ 9223372036854775807) (hS : Bk w g 59 (stkC S)) {D : Nat → Prop} (hDg : D g) (hDw : ∀ b, D b → b < w.heap.size) (hR : RSt D w S.lv A n c) : Calls Try.prog 17 #[.pointer (some ⟨g, 0, none⟩), .agg (rstC A n c S).toArray, .agg (acC 4 m B k d).toArray] w (RetDo D w g (admS S m)) := by
  have H1 := Lib.hid (fun w h => admit_any S hok g m hm w h)
  have H2 := Lib.hid (fun A n c w (D : Nat → Prop) hD (h : RSt D w S.lv A n c) => refAdmit_any S hok A n c m w (D := D) hD h)
  obtain ⟨ES, hES⟩ : ∃ ES, admS S m = ES := ⟨_, rfl⟩
  rw [hES] at H1 H2 ⊢
  clear hES
  generalize (admE S m : Nat) = EE at *
  have hzv : ∀ w, (zeroValue 64).run Try.prog w = .ok (.agg (rstC none 0 0 stk0).toArray) w := fun _ => by kernel_rfl
  have hzt : ∀ w, (zeroValue 54).run Try.prog w = .ok (.agg (tabC []).toArray) w := fun _ => by kernel_rfl
  have zg := hS.lt
  have HR := Lib.hid hR
  obtain ⟨dvr1, vr1, vr2⟩ := rowRst
  obtain ⟨dva1, va1, va2⟩ := rowAc
  have bs : Bk (((w.alloc (.cells (rstC A n c S).toArray 64)).alloc (.cells (acC 4 m B k d).toArray 67)).alloc (.cells (rstC none 0 0 stk0).toArray 64)) w.heap.size 64 (rstC A n c S) := ((Bk.new w 64 (rstC A n c S).toArray).alloc _).alloc _
  have ba : Bk (((w.alloc (.cells (rstC A n c S).toArray 64)).alloc (.cells (acC 4 m B k d).toArray 67)).alloc (.cells (rstC none 0 0 stk0).toArray 64)) (w.heap.size + 1) 67 (acC 4 m B k d) := (Bk.newK _ _ _ (by simp) rfl).alloc _
  have bz : Bk (((w.alloc (.cells (rstC A n c S).toArray 64)).alloc (.cells (acC 4 m B k d).toArray 67)).alloc (.cells (rstC none 0 0 stk0).toArray 64)) (w.heap.size + 1 + 1) 64 (rstC none 0 0 stk0) := Bk.newK _ _ _ (by simp) rfl
  have be : Below w.heap.size w (((w.alloc (.cells (rstC A n c S).toArray 64)).alloc (.cells (acC 4 m B k d).toArray 67)).alloc (.cells (rstC none 0 0 stk0).toArray 64)) := Below.allocS (Below.allocS (Below.allocS (Below.refl _ _) _) _) _
  replace hS := (((hS.alloc (.cells (rstC A n c S).toArray 64)).alloc (.cells (acC 4 m B k d).toArray 67)).alloc (.cells (rstC none 0 0 stk0).toArray 64))
  have zV : w.heap.size + 3 ≤ (((w.alloc (.cells (rstC A n c S).toArray 64)).alloc (.cells (acC 4 m B k d).toArray 67)).alloc (.cells (rstC none 0 0 stk0).toArray 64)).heap.size := by simp
  go_enter Try.func17, Try.ntmps17
  go_upto_region 1 with (fail)
  generalize ((w.alloc (.cells (rstC A n c S).toArray 64)).alloc (.cells (acC 4 m B k d).toArray 67)).alloc (.cells (rstC none 0 0 stk0).toArray 64) = V at *
  have hC : Chg (fun b => b = g) w V := Chg.of_below be
  clear hR
  have HRD := Lib.hid (HR.out.more (D' := (fun b => D b ∨ (w.heap.size ≤ b ∧ b < w.heap.size + 3))) (fun b hb => by rcases hb with hb | ⟨hb, _⟩ <;> simp [hb]))
  have hDs : ∀ W : World, w.heap.size + 3 ≤ W.heap.size → ∀ b, (fun b => D b ∨ (w.heap.size ≤ b ∧ b < w.heap.size + 3)) b → b < W.heap.size := fun W hW b hb => by
    rcases hb with hb | ⟨_, hb⟩
    · have := hDw b hb; omega
    · omega
  have q0 : V.cell? ⟨w.heap.size + 1, 0, none⟩ = some (.int .i64 4) := ba.cell 0
  go_upto_region 20 with (fail)
  clear q0
  refine wp_region_lit ?_
  iterate 2 (refine wpList_plain rfl (fun K hK => ?_); go_simp; with_reducible refine hK _ _ ?_; clear hK K)
  refine wpList_ld1 (t := 67) (cs := acC 4 m B k d) 3 (.tmp 110) rfl (by rfl) rfl (ba) rfl Try.underlying3 rfl ?_
  refine wpList_plain rfl (fun K hK => ?_)
  go_simp
  refine (H1.out _ hS).mono ?_
  rintro e w1 ⟨rfl, hS1, hc1⟩
  with_reducible refine hK _ _ ?_
  clear hK K
  replace bs := bs.chg (hc1) (fun e => by have : w.heap.size = g := e; omega)
  replace ba := ba.chg (hc1) (fun e => by have : w.heap.size + 1 = g := e; omega)
  replace bz := bz.chg (hc1) (fun e => by have : w.heap.size + 2 = g := e; omega)
  replace hC := hC.trans (hc1)
  have zw1 := bz.lt
  have hRw := HRD.out.chg (hC.wid (fun b hb => Or.inl (hb ▸ hDg)))
  have hDw := hDs w1 (by omega)
  refine wpList_plain rfl (fun K hK => ?_); go_simp; with_reducible refine hK _ _ ?_; clear hK K
  go_upto_region 21 with (fail)
  refine wp_region_lit ?_
  refine wpList_ldA (t := 64) 64 (.tmp 4) rfl rfl (rstC A n c S) rfl (bs) (whole_ _) vr1 vr2 (szRst _ _ _ _) ?_
  refine wpList_plain rfl (fun K hK => ?_); go_simp; with_reducible refine hK _ _ ?_; clear hK K
  refine wpList_ld1 (t := 67) (cs := acC 4 m B k d) 3 (.tmp 115) rfl (by rfl) rfl (ba) rfl Try.underlying3 rfl ?_
  refine wpList_plain rfl (fun K hK => ?_)
  go_simp
  refine (H2.out _ _ _ _ _ hDw hRw).mono ?_
  rintro e w1 ⟨A1, n1, c1, bs1, d1, rfl, rfl, hR1⟩
  with_reducible refine hK _ _ ?_
  clear hK K
  have hb1 := below_plus w1 bs1 d1
  replace bs := bs.later hb1
  replace ba := ba.later hb1
  replace bz := bz.later hb1
  replace hS1 := hS1.later hb1
  replace hC := hC.trans (Chg.of_below hb1)
  clear hb1 hRw
  generalize plus w1 bs1 d1 = W at *
  iterate 3 (refine wpList_plain rfl (fun K hK => ?_); go_simp; with_reducible refine hK _ _ ?_; clear hK K)
  refine wpList_stA (t := 64) 64 (.tmp 4) (.tmp 118) rfl rfl (rstC A1 n1 c1 ES) (rstC A n c S) (by rw [rstC_len, rstC_len]) (rstC_one _ _ _ _) rfl rfl bs (szRst _ _ _ _) ?_
  intro W4 h4 g4
  refine wpList_plain rfl (fun K hK => ?_); go_simp; with_reducible refine hK _ _ ?_; clear hK K
  replace bs : Bk W4 w.heap.size 64 (rstC A1 n1 c1 ES) := h4
  replace bz := bz.grown g4 (fun e => by injection e with e; omega)
  replace hS1 := hS1.grown g4 (fun e => by injection e with e; omega)
  replace hR1 := hR1.chg (Chg.one g4 (Or.inr ⟨Nat.le_refl _, by omega⟩))
  have hC4 := (hC.wid (fun b hb => hb)).fre g4 (Nat.le_refl _)
  clear h4 g4 hC ba
  go_upto_region 22 with (fail)
  refine wp_region_lit ?_
  refine wpList_ldA (t := 64) 64 (.tmp 4) rfl rfl (rstC A1 n1 c1 ES) rfl (bs) (whole_ _) vr1 vr2 (szRst _ _ _ _) ?_
  iterate 3 (refine wpList_plain rfl (fun K hK => ?_); go_simp; with_reducible refine hK _ _ ?_; clear hK K)
  refine wpList_stA (t := 64) 64 (.tmp 6) (.tmp 120) rfl rfl (rstC A1 n1 c1 ES) (rstC none 0 0 stk0) (by rw [rstC_len, rstC_len]) (rstC_one _ _ _ _) rfl rfl bz (szRst _ _ _ _) ?_
  intro W9 h9 g9
  refine wpList_plain rfl (fun K hK => ?_); go_simp; with_reducible refine hK _ _ ?_; clear hK K
  go_wp2
  refine bodyPost_agg2 Try.results17 rfl rfl h9.range vr1 vr2 (szRst _ _ _ _) rfl ⟨A1, n1, c1, by simp, hS1.grown g9 (fun e => by injection e with e; omega), ?_, hC4.fre g9 (by omega)⟩
  exact (hR1.chg (Chg.one g9 (Or.inr ⟨by omega, by omega⟩))).more (fun b hb => .inl (.inl hb))
/-- the newest table -/
def newT (S : Stk) : Tab := (S.lv.getLast?.map (·.2)).getD []
theorem newT_ok {S : Stk} (h : StkOk S) : TabOk (newT S) := by
  unfold newT
  cases hl : S.lv.getLast? with
  | none => exact ⟨by simp, by simp⟩
  | some e => exact (h.rg e (List.mem_of_getLast? hl)).2
theorem newest_ex (S : Stk) (h8 : S.lv.length ≤ 8) : ∃ (x : Int) (b : Bool), ∀ (g : Nat) (w : World), Bk w g 59 (stkC S) → Calls Try.prog 60 #[.pointer (some ⟨g, 0, none⟩)] w (RetV w (.tuple #[.int .i64 x, .agg (tabC (newT S)).toArray, .bool b])) := by
  by_cases h0 : 0 < S.lv.length
  · refine ⟨((S.lv[S.lv.length - 1]).1 : Nat), true, fun g w h => ?_⟩
    have := newest_yes S h8 h0 g w h
    have e : newT S = (S.lv[S.lv.length - 1]).2 := by
      unfold newT
      rw [List.getLast?_eq_getElem?, List.getElem?_eq_getElem (by omega)]
      rfl
    rw [e]
    exact this
  · refine ⟨0, false, fun g w h => ?_⟩
    have := newest_no S (by omega) g w h
    have e : newT S = [] := by
      unfold newT
      rw [List.getLast?_eq_getElem?, List.getElem?_eq_none (by omega)]
      rfl
    rw [e]
    exact this
theorem Rs.noInt {s : Nat} {w w' : World} {A : Option Addr} {n c g : Nat} {cs ds : List Value} {t : TypeId} (h : Rs s w A n c cs) (hcs : cs ≠ [] → ∃ (j : Nat) (k : IntKind) (z : Int), cs[j]? = some (Value.int k z)) (hb : Bk w g t ds) (hds : ∀ u ∈ ds, ∀ (k : IntKind) (z : Int), u ≠ Value.int k z) (hg : w.grownBy w' (some g)) : Rs s w' A n c cs := by
  refine ⟨h.1, h.2.1, ?_⟩
  by_cases h0 : cs = []
  · exact .inl h0
  · rcases h.2.2 with h' | ⟨b, off, hA, hbl, hc⟩
    · exact .inl h'
    · refine .inr ⟨b, off, hA, Nat.lt_of_lt_of_le hbl hg.size, fun i u hu => ?_⟩
      have hne : b ≠ g := by
        rintro rfl
        obtain ⟨j, k, z, hj⟩ := hcs h0
        have h1 := hc j _ hj
        rw [hb.cell] at h1
        exact hds _ (List.mem_of_getElem? h1) k z rfl
      exact (World.cell?_of_block (hg.block b hbl (fun e => hne (by injection e)))).trans (hc i u hu)
theorem RSt.noInt {D : Nat → Prop} {w w' : World} {L : List (Nat × Tab)} {A : Option Addr} {n c g : Nat} {ds : List Value} {t : TypeId} (h : RSt D w L A n c) (hb : Bk w g t ds) (hds : ∀ u ∈ ds, ∀ (k : IntKind) (z : Int), u ≠ Value.int k z) (hg : w.grownBy w' (some g)) : RSt D w' L A n c := by
  obtain ⟨E, h1, h2, h3, h4⟩ := h
  refine ⟨E, ⟨h1.1, fun i a b => ⟨(h1.2 i a b).1, (h1.2 i a b).2.noInt (fun hne => ?_) hb hds hg⟩⟩, h2.noInt (fun hne => ?_) hb hds hg, h3.size hg.size, fun e he => (h4 e he).size hg.size⟩
  · cases hL : refT L[i].2 with
    | nil => rw [hL] at hne; exact absurd rfl hne
    | cons x t => exact ⟨0, _, _, rfl⟩
  · cases E with
    | nil => exact absurd rfl hne
    | cons e t => exact ⟨0, _, _, rfl⟩
def MP.rst (D : Nat → Prop) (S : Stk) (G : Value → Value) : MP := ⟨fun v w => ∃ A n c, v = G (.agg (rstC A n c S).toArray) ∧ RSt D w S.lv A n c, fun _ _ _ ⟨A, n, c, h1, h2⟩ h => ⟨A, n, c, h1, h2.later h.below⟩⟩
def MP.osw (e : TypeId) (s base : Nat) (cs : List Value) : MP := ⟨fun v w => ∃ A n c, v = .slice A n c ∧ Os e s w base A n c cs, fun _ _ _ ⟨A, n, c, h1, h2⟩ h => ⟨A, n, c, h1, h2.later h.below⟩⟩
set_option maxHeartbeats 4000000 in
set_option maxRecDepth 100000 in
theorem does_0 (S : Stk) (hok : StkOk S) (g : Nat) (A : Option Addr) (n c : Nat) (kd m : Int) (B : Option Addr) (k d : Nat) (l : List Int) (w : World) (k1 : (kd == 1) = false) (k2 : (kd == 2) = false) (k3 : (kd == 3) = false) (k4 : (kd == 4) = false) (hS : Bk w g 59 (stkC S)) {D : Nat → Prop} (hDg : D g) (hDw : ∀ b, D b → b < w.heap.size) (hR : RSt D w S.lv A n c) (hl : ∀ W, Chg (fun b => b = g) w W → Rs 1 W B k d (itK l)) (hk : k ≤ 1000) : Calls Try.prog 17 #[.pointer (some ⟨g, 0, none⟩), .agg (rstC A n c S).toArray, .agg (acC kd m B k d).toArray] w (RetDo D w g (pushS S (tNext (newT S) l))) := by
  obtain ⟨dvt, vt1, vt2⟩ := rowTab
  obtain ⟨xn, bn, hnw⟩ := newest_ex S hok.len
  have HN := Lib.hid (fun w h => hnw g w h)
  have htk := newT_ok hok
  have hnr := next_ref (newT S) htk l
  have HT := Lib.hid (fun w (h : Rs 1 w B k d (itK l)) => tabNext_any (newT S) htk l B k d w h (by omega))
  have hT2 := tNext_ok (newT S) htk l
  have htl := htk.len
  have hrg : ∀ x ∈ refT (newT S), -1000 ≤ x ∧ x ≤ 1000 := fun x hx => by
    obtain ⟨s, hs, rfl⟩ := List.mem_map.1 hx
    have := htk.rg s hs
    unfold sgT
    split <;> omega
  have hlast : 0 < S.lv.length → newT S = (S.lv[S.lv.length - 1]?.map (·.2)).getD [] := fun h => by unfold newT; rw [List.getLast?_eq_getElem?]
  have hlast0 : S.lv.length = 0 → newT S = [] := fun h => by unfold newT; rw [List.getLast?_eq_getElem?, List.getElem?_eq_none (by omega)]; rfl
  clear hnw
  generalize newT S = T at *
  have HRN := Lib.hid (fun A1 n1 c1 w (h1 : Rs 1 w A1 n1 c1 (itK (refT T))) (h2 : Rs 1 w B k d (itK l)) => refNext_any (refT T) l A1 n1 c1 B k d w h1 h2 (by have := h1.1; rw [itK_len] at this; simp [refT] at this; omega) (by omega) hrg)
  rw [← hnr] at HRN
  generalize tNext T l = TT at *
  have HP := Lib.hid (fun w h => push_any S hok g TT w h)
  have HRP := Lib.hid (fun (D : Nat → Prop) A1 n1 c1 w hD (h : RSt D w S.lv A n c) (h2 : Rs 1 w A1 n1 c1 (itK (refT TT))) (h3 : Off D w A1) => refPush_any S hok A n c TT A1 n1 c1 w (D := D) hD h h2 h3)
  obtain ⟨ES, hES⟩ : ∃ ES, pushS S TT = ES := ⟨_, rfl⟩
  rw [hES] at HP HRP ⊢
  clear hES hT2 hnr
  generalize ((pushV S : Nat) : Int) = PV at *
  generalize ((pushE S : Nat) : Int) = PE at *
  have HL := Lib.hid hl
  have hzv : ∀ w, (zeroValue 64).run Try.prog w = .ok (.agg (rstC none 0 0 stk0).toArray) w := fun _ => by kernel_rfl
  have hzt : ∀ w, (zeroValue 54).run Try.prog w = .ok (.agg (tabC []).toArray) w := fun _ => by kernel_rfl
  have zg := hS.lt
  have HR := Lib.hid hR
  obtain ⟨dvr1, vr1, vr2⟩ := rowRst
  obtain ⟨dva1, va1, va2⟩ := rowAc
  have bs : Bk (((w.alloc (.cells (rstC A n c S).toArray 64)).alloc (.cells (acC kd m B k d).toArray 67)).alloc (.cells (rstC none 0 0 stk0).toArray 64)) w.heap.size 64 (rstC A n c S) := ((Bk.new w 64 (rstC A n c S).toArray).alloc _).alloc _
  have ba : Bk (((w.alloc (.cells (rstC A n c S).toArray 64)).alloc (.cells (acC kd m B k d).toArray 67)).alloc (.cells (rstC none 0 0 stk0).toArray 64)) (w.heap.size + 1) 67 (acC kd m B k d) := (Bk.newK _ _ _ (by simp) rfl).alloc _
  have bz : Bk (((w.alloc (.cells (rstC A n c S).toArray 64)).alloc (.cells (acC kd m B k d).toArray 67)).alloc (.cells (rstC none 0 0 stk0).toArray 64)) (w.heap.size + 1 + 1) 64 (rstC none 0 0 stk0) := Bk.newK _ _ _ (by simp) rfl
  have be : Below w.heap.size w (((w.alloc (.cells (rstC A n c S).toArray 64)).alloc (.cells (acC kd m B k d).toArray 67)).alloc (.cells (rstC none 0 0 stk0).toArray 64)) := Below.allocS (Below.allocS (Below.allocS (Below.refl _ _) _) _) _
  replace hS := (((hS.alloc (.cells (rstC A n c S).toArray 64)).alloc (.cells (acC kd m B k d).toArray 67)).alloc (.cells (rstC none 0 0 stk0).toArray 64))
  have zV : w.heap.size + 3 ≤ (((w.alloc (.cells (rstC A n c S).toArray 64)).alloc (.cells (acC kd m B k d).toArray 67)).alloc (.cells (rstC none 0 0 stk0).toArray 64)).heap.size := by simp
  go_enter Try.func17, Try.ntmps17
  go_upto_region 1 with (fail)
  generalize ((w.alloc (.cells (rstC A n c S).toArray 64)).alloc (.cells (acC kd m B k d).toArray 67)).alloc (.cells (rstC none 0 0 stk0).toArray 64) = V at *
  have hC : Chg (fun b => b = g) w V := Chg.of_below be
  clear hR
  have HRD := Lib.hid (HR.out.more (D' := (fun b => D b ∨ (w.heap.size ≤ b ∧ b < w.heap.size + 3))) (fun b hb => by rcases hb with hb | ⟨hb, _⟩ <;> simp [hb]))
  have hDs : ∀ W : World, w.heap.size + 3 ≤ W.heap.size → ∀ b, (fun b => D b ∨ (w.heap.size ≤ b ∧ b < w.heap.size + 3)) b → b < W.heap.size := fun W hW b hb => by
    rcases hb with hb | ⟨_, hb⟩
    · have := hDw b hb; omega
    · omega
  have q0 : V.cell? ⟨w.heap.size + 1, 0, none⟩ = some (.int .i64 kd) := ba.cell 0
  go_upto_region 3 with (fail)
  clear q0
  refine wp_region_lit ?_
  refine wpList_plain rfl (fun K hK => ?_); go_simp; with_reducible refine hK _ _ ?_; clear hK K
  refine wpList_plain rfl (fun K hK => ?_)
  go_simp
  refine (HN.out _ hS).mono ?_
  rintro e w1 ⟨bs1, d1, rfl, rfl⟩
  with_reducible refine hK _ _ ?_
  clear hK K
  have hb1 := below_plus V bs1 d1
  replace bs := bs.later hb1
  replace ba := ba.later hb1
  replace bz := bz.later hb1
  replace hS := hS.later hb1
  replace hC := hC.trans (Chg.of_below hb1)
  have zw1 := hb1.size
  clear hb1 HN
  generalize plus V bs1 d1 = W at *
  iterate 6 (refine wpList_plain rfl (fun K hK => ?_); go_simp; with_reducible refine hK _ _ ?_; clear hK K)
  refine wpList_stA (t := 54) 54 (.tmp 11) (.tmp 25) rfl rfl (tabC T) (tabC []) (by rw [tabC_len0, tabC_len0]) (tabC_one _) rfl rfl (Bk.new _ _ _) (by rw [tabC_len0]; kernel_rfl) ?_
  intro W4 h4 g4
  refine wpList_plain rfl (fun K hK => ?_); go_simp; with_reducible refine hK _ _ ?_; clear hK K
  have hb4 : Below W.heap.size W W4 := below_grown (Below.allocS (Below.refl _ _) _) g4 (Nat.le_refl _)
  have bt : Bk W4 W.heap.size 54 (tabC T) := h4
  replace bs := bs.later hb4
  replace ba := ba.later hb4
  replace bz := bz.later hb4
  replace hS := hS.later hb4
  replace hC := hC.trans (Chg.of_below hb4)
  have zgt : g < W.heap.size := by omega
  have zw4 := hb4.size
  clear hb4 h4 g4
  generalize W.heap.size = gt at *
  have hRW := HRD.out.chg (hC.wid (fun b hb => Or.inl (hb ▸ hDg)))
  have hl7 := HL.out _ hC
  have hn1 := hRW.len
  by_cases h0 : 0 < n
  · have hlst := hlast (by omega)
    obtain ⟨bl, ol, Aw, nw, cw, hA, -, hcw, hrw, hoff⟩ := hRW.at_ (S.lv.length - 1) (by omega)
    rw [List.getElem?_eq_getElem (by omega)] at hlst
    have hTT : T = (S.lv[S.lv.length - 1]'(by omega)).2 := hlst
    rw [← hTT] at hrw
    rw [← hn1] at hcw
    have q0 : W4.cell? ⟨w.heap.size, 0, none⟩ = some (.slice (some ⟨bl, ol, none⟩) n c) := by rw [← hA]; exact bs.cell 0
    obtain ⟨n1, rfl⟩ : ∃ n1, n = n1 + 1 := ⟨n - 1, by omega⟩
    rw [Nat.add_sub_cancel] at hcw
    have n8 : n1 + 1 ≤ 8 := by have := hok.len; omega
    have l1 : IntKind.i64.wrap (((n1 + 1 : Nat) : Int) - 1) = (n1 : Int) := by rw [IntWalk.i64_in _ (by omega)]; omega
    have l2 : IntKind.i64.wrap ((n1 : Int) + 1 - 1) = (n1 : Int) := by rw [IntWalk.i64_in _ (by omega)]; omega
    have l3 : IntKind.i64.wrap (n1 : Int) = (n1 : Int) := IntWalk.i64_in _ (by omega)
    have l4 : (n1 : Int) < ((n1 + 1 : Nat) : Int) := by omega
    have l5 : (n1 : Int) < (n1 : Int) + 1 := by omega
    have l6 : (0 : Int) < ((n1 + 1 : Nat) : Int) := by omega
    have l7 : (0 : Int) < (n1 : Int) + 1 := by omega
    clear hlst hTT hn1 hlast hlast0 hA
    go_upto_region 6 with (fail)
    refine wp_region_lit ?_
    iterate 10 (refine wpList_plain rfl (fun K hK => ?_); go_simp; with_reducible refine hK _ _ ?_; clear hK K)
    clear q0 hcw
    go_upto_region 7 with (fail)
    refine wp_region_lit ?_
    refine wpList_plain rfl (fun K hK => ?_); go_simp; with_reducible refine hK _ _ ?_; clear hK K
    refine wpList_ldA (t := 54) 54 (.tmp 11) rfl rfl (tabC T) rfl (bt) (whole_ _) vt1 vt2 ((by rw [tabC_len0]; kernel_rfl)) ?_
    refine wpList_plain rfl (fun K hK => ?_); go_simp; with_reducible refine hK _ _ ?_; clear hK K
    refine wpList_ld1 (t := 67) (cs := acC kd m B k d) 65 (.tmp 43) rfl (by rfl) rfl (ba) rfl Try.underlying65 rfl ?_
    refine wpList_plain rfl (fun K hK => ?_)
    go_simp
    refine (HT.out _ hl7).mono ?_
    rintro e w1 ⟨bs2, d2, rfl, rfl⟩
    with_reducible refine hK _ _ ?_
    clear hK K
    have hb2 := below_plus W4 bs2 d2
    replace hrw := hrw.later hb2
    replace hoff := hoff.size hb2.size
    replace bs := bs.later hb2
    replace ba := ba.later hb2
    replace bz := bz.later hb2
    replace bt := bt.later hb2
    replace hS := hS.later hb2
    replace hC := hC.trans (Chg.of_below hb2)
    have zw2 := hb2.size
    clear hb2 HT
    generalize plus W4 bs2 d2 = W5 at *
    refine wpList_plain rfl (fun K hK => ?_)
    go_simp
    refine (HP.out _ hS).mono ?_
    rintro e w1 ⟨rfl, hS1, hc1⟩
    with_reducible refine hK _ _ ?_
    clear hK K
    replace bs := bs.chg (hc1) (fun e => by have : w.heap.size = g := e; omega)
    replace ba := ba.chg (hc1) (fun e => by have : w.heap.size + 1 = g := e; omega)
    replace bz := bz.chg (hc1) (fun e => by have : w.heap.size + 2 = g := e; omega)
    replace hC := hC.trans (hc1)
    replace bt := bt.chg (hc1) (fun e => by have : gt = g := e; omega)
    replace hrw := hrw.chg hc1 (fun a ha e => (hoff a ha).2 (Or.inl (e ▸ hDg)))
    replace hoff := hoff.size hc1.size
    iterate 5 (refine wpList_plain rfl (fun K hK => ?_); go_simp; with_reducible refine hK _ _ ?_; clear hK K)
    have hRW1 := HRD.out.chg (hC.wid (fun b hb => Or.inl (hb ▸ hDg)))
    have hl8 := HL.out _ hC
    have zw8 : w.heap.size + 3 ≤ w1.heap.size := by have := bz.lt; omega
    have HW := Lib.hid (fun W (h : Below w1.heap.size w1 W) => show RSt (fun b => D b ∨ (w.heap.size ≤ b ∧ b < w.heap.size + 3)) W S.lv A (n1 + 1) c ∧ Rs 1 W Aw nw cw (itK (refT T)) ∧ Rs 1 W B k d (itK l) from ⟨hRW1.later h, hrw.later h, hl8.later h⟩)
    clear hRW hl7 hRW1 hrw hl8 hoff hc1
    go_upto_region 8 with (fail)
    refine wp_relES 11 124 [8, 9] rfl (by kernel_rfl) (by kernel_rfl) ?_
    apply Steps.oneE (MP.eq _) 1 rfl (by decide)
    · intro o ho FA x hO hD K hK
      obtain rfl := Option.some.inj ho.symm
      clear ho
      have e4 := hO 4 (by kernel_rfl)
      simp only [eval_tmp, List.getElem?_toArray, List.getElem?_cons_succ, List.getElem?_cons_zero, Option.getD_some] at e4
      have ev4 := Lib.hid ((eval_tmp FA 4).trans e4)
      clear hO hD
      refine wanted_if rfl ?_
      refine wp_ldA 64 (.tmp 4) rfl (rstC A (n1 + 1) c S) ev4.out (bs.later (below_plus _ _ _)) (whole_ _) vr1 vr2 (szRst _ _ _ _) ?_
      exact hK.out _ _ (Ex.refl _) rfl
    apply Steps.oneE (MP.eq _) 2 rfl (by decide)
    · intro o ho FA x hO hD K hK
      obtain rfl := Option.some.inj ho.symm
      clear ho
      have e13 := hO 13 (by kernel_rfl)
      simp only [eval_tmp, List.getElem?_toArray, List.getElem?_cons_succ, List.getElem?_cons_zero, Option.getD_some] at e13
      have ev13 := Lib.hid ((eval_tmp FA 13).trans e13)
      clear hO hD
      go_simp
      exact hK.out _ _ (Ex.refl _) rfl
    apply Steps.oneE (MP.eq _) 3 rfl (by decide)
    · intro o ho FA x hO hD K hK
      obtain rfl := Option.some.inj ho.symm
      clear ho
      have e5 := hO 5 (by kernel_rfl)
      simp only [eval_tmp, List.getElem?_toArray, List.getElem?_cons_succ, List.getElem?_cons_zero, Option.getD_some] at e5
      have ev5 := Lib.hid ((eval_tmp FA 5).trans e5)
      clear hO hD
      go_simp
      exact hK.out _ _ (Ex.refl _) rfl
    apply Steps.oneE (MP.eq _) 4 rfl (by decide)
    · intro o ho FA x hO hD K hK
      obtain rfl := Option.some.inj ho.symm
      clear ho
      have ev52 : FA.eval (.tmp 52) = _ := hD 2 52 (by kernel_rfl)
      have e52 := (eval_tmp FA 52).symm.trans ev52
      replace ev52 := Lib.hid ev52
      clear hO hD
      refine wanted_if rfl ?_
      refine wp_ld1 65 (.tmp 52) rfl ev52.out (ba.later (below_plus _ _ _)) rfl Try.underlying65 rfl ?_
      exact hK.out _ _ (Ex.refl _) rfl
    apply Steps.oneE (MP.osw 3 1 w1.heap.size (itK (refT TT))) 5 rfl (by decide)
    · intro o ho FA x hO hD K hK
      obtain rfl := Option.some.inj ho.symm
      clear ho
      have ev51 : FA.eval (.tmp 51) = _ := hD 1 51 (by kernel_rfl)
      have e51 := (eval_tmp FA 51).symm.trans ev51
      replace ev51 := Lib.hid ev51
      have ev53 : FA.eval (.tmp 53) = _ := hD 3 53 (by kernel_rfl)
      have e53 := (eval_tmp FA 53).symm.trans ev53
      replace ev53 := Lib.hid ev53
      clear hO hD
      go_simp
      refine (HRN.out _ _ _ _ (HW.out _ (below_plus _ _ _)).2.1 (HW.out _ (below_plus _ _ _)).2.2).mono ?_
      rintro e w2 ⟨A7, n7, c7, bs7, d7, rfl, rfl, h7⟩
      exact hK.out _ _ (Ex.plus_ _ _ _) ⟨_, _, _, rfl, h7.mono (by simp [size_plus])⟩
    apply Steps.oneE (MP.rst (fun b => D b ∨ (w.heap.size ≤ b ∧ b < w.heap.size + 3)) ES (fun x => .tuple #[x, .int .i64 PV, .int .i64 PE])) 6 rfl (by decide)
    · intro o ho FA x hO hD K hK
      obtain rfl := Option.some.inj ho.symm
      clear ho
      have ev50 : FA.eval (.tmp 50) = _ := hD 0 50 (by kernel_rfl)
      have e50 := (eval_tmp FA 50).symm.trans ev50
      replace ev50 := Lib.hid ev50
      have f54 := hD 4 54 (by kernel_rfl)
      generalize eu54 : FA.eval (.tmp 54) = u54 at f54
      have e54 := (eval_tmp FA 54).symm.trans eu54
      have ev54 := Lib.hid eu54
      clear eu54
      clear hO hD
      obtain ⟨A7, n7, c7, rfl, h7⟩ := f54
      go_simp
      refine (HRP.out _ _ _ _ _ (hDs _ (by simp [size_plus]; omega)) (HW.out _ (below_plus _ _ _)).1 h7.rs (Off.own h7 (fun b hb => hDs _ (by omega) b hb))).mono ?_
      rintro e w2 ⟨A8, n8, c8, bs8, d8, rfl, rfl, h8⟩
      exact hK.out _ _ (Ex.plus_ _ _ _) ⟨_, _, _, rfl, h8⟩
    apply Steps.oneE (MP.rst (fun b => D b ∨ (w.heap.size ≤ b ∧ b < w.heap.size + 3)) ES (fun x => .tuple #[x, .int .i64 PV, .int .i64 PE])) 7 rfl (by decide)
    · intro o ho FA x hO hD K hK
      obtain rfl := Option.some.inj ho.symm
      clear ho
      have f55 := hD 5 55 (by kernel_rfl)
      generalize eu55 : FA.eval (.tmp 55) = u55 at f55
      have e55 := (eval_tmp FA 55).symm.trans eu55
      have ev55 := Lib.hid eu55
      clear eu55
      clear hO hD
      go_simp
      exact hK.out _ _ (Ex.refl _) f55
    apply Steps.oneE (MP.rst (fun b => D b ∨ (w.heap.size ≤ b ∧ b < w.heap.size + 3)) ES (fun x => x)) 8 rfl (by decide)
    · intro o ho FA x hO hD K hK
      obtain rfl := Option.some.inj ho.symm
      clear ho
      have f49 := hD 6 49 (by kernel_rfl)
      generalize eu49 : FA.eval (.tmp 49) = u49 at f49
      have e49 := (eval_tmp FA 49).symm.trans eu49
      have ev49 := Lib.hid eu49
      clear eu49
      clear hO hD
      obtain ⟨A7, n7, c7, rfl, h7⟩ := f49
      go_simp
      exact hK.out _ _ (Ex.refl _) ⟨_, _, _, rfl, h7⟩
    apply Steps.oneP (.int .i64 PV) 9 rfl (by decide)
    · intro o ho FA x hO hD
      obtain rfl := Option.some.inj ho.symm
      clear ho
      have f49 := hD 6 49 (by kernel_rfl)
      generalize eu49 : FA.eval (.tmp 49) = u49 at f49
      have e49 := (eval_tmp FA 49).symm.trans eu49
      have ev49 := Lib.hid eu49
      clear eu49
      clear hO hD
      obtain ⟨A7, n7, c7, rfl, h7⟩ := f49
      refine .inl ⟨by simp [Region.wanted], fun w => ?_⟩
      go_simp
    apply Steps.oneP (.int .i64 PE) 10 rfl (by decide)
    · intro o ho FA x hO hD
      obtain rfl := Option.some.inj ho.symm
      clear ho
      have f49 := hD 6 49 (by kernel_rfl)
      generalize eu49 : FA.eval (.tmp 49) = u49 at f49
      have e49 := (eval_tmp FA 49).symm.trans eu49
      have ev49 := Lib.hid eu49
      clear eu49
      clear hO hD
      obtain ⟨A7, n7, c7, rfl, h7⟩ := f49
      refine .inl ⟨by simp [Region.wanted], fun w => ?_⟩
      go_simp
    apply Steps.oneE (MP.blk w1.heap.size 64 (rstC none 0 0 stk0)) 11 rfl (by decide)
    · intro o ho FA x hO hD K hK
      obtain rfl := Option.some.inj ho.symm
      clear ho
      clear hO hD
      go_simp
      refine hK.out _ _ (Ex.alloc _ _) ⟨_, rfl, ?_, ?_⟩
      · simp [size_plus]
      · refine Bk.newK _ _ _ ?_ rfl
        simp [size_plus]
    refine Steps.fin_ (fun vs x hp => ?_)
    have p0 : vs 0 = _ := hp 0 (by omega)
    have p1 : vs 1 = _ := hp 1 (by omega)
    have p2 : vs 2 = _ := hp 2 (by omega)
    have p3 : vs 3 = _ := hp 3 (by omega)
    have p4 := hp 4 (by omega)
    have p5 := hp 5 (by omega)
    have p6 := hp 6 (by omega)
    have p7 := hp 7 (by omega)
    have p8 : vs 8 = _ := hp 8 (by omega)
    have p9 : vs 9 = _ := hp 9 (by omega)
    have p10 := hp 10 (by omega)
    clear hp
    simp only [List.take_succ_cons, List.take_zero, List.drop_succ_cons, List.drop_zero, putAll, Nat.zero_add, Nat.reduceAdd, Act.put, List.setIfInBounds_toArray, List.set_cons_zero, List.set_cons_succ, p0, p1, p2, p3, p8, p9]
    clear p0 p1 p2 p3 p8 p9
    generalize vs 4 = y4 at *
    generalize vs 5 = y5 at *
    generalize vs 6 = y6 at *
    generalize vs 7 = y7 at *
    generalize vs 10 = y10 at *
    clear vs
    obtain ⟨A9, n9, c9, rfl, hR9⟩ := p7
    obtain ⟨g16, rfl, zg16, b16⟩ := p10
    have hb8 := below_plus w1 x.bs x.d
    replace bs := bs.later hb8
    replace bz := bz.later hb8
    replace hS1 := hS1.later hb8
    replace hC := hC.trans (Chg.of_below hb8)
    have zw9 := hb8.size
    clear hb8 p5 p6 HW
    generalize plus w1 x.bs x.d = Z at *
    have b16z := b16
    refine wpList_stA (t := 64) 64 (.tmp 16) (.tmp 56) rfl rfl (rstC A9 n9 c9 ES) (rstC none 0 0 stk0) (by rw [rstC_len, rstC_len]) (rstC_one _ _ _ _) rfl rfl b16 (szRst _ _ _ _) ?_
    intro W6 h6 g6
    iterate 2 (refine wpList_plain rfl (fun K hK => ?_); go_simp; with_reducible refine hK _ _ ?_; clear hK K)
    replace b16 : Bk W6 g16 64 (rstC A9 n9 c9 ES) := h6
    replace bz := bz.grown g6 (fun e => by injection e with e; omega)
    replace hS1 := hS1.grown g6 (fun e => by injection e with e; omega)
    replace hR9 := hR9.noInt b16z (by
      intro u hu k z e
      subst e
      rcases List.mem_cons.1 hu with hu | hu
      · cases hu
      · rcases List.mem_append.1 hu with hu | hu <;> (obtain ⟨x, _, hx⟩ := List.mem_map.1 hu; cases hx)) g6
    replace hC := hC.fre g6 (by omega)
    clear g6 h6 b16z
    go_wp2
    go_wp2
    apply_assumption
    go_upto_region 9 with (fail)
    refine wp_region_lit ?_
    refine wpList_ldA (t := 64) 64 (.tmp 16) rfl rfl (rstC A9 n9 c9 ES) rfl (b16) (whole_ _) vr1 vr2 (szRst _ _ _ _) ?_
    iterate 4 (refine wpList_plain rfl (fun K hK => ?_); go_simp; with_reducible refine hK _ _ ?_; clear hK K)
    iterate 3 (refine wpList_step (fun K hK => ?_); go_simp; with_reducible refine hK _ _ ?_; clear hK K)
    refine wpList_plain rfl (fun K hK => ?_); go_simp; with_reducible refine hK _ _ ?_; clear hK K
    refine wpList_stA (t := 64) 64 (.tmp 6) (.tmp 59) rfl rfl (rstC A9 n9 c9 ES) (rstC none 0 0 stk0) (by rw [rstC_len, rstC_len]) (rstC_one _ _ _ _) rfl rfl bz (szRst _ _ _ _) ?_
    intro W9 h9 g9
    refine wpList_plain rfl (fun K hK => ?_); go_simp; with_reducible refine hK _ _ ?_; clear hK K
    go_wp2
    refine bodyPost_agg2 Try.results17 rfl rfl h9.range vr1 vr2 (szRst _ _ _ _) rfl ⟨A9, n9, c9, by simp, hS1.grown g9 (fun e => by injection e with e; omega), ?_, hC.fre g9 (by omega)⟩
    exact (hR9.chg (Chg.one g9 (Or.inr ⟨by omega, by omega⟩))).more (fun b hb => .inl (.inl hb))
  · have h00 : S.lv.length = 0 := by omega
    have hTT := hlast0 h00
    obtain rfl : n = 0 := by omega
    have q0 : W4.cell? ⟨w.heap.size, 0, none⟩ = some (.slice A 0 c) := bs.cell 0
    obtain ⟨Aw, hAw⟩ : ∃ Aw : Option Addr, Aw = none := ⟨_, rfl⟩
    have hrw : Rs 1 W4 none 0 0 (itK (refT T)) := by rw [hTT]; exact Rs.nil_
    have hoff : Off (fun b => D b ∨ (w.heap.size ≤ b ∧ b < w.heap.size + 3)) W4 none := Off.none_
    clear hn1 hlast hlast0 h00 hTT hAw Aw
    go_upto_region 7 with (fail)
    refine wp_region_lit ?_
    refine wpList_plain rfl (fun K hK => ?_); go_simp; with_reducible refine hK _ _ ?_; clear hK K
    refine wpList_ldA (t := 54) 54 (.tmp 11) rfl rfl (tabC T) rfl (bt) (whole_ _) vt1 vt2 ((by rw [tabC_len0]; kernel_rfl)) ?_
    refine wpList_plain rfl (fun K hK => ?_); go_simp; with_reducible refine hK _ _ ?_; clear hK K
    refine wpList_ld1 (t := 67) (cs := acC kd m B k d) 65 (.tmp 43) rfl (by rfl) rfl (ba) rfl Try.underlying65 rfl ?_
    refine wpList_plain rfl (fun K hK => ?_)
    go_simp
    refine (HT.out _ hl7).mono ?_
    rintro e w1 ⟨bs2, d2, rfl, rfl⟩
    with_reducible refine hK _ _ ?_
    clear hK K
    have hb2 := below_plus W4 bs2 d2
    replace hrw := hrw.later hb2
    replace hoff := hoff.size hb2.size
    replace bs := bs.later hb2
    replace ba := ba.later hb2
    replace bz := bz.later hb2
    replace bt := bt.later hb2
    replace hS := hS.later hb2
    replace hC := hC.trans (Chg.of_below hb2)
    have zw2 := hb2.size
    clear hb2 HT
    generalize plus W4 bs2 d2 = W5 at *
    refine wpList_plain rfl (fun K hK => ?_)
    go_simp
    refine (HP.out _ hS).mono ?_
    rintro e w1 ⟨rfl, hS1, hc1⟩
    with_reducible refine hK _ _ ?_
    clear hK K
    replace bs := bs.chg (hc1) (fun e => by have : w.heap.size = g := e; omega)
    replace ba := ba.chg (hc1) (fun e => by have : w.heap.size + 1 = g := e; omega)
    replace bz := bz.chg (hc1) (fun e => by have : w.heap.size + 2 = g := e; omega)
    replace hC := hC.trans (hc1)
    replace bt := bt.chg (hc1) (fun e => by have : gt = g := e; omega)
    replace hrw := hrw.chg hc1 (fun a ha e => (hoff a ha).2 (Or.inl (e ▸ hDg)))
    replace hoff := hoff.size hc1.size
    iterate 5 (refine wpList_plain rfl (fun K hK => ?_); go_simp; with_reducible refine hK _ _ ?_; clear hK K)
    have hRW1 := HRD.out.chg (hC.wid (fun b hb => Or.inl (hb ▸ hDg)))
    have hl8 := HL.out _ hC
    have zw8 : w.heap.size + 3 ≤ w1.heap.size := by have := bz.lt; omega
    have HW := Lib.hid (fun W (h : Below w1.heap.size w1 W) => show RSt (fun b => D b ∨ (w.heap.size ≤ b ∧ b < w.heap.size + 3)) W S.lv A 0 c ∧ Rs 1 W none 0 0 (itK (refT T)) ∧ Rs 1 W B k d (itK l) from ⟨hRW1.later h, hrw.later h, hl8.later h⟩)
    clear hRW hl7 hRW1 hrw hl8 hoff hc1
    go_upto_region 8 with (fail)
    refine wp_relES 11 124 [8, 9] rfl (by kernel_rfl) (by kernel_rfl) ?_
    apply Steps.oneE (MP.eq _) 1 rfl (by decide)
    · intro o ho FA x hO hD K hK
      obtain rfl := Option.some.inj ho.symm
      clear ho
      have e4 := hO 4 (by kernel_rfl)
      simp only [eval_tmp, List.getElem?_toArray, List.getElem?_cons_succ, List.getElem?_cons_zero, Option.getD_some] at e4
      have ev4 := Lib.hid ((eval_tmp FA 4).trans e4)
      clear hO hD
      refine wanted_if rfl ?_
      refine wp_ldA 64 (.tmp 4) rfl (rstC A 0 c S) ev4.out (bs.later (below_plus _ _ _)) (whole_ _) vr1 vr2 (szRst _ _ _ _) ?_
      exact hK.out _ _ (Ex.refl _) rfl
    apply Steps.oneE (MP.eq _) 2 rfl (by decide)
    · intro o ho FA x hO hD K hK
      obtain rfl := Option.some.inj ho.symm
      clear ho
      have e13 := hO 13 (by kernel_rfl)
      simp only [eval_tmp, List.getElem?_toArray, List.getElem?_cons_succ, List.getElem?_cons_zero, Option.getD_some] at e13
      have ev13 := Lib.hid ((eval_tmp FA 13).trans e13)
      clear hO hD
      go_simp
      exact hK.out _ _ (Ex.refl _) rfl
    apply Steps.oneE (MP.eq _) 3 rfl (by decide)
    · intro o ho FA x hO hD K hK
      obtain rfl := Option.some.inj ho.symm
      clear ho
      have e5 := hO 5 (by kernel_rfl)
      simp only [eval_tmp, List.getElem?_toArray, List.getElem?_cons_succ, List.getElem?_cons_zero, Option.getD_some] at e5
      have ev5 := Lib.hid ((eval_tmp FA 5).trans e5)
      clear hO hD
      go_simp
      exact hK.out _ _ (Ex.refl _) rfl
    apply Steps.oneE (MP.eq _) 4 rfl (by decide)
    · intro o ho FA x hO hD K hK
      obtain rfl := Option.some.inj ho.symm
      clear ho
      have ev52 : FA.eval (.tmp 52) = _ := hD 2 52 (by kernel_rfl)
      have e52 := (eval_tmp FA 52).symm.trans ev52
      replace ev52 := Lib.hid ev52
      clear hO hD
      refine wanted_if rfl ?_
      refine wp_ld1 65 (.tmp 52) rfl ev52.out (ba.later (below_plus _ _ _)) rfl Try.underlying65 rfl ?_
      exact hK.out _ _ (Ex.refl _) rfl
    apply Steps.oneE (MP.osw 3 1 w1.heap.size (itK (refT TT))) 5 rfl (by decide)
    · intro o ho FA x hO hD K hK
      obtain rfl := Option.some.inj ho.symm
      clear ho
      have ev51 : FA.eval (.tmp 51) = _ := hD 1 51 (by kernel_rfl)
      have e51 := (eval_tmp FA 51).symm.trans ev51
      replace ev51 := Lib.hid ev51
      have ev53 : FA.eval (.tmp 53) = _ := hD 3 53 (by kernel_rfl)
      have e53 := (eval_tmp FA 53).symm.trans ev53
      replace ev53 := Lib.hid ev53
      clear hO hD
      go_simp
      refine (HRN.out _ _ _ _ (HW.out _ (below_plus _ _ _)).2.1 (HW.out _ (below_plus _ _ _)).2.2).mono ?_
      rintro e w2 ⟨A7, n7, c7, bs7, d7, rfl, rfl, h7⟩
      exact hK.out _ _ (Ex.plus_ _ _ _) ⟨_, _, _, rfl, h7.mono (by simp [size_plus])⟩
    apply Steps.oneE (MP.rst (fun b => D b ∨ (w.heap.size ≤ b ∧ b < w.heap.size + 3)) ES (fun x => .tuple #[x, .int .i64 PV, .int .i64 PE])) 6 rfl (by decide)
    · intro o ho FA x hO hD K hK
      obtain rfl := Option.some.inj ho.symm
      clear ho
      have ev50 : FA.eval (.tmp 50) = _ := hD 0 50 (by kernel_rfl)
      have e50 := (eval_tmp FA 50).symm.trans ev50
      replace ev50 := Lib.hid ev50
      have f54 := hD 4 54 (by kernel_rfl)
      generalize eu54 : FA.eval (.tmp 54) = u54 at f54
      have e54 := (eval_tmp FA 54).symm.trans eu54
      have ev54 := Lib.hid eu54
      clear eu54
      clear hO hD
      obtain ⟨A7, n7, c7, rfl, h7⟩ := f54
      go_simp
      refine (HRP.out _ _ _ _ _ (hDs _ (by simp [size_plus]; omega)) (HW.out _ (below_plus _ _ _)).1 h7.rs (Off.own h7 (fun b hb => hDs _ (by omega) b hb))).mono ?_
      rintro e w2 ⟨A8, n8, c8, bs8, d8, rfl, rfl, h8⟩
      exact hK.out _ _ (Ex.plus_ _ _ _) ⟨_, _, _, rfl, h8⟩
    apply Steps.oneE (MP.rst (fun b => D b ∨ (w.heap.size ≤ b ∧ b < w.heap.size + 3)) ES (fun x => .tuple #[x, .int .i64 PV, .int .i64 PE])) 7 rfl (by decide)
    · intro o ho FA x hO hD K hK
      obtain rfl := Option.some.inj ho.symm
      clear ho
      have f55 := hD 5 55 (by kernel_rfl)
      generalize eu55 : FA.eval (.tmp 55) = u55 at f55
      have e55 := (eval_tmp FA 55).symm.trans eu55
      have ev55 := Lib.hid eu55
      clear eu55
      clear hO hD
      go_simp
      exact hK.out _ _ (Ex.refl _) f55
    apply Steps.oneE (MP.rst (fun b => D b ∨ (w.heap.size ≤ b ∧ b < w.heap.size + 3)) ES (fun x => x)) 8 rfl (by decide)
    · intro o ho FA x hO hD K hK
      obtain rfl := Option.some.inj ho.symm
      clear ho
      have f49 := hD 6 49 (by kernel_rfl)
      generalize eu49 : FA.eval (.tmp 49) = u49 at f49
      have e49 := (eval_tmp FA 49).symm.trans eu49
      have ev49 := Lib.hid eu49
      clear eu49
      clear hO hD
      obtain ⟨A7, n7, c7, rfl, h7⟩ := f49
      go_simp
      exact hK.out _ _ (Ex.refl _) ⟨_, _, _, rfl, h7⟩
    apply Steps.oneP (.int .i64 PV) 9 rfl (by decide)
    · intro o ho FA x hO hD
      obtain rfl := Option.some.inj ho.symm
      clear ho
      have f49 := hD 6 49 (by kernel_rfl)
      generalize eu49 : FA.eval (.tmp 49) = u49 at f49
      have e49 := (eval_tmp FA 49).symm.trans eu49
      have ev49 := Lib.hid eu49
      clear eu49
      clear hO hD
      obtain ⟨A7, n7, c7, rfl, h7⟩ := f49
      refine .inl ⟨by simp [Region.wanted], fun w => ?_⟩
      go_simp
    apply Steps.oneP (.int .i64 PE) 10 rfl (by decide)
    · intro o ho FA x hO hD
      obtain rfl := Option.some.inj ho.symm
      clear ho
      have f49 := hD 6 49 (by kernel_rfl)
      generalize eu49 : FA.eval (.tmp 49) = u49 at f49
      have e49 := (eval_tmp FA 49).symm.trans eu49
      have ev49 := Lib.hid eu49
      clear eu49
      clear hO hD
      obtain ⟨A7, n7, c7, rfl, h7⟩ := f49
      refine .inl ⟨by simp [Region.wanted], fun w => ?_⟩
      go_simp
    apply Steps.oneE (MP.blk w1.heap.size 64 (rstC none 0 0 stk0)) 11 rfl (by decide)
    · intro o ho FA x hO hD K hK
      obtain rfl := Option.some.inj ho.symm
      clear ho
      clear hO hD
      go_simp
      refine hK.out _ _ (Ex.alloc _ _) ⟨_, rfl, ?_, ?_⟩
      · simp [size_plus]
      · refine Bk.newK _ _ _ ?_ rfl
        simp [size_plus]
    refine Steps.fin_ (fun vs x hp => ?_)
    have p0 : vs 0 = _ := hp 0 (by omega)
    have p1 : vs 1 = _ := hp 1 (by omega)
    have p2 : vs 2 = _ := hp 2 (by omega)
    have p3 : vs 3 = _ := hp 3 (by omega)
    have p4 := hp 4 (by omega)
    have p5 := hp 5 (by omega)
    have p6 := hp 6 (by omega)
    have p7 := hp 7 (by omega)
    have p8 : vs 8 = _ := hp 8 (by omega)
    have p9 : vs 9 = _ := hp 9 (by omega)
    have p10 := hp 10 (by omega)
    clear hp
    simp only [List.take_succ_cons, List.take_zero, List.drop_succ_cons, List.drop_zero, putAll, Nat.zero_add, Nat.reduceAdd, Act.put, List.setIfInBounds_toArray, List.set_cons_zero, List.set_cons_succ, p0, p1, p2, p3, p8, p9]
    clear p0 p1 p2 p3 p8 p9
    generalize vs 4 = y4 at *
    generalize vs 5 = y5 at *
    generalize vs 6 = y6 at *
    generalize vs 7 = y7 at *
    generalize vs 10 = y10 at *
    clear vs
    obtain ⟨A9, n9, c9, rfl, hR9⟩ := p7
    obtain ⟨g16, rfl, zg16, b16⟩ := p10
    have hb8 := below_plus w1 x.bs x.d
    replace bs := bs.later hb8
    replace bz := bz.later hb8
    replace hS1 := hS1.later hb8
    replace hC := hC.trans (Chg.of_below hb8)
    have zw9 := hb8.size
    clear hb8 p5 p6 HW
    generalize plus w1 x.bs x.d = Z at *
    have b16z := b16
    refine wpList_stA (t := 64) 64 (.tmp 16) (.tmp 56) rfl rfl (rstC A9 n9 c9 ES) (rstC none 0 0 stk0) (by rw [rstC_len, rstC_len]) (rstC_one _ _ _ _) rfl rfl b16 (szRst _ _ _ _) ?_
    intro W6 h6 g6
    iterate 2 (refine wpList_plain rfl (fun K hK => ?_); go_simp; with_reducible refine hK _ _ ?_; clear hK K)
    replace b16 : Bk W6 g16 64 (rstC A9 n9 c9 ES) := h6
    replace bz := bz.grown g6 (fun e => by injection e with e; omega)
    replace hS1 := hS1.grown g6 (fun e => by injection e with e; omega)
    replace hR9 := hR9.noInt b16z (by
      intro u hu k z e
      subst e
      rcases List.mem_cons.1 hu with hu | hu
      · cases hu
      · rcases List.mem_append.1 hu with hu | hu <;> (obtain ⟨x, _, hx⟩ := List.mem_map.1 hu; cases hx)) g6
    replace hC := hC.fre g6 (by omega)
    clear g6 h6 b16z
    go_wp2
    go_wp2
    apply_assumption
    go_upto_region 9 with (fail)
    refine wp_region_lit ?_
    refine wpList_ldA (t := 64) 64 (.tmp 16) rfl rfl (rstC A9 n9 c9 ES) rfl (b16) (whole_ _) vr1 vr2 (szRst _ _ _ _) ?_
    iterate 4 (refine wpList_plain rfl (fun K hK => ?_); go_simp; with_reducible refine hK _ _ ?_; clear hK K)
    iterate 3 (refine wpList_step (fun K hK => ?_); go_simp; with_reducible refine hK _ _ ?_; clear hK K)
    refine wpList_plain rfl (fun K hK => ?_); go_simp; with_reducible refine hK _ _ ?_; clear hK K
    refine wpList_stA (t := 64) 64 (.tmp 6) (.tmp 59) rfl rfl (rstC A9 n9 c9 ES) (rstC none 0 0 stk0) (by rw [rstC_len, rstC_len]) (rstC_one _ _ _ _) rfl rfl bz (szRst _ _ _ _) ?_
    intro W9 h9 g9
    refine wpList_plain rfl (fun K hK => ?_); go_simp; with_reducible refine hK _ _ ?_; clear hK K
    go_wp2
    refine bodyPost_agg2 Try.results17 rfl rfl h9.range vr1 vr2 (szRst _ _ _ _) rfl ⟨A9, n9, c9, by simp, hS1.grown g9 (fun e => by injection e with e; omega), ?_, hC.fre g9 (by omega)⟩
    exact (hR9.chg (Chg.one g9 (Or.inr ⟨by omega, by omega⟩))).more (fun b hb => .inl (.inl hb))
/-- what an act does -/
def actS (S : Stk) (kd m : Int) (l : List Int) : Stk := if kd = 1 then retS S m else if kd = 2 then rlsS S m else if kd = 3 then eviS S m else if kd = 4 then admS S m else pushS S (tNext (newT S) l)
theorem actS_ok {S : Stk} (h : StkOk S) (kd m : Int) (l : List Int) : StkOk (actS S kd m l) := by
  unfold actS
  split
  · exact h.ret m
  · split
    · exact h.rls m
    · split
      · exact h.evi m
      · split
        · exact h.adm m
        · exact h.push (tNext_ok _ (newT_ok h) l)
theorem does_any (S : Stk) (hok : StkOk S) (g : Nat) (A : Option Addr) (n c : Nat) (kd m : Int) (B : Option Addr) (k d : Nat) (l : List Int) (w : World) (hm : m ≤ 9223372036854775807) (hS : Bk w g 59 (stkC S)) {D : Nat → Prop} (hDg : D g) (hDw : ∀ b, D b → b < w.heap.size) (hR : RSt D w S.lv A n c) (hl : ∀ W, Chg (fun b => b = g) w W → Rs 1 W B k d (itK l)) (hk : k ≤ 1000) : Calls Try.prog 17 #[.pointer (some ⟨g, 0, none⟩), .agg (rstC A n c S).toArray, .agg (acC kd m B k d).toArray] w (RetDo D w g (actS S kd m l)) := by
  unfold actS
  by_cases h1 : kd = 1
  · rw [if_pos h1]; subst h1; exact does_1 S hok g A n c m B k d w hm hS hDg hDw hR
  rw [if_neg h1]
  by_cases h2 : kd = 2
  · rw [if_pos h2]; subst h2; exact does_2 S hok g A n c m B k d w hm hS hDg hDw hR
  rw [if_neg h2]
  by_cases h3 : kd = 3
  · rw [if_pos h3]; subst h3; exact does_3 S hok g A n c m B k d w hm hS hDg hDw hR
  rw [if_neg h3]
  by_cases h4 : kd = 4
  · rw [if_pos h4]; subst h4; exact does_4 S hok g A n c m B k d w hm hS hDg hDw hR
  rw [if_neg h4]
  exact does_0 S hok g A n c kd m B k d l w (by simpa using h1) (by simpa using h2) (by simpa using h3) (by simpa using h4) hS hDg hDw hR hl hk
end Go.Proofs.Ytepodflinhpejaa

/- StackFinds' walk (chapter 15). -/
namespace Go.Proofs.Ytepodflinhpejaa
open Go.RowKit
set_option linter.unusedVariables false
set_option linter.unusedSimpArgs false
attribute [local go_sem ↓] sliced_cut

attribute [local go_sem] cutA_zero

/-- an act that came in -/
structure AcX where
  kd : Int
  m : Int
  l : List Int
  B : Option Addr
  k : Nat
  d : Nat
instance : Inhabited AcX := ⟨⟨0, 0, [], none, 0, 0⟩⟩
def AcX.cs (x : AcX) : List Value := acC x.kd x.m x.B x.k x.d
theorem AcX.cs_len (x : AcX) : x.cs.length = 3 := rfl
def AcX.ok (W : World) (x : AcX) : Prop := x.m ≤ 9223372036854775807 ∧ Rs 1 W x.B x.k x.d (itK x.l) ∧ x.d ≤ maxLen
def ST1 (w : World) (g gr : Nat) (S : Stk) (A : Option Addr) (n c : Nat) : Prop := Bk w g 59 (stkC S) ∧ Bk w gr 64 (rstC A n c S) ∧ RSt (fun b => b = g ∨ b = gr) w S.lv A n c
def ST2 (w : World) (g gr : Nat) (ES S : Stk) (A : Option Addr) (n c : Nat) : Prop := Bk w g 59 (stkC ES) ∧ Bk w gr 64 (rstC A n c S)
def ST3 (w : World) (g gr : Nat) (ES : Stk) : Prop := Bk w g 59 (stkC ES) ∧ ∃ A n c, Bk w gr 64 (rstC A n c ES) ∧ RSt (fun b => b = g ∨ b = gr) w ES.lv A n c
theorem st_later (g gr : Nat) (S ES : Stk) (A : Option Addr) (n c : Nat) : ∀ (k : Nat) (w w' : World), (match k with | 0 => ST1 w g gr S A n c | 1 => ST1 w g gr S A n c | 2 => ST2 w g gr ES S A n c | _ => ST3 w g gr ES) → Ex w w' → (match k with | 0 => ST1 w' g gr S A n c | 1 => ST1 w' g gr S A n c | 2 => ST2 w' g gr ES S A n c | _ => ST3 w' g gr ES)
  | 0, _, _, ⟨h1, h2, h3⟩, h => ⟨h1.later h.below, h2.later h.below, h3.later h.below⟩
  | 1, _, _, ⟨h1, h2, h3⟩, h => ⟨h1.later h.below, h2.later h.below, h3.later h.below⟩
  | 2, _, _, ⟨h1, h2⟩, h => ⟨h1.later h.below, h2.later h.below⟩
  | _ + 3, _, _, ⟨h1, A, n, c, h2, h3⟩, h => ⟨h1.later h.below, A, n, c, h2.later h.below, h3.later h.below⟩
/-- a stack of the reference as a value -/
def MC.rst {D : Nat → Prop} (S : Stk) (G : Value → Value) : MC D := ⟨fun v w => ∃ A n c, v = G (.agg (rstC A n c S).toArray) ∧ RSt D w S.lv A n c, fun _ _ _ ⟨A, n, c, h1, h2⟩ h => ⟨A, n, c, h1, h2.chg h⟩⟩
set_option maxHeartbeats 4000000 in
set_option maxRecDepth 100000 in
theorem stackFinds_walk (L : List AcX) (Aa : Option Addr) (na ca : Nat) (ver slot : Int) (w : World) (hL : Rs 3 w Aa na ca (L.flatMap AcX.cs)) (hok : ∀ x ∈ L, x.ok w) (hna : na ≤ 9223372036854775807) : Calls Try.prog 4 #[.slice Aa na ca, .int .i64 ver, .int .i64 slot] w (RetV w (.bool true)) := by
  obtain ⟨dvr1, vr1, vr2⟩ := rowRst
  obtain ⟨dva1, va1, va2⟩ := rowAc
  have hbd : ∀ w, (Instr.build 59 #[]).run Try.prog w = .ok (.agg (stkC stk0).toArray) w := fun _ => by kernel_rfl
  have hbr : ∀ w, (Instr.build 64 #[]).run Try.prog w = .ok (.agg (rstC none 0 0 stk0).toArray) w := fun _ => by kernel_rfl
  have hzv : ∀ w, (zeroValue 64).run Try.prog w = .ok (.agg (rstC none 0 0 stk0).toArray) w := fun _ => by kernel_rfl
  have hLn : L.length = na := by have := hL.1; rw [flat_len AcX.cs 3 AcX.cs_len] at this; omega
  go_enter Try.func4, Try.ntmps4
  go_upto_region 3 with (go_at_call 16; refine (awake15 _).mono ?_; rintro e w1 ⟨bs3, d3, rfl, rfl⟩)
  have be := below_plus w bs3 d3
  generalize plus w bs3 d3 = V at *
  have zg : w.heap.size ≤ V.heap.size := be.size
  refine wp_region_lit ?_
  refine wpList_build 59 [] rfl rfl (.agg (stkC stk0).toArray) ?_ ?_
  · exact hbd _
  iterate 2 (refine wpList_plain rfl (fun K hK => ?_); go_simp; with_reducible refine hK _ _ ?_; clear hK K)
  have hS : Bk (V.alloc (.cells (stkC stk0).toArray 59)) V.heap.size 59 (stkC stk0) := Bk.new V 59 (stkC stk0).toArray
  replace be := be.alloc be.size (.cells (stkC stk0).toArray 59)
  have zg2 : V.heap.size < (V.alloc (.cells (stkC stk0).toArray 59)).heap.size := hS.lt
  generalize V.alloc (.cells (stkC stk0).toArray 59) = V2 at *
  generalize V.heap.size = g at *
  go_upto_region 4 with (fail)
  refine wp_region_lit ?_
  refine wpList_build 64 [] rfl rfl (.agg (rstC none 0 0 stk0).toArray) ?_ ?_
  · exact hbr _
  refine wpList_plain rfl (fun K hK => ?_); go_simp; with_reducible refine hK _ _ ?_; clear hK K
  refine wpList_stA (t := 64) 64 (.tmp 8) (.tmp 23) rfl rfl (rstC none 0 0 stk0) (rstC none 0 0 stk0) rfl (rstC_one _ _ _ _) rfl rfl (Bk.new _ _ _) (szRst _ _ _ _) ?_
  intro W4 h4 g4
  simp only [Act.put, List.setIfInBounds_toArray, List.set_cons_zero, List.set_cons_succ]
  have b4 : Below V2.heap.size V2 W4 := below_grown (Below.allocS (Below.refl _ _) _) g4 (Nat.le_refl _)
  have bs : Bk W4 V2.heap.size 64 (rstC none 0 0 stk0) := h4
  replace hS := hS.later b4
  replace be := be.trans (b4.mono be.size)
  have hgr : g ≠ V2.heap.size := by omega
  have zgr : w.heap.size ≤ V2.heap.size := by omega
  clear b4 h4 g4 zg2
  generalize V2.heap.size = gr at *
  have hR : RSt (fun b => b = g ∨ b = gr) W4 stk0.lv none 0 0 := RSt.nil_
  go_upto_region 6 with (fail)
  go_loopw [9] (fun I wr => ∃ (i : Nat) (S : Stk) (A : Option Addr) (n c : Nat), I = .int .i64 (i : Int) ∧ i ≤ na ∧ i ≤ 40 ∧ StkOk S ∧ Bk wr g 59 (stkC S) ∧ Bk wr gr 64 (rstC A n c S) ∧ RSt (fun b => b = g ∨ b = gr) wr S.lv A n c ∧ Below w.heap.size w wr) (fun I _ => na - (intOf I).toNat)
  case atStart => exact ⟨0, stk0, none, 0, 0, rfl, Nat.zero_le _, Nat.zero_le _, StkOk.empty, hS, bs, hR, be⟩
  case round =>
    clear hS bs hR be hbd hbr hzv
    obtain ⟨i, S, A, n, c, rfl, hi, hi40, hSok, hS, bs, hR, be⟩ := hrel
    by_cases hlt : i < na ∧ i < 40
    · obtain ⟨hlt, h40⟩ := hlt
      have ii : (i : Int) < (na : Int) := by omega
      have i40 : (i : Int) < 40 := by omega
      have hiL : i < L.length := by omega
      have hxo := hok L[i] (List.getElem_mem hiL)
      obtain ⟨bl, ol, rfl, -, -⟩ := hL.at_ (by omega) (by decide)
      have HG := Lib.hid (fun W (h : Below w.heap.size w W) => Rs.rangeE AcX.cs_len (hL.later h) i hiL)
      generalize L[i] = x at *
      obtain ⟨kd, m, l, B, k, d⟩ := x
      obtain ⟨hm, hl, hd⟩ := hxo
      simp only [AcX.cs] at HG
      simp only [] at hm hl hd
      have hq := HG.out wr be
      have q2 : wr.cell? ⟨bl, ol + i * 3 + 2, none⟩ = some (.slice B k d) := hq 2 _ rfl
      clear hq
      by_cases h100 : 100 < k
      · have i100 : (100 : Int) < (k : Int) := by omega
        go_wp2_with (go_at_call 16; refine (awake15 _).mono ?_; rintro e w1 ⟨bs3, d3, rfl, rfl⟩)
        go_ret
        exact RetV.is_ rfl (belowP be bs3 d3)
      · have i100 : ¬ (100 : Int) < (k : Int) := by omega
        go_upto_region 10 with (fail)
        clear q2
        have zw1 := hS.lt
        have zw2 := bs.lt
        have HC := Lib.hid (fun W (h : Chg (fun b => b = g ∨ b = gr) wr W) => show Rs 1 W B k d (itK l) ∧ W.rangeAt bl (ol + i * 3) (acC kd m B k d) from by
          have hb := be.trans (h.below (B := w.heap.size) (fun b hb => by rcases hb with rfl | rfl <;> omega) be.size)
          exact ⟨hl.later hb, HG.out W hb⟩)
        have HDO := Lib.hid (fun W (hz : wr.heap.size ≤ W.heap.size) (h1 : Bk W g 59 (stkC S)) (h2 : RSt (fun b => b = g ∨ b = gr) W S.lv A n c) (h3 : ∀ W', Chg (fun b => b = g) W W' → Rs 1 W' B k d (itK l)) => does_any S hSok g A n c kd m B k d l W hm h1 (D := fun b => b = g ∨ b = gr) (Or.inl rfl) (fun b hb => by rcases hb with rfl | rfl <;> omega) h2 h3 (by omega))
        have hES := actS_ok hSok kd m l
        generalize hEE : actS S kd m l = ES at *
        refine wp_suS (fun b => b = g ∨ b = gr) 11 103 2 [1, 6, 10] rfl (by kernel_rfl) (by kernel_rfl) (fun k w' => match k with | 0 => ST1 w' g gr S A n c | 1 => ST1 w' g gr S A n c | 2 => ST2 w' g gr ES S A n c | _ => ST3 w' g gr ES) (st_later g gr S ES A n c) (⟨hS, bs, hR⟩) ?_
        apply StepsC.one (MC.eq _) 1 rfl (by decide)
        · intro o ho FA w' hC hO hD K hK
          obtain rfl := Option.some.inj ho.symm
          clear ho
          have e7 := hO 7 (by kernel_rfl)
          simp only [eval_tmp, List.getElem?_toArray, List.getElem?_cons_succ, List.getElem?_cons_zero, Option.getD_some] at e7
          have ev7 := Lib.hid ((eval_tmp FA 7).trans e7)
          clear hO hD
          go_simp
          exact hK.out _ _ (Ex.refl _) rfl
        apply StepsC.mov (MC.eq (.agg (rstC A n c S).toArray)) 2 0 rfl rfl rfl
        · intro o ho FA w' hC hO hD hS K hK
          obtain rfl := Option.some.inj ho.symm
          clear ho
          have e8 := hO 8 (by kernel_rfl)
          simp only [eval_tmp, List.getElem?_toArray, List.getElem?_cons_succ, List.getElem?_cons_zero, Option.getD_some] at e8
          have ev8 := Lib.hid ((eval_tmp FA 8).trans e8)
          clear hO hD
          refine wanted_if rfl ?_
          refine wp_ldA 64 (.tmp 8) rfl (rstC A n c S) ev8.out hS.2.1 (whole_ _) vr1 vr2 (szRst _ _ _ _) ?_
          exact hK.out _ _ (Chg.refl _) hS rfl
        apply StepsC.one (MC.eq _) 3 rfl (by decide)
        · intro o ho FA w' hC hO hD K hK
          obtain rfl := Option.some.inj ho.symm
          clear ho
          have e0 := hO 0 (by kernel_rfl)
          simp only [eval_tmp, List.getElem?_toArray, List.getElem?_cons_succ, List.getElem?_cons_zero, Option.getD_some] at e0
          have ev0 := Lib.hid ((eval_tmp FA 0).trans e0)
          clear hO hD
          go_simp
          exact hK.out _ _ (Ex.refl _) rfl
        apply StepsC.one (MC.eq _) 4 rfl (by decide)
        · intro o ho FA w' hC hO hD K hK
          obtain rfl := Option.some.inj ho.symm
          clear ho
          have e9 := hO 9 (by kernel_rfl)
          simp only [eval_tmp, List.getElem?_toArray, List.getElem?_cons_succ, List.getElem?_cons_zero, Option.getD_some] at e9
          have ev9 := Lib.hid ((eval_tmp FA 9).trans e9)
          clear hO hD
          go_simp
          exact hK.out _ _ (Ex.refl _) rfl
        apply StepsC.one (MC.eq _) 5 rfl (by decide)
        · intro o ho FA w' hC hO hD K hK
          obtain rfl := Option.some.inj ho.symm
          clear ho
          have ev45 : FA.eval (.tmp 45) = _ := hD 2 45 (by kernel_rfl)
          have e45 := (eval_tmp FA 45).symm.trans ev45
          replace ev45 := Lib.hid ev45
          have ev46 : FA.eval (.tmp 46) = _ := hD 3 46 (by kernel_rfl)
          have e46 := (eval_tmp FA 46).symm.trans ev46
          replace ev46 := Lib.hid ev46
          clear hO hD
          go_simp
          exact hK.out _ _ (Ex.refl _) rfl
        apply StepsC.one (MC.eq _) 6 rfl (by decide)
        · intro o ho FA w' hC hO hD K hK
          obtain rfl := Option.some.inj ho.symm
          clear ho
          have ev47 : FA.eval (.tmp 47) = _ := hD 4 47 (by kernel_rfl)
          have e47 := (eval_tmp FA 47).symm.trans ev47
          replace ev47 := Lib.hid ev47
          clear hO hD
          refine wanted_if rfl ?_
          refine wp_load_mid 67 (.tmp 47) rfl bl (ol + i * 3) ev47.out (acC kd m B k d) _ (HC.out w' hC).2 va1 va2 (szAc _ _ _ _ _) ?_
          exact hK.out _ _ (Ex.refl _) rfl
        apply StepsC.mov (MC.rst ES (fun x => .tuple #[x, .bool true])) 7 1 rfl rfl rfl
        · intro o ho FA w' hC hO hD hS K hK
          obtain rfl := Option.some.inj ho.symm
          clear ho
          have ev43 : FA.eval (.tmp 43) = _ := hD 0 43 (by kernel_rfl)
          have e43 := (eval_tmp FA 43).symm.trans ev43
          replace ev43 := Lib.hid ev43
          have ev44 : FA.eval (.tmp 44) = _ := hD 1 44 (by kernel_rfl)
          have e44 := (eval_tmp FA 44).symm.trans ev44
          replace ev44 := Lib.hid ev44
          have ev48 : FA.eval (.tmp 48) = _ := hD 5 48 (by kernel_rfl)
          have e48 := (eval_tmp FA 48).symm.trans ev48
          replace ev48 := Lib.hid ev48
          clear hO hD
          go_simp
          refine (HDO.out w' hC.size hS.1 hS.2.2 (fun W hc => (HC.out W (hC.trans (hc.wid (fun b hb => Or.inl hb)))).1)).mono ?_
          rintro e w2 ⟨A9, n9, c9, rfl, hS9, hR9, hc9⟩
          exact hK.out _ _ (hc9.wid (fun b hb => Or.inl hb)) ⟨hS9, hS.2.1.chg hc9 (fun e => hgr e.symm)⟩ ⟨_, _, _, rfl, hR9⟩
        apply StepsC.one (MC.rst ES (fun x => .tuple #[x, .bool true])) 8 rfl (by decide)
        · intro o ho FA w' hC hO hD K hK
          obtain rfl := Option.some.inj ho.symm
          clear ho
          have f49 := hD 6 49 (by kernel_rfl)
          generalize eu49 : FA.eval (.tmp 49) = u49 at f49
          have e49 := (eval_tmp FA 49).symm.trans eu49
          have ev49 := Lib.hid eu49
          clear eu49
          clear hO hD
          go_simp
          exact hK.out _ _ (Ex.refl _) f49
        apply StepsC.one (MC.rst ES (fun x => x)) 9 rfl (by decide)
        · intro o ho FA w' hC hO hD K hK
          obtain rfl := Option.some.inj ho.symm
          clear ho
          have f42 := hD 7 42 (by kernel_rfl)
          generalize eu42 : FA.eval (.tmp 42) = u42 at f42
          have e42 := (eval_tmp FA 42).symm.trans eu42
          have ev42 := Lib.hid eu42
          clear eu42
          clear hO hD
          obtain ⟨A7, n7, c7, rfl, h7⟩ := f42
          go_simp
          exact hK.out _ _ (Ex.refl _) ⟨_, _, _, rfl, h7⟩
        apply StepsC.one (MC.eq (.bool true)) 10 rfl (by decide)
        · intro o ho FA w' hC hO hD K hK
          obtain rfl := Option.some.inj ho.symm
          clear ho
          have f42 := hD 7 42 (by kernel_rfl)
          generalize eu42 : FA.eval (.tmp 42) = u42 at f42
          have e42 := (eval_tmp FA 42).symm.trans eu42
          have ev42 := Lib.hid eu42
          clear eu42
          clear hO hD
          obtain ⟨A7, n7, c7, rfl, h7⟩ := f42
          go_simp
          exact hK.out _ _ (Ex.refl _) rfl
        apply StepsC.mov (MC.any) 11 2 rfl rfl rfl
        · intro o ho FA w' hC hO hD hS K hK
          obtain rfl := Option.some.inj ho.symm
          clear ho
          have e8 := hO 8 (by kernel_rfl)
          simp only [eval_tmp, List.getElem?_toArray, List.getElem?_cons_succ, List.getElem?_cons_zero, Option.getD_some] at e8
          have ev8 := Lib.hid ((eval_tmp FA 8).trans e8)
          have f50 := hD 8 50 (by kernel_rfl)
          generalize eu50 : FA.eval (.tmp 50) = u50 at f50
          have e50 := (eval_tmp FA 50).symm.trans eu50
          have ev50 := Lib.hid eu50
          clear eu50
          clear hO hD
          obtain ⟨A7, n7, c7, hv7, h7⟩ := f50
          refine wanted_if rfl ?_
          refine wp_stA 64 (.tmp 8) (.tmp 50) rfl (rstC A7 n7 c7 ES) (rstC A n c S) (by rw [rstC_len, rstC_len]) (rstC_one _ _ _ _) ev8.out (ev50.out.trans hv7) hS.2 (szRst _ _ _ _) ?_
          intro w'' hn hg
          exact hK.out undef _ (Chg.one hg (Or.inr rfl)) ⟨hS.1.grown hg (fun e => hgr (by injection e with e; exact e.symm)), A7, n7, c7, hn, h7.chg (Chg.one hg (Or.inr rfl))⟩ trivial
        refine StepsC.fin_ (fun vs w' hC hS hp => ?_)
        have p0 : vs 0 = _ := hp 0 (by omega) rfl
        have p1 : vs 1 = _ := hp 1 (by omega) rfl
        have p2 : vs 2 = _ := hp 2 (by omega) rfl
        have p3 : vs 3 = _ := hp 3 (by omega) rfl
        have p4 : vs 4 = _ := hp 4 (by omega) rfl
        have p5 : vs 5 = _ := hp 5 (by omega) rfl
        have p6 := hp 6 (by omega) rfl
        have p7 := hp 7 (by omega) rfl
        have p8 := hp 8 (by omega) rfl
        have p9 : vs 9 = _ := hp 9 (by omega) rfl
        clear hp
        simp only [List.take_succ_cons, List.take_zero, List.drop_succ_cons, List.drop_zero, putAll, Nat.zero_add, Nat.reduceAdd, Act.put, List.setIfInBounds_toArray, List.set_cons_zero, List.set_cons_succ, p0, p1, p2, p3, p4, p5, p9]
        clear p0 p1 p2 p3 p4 p5 p9
        generalize vs 6 = y6 at *
        generalize vs 7 = y7 at *
        generalize vs 8 = y8 at *
        clear vs
        obtain ⟨hS9, A9, n9, c9, bs9, hR9⟩ := hS
        have be9 := be.trans (hC.below (B := w.heap.size) (fun b hb => by rcases hb with rfl | rfl <;> omega) be.size)
        clear HC HDO HG
        go_wp2
        exact ⟨⟨i + 1, ES, A9, n9, c9, by go_num, by omega, by omega, hES, hS9, bs9, hR9, be9⟩, by simp [intOf]; omega⟩
    · by_cases hin : i < na
      · have ii : (i : Int) < (na : Int) := by omega
        have i40 : ¬ (i : Int) < 40 := by omega
        go_upto_region 12 with (fail)
        clear hi hi40 hlt
        have HF := Lib.hid (fun W v h => stkFind_any S hSok g v slot W h)
        have HRF := Lib.hid (fun W v h => refFind_any S hSok A n c v slot W (D := fun b => b = g ∨ b = gr) h)
        have hS0 := Lib.hid (show ST1 wr g gr S A n c from ⟨hS, bs, hR⟩)
        have hE0 := Lib.hid be
        have bv := Below.refl wr.heap.size wr
        clear hS bs hR be
        go_loopw [10] (fun I w2 => ∃ v : Nat, I = .int .i64 (v : Int) ∧ v ≤ 8 ∧ Below wr.heap.size wr w2) (fun I _ => 8 - (intOf I).toNat)
        case atStart => exact ⟨0, rfl, Nat.zero_le _, bv⟩
        case round w2 =>
          clear bv
          obtain ⟨v, rfl, hv, bv⟩ := hrel
          have hS := hS0.out.1.later bv
          have bs := hS0.out.2.1.later bv
          have hR := hS0.out.2.2.later bv
          by_cases hv8 : v < 8
          · have iv : (v : Int) < 8 := by omega
            have be := bv
            go_upto_region 14 with (fail)
            refine wp_region_lit ?_
            iterate 3 (refine wpList_plain rfl (fun K hK => ?_); go_simp; with_reducible refine hK _ _ ?_; clear hK K)
            refine wpList_plain rfl (fun K hK => ?_)
            go_simp
            refine (HF.out _ (v : Int) hS).mono ?_
            rintro e w1 ⟨bs5, d5, rfl, rfl⟩
            with_reducible refine hK _ _ ?_
            clear hK K
            have hb5 := below_plus wr bs5 d5
            replace hS := hS.later hb5
            replace bs := bs.later hb5
            replace hR := hR.later hb5
            replace be := be.trans (hb5.mono be.size)
            clear hb5
            generalize plus wr bs5 d5 = W6 at *
            iterate 5 (refine wpList_plain rfl (fun K hK => ?_); go_simp; with_reducible refine hK _ _ ?_; clear hK K)
            go_upto_region 15 with (fail)
            refine wp_region_lit ?_
            refine wpList_ldA (t := 64) 64 (.tmp 8) rfl rfl (rstC A n c S) rfl (bs) (whole_ _) vr1 vr2 (szRst _ _ _ _) ?_
            iterate 2 (refine wpList_plain rfl (fun K hK => ?_); go_simp; with_reducible refine hK _ _ ?_; clear hK K)
            refine wpList_plain rfl (fun K hK => ?_)
            go_simp
            refine (HRF.out _ (v : Int) hR).mono ?_
            rintro e w1 ⟨bs7, d7, rfl, rfl⟩
            with_reducible refine hK _ _ ?_
            clear hK K
            have hb7 := below_plus W6 bs7 d7
            replace hS := hS.later hb7
            replace bs := bs.later hb7
            replace hR := hR.later hb7
            replace be := be.trans (hb7.mono be.size)
            clear hb7
            generalize plus W6 bs7 d7 = W8 at *
            iterate 5 (refine wpList_plain rfl (fun K hK => ?_); go_simp; with_reducible refine hK _ _ ?_; clear hK K)
            go_wp2
            exact ⟨⟨v + 1, by go_num, by omega, be⟩, by simp [intOf]; omega⟩
          · have iv : ¬ (v : Int) < 8 := by omega
            have be := hE0.out.trans (bv.mono hE0.out.size)
            go_upto_region 18 with (fail)
            refine wp_region_lit ?_
            iterate 3 (refine wpList_plain rfl (fun K hK => ?_); go_simp; with_reducible refine hK _ _ ?_; clear hK K)
            refine wpList_plain rfl (fun K hK => ?_)
            go_simp
            refine (HF.out _ ver hS).mono ?_
            rintro e w1 ⟨bs5, d5, rfl, rfl⟩
            with_reducible refine hK _ _ ?_
            clear hK K
            have hb5 := below_plus wr bs5 d5
            replace hS := hS.later hb5
            replace bs := bs.later hb5
            replace hR := hR.later hb5
            replace be := be.trans (hb5.mono be.size)
            clear hb5
            generalize plus wr bs5 d5 = W6 at *
            iterate 5 (refine wpList_plain rfl (fun K hK => ?_); go_simp; with_reducible refine hK _ _ ?_; clear hK K)
            go_upto_region 19 with (fail)
            refine wp_region_lit ?_
            refine wpList_ldA (t := 64) 64 (.tmp 8) rfl rfl (rstC A n c S) rfl (bs) (whole_ _) vr1 vr2 (szRst _ _ _ _) ?_
            iterate 2 (refine wpList_plain rfl (fun K hK => ?_); go_simp; with_reducible refine hK _ _ ?_; clear hK K)
            refine wpList_plain rfl (fun K hK => ?_)
            go_simp
            refine (HRF.out _ ver hR).mono ?_
            rintro e w1 ⟨bs7, d7, rfl, rfl⟩
            with_reducible refine hK _ _ ?_
            clear hK K
            have hb7 := below_plus W6 bs7 d7
            replace hS := hS.later hb7
            replace bs := bs.later hb7
            replace hR := hR.later hb7
            replace be := be.trans (hb7.mono be.size)
            clear hb7
            generalize plus W6 bs7 d7 = W8 at *
            iterate 5 (refine wpList_plain rfl (fun K hK => ?_); go_simp; with_reducible refine hK _ _ ?_; clear hK K)
            go_wp2_with (go_at_call 16; refine (awake15 _).mono ?_; rintro e w1 ⟨bs3, d3, rfl, rfl⟩)
            go_ret
            exact RetV.is_ rfl (belowP be bs3 d3)
      · have ii : ¬ (i : Int) < (na : Int) := by omega
        go_upto_region 12 with (fail)
        clear hi hi40 hlt
        have HF := Lib.hid (fun W v h => stkFind_any S hSok g v slot W h)
        have HRF := Lib.hid (fun W v h => refFind_any S hSok A n c v slot W (D := fun b => b = g ∨ b = gr) h)
        have hS0 := Lib.hid (show ST1 wr g gr S A n c from ⟨hS, bs, hR⟩)
        have hE0 := Lib.hid be
        have bv := Below.refl wr.heap.size wr
        clear hS bs hR be
        go_loopw [10] (fun I w2 => ∃ v : Nat, I = .int .i64 (v : Int) ∧ v ≤ 8 ∧ Below wr.heap.size wr w2) (fun I _ => 8 - (intOf I).toNat)
        case atStart => exact ⟨0, rfl, Nat.zero_le _, bv⟩
        case round w2 =>
          clear bv
          obtain ⟨v, rfl, hv, bv⟩ := hrel
          have hS := hS0.out.1.later bv
          have bs := hS0.out.2.1.later bv
          have hR := hS0.out.2.2.later bv
          by_cases hv8 : v < 8
          · have iv : (v : Int) < 8 := by omega
            have be := bv
            go_upto_region 14 with (fail)
            refine wp_region_lit ?_
            iterate 3 (refine wpList_plain rfl (fun K hK => ?_); go_simp; with_reducible refine hK _ _ ?_; clear hK K)
            refine wpList_plain rfl (fun K hK => ?_)
            go_simp
            refine (HF.out _ (v : Int) hS).mono ?_
            rintro e w1 ⟨bs5, d5, rfl, rfl⟩
            with_reducible refine hK _ _ ?_
            clear hK K
            have hb5 := below_plus wr bs5 d5
            replace hS := hS.later hb5
            replace bs := bs.later hb5
            replace hR := hR.later hb5
            replace be := be.trans (hb5.mono be.size)
            clear hb5
            generalize plus wr bs5 d5 = W6 at *
            iterate 5 (refine wpList_plain rfl (fun K hK => ?_); go_simp; with_reducible refine hK _ _ ?_; clear hK K)
            go_upto_region 15 with (fail)
            refine wp_region_lit ?_
            refine wpList_ldA (t := 64) 64 (.tmp 8) rfl rfl (rstC A n c S) rfl (bs) (whole_ _) vr1 vr2 (szRst _ _ _ _) ?_
            iterate 2 (refine wpList_plain rfl (fun K hK => ?_); go_simp; with_reducible refine hK _ _ ?_; clear hK K)
            refine wpList_plain rfl (fun K hK => ?_)
            go_simp
            refine (HRF.out _ (v : Int) hR).mono ?_
            rintro e w1 ⟨bs7, d7, rfl, rfl⟩
            with_reducible refine hK _ _ ?_
            clear hK K
            have hb7 := below_plus W6 bs7 d7
            replace hS := hS.later hb7
            replace bs := bs.later hb7
            replace hR := hR.later hb7
            replace be := be.trans (hb7.mono be.size)
            clear hb7
            generalize plus W6 bs7 d7 = W8 at *
            iterate 5 (refine wpList_plain rfl (fun K hK => ?_); go_simp; with_reducible refine hK _ _ ?_; clear hK K)
            go_wp2
            exact ⟨⟨v + 1, by go_num, by omega, be⟩, by simp [intOf]; omega⟩
          · have iv : ¬ (v : Int) < 8 := by omega
            have be := hE0.out.trans (bv.mono hE0.out.size)
            go_upto_region 18 with (fail)
            refine wp_region_lit ?_
            iterate 3 (refine wpList_plain rfl (fun K hK => ?_); go_simp; with_reducible refine hK _ _ ?_; clear hK K)
            refine wpList_plain rfl (fun K hK => ?_)
            go_simp
            refine (HF.out _ ver hS).mono ?_
            rintro e w1 ⟨bs5, d5, rfl, rfl⟩
            with_reducible refine hK _ _ ?_
            clear hK K
            have hb5 := below_plus wr bs5 d5
            replace hS := hS.later hb5
            replace bs := bs.later hb5
            replace hR := hR.later hb5
            replace be := be.trans (hb5.mono be.size)
            clear hb5
            generalize plus wr bs5 d5 = W6 at *
            iterate 5 (refine wpList_plain rfl (fun K hK => ?_); go_simp; with_reducible refine hK _ _ ?_; clear hK K)
            go_upto_region 19 with (fail)
            refine wp_region_lit ?_
            refine wpList_ldA (t := 64) 64 (.tmp 8) rfl rfl (rstC A n c S) rfl (bs) (whole_ _) vr1 vr2 (szRst _ _ _ _) ?_
            iterate 2 (refine wpList_plain rfl (fun K hK => ?_); go_simp; with_reducible refine hK _ _ ?_; clear hK K)
            refine wpList_plain rfl (fun K hK => ?_)
            go_simp
            refine (HRF.out _ ver hR).mono ?_
            rintro e w1 ⟨bs7, d7, rfl, rfl⟩
            with_reducible refine hK _ _ ?_
            clear hK K
            have hb7 := below_plus W6 bs7 d7
            replace hS := hS.later hb7
            replace bs := bs.later hb7
            replace hR := hR.later hb7
            replace be := be.trans (hb7.mono be.size)
            clear hb7
            generalize plus W6 bs7 d7 = W8 at *
            iterate 5 (refine wpList_plain rfl (fun K hK => ?_); go_simp; with_reducible refine hK _ _ ?_; clear hK K)
            go_wp2_with (go_at_call 16; refine (awake15 _).mono ?_; rintro e w1 ⟨bs3, d3, rfl, rfl⟩)
            go_ret
            exact RetV.is_ rfl (belowP be bs3 d3)
end Go.Proofs.Ytepodflinhpejaa

/- Addresses that came in; lists of a known length. -/
namespace Go.Proofs.Ytepodflinhpejaa
open Go.RowKit Go.ChangeShapes Go.WideShapes
set_option linter.unusedVariables false

theorem listN3 {α : Type} {l : List α} (h : l.length = 3) : ∃ a0 a1 a2, l = [a0, a1, a2] := by
  match l, h with
  | [a0, a1, a2], _ => exact ⟨a0, a1, a2, rfl⟩
end Go.Proofs.Ytepodflinhpejaa

/- Slices of structs of any kind that came in. -/
namespace Go.Proofs.Ytepodflinhpejaa
open Go.RowKit Go.ChangeShapes Go.WideShapes Go.Deep
set_option linter.unusedVariables false
set_option linter.unusedSimpArgs false

theorem open_rows {X : Type} [Inhabited X] (encX : X → List Value) (ok : X → Prop) (c : Nat) (hlen : ∀ x, (encX x).length = c) (hpos : 0 < c) {H : Type} {enc : TypeId × Value → H} {P : Program} {W : World} {base : Nat} {t e : TypeId} {v : Value} {d : DataW H} {p : List MemPlace}
    (ht : P.underlying t = some (.slice e)) (ce : P.cellsOf e = c) (each : ∀ m cs y, DataW.trod enc P W 0 (fun _ => true) true m e cs = some y → ∃ x, cs = encX x ∧ ok x) (hv : Value.okWide P W .any base t v)
    (h : DataW.Trod enc P W 0 (fun _ => true) true t v d p) :
    ∃ A k, ∃ L : List X, v = .slice A L.length k ∧ L.length ≤ k ∧ k ≤ maxLen ∧ Rd W W.heap.size A (L.flatMap encX) ∧ ∀ x ∈ L, ok x := by
  obtain ⟨a0, len, cap, rfl⟩ := okWide_slice ht hv
  obtain ⟨fuel, hf⟩ := h
  rcases open_slice ht hf with ⟨hcs, _⟩ | ⟨a, l', c', m, n, D, Pl, hcs, _, hl, hm, hmm, _, hx⟩
  · simp [Value.cells] at hcs
    obtain ⟨rfl, rfl, rfl⟩ := hcs
    exact ⟨none, 0, [], rfl, by simp, by simp, .inl rfl, fun q hq => by simp at hq⟩
  · simp [Value.cells] at hcs
    obtain ⟨rfl, rfl, rfl⟩ := hcs
    have hlm : len ≤ m := by rw [hmm]; split <;> omega
    have each2 : ∀ i, i < len → ∃ q : X, ok q ∧ ∀ j, j < c → W.cell? ((a.add (i * c)).add j) = (encX q)[j]? := by
      intro i hi
      obtain ⟨cs', h1, h2⟩ := hx i (by omega)
      rw [ce] at h1
      obtain ⟨_, hlen', hcell⟩ := World.cells?_some h1
      obtain ⟨q, rfl, hq⟩ := each _ _ _ h2
      exact ⟨q, hq, hcell⟩
    obtain ⟨F, hF⟩ := choose_lt each2
    have hFl : ∀ (n i : Nat) (u : Value), (((List.range n).map F).flatMap encX)[i]? = some u → i / c < n ∧ (encX (F (i / c)))[i % c]? = some u := by
      intro n
      induction n with
      | zero => intro i u hu; simp at hu
      | succ n ih =>
        intro i u hu
        rw [List.range_succ, List.map_append, List.flatMap_append] at hu
        have hln : (((List.range n).map F).flatMap encX).length = n * c := by
          clear hu ih
          induction n with
          | zero => simp
          | succ n ih => rw [List.range_succ, List.map_append, List.flatMap_append, List.length_append, ih]; simp [hlen, Nat.add_mul]
        by_cases hi : i < n * c
        · rw [List.getElem?_append_left (by rw [hln]; exact hi)] at hu
          have := ih i u hu
          exact ⟨by omega, this.2⟩
        · rw [List.getElem?_append_right (by rw [hln]; omega), hln] at hu
          simp only [List.map_cons, List.map_nil, List.flatMap_cons, List.flatMap_nil, List.append_nil] at hu
          have h3 := (List.getElem?_eq_some_iff.1 hu).1
          rw [hlen] at h3
          obtain ⟨r, rfl⟩ : ∃ r, i = n * c + r := ⟨i - n * c, by omega⟩
          have e0 : n * c + r - n * c = r := by omega
          rw [e0] at hu h3
          have e1 : (n * c + r) / c = n := by
            rw [Nat.add_comm, Nat.add_mul_div_right _ _ hpos, Nat.div_eq_of_lt h3]; omega
          have e2 : (n * c + r) % c = r := by rw [Nat.add_comm, Nat.add_mul_mod_self_right, Nat.mod_eq_of_lt h3]
          rw [e1, e2]
          exact ⟨by omega, hu⟩
    refine ⟨some a, cap, (List.range len).map F, by simp, by simpa using hl, hm, ?_, ?_⟩
    · rcases Nat.eq_zero_or_pos len with h0 | h0
      · exact .inl (by simp [h0])
      · have hc0 := (hF 0 h0).2 0 hpos
        obtain ⟨b, off, spot⟩ := a
        have h1 : 0 < (encX (F 0)).length := by rw [hlen]; exact hpos
        rw [List.getElem?_eq_getElem h1] at hc0
        have hspot : spot = none := by simpa [Addr.add] using World.cell?_spot hc0
        subst hspot
        refine .inr ⟨b, off, rfl, by have := lt_of_cell hc0; simpa [Addr.add] using this, fun i u hu => ?_⟩
        obtain ⟨hi, h⟩ := hFl len i u hu
        have hF' := (hF (i / c) hi).2 (i % c) (Nat.mod_lt _ hpos)
        rw [add_plain, add_plain, h] at hF'
        rw [← hF']
        congr 2
        have := Nat.div_add_mod i c
        rw [Nat.mul_comm] at this
        omega
    · intro q hq
      obtain ⟨i, hi, rfl⟩ := List.mem_map.1 hq
      exact (hF i (List.mem_range.1 hi)).1
end Go.Proofs.Ytepodflinhpejaa

/- Acts that came in; StackFinds' row (chapter 15). -/
namespace Go.Proofs.Ytepodflinhpejaa
open Go.RowKit Go.ChangeShapes Go.WideShapes Go.Deep
set_option linter.unusedVariables false
set_option linter.unusedSimpArgs false

theorem open_itk_cell {H : Type} {enc : TypeId × Value → H} {W : World} {mm : Nat} {v : Value} {y : DataW H × List MemPlace}
    (hf : DataW.trod enc Try.prog W 0 (fun _ => true) true mm 65 [v] = some y) :
    ∃ A n c, ∃ l : List Int, v = .slice A n c ∧ Rs 1 W A n c (itK l) ∧ c ≤ maxLen := by
  rcases open_ints Try.underlying65 Try.underlying3 (by kernel_rfl) hf with ⟨hcs, _⟩ | ⟨x, l', c', zs, hcs, _, hl, hm, hz, _, hcell, hwz⟩
  · simp at hcs
    exact ⟨none, 0, 0, [], hcs, Rs.nil_, by simp⟩
  · simp at hcs
    have hz' : zs.length = c' := by simpa using hz
    refine ⟨some x, l', c', zs.take l', hcs, ⟨by rw [itK_len, List.length_take]; omega, hl, ?_⟩, hm⟩
    rcases Nat.eq_zero_or_pos l' with h0 | h0
    · exact .inl (by simp [h0, itK])
    · have hc0 := hcell 0 (by omega)
      obtain ⟨b, off, spot⟩ := x
      have hspot : spot = none := by simpa [Addr.add] using World.cell?_spot hc0
      subst hspot
      refine .inr ⟨b, off, rfl, lt_of_cell hc0, fun i u hu => ?_⟩
      have hi : i < l' := by
        rcases Nat.lt_or_ge i l' with h' | h'
        · exact h'
        · rw [List.getElem?_eq_none (by rw [itK_len, List.length_take]; omega)] at hu
          cases hu
      have hzi : i < zs.length := by omega
      have hcl := hcell i hzi
      rw [add_plain] at hcl
      rw [hcl, ← hu]
      rw [itK_at _ _ (by rw [List.length_take]; omega)]
      simp [List.getD, hzi]
set_option maxRecDepth 100000 in
theorem open_acx {H : Type} {enc : TypeId × Value → H} {W : World} {m : Nat} {cs : List Value} {y : DataW H × List MemPlace}
    (hf : DataW.trod enc Try.prog W 0 (fun _ => true) true m 67 cs = some y) : ∃ x : AcX, cs = x.cs ∧ x.ok W := by
  obtain ⟨xs, nn, _, _, hl, hlen, hg⟩ := DataW.trod_struct Try.underlying67 hf
  have hCint : Try.prog.cellsOf 3 = 1 := by kernel_rfl
  have hCsl : Try.prog.cellsOf 65 = 1 := by kernel_rfl
  have hCR : Try.prog.cellsOf 67 = 3 := by kernel_rfl
  rw [hCR] at hl
  obtain ⟨c0, c1, c2, rfl⟩ := listN3 hl
  have hx : xs.length = 3 := by rw [hlen]; rfl
  obtain ⟨x0, x1, x2, rfl⟩ := listN3 hx
  have h0 := hg 0 _ rfl
  have h1 := hg 1 _ rfl
  have h2 := hg 2 _ rfl
  simp only [List.getElem_toArray, List.getElem_cons_zero, List.getElem_cons_succ, hCint, hCsl, List.drop_zero, List.drop_succ_cons, List.take_succ_cons, List.take_zero, List.getElem?_cons_zero, List.getElem?_cons_succ] at h0 h1 h2
  obtain ⟨k, e0, -, w0⟩ := DataW.trod_int Try.underlying3 h0
  obtain ⟨n, e1, -, w1⟩ := DataW.trod_int Try.underlying3 h1
  have b1 := bounds_i64 w1
  obtain ⟨A, l, c, L, rfl, hr, hc⟩ := open_itk_cell h2
  simp only [List.cons.injEq, and_true] at e0 e1
  subst e0 e1
  exact ⟨⟨k, n, L, A, l, c⟩, rfl, by show n ≤ _; omega, hr, hc⟩
set_option maxRecDepth 100000 in
theorem open_acts {H : Type} {enc : TypeId × Value → H} {W : World} {base : Nat} {v : Value} {dt : DataW H} {p : List MemPlace} (hv : Value.okWide Try.prog W .any base 48 v) (h : DataW.Trod enc Try.prog W 0 (fun _ => true) true 48 v dt p) :
    ∃ A k, ∃ L : List AcX, v = .slice A L.length k ∧ L.length ≤ k ∧ k ≤ maxLen ∧ Rd W W.heap.size A (L.flatMap AcX.cs) ∧ ∀ x ∈ L, x.ok W :=
  open_rows AcX.cs (AcX.ok W) 3 AcX.cs_len (by decide) Try.underlying48 (by kernel_rfl) (fun m cs y hy => open_acx hy) hv h
theorem stackFinds_row (w : World) (A : Option Addr) (k : Nat) (L : List AcX) (hl : L.length ≤ k) (hk : k ≤ maxLen) (hr : Rd w w.heap.size A (L.flatMap AcX.cs)) (hok : ∀ x ∈ L, x.ok w) (v : Int) (hv : -9223372036854775808 ≤ v ∧ v ≤ 9223372036854775807) (s : Int) (hs : -9223372036854775808 ≤ s ∧ s ≤ 9223372036854775807) : Calls Try.prog 4 #[.slice A L.length k, .int .i64 v, .int .i64 s] w fun e w' => e = .returned (.bool true) ∧ Below w.heap.size w w' := by
  simp only [maxLen] at hk
  refine (stackFinds_walk L A L.length k v s w ⟨flat_len AcX.cs 3 AcX.cs_len L, hl, hr⟩ hok (by omega)).mono ?_
  rintro e w' ⟨bs, d, rfl, rfl⟩
  exact ⟨rfl, below_plus _ _ _⟩
end Go.Proofs.Ytepodflinhpejaa

