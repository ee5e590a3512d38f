/- Texts of the law FollowOffers, part 4. -/
import Derived.Test.YtjiiloffgipfhaaGreatDoorZFollowOffers3
set_option linter.unusedVariables false
set_option linter.unusedSimpArgs false
set_option maxHeartbeats 4000000
set_option maxRecDepth 100000
namespace Go.Proofs.YtjiiloffgipfhaaGreatDoor
section
attribute [local go_sem ↓] sliced_cut
attribute [local go_sem] cutA_zero
open Go.RowKit
def natK (l : List Nat) : List Int := l.map fun n : Nat => (n : Int)
theorem natK_len (l : List Nat) : (natK l).length = l.length := by simp [natK]
theorem itK_append_one (l : List Int) (x : Int) : itK (l ++ [x]) = itK l ++ [.int .i64 x] := by simp [itK]
theorem list_any (x f : Nat) (hx : x < 18446744073709551616) (hf : f ≤ 1) (w : World) (hT : TabB w) : Calls Tryz.prog 129 #[.int .u64 (x : Int), .int .i64 (f : Int)] w (RetOs 3 1 w (itK (natK (setL x f)))) := by
 have hO0 : Os 3 1 w w.heap.size none 0 0 (itK []) := Os.nil_
 have be := Below.refl w.heap.size w
 go_enter Tryz.func129, Tryz.ntmps129
 go_upto_region 2 with (fail)
 go_loopw [0, 5] (fun I OUT wr => ∃ (y p : Nat) (B : Option Addr) (k d : Nat), I = .int .u64 (y : Int) ∧ OUT = .slice B k d ∧ y < 18446744073709551616 ∧ p ≤ 64 ∧ (∀ i, y.testBit i = (x.testBit i && decide (p ≤ i))) ∧ Os 3 1 wr w.heap.size B k d (itK (natK (((List.range p).filter fun i => x.testBit i).map (· + f)))) ∧ Below w.heap.size w wr) (fun I _ _ => (intOf I).toNat)
 case atStart => exact ⟨x, 0, none, 0, 0, rfl, rfl, hx, by omega, fun i => by simp, (by simpa [natK, itK] using hO0), be⟩
 case round =>
  clear hO0 be
  obtain ⟨y, p, B, k, d, rfl, rfl, hy, hp, hyb, hO, be⟩ := hrel
  by_cases h0 : y = 0
  ·have h0i : ((y : Int) != 0) = false := by simp [h0]
   have hl : setL x f = ((List.range p).filter fun i => x.testBit i).map (· + f) := by
    unfold setL
    rw [filter_range_skip x p 64 (fun i h1 h2 => by have := hyb i; rw [h0, decide_eq_true h1] at this; simpa using this.symm) hp]
   have HL := qy hl
   clear h0 hl hyb
   go_wp2
   go_ret
   rw [HL.out]
   exact RetOs.mk hO be
  ·have h0i : ((y : Int) != 0) = true := by simp [h0]
   obtain ⟨c64, ctb, clow⟩ := ctz_spec 64 y h0 (by simpa using hy)
   have HTZ := qy (fun w h => tz_any y w hy h0 h)
   generalize ctzN 64 y = q at *
   have hxq : x.testBit q = true ∧ p ≤ q := by
    have := hyb q
    rw [ctb] at this
    simpa using this.symm
   have hlist : (List.range (q + 1)).filter (fun i => x.testBit i) = (List.range p).filter (fun i => x.testBit i) ++ [q] :=
    filter_range_snoc x p q hxq.2 (fun i h1 h2 => by have := clow i h2; rw [hyb i, decide_eq_true h1] at this; simpa using this) hxq.1
   have hap := and_pred y q ctb clow
   have hbits : bits .and .u64 (y : Int) ((y : Int) - 1) = ((y &&& (y - 1) : Nat) : Int) := by
    have := u64_and_nat y (y - 1) hy (by omega)
    rwa [show ((y - 1 : Nat) : Int) = (y : Int) - 1 by omega] at this
   have hwr : IntKind.u64.wrap ((y : Int) - 1) = (y : Int) - 1 := IntWalk.u64_in _ (by omega)
   have hlt : y &&& (y - 1) < y := Nat.lt_of_le_of_lt Nat.and_le_right (by omega)
   have hnew : ∀ i, (y &&& (y - 1)).testBit i = (x.testBit i && decide (q + 1 ≤ i)) := fun i => by
    rw [hap i, hyb i]
    by_cases h1 : q + 1 ≤ i
    ·rw [decide_eq_true h1, decide_eq_true (show p ≤ i by omega), decide_eq_true (show i ≠ q by omega)]; simp
    ·rw [decide_eq_false h1]
     by_cases h2 : i = q
     ·rw [h2]; simp
     ·have := clow i (by omega)
      rw [hyb i] at this
      rw [this]; simp
   have hws : IntKind.i64.wrap ((q : Int) + (f : Int)) = ((q + f : Nat) : Int) := by rw [IntWalk.i64_in _ (by omega)]; omega
   have hk := hO.1
   rw [itK_len, natK_len, List.length_map] at hk
   have hk64 : k ≤ 64 := by
    have := List.length_filter_le (fun i => x.testBit i) (List.range p)
    simp at this
    omega
   have HN := qy (And.intro hnew hlt)
   have HLS := qy (show natK (((List.range (q + 1)).filter fun i => x.testBit i).map (· + f)) = natK (((List.range p).filter fun i => x.testBit i).map (· + f)) ++ [((q + f : Nat) : Int)] by rw [hlist]; simp [natK])
   have hTw := hT.later be
   clear hnew hlt hap hyb ctb clow hxq hlist hk
   generalize y &&& (y - 1) = y2 at *
   generalize natK (((List.range p).filter fun i => x.testBit i).map (· + f)) = L0 at *
   have HC := qy h0
   clear h0
   go_upto_region 4 with (fail)
   refine wp_region_lit ?_
   iterate 2 (refine qw ?_)
   refine wpq fun K hK => ?_
   go_simp
   refine (HTZ.out _ hTw).mono ?_
   rintro e w1 ⟨bs1, d1, rfl, rfl⟩
   with_reducible refine hK _ _ ?_
   clear hK K
   have hb1 := below_plus wr bs1 d1
   replace hO := hO.later hb1
   replace be := be.trans (hb1.mono be.size)
   clear hb1 hTw HTZ
   generalize plus wr bs1 d1 = W1 at *
   iterate 3 (refine qw ?_)
   refine wpList_appS etI rfl (.tmp 12) (.tmp 17) rfl rfl (hO.later (Below.allocS (Below.refl _ _) _)) rfl (Rs.of_bk (n := 1) (c := 1) (Bk.new W1 _ _) rfl (Nat.le_refl _)) (by simp [Value.oneCell']) (by omega) (by have := be.size; simp; omega) ?_
   intro A2 n2 c2 w4 hn2 hO4 hb4 hg4
   subst hn2
   refine qw ?_
   have hE2 := (be.trans ((Below.allocS (Below.refl _ _) _).mono be.size)).trans hb4
   rw [← itK_append_one] at hO4
   go_wp2
   exact ⟨⟨y2, q + 1, A2, _, c2, rfl, rfl, by have := HN.out.2; omega, by omega, HN.out.1, by rw [HLS.out]; exact hO4, hE2⟩, by simpa [intOf] using HN.out.2⟩
theorem busy_any (S : Stk) (hok : StkOk S) (g : Nat) (w : World) (hS : Bk w g 210 (stkC S)) (hT : TabB w) : Calls Tryz.prog 130 #[.pointer (some ⟨g, 0, none⟩)] w (RetOs 3 1 w (itK (natK (setL S.bz 0)))) := by
 have HLI := qy (fun w h => list_any S.bz 0 (by have := hok.bz; omega) (by omega) w h)
 have q0 : w.cell? ⟨g, 1042, none⟩ = some (.int .u64 (S.bz : Int)) := (hS.cell _).trans (stkC_bz S)
 go_enter Tryz.func130, Tryz.ntmps130
 go_wp2_with (go_at_call 129; refine (HLI.out _ hT).mono ?_; rintro e w1 ⟨A1, n1, c1, bs1, d1, rfl, rfl, ho1⟩)
 go_ret
 exact ⟨A1, n1, c1, bs1, d1, rfl, rfl, ho1⟩
theorem bcs_slot {s : Nat × Bool} (h : s.1 ≤ 64) : bcs [slotB s] = [.int .u8 ((s.1 + if s.2 then 128 else 0 : Nat) : Int)] := by
 obtain ⟨a, b⟩ := s
 have h : a ≤ 64 := h
 cases b <;> simp [bcs, slotB] <;> omega
theorem tabBytes_any (t : Tab) (hok : TabOk t) (w : World) : Calls Tryz.prog 128 #[.agg (tabC t).toArray] w (RetB w (tabB t)) := by
 obtain ⟨dvt, vt1, vt2⟩ := rowTab
 obtain ⟨dvs, vs1, vs2⟩ := rowSl
 have ht := hok.len
 have HP := qy (fun w => put_full none 0 0 [] t.length 2 w Rb.nil_ (by omega) (by omega) (by omega) (by omega))
 have b1 : Bk (w.alloc (.cells (tabC t).toArray 205)) w.heap.size 205 (tabC t) := Bk.new w 205 (tabC t).toArray
 have be : Below w.heap.size w (w.alloc (.cells (tabC t).toArray 205)) := Below.allocS (Below.refl _ _) _
 have q0 : (w.alloc (.cells (tabC t).toArray 205)).cell? ⟨w.heap.size, 0, none⟩ = some (.int .i64 (t.length : Int)) := b1.cell 0
 have hw : IntKind.u64.wrap (t.length : Int) = (t.length : Int) := IntWalk.u64_in _ (by omega)
 have hlt64 : (t.length : Int) ≤ 64 := by omega
 have zV : w.heap.size < (w.alloc (.cells (tabC t).toArray 205)).heap.size := b1.lt
 go_enter Tryz.func128, Tryz.ntmps128
 go_upto_region 1 with (fail)
 generalize w.alloc (.cells (tabC t).toArray 205) = V at *
 go_upto_region 2 with (go_at_call 51; refine (HP.out _).mono ?_; rintro e w1 ⟨A1, n1, bs1, d1, rfl, rfl, ho1⟩)
 replace b1 := b1.later (below_plus V bs1 d1)
 have hzb := be.size
 replace be := belowP be bs1 d1
 have hO := ho1.mono (show w.heap.size + 1 ≤ V.heap.size from zV)
 have hzV1 : w.heap.size < (plus V bs1 d1).heap.size := b1.lt
 clear q0 HP ho1
 generalize plus V bs1 d1 = V1 at *
 have q0 : V1.cell? ⟨w.heap.size, 0, none⟩ = some (.int .i64 (t.length : Int)) := b1.cell 0
 go_upto_region 3 with (fail)
 rw [List.nil_append] at hO
 have HB := qy (And.intro hO (And.intro be b1))
 clear hO be b1 q0 hzV1
 go_loopw [3, 16] (fun OUT I wr => ∃ (j : Nat) (B : Option Addr) (k d : Nat), I = .int .i64 (j : Int) ∧ OUT = .slice B k d ∧ j ≤ t.length ∧ Ob wr (w.heap.size + 1) B k d (dig t.length 2 ++ (t.take j).map slotB) ∧ Below w.heap.size w wr ∧ Bk wr w.heap.size 205 (tabC t)) (fun _ I _ => t.length - (intOf I).toNat)
 case atStart => exact ⟨0, A1, n1, n1, rfl, rfl, Nat.zero_le _, by simpa using HB.out.1, HB.out.2.1, HB.out.2.2⟩
 case round =>
  clear HB
  obtain ⟨j, B, k, d, rfl, rfl, hj, hO, be, b1⟩ := hrel
  have hk := hO.len
  simp [dig_length] at hk
  by_cases hlt : j < t.length
  ·have ij : (j : Int) < (t.length : Int) := by omega
   have hp := tabC_part t j hlt (by omega)
   have hmem := hok.rg t[j] (List.getElem_mem hlt)
   have htk : (t.take (j + 1)).map slotB = (t.take j).map slotB ++ [slotB t[j]] := by rw [List.take_succ_eq_append_getElem hlt, List.map_append]; rfl
   generalize t[j] = s at *
   have HTK := qy htk
   have hsl := qy (bcs_slot hmem.2)
   obtain ⟨ow, aw⟩ := s
   have ho64 : ow ≤ 64 := hmem.2
   have hk66 : k ≤ 66 := by omega
   clear htk hk hmem
   go_upto_region 5 with (first
    | (refine at_op (.load 202 (.tmp 18)) rfl ?_; refine wpList_ldA (t := 205) (off := 1 + j * 2) 202 (.tmp 18) rfl rfl (slC (ow, aw)) rfl b1 hp vs1 vs2 (szSl _) ?_)
    | (refine at_op (.store 202 (.tmp 5) (.tmp 19)) rfl ?_; refine wpList_stA (t := 202) 202 (.tmp 5) (.tmp 19) rfl rfl (slC (ow, aw)) (slC (0, false)) rfl (slC_one _) rfl rfl (Bk.new _ _ _) (szSl _) ?_; intro W4 h4 g4))
   have be4 : Below wr.heap.size wr W4 := below_grown (Below.allocS (Below.refl _ _) _) g4 (Nat.le_refl _)
   have q0 : W4.cell? ⟨wr.heap.size, 0, none⟩ = some (.int .u8 (ow : Int)) := h4.cell 0
   have q1 : W4.cell? ⟨wr.heap.size, 1, none⟩ = some (.bool aw) := h4.cell 1
   replace hO := hO.later be4
   replace b1 := b1.later be4
   replace be := be.trans (be4.mono be.size)
   clear be4 h4 g4 hp
   generalize wr.heap.size = gs at *
   cases aw
   ·go_upto_region 8 with (fail)
    refine wp_region_lit ?_
    iterate 3 (refine qw ?_)
    refine wpList_app bt rfl (.tmp 26) (.tmp 28) rfl rfl (hO.later (Below.allocS (Below.refl _ _) _)) rfl (Ob.lit W4 (Nat.le_refl _) _ [slotB (ow, false)] 1 rfl (by decide) ?_).rb (by omega) (by have := b1.lt; simp; omega) ?_
    ·exact hsl.out.symm
    intro A2 n2 c2 w4 hO4 hb4 hg4
    refine qw ?_
    have hE2 := (be.trans ((Below.allocS (Below.refl _ _) _).mono be.size)).trans (hb4.mono (Nat.le_succ _))
    have hbk : Bk w4 w.heap.size 205 (tabC t) := (b1.later (Below.allocS (Below.refl _ _) _)).grown hg4 (fun e => by have := (hO.blk _ e).1; omega)
    go_wp2
    exact ⟨⟨j + 1, A2, _, c2, by go_num, rfl, by omega, by rw [HTK.out, ← List.append_assoc]; exact hO4, hE2, hbk⟩, by simp [intOf]; omega⟩
   ·have hw2 : IntKind.u8.wrap ((ow : Int) + 128) = ((ow + 128 : Nat) : Int) := by rw [IntKind.wrap_u8]; omega
    go_upto_region 8 with (fail)
    refine wp_region_lit ?_
    iterate 3 (refine qw ?_)
    refine wpList_app bt rfl (.tmp 26) (.tmp 28) rfl rfl (hO.later (Below.allocS (Below.refl _ _) _)) rfl (Ob.lit W4 (Nat.le_refl _) _ [slotB (ow, true)] 1 rfl (by decide) ?_).rb (by omega) (by have := b1.lt; simp; omega) ?_
    ·exact hsl.out.symm
    intro A2 n2 c2 w4 hO4 hb4 hg4
    refine qw ?_
    have hE2 := (be.trans ((Below.allocS (Below.refl _ _) _).mono be.size)).trans (hb4.mono (Nat.le_succ _))
    have hbk : Bk w4 w.heap.size 205 (tabC t) := (b1.later (Below.allocS (Below.refl _ _) _)).grown hg4 (fun e => by have := (hO.blk _ e).1; omega)
    go_wp2
    exact ⟨⟨j + 1, A2, _, c2, by go_num, rfl, by omega, by rw [HTK.out, ← List.append_assoc]; exact hO4, hE2, hbk⟩, by simp [intOf]; omega⟩
  ·obtain rfl : j = t.length := by omega
   have ij : ¬ (t.length : Int) < (t.length : Int) := by omega
   rw [List.take_of_length_le (Nat.le_refl _)] at hO
   clear hj hk
   go_wp2
   go_ret
   exact RetB.mk (hO.mono (Nat.le_succ _)) be
theorem levC_tab (e : Nat × Tab) : ((levC e).drop 1).take (tabC e.2).length = tabC e.2 := by simp [levC]
def ouB (B0 : List UInt8) (L0 L1 : List Nat) (q : Nat) : List UInt8 := if q = 0 then B0 else if q = 1 then B0 ++ setB L0 else B0 ++ setB L0 ++ setB L1
theorem ouB_len (B0 : List UInt8) (L0 L1 : List Nat) (q : Nat) : (ouB B0 L0 L1 q).length ≤ B0.length + (L0.length + 1) + (L1.length + 1) := by
 unfold ouB
 split
 ·omega
 ·split <;> simp only [List.length_append, setB_len] <;> omega
theorem idx2_0 (A B : Option Addr) (n c m d : Nat) (w : World) : (Instr.index 230 (.agg #[.slice A n c, .slice B m d]) (.int .i64 0)).run Tryz.prog w = .ok (.slice A n c) w := by kernel_rfl
theorem idx2_1 (A B : Option Addr) (n c m d : Nat) (w : World) : (Instr.index 230 (.agg #[.slice A n c, .slice B m d]) (.int .i64 1)).run Tryz.prog w = .ok (.slice B m d) w := by kernel_rfl
theorem idx2_0' (A B : Option Addr) (n c m d : Nat) (w : World) : (Instr.index 230 (.agg #[.slice A n c, .slice B m d]) (.int .i64 ((0 : Nat) : Int))).run Tryz.prog w = .ok (.slice A n c) w := idx2_0 A B n c m d w
theorem idx2_1' (A B : Option Addr) (n c m d : Nat) (w : World) : (Instr.index 230 (.agg #[.slice A n c, .slice B m d]) (.int .i64 ((1 : Nat) : Int))).run Tryz.prog w = .ok (.slice B m d) w := idx2_1 A B n c m d w
section
attribute [local go_sem] idx2_0 idx2_1 idx2_0' idx2_1'
theorem stkBytes_any (S : Stk) (hok : StkOk S) (g : Nat) (w : World) (hS : Bk w g 210 (stkC S)) (hT : TabB w) : Calls Tryz.prog 98 #[.pointer (some ⟨g, 0, none⟩)] w (RetB w (stkB S)) := by
 obtain ⟨dvl, vl1, vl2⟩ := rowLev
 obtain ⟨dvt, vt1, vt2⟩ := rowTab
 have h8 := hok.len
 have hgw := hS.lt
 have HP1 := qy (fun w => put_full none 0 0 [] S.lv.length 1 w Rb.nil_ (by omega) (by omega) (by omega) (by omega))
 have HPU : Hid (∀ A n l v w, Rb w A n n l → n ≤ 10000 → v < 1000 → Calls Tryz.prog 51 #[.slice A n n, .int .u64 ((v : Nat) : Int), .int .i64 1] w (RetF w (l ++ dig v 1))) := qy (fun A n l v w h hn hv => put_full A n n l v 1 w h (by omega) (by omega) (by omega) (by omega))
 have HPG : Hid (∀ A n c l v w, Rb w A n c l → n ≤ 10000 → v < 1000 → Calls Tryz.prog 51 #[.slice A n c, .int .u64 ((v : Nat) : Int), .int .i64 1] w (RetF w (l ++ dig v 1))) := qy (fun A n c l v w h hn hv => put_full A n c l v 1 w h (by omega) (by omega) (by omega) (by omega))
 have HAL := qy (fun w h => all_any S h8 g w h)
 have HL1 := qy (fun w h => list_any S.ev 1 hok.ev (by omega) w h)
 have HBZ := qy (fun w h1 h2 => busy_any S hok g w h1 h2)
 have q0 : w.cell? ⟨g, 0, none⟩ = some (.int .i64 (S.lv.length : Int)) := hS.cell 0
 have hw : IntKind.u64.wrap (S.lv.length : Int) = (S.lv.length : Int) := IntWalk.u64_in _ (by omega)
 have be := Below.refl w.heap.size w
 go_enter Tryz.func98, Tryz.ntmps98
 go_upto_region 4 with (go_at_call 51; refine (HP1.out _).mono ?_; rintro e w1 ⟨A1, n1, bs1, d1, rfl, rfl, ho1⟩)
 have hb1 := below_plus w bs1 d1
 replace hS := hS.later hb1
 replace be := be.trans (hb1.mono be.size)
 have hzw := be.size
 clear hb1 q0 HP1
 rw [List.nil_append] at ho1
 generalize plus w bs1 d1 = V1 at *
 go_upto_region 5 with (go_at_call 127; refine (HAL.out _ hS).mono ?_; rintro e w1 ⟨bs2, d2, rfl, rfl⟩)
 have hb1 := below_plus V1 bs2 d2
 replace hS := hS.later hb1
 replace ho1 := ho1.later hb1
 replace be := be.trans (hb1.mono be.size)
 clear hb1 HAL
 generalize plus V1 bs2 d2 = V2 at *
 have HST := qy (And.intro ho1 (And.intro hS be))
 clear ho1 hS be
 go_loopw [3, 21] (fun OUT I wr => ∃ (j : Nat) (B : Option Addr) (k d : Nat), I = .int .i64 (j : Int) ∧ OUT = .slice B k d ∧ j ≤ S.lv.length ∧ Ob wr w.heap.size B k d (dig S.lv.length 1 ++ levsB (S.lv.take j)) ∧ Bk wr g 210 (stkC S) ∧ Below w.heap.size w wr) (fun _ I _ => S.lv.length - (intOf I).toNat)
 case atStart => exact ⟨0, A1, n1, n1, rfl, rfl, Nat.zero_le _, by simpa [levsB] using HST.out.1, HST.out.2.1, HST.out.2.2⟩
 case round =>
  clear HST
  obtain ⟨j, B, k, d, rfl, rfl, hj, hO, hS, be⟩ := hrel
  have hk : k ≤ 1 + 67 * 8 := by
   have h1 := hO.len
   have h2 := levsB_len (L := S.lv.take j) (fun e he => (hok.rg e (List.mem_of_mem_take he)).2)
   rw [List.length_append, dig_length] at h1
   rw [List.length_take] at h2
   omega
  by_cases hlt : j < S.lv.length
  ·have ij : (j : Int) < (S.lv.length : Int) := by omega
   have hp := stkC_part S j hlt (by omega)
   have hmem := hok.rg S.lv[j] (List.getElem_mem hlt)
   have htk : levsB (S.lv.take (j + 1)) = levsB (S.lv.take j) ++ (dig S.lv[j].1 1 ++ tabB S.lv[j].2) := by rw [List.take_succ_eq_append_getElem hlt]; unfold levsB; rw [List.flatMap_append]; simp [levB]
   generalize S.lv[j] = e0 at *
   obtain ⟨vr, tb⟩ := e0
   have HTK := qy htk
   have hv8 : vr < 8 := hmem.1
   have hwv : IntKind.u64.wrap (vr : Int) = (vr : Int) := IntWalk.u64_in _ (by omega)
   have HTB := qy (fun w => tabBytes_any tb hmem.2 w)
   have htl := hmem.2.len
   simp only at htl
   clear htk hmem
   go_upto_region 7 with (first
    | (refine at_op (.load 207 (.tmp 23)) rfl ?_; refine wpList_ldA (t := 210) (off := 1 + j * 130) 207 (.tmp 23) rfl rfl (levC (vr, tb)) rfl hS hp vl1 vl2 (szLev _) ?_)
    | (refine at_op (.store 207 (.tmp 5) (.tmp 24)) rfl ?_; refine wpList_stA (t := 207) 207 (.tmp 5) (.tmp 24) rfl rfl (levC (vr, tb)) (levC (0, [])) (by rw [levC_len, levC_len]) (levC_one _) rfl rfl (Bk.new _ _ _) (szLev _) ?_; intro W4 h4 g4))
   have be4 : Below wr.heap.size wr W4 := below_grown (Below.allocS (Below.refl _ _) _) g4 (Nat.le_refl _)
   have q0 : W4.cell? ⟨wr.heap.size, 0, none⟩ = some (.int .i64 (vr : Int)) := h4.cell 0
   have hL : Bk W4 wr.heap.size 207 (levC (vr, tb)) := h4
   replace hO := hO.later be4
   replace hS := hS.later be4
   replace be := be.trans (be4.mono be.size)
   clear be4 h4 g4 hp
   generalize wr.heap.size = gl at *
   go_upto_region 8 with (go_at_call 51; refine (HPG.out _ _ _ _ _ _ hO.rb (by omega) (by omega)).mono ?_; rintro e w1 ⟨A3, n3, bs3, d3, rfl, rfl, ho3⟩)
   have hb1 := below_plus W4 bs3 d3
   have hz3 := be.size
   replace hL := hL.later hb1
   replace hS := hS.later hb1
   replace be := be.trans (hb1.mono be.size)
   have hO3 := ho3.mono hz3
   have hn3 : n3 ≤ 1 + 67 * 8 + 1 := by have h1 := ho3.len; have h2 := hO.len; rw [List.length_append, dig_length] at h1; omega
   clear hb1 hO q0 ho3 hz3
   generalize plus W4 bs3 d3 = W5 at *
   refine wp_region_lit ?_
   iterate 2 (refine qw ?_)
   refine wpList_ldA (t := 207) (off := 1) 205 (.tmp 31) rfl rfl (tabC tb) rfl hL (levC_tab (vr, tb)) vt1 vt2 (by rw [tabC_len0]; kernel_rfl) ?_
   refine wpq fun K hK => ?_
   go_simp
   refine (HTB.out _).mono ?_
   rintro e w1 ⟨A6, n6, c6, bs6, d6, rfl, rfl, ho6⟩
   with_reducible refine hK _ _ ?_
   clear hK K
   have hb1 := below_plus W5 bs6 d6
   replace hO3 := hO3.later hb1
   replace hS := hS.later hb1
   replace be := be.trans (hb1.mono be.size)
   have hn6 : n6 ≤ 66 := by have h1 := ho6.len; rw [tabB_len] at h1; omega
   clear hb1 hL
   generalize plus W5 bs6 d6 = W6 at *
   refine wpList_app bt rfl (.tmp 30) (.tmp 33) rfl rfl hO3 rfl ho6.rb (by omega) be.size ?_
   intro A2 n2 c2 w4 hO4 hb4 hg4
   refine qw ?_
   have htk2 : (dig S.lv.length 1 ++ levsB (S.lv.take j) ++ dig vr 1) ++ tabB tb = dig S.lv.length 1 ++ levsB (S.lv.take (j + 1)) := by rw [HTK.out]; simp [List.append_assoc]
   have HT2 := qy htk2
   have hE2 := be.trans hb4
   clear htk2
   go_wp2
   exact ⟨⟨j + 1, A2, n2, c2, by go_num, rfl, by omega, by rw [← HT2.out]; exact hO4, hS.grown hg4 (fun e => by have := (hO3.blk _ e).1; omega), hE2⟩, by simp [intOf]; omega⟩
  ·obtain rfl : j = S.lv.length := by omega
   have ij : ¬ (S.lv.length : Int) < (S.lv.length : Int) := by omega
   rw [List.take_of_length_le (Nat.le_refl _)] at hO
   have qe : wr.cell? ⟨g, 1041, none⟩ = some (.int .u64 (S.ev : Int)) := (hS.cell _).trans (stkC_ev S)
   clear hj
   go_upto_region 10 with (fail)
   refine wp_region_lit ?_
   iterate 4 (refine qw ?_)
   refine wpq fun K hK => ?_
   go_simp
   refine (HL1.out _ (hT.later be)).mono ?_
   rintro e w1 ⟨Ae, ne, ce, bs6, d6, rfl, rfl, hre⟩
   with_reducible refine hK _ _ ?_
   clear hK K
   have hb1 := below_plus wr bs6 d6
   replace hO := hO.later hb1
   replace hS := hS.later hb1
   replace be := be.trans (hb1.mono be.size)
   clear hb1 qe
   generalize plus wr bs6 d6 = W6 at *
   refine qw ?_
   refine wpq fun K hK => ?_
   go_simp
   refine (HBZ.out _ hS (hT.later be)).mono ?_
   rintro e w1 ⟨Az, nz, cz, bs7, d7, rfl, rfl, hrz⟩
   with_reducible refine hK _ _ ?_
   clear hK K
   have hb1 := below_plus W6 bs7 d7
   replace hO := hO.later hb1
   replace hS := hS.later hb1
   replace hre := hre.later hb1
   replace be := be.trans (hb1.mono be.size)
   clear hb1
   generalize plus W6 bs7 d7 = W7 at *
   iterate 2 (refine qw ?_)
   have hse := setL_len S.ev 1
   have hsz := setL_len S.bz 0
   have hle := setL_lt S.ev 1
   have hlz := setL_lt S.bz 0
   have hne : ne = (setL S.ev 1).length := by have := hre.rs.1; rw [itK_len, natK_len] at this; omega
   have hnz : nz = (setL S.bz 0).length := by have := hrz.rs.1; rw [itK_len, natK_len] at this; omega
   have HFIN := qy (show dig S.lv.length 1 ++ levsB S.lv ++ setB (setL S.ev 1) ++ setB (setL S.bz 0) = stkB S from rfl)
   have hre := hre.rs
   have hrz := hrz.rs
   have HL0 := qy (show (dig S.lv.length 1 ++ levsB S.lv).length ≤ 600 by
    have h2 := levsB_len (L := S.lv) (fun e he => (hok.rg e he).2)
    rw [List.length_append, dig_length]; omega)
   generalize setL S.ev 1 = Le at *
   generalize setL S.bz 0 = Lz at *
   generalize dig S.lv.length 1 ++ levsB S.lv = B0 at *
   have HLL := qy (show (Le.length ≤ 64 ∧ ∀ n ∈ Le, n < 64 + 1) ∧ (Lz.length ≤ 64 ∧ ∀ n ∈ Lz, n < 64 + 0) from ⟨⟨hse, hle⟩, hsz, hlz⟩)
   subst hne hnz
   clear hse hsz hle hlz
   go_upto_region 11 with (fail)
   have HST := qy (And.intro hO (And.intro hre (And.intro hrz be)))
   clear hO hre hrz be hS
   go_loopw [3, 44] (fun OUT I wr => ∃ (q : Nat) (B : Option Addr) (k d : Nat), I = .int .i64 (q : Int) ∧ OUT = .slice B k d ∧ q ≤ 2 ∧ Ob wr w.heap.size B k d (ouB B0 Le Lz q) ∧ Rs 1 wr Ae Le.length ce (itK (natK Le)) ∧ Rs 1 wr Az Lz.length cz (itK (natK Lz)) ∧ Below w.heap.size w wr) (fun _ I _ => 2 - (intOf I).toNat)
   case atStart => exact ⟨0, _, _, _, rfl, rfl, by omega, HST.out.1, HST.out.2.1, HST.out.2.2.1, HST.out.2.2.2⟩
   case round =>
    clear HST
    obtain ⟨q, B, k, d, rfl, rfl, hq, hO, hre, hrz, be⟩ := hrel
    have hk : k ≤ 600 + 65 + 65 := by
     have h1 := hO.len
     have h3 := ouB_len B0 Le Lz q
     have h4 := HL0.out
     have h5 := HLL.out
     omega
    rcases (show q = 0 ∨ q = 1 ∨ q = 2 by omega) with rfl | rfl | rfl
    ·have hle3 := HLL.out.1.1
     have hwl : IntKind.u64.wrap (Le.length : Int) = (Le.length : Int) := IntWalk.u64_in _ (by omega)
     go_upto_region 14 with (go_at_call 51; refine (HPG.out _ _ _ _ _ _ hO.rb (by omega) (by omega)).mono ?_; rintro e w1 ⟨A3, n3, bs3, d3, rfl, rfl, ho3⟩)
     have hb1 := below_plus wr bs3 d3
     have hz3 := be.size
     replace hre := hre.later hb1
     replace hrz := hrz.later hb1
     replace be := be.trans (hb1.mono be.size)
     have hO3 := ho3.mono hz3
     clear hb1 hO ho3 hz3 hk hwl
     generalize plus wr bs3 d3 = W5 at *
     go_upto_region 15 with (fail)
     have HI := qy (And.intro hO3 (And.intro hre (And.intro hrz be)))
     clear hO3 hre hrz be
     go_loopw [3, 54] (fun OUT I wi => ∃ (j : Nat) (B : Option Addr) (k d : Nat), I = .int .i64 (j : Int) ∧ OUT = .slice B k d ∧ j ≤ Le.length ∧ Ob wi w.heap.size B k d (ouB B0 Le Lz 0 ++ dig Le.length 1 ++ numsB (Le.take j)) ∧ Rs 1 wi Ae Le.length ce (itK (natK Le)) ∧ Rs 1 wi Az Lz.length cz (itK (natK Lz)) ∧ Below w.heap.size w wi) (fun _ I _ => Le.length - (intOf I).toNat)
     case atStart => exact ⟨0, A3, n3, n3, rfl, rfl, Nat.zero_le _, by simpa [numsB] using HI.out.1, HI.out.2.1, HI.out.2.2.1, HI.out.2.2.2⟩
     case round =>
      clear HI
      obtain ⟨j, B, k, d, rfl, rfl, hj, hO, hre, hrz, be⟩ := hrel
      have hk : k ≤ 600 + 65 + 65 + 1 + 64 := by
       have h1 := hO.len
       have h3 := ouB_len B0 Le Lz 0
       have h4 := HL0.out
       have h5 := HLL.out
       simp only [List.length_append, dig_length, numsB_len, List.length_take] at h1
       omega
      by_cases hlt : j < Le.length
      ·have ij : (j : Int) < (Le.length : Int) := by omega
       obtain ⟨bl, ol, hA, hc⟩ := hre.int_ j (by rw [natK_len]; exact hlt)
       have hnk : (natK Le)[j]'(by rw [natK_len]; exact hlt) = ((Le[j] : Nat) : Int) := by simp [natK]
       rw [hnk] at hc
       have hlt100 := HLL.out.1.2 _ (List.getElem_mem hlt)
       have htk : numsB (Le.take (j + 1)) = numsB (Le.take j) ++ dig Le[j] 1 := by rw [List.take_succ_eq_append_getElem hlt]; unfold numsB; rw [List.flatMap_append]; simp
       generalize Le[j] = v at *
       have HTK := qy htk
       have hwv : IntKind.u64.wrap (v : Int) = (v : Int) := IntWalk.u64_in _ (by omega)
       subst hA
       clear htk hnk
       go_wp2_with (go_at_call 51; refine (HPG.out _ _ _ _ _ _ hO.rb (by omega) (by omega)).mono ?_; rintro e w1 ⟨A5, n5, bs5, d5, rfl, rfl, ho5⟩)
       have hb1 := below_plus wr bs5 d5
       have he2 := be.trans (hb1.mono be.size)
       have ho6 : Ob (plus wr bs5 d5) w.heap.size A5 n5 n5 (ouB B0 Le Lz 0 ++ dig Le.length 1 ++ numsB (Le.take (j + 1))) := by rw [HTK.out, ← List.append_assoc]; exact ho5.mono be.size
       exact ⟨⟨j + 1, A5, _, _, by go_num, rfl, by omega, ho6, hre.later hb1, hrz.later hb1, he2⟩, by simp [intOf]; omega⟩
      ·obtain rfl : j = Le.length := by omega
       have ij : ¬ (Le.length : Int) < (Le.length : Int) := by omega
       rw [List.take_of_length_le (Nat.le_refl _)] at hO
       have hbs : ouB B0 Le Lz 0 ++ dig Le.length 1 ++ numsB Le = ouB B0 Le Lz 1 := by simp [ouB, setB, List.append_assoc]
       rw [hbs] at hO
       have HH := qy (And.intro hO (And.intro hre (And.intro hrz be)))
       clear hO hre hrz be hj hk hbs
       go_wp2
       exact ⟨⟨1, B, _, _, rfl, rfl, by omega, HH.out.1, HH.out.2.1, HH.out.2.2.1, HH.out.2.2.2⟩, by simp [intOf]⟩
    ·have hle3 := HLL.out.2.1
     have hwl : IntKind.u64.wrap (Lz.length : Int) = (Lz.length : Int) := IntWalk.u64_in _ (by omega)
     go_upto_region 14 with (go_at_call 51; refine (HPG.out _ _ _ _ _ _ hO.rb (by omega) (by omega)).mono ?_; rintro e w1 ⟨A3, n3, bs3, d3, rfl, rfl, ho3⟩)
     have hb1 := below_plus wr bs3 d3
     have hz3 := be.size
     replace hrz := hrz.later hb1
     replace hre := hre.later hb1
     replace be := be.trans (hb1.mono be.size)
     have hO3 := ho3.mono hz3
     clear hb1 hO ho3 hz3 hk hwl
     generalize plus wr bs3 d3 = W5 at *
     go_upto_region 15 with (fail)
     have HI := qy (And.intro hO3 (And.intro hre (And.intro hrz be)))
     clear hO3 hre hrz be
     go_loopw [3, 54] (fun OUT I wi => ∃ (j : Nat) (B : Option Addr) (k d : Nat), I = .int .i64 (j : Int) ∧ OUT = .slice B k d ∧ j ≤ Lz.length ∧ Ob wi w.heap.size B k d (ouB B0 Le Lz 1 ++ dig Lz.length 1 ++ numsB (Lz.take j)) ∧ Rs 1 wi Ae Le.length ce (itK (natK Le)) ∧ Rs 1 wi Az Lz.length cz (itK (natK Lz)) ∧ Below w.heap.size w wi) (fun _ I _ => Lz.length - (intOf I).toNat)
     case atStart => exact ⟨0, A3, n3, n3, rfl, rfl, Nat.zero_le _, by simpa [numsB] using HI.out.1, HI.out.2.1, HI.out.2.2.1, HI.out.2.2.2⟩
     case round =>
      clear HI
      obtain ⟨j, B, k, d, rfl, rfl, hj, hO, hre, hrz, be⟩ := hrel
      have hk : k ≤ 600 + 65 + 65 + 1 + 64 := by
       have h1 := hO.len
       have h3 := ouB_len B0 Le Lz 1
       have h4 := HL0.out
       have h5 := HLL.out
       simp only [List.length_append, dig_length, numsB_len, List.length_take] at h1
       omega
      by_cases hlt : j < Lz.length
      ·have ij : (j : Int) < (Lz.length : Int) := by omega
       obtain ⟨bl, ol, hA, hc⟩ := hrz.int_ j (by rw [natK_len]; exact hlt)
       have hnk : (natK Lz)[j]'(by rw [natK_len]; exact hlt) = ((Lz[j] : Nat) : Int) := by simp [natK]
       rw [hnk] at hc
       have hlt100 := HLL.out.2.2 _ (List.getElem_mem hlt)
       have htk : numsB (Lz.take (j + 1)) = numsB (Lz.take j) ++ dig Lz[j] 1 := by rw [List.take_succ_eq_append_getElem hlt]; unfold numsB; rw [List.flatMap_append]; simp
       generalize Lz[j] = v at *
       have HTK := qy htk
       have hwv : IntKind.u64.wrap (v : Int) = (v : Int) := IntWalk.u64_in _ (by omega)
       subst hA
       clear htk hnk
       go_wp2_with (go_at_call 51; refine (HPG.out _ _ _ _ _ _ hO.rb (by omega) (by omega)).mono ?_; rintro e w1 ⟨A5, n5, bs5, d5, rfl, rfl, ho5⟩)
       have hb1 := below_plus wr bs5 d5
       have he2 := be.trans (hb1.mono be.size)
       have ho6 : Ob (plus wr bs5 d5) w.heap.size A5 n5 n5 (ouB B0 Le Lz 1 ++ dig Lz.length 1 ++ numsB (Lz.take (j + 1))) := by rw [HTK.out, ← List.append_assoc]; exact ho5.mono be.size
       exact ⟨⟨j + 1, A5, _, _, by go_num, rfl, by omega, ho6, hre.later hb1, hrz.later hb1, he2⟩, by simp [intOf]; omega⟩
      ·obtain rfl : j = Lz.length := by omega
       have ij : ¬ (Lz.length : Int) < (Lz.length : Int) := by omega
       rw [List.take_of_length_le (Nat.le_refl _)] at hO
       have hbs : ouB B0 Le Lz 1 ++ dig Lz.length 1 ++ numsB Lz = ouB B0 Le Lz 2 := by simp [ouB, setB, List.append_assoc]
       rw [hbs] at hO
       have HH := qy (And.intro hO (And.intro hre (And.intro hrz be)))
       clear hO hre hrz be hj hk hbs
       go_wp2
       exact ⟨⟨2, B, _, _, rfl, rfl, by omega, HH.out.1, HH.out.2.1, HH.out.2.2.1, HH.out.2.2.2⟩, by simp [intOf]⟩
    ·have HF2 := qy (show ouB B0 Le Lz 2 = stkB S from HFIN.out)
     go_wp2
     go_ret
     rw [← HF2.out]
     exact RetB.mk hO be
end
end

section
attribute [local go_sem ↓] sliced_cut
attribute [local go_sem] cutA_zero
open Go.Lib
open Go.RowKit
theorem sgT_ab (s : Nat × Bool) : ab (sgT s) = (s.1 : Int) := ab_sg
theorem refTabBytes_any (t : Tab) (hok : TabOk t) (A : Option Addr) (m c : Nat) (w : World) (hr : Rs 1 w A m c (itK (refT t))) : Calls Tryz.prog 100 #[.slice A m c] w (RetB w (tabB t)) := by
 have ht := hok.len
 have hm : t.length = m := by have := hr.1; rw [itK_len] at this; simp [refT] at this; omega
 have hm64 : m ≤ 64 := by omega
 have e1 : (m : Int).tdiv 256 = 0 := by rw [Int.tdiv_eq_ediv_of_nonneg (by omega)]; omega
 have e2 : (m : Int).tmod 256 = (m : Int) := by rw [Int.tmod_eq_emod_of_nonneg (by omega)]; omega
 have e3 : IntKind.u8.wrap (m : Int) = (m : Int) := by rw [IntKind.wrap_u8]; omega
 have e4 : IntKind.i64.wrap (m : Int) = (m : Int) := IntWalk.i64_in _ (by omega)
 have HR := qy (fun W (h : Below w.heap.size w W) => hr.later h)
 have hdg := qy (show [Value.int .u8 0, .int .u8 (m : Int)] = bcs (dig m 2) by simp [bcs, dig]; omega)
 have HRG := qy hok.rg
 have be := Below.refl w.heap.size w
 go_enter Tryz.func100, Tryz.ntmps100
 go_upto_region 1 with (fail)
 go_upto_region 3 with (fail)
 have HST := qy (And.intro (Ob.lit (base := w.heap.size) w (Nat.le_refl _) #[.int .u8 0, .int .u8 (m : Int)] (dig m 2) 2 (by simp [dig_length]) (by decide) hdg.out) (Below.allocS (Below.refl w.heap.size w) (.cells #[.int .u8 0, .int .u8 (m : Int)] 5)))
 clear be
 go_loopw [3, 4] (fun OUT I wr => ∃ (j : Nat) (B : Option Addr) (k d : Nat), I = .int .i64 (j : Int) ∧ OUT = .slice B k d ∧ j ≤ m ∧ Ob wr w.heap.size B k d (dig m 2 ++ (t.take j).map slotB) ∧ Below w.heap.size w wr) (fun _ I _ => m - (intOf I).toNat)
 case atStart => exact ⟨0, _, 2, 2, rfl, rfl, Nat.zero_le _, by simpa using HST.out.1, HST.out.2⟩
 case round =>
  clear HST
  obtain ⟨j, B, k, d, rfl, rfl, hj, hO, be⟩ := hrel
  have hk := hO.len
  simp [dig_length] at hk
  by_cases hlt : j < m
  ·have ij : (j : Int) < (m : Int) := by omega
   have hjt : j < t.length := by omega
   obtain ⟨bm, om, hAe, hbm, -⟩ := hr.at_ (by omega) (by decide)
   have hrr := HR.out wr be
   have hcell : ∃ ad, A = some ad ∧ wr.cell? (ad.add j) = some (.int .i64 (sgT (t[j]'hjt))) := by
    rw [hAe] at hrr
    obtain ⟨b2, o2, h1, -, h2⟩ := hrr.at_ (by omega) (by decide)
    injection h1 with h1
    injection h1 with h3 h4
    subst h3 h4
    refine ⟨_, hAe, ?_⟩
    have := h2 j (.int .i64 (sgT (t[j]'hjt))) (by simp [itK, refT, hjt])
    rw [add_plain]
    exact this
   obtain ⟨ad0, hA0, hcell⟩ := hcell
   rw [hAe] at hA0
   obtain rfl := Option.some.inj hA0
   rw [add_plain] at hcell
   have HOW := qy (fun W (h : Rs 1 W A m c (itK (refT t))) => show Calls Tryz.prog 131 #[.slice A m c, .int .i64 (j : Int)] W (fun e w' => e = .returned (.int .i64 ((t[j]'hjt).1 : Int)) ∧ W = w') by
    have h1 := refOwner_any (refT t) j A m c W h (by omega) (by simp [refT]; omega) (by
     have h2 : (refT t)[j]'(by simp [refT]; omega) = sgT (t[j]'hjt) := by simp [refT]
     rw [h2]
     have := HRG.out t[j] (List.getElem_mem hjt)
     unfold sgT
     split <;> omega)
    have h2 : (refT t)[j]'(by simp [refT]; omega) = sgT (t[j]'hjt) := by simp [refT]
    rw [h2, sgT_ab] at h1
    exact h1)
   have hmem := HRG.out t[j] (List.getElem_mem hjt)
   have htk : (t.take (j + 1)).map slotB = (t.take j).map slotB ++ [slotB (t[j]'hjt)] := by rw [List.take_succ_eq_append_getElem hjt, List.map_append]; rfl
   generalize (t[j]'hjt) = s at *
   have HTK := qy htk
   have hsl := qy (bcs_slot hmem.2)
   obtain ⟨ow, aw⟩ := s
   have ho64 : ow ≤ 64 := hmem.2
   have ho1 : 1 ≤ ow := hmem.1
   have hk66 : k ≤ 66 := by omega
   rw [hAe] at HOW HR
   simp only [hAe] at *
   clear htk hk hmem hrr
   have ewo : IntKind.u8.wrap (ow : Int) = (ow : Int) := by rw [IntKind.wrap_u8]; omega
   have q0 : wr.cell? ⟨bm, om + j, none⟩ = some (.int .i64 (sgT (ow, aw))) := hcell
   clear hcell
   go_upto_region 5 with (fail)
   refine wp_region_lit ?_
   iterate 2 (refine qw ?_)
   refine wpq fun K hK => ?_
   go_simp
   refine (HOW.out _ (HR.out _ be)).mono ?_
   rintro e w1 ⟨rfl, rfl⟩
   with_reducible refine hK _ _ ?_
   clear hK K
   refine qw ?_
   cases aw
   ·have hs0 : ¬ sgT (ow, false) < 0 := by unfold sgT; simp
    replace q0 : wr.cell? ⟨bm, om + j, none⟩ = some (.int .i64 (ow : Int)) := q0
    have hs1 : ¬ (ow : Int) < 0 := by omega
    go_upto_region 8 with (fail)
    refine wp_region_lit ?_
    iterate 4 (refine qw ?_)
    refine wpList_app bt rfl (.tmp 31) (.tmp 34) rfl rfl (hO.later (Below.allocS (Below.refl _ _) _)) rfl (Ob.lit wr (Nat.le_refl _) _ [slotB (ow, false)] 1 rfl (by decide) ?_).rb (by omega) (by have := be.size; simp; omega) ?_
    ·exact hsl.out.symm
    intro A2 n2 c2 w4 hO4 hb4 hg4
    refine qw ?_
    have hE2 := (be.trans ((Below.allocS (Below.refl _ _) _).mono be.size)).trans hb4
    go_wp2
    exact ⟨⟨j + 1, A2, _, c2, by go_num, rfl, by omega, by rw [HTK.out, ← List.append_assoc]; exact hO4, hE2⟩, by simp [intOf]; omega⟩
   ·replace q0 : wr.cell? ⟨bm, om + j, none⟩ = some (.int .i64 (-(ow : Int))) := q0
    have hs1 : -(ow : Int) < 0 := by omega
    have hw2 : IntKind.i64.wrap ((ow : Int) + 128) = ((ow + 128 : Nat) : Int) := by rw [IntWalk.i64_in _ (by omega)]; omega
    have hw3 : IntKind.u8.wrap ((ow + 128 : Nat) : Int) = ((ow + 128 : Nat) : Int) := by rw [IntKind.wrap_u8]; omega
    have hw4 : IntKind.u8.wrap ((ow : Int) + 128) = (ow : Int) + 128 := by rw [IntKind.wrap_u8]; omega
    go_upto_region 8 with (fail)
    refine wp_region_lit ?_
    iterate 4 (refine qw ?_)
    refine wpList_app bt rfl (.tmp 31) (.tmp 34) rfl rfl (hO.later (Below.allocS (Below.refl _ _) _)) rfl (Ob.lit wr (Nat.le_refl _) _ [slotB (ow, true)] 1 rfl (by decide) ?_).rb (by omega) (by have := be.size; simp; omega) ?_
    ·exact hsl.out.symm
    intro A2 n2 c2 w4 hO4 hb4 hg4
    refine qw ?_
    have hE2 := (be.trans ((Below.allocS (Below.refl _ _) _).mono be.size)).trans hb4
    go_wp2
    exact ⟨⟨j + 1, A2, _, c2, by go_num, rfl, by omega, by rw [HTK.out, ← List.append_assoc]; exact hO4, hE2⟩, by simp [intOf]; omega⟩
  ·obtain rfl : j = m := by omega
   have ij : ¬ (j : Int) < (j : Int) := by omega
   rw [List.take_of_length_le (by omega)] at hO
   clear hj hk
   go_wp2
   go_ret
   have hd : tabB t = dig j 2 ++ t.map slotB := by unfold tabB; rw [hm]
   rw [hd]
   exact RetB.mk hO be
theorem wpList_appB {P : Program} {w : World} {ops : Array Oper} {rest : List Oper} {o : Oper} {a : Act} {Q : Exit → Act → World → Prop} {ts : TypeId} (bt : BT P ts 5) (hgd : o.guard = none) (s x : Operand)
  (ho : o.op = .call { callee := .builtin .append, args := #[s, x], argTypes := #[ts, ts] })
  {base : Nat} {A : Option Addr} {n c : Nat} {l : List UInt8} (hs : a.eval s = .slice A n c) (hown : Ob w base A n c l)
  {A2 : Option Addr} {n2 c2 : Nat} {l2 : List UInt8} (hx : a.eval x = .slice A2 n2 c2) (hr : Rb w A2 n2 c2 l2) (hm : n + n2 ≤ 1099511627776) (hbase : base ≤ w.heap.size)
  (h : ∀ A' n' c' w', Ob w' base A' n' c' (l ++ l2) → Below base w w' → w.grownBy w' (Value.slice A n c).ownBlock → (∀ k, (Value.slice A' n' c').ownBlock = some k → (Value.slice A n c).ownBlock = some k ∨ w.heap.size ≤ k) → wpList P ops Q rest (a.put o.dst (.slice A' n' c')) w') : wpList P ops Q (o :: rest) a w := by
 refine wpList_plain hgd fun _ hK => ?_
 obtain ⟨A', n', c', w', hrun, h2, h3, h4, h5⟩ := run_appB (P := P) w (ty := o.type) bt hown hr hm hbase
 unfold Oper.wp execOp
 simp only [ho, resolve, invoke, builtin, Sem.run_bind, Sem.run_pure, Result.andThen_ok, List.map_toArray, List.map_cons, List.map_nil, hs, hx, hrun]
 refine hK _ _ (h A' n' c' w' h2 h3 h4 (fun k hk => ?_))
 rcases h5 with h5 | h5
 ·exact .inl (by rw [← h5]; exact hk)
 ·rw [h5] at hk
  injection hk with hk
  exact .inr (by omega)
theorem apart_app {w : World} {A A' B : Option Addr} {n c n' c' m d base : Nat} {l : List UInt8} (h : ∀ k, (Value.slice A n c).ownBlock = some k → (Value.slice B m d).ownBlock ≠ some k) (hn : ∀ k, (Value.slice A' n' c').ownBlock = some k → (Value.slice A n c).ownBlock = some k ∨ w.heap.size ≤ k) (hb : Ob w base B m d l) : ∀ k, (Value.slice A' n' c').ownBlock = some k → (Value.slice B m d).ownBlock ≠ some k := by
 intro k hk e
 rcases hn k hk with h1 | h1
 ·exact h k h1 e
 ·have := (hb.blk k e).2; omega
def evI (S : Stk) (i : Nat) : List Nat := (List.range i).filter fun k : Nat => deadS S (k : Int)
def bzI (S : Stk) (i : Nat) : List Nat := (List.range (min i 8)).filter fun k => S.bz.testBit k
theorem evI_succ (S : Stk) (i : Nat) : evI S (i + 1) = if deadS S (i : Int) = true then evI S i ++ [i] else evI S i := by
 unfold evI
 rw [List.range_succ, List.filter_append]
 split <;> rename_i h <;> simp [h]
theorem bzI_succ (S : Stk) (i : Nat) (h : i < 8) : bzI S (i + 1) = if S.bz.testBit i = true then bzI S i ++ [i] else bzI S i := by
 unfold bzI
 rw [Nat.min_eq_left (by omega), Nat.min_eq_left (by omega), List.range_succ, List.filter_append]
 split <;> rename_i h <;> simp [h]
theorem bzI_big (S : Stk) (i : Nat) (h : ¬ i < 8) : bzI S (i + 1) = bzI S i := by
 unfold bzI
 rw [Nat.min_eq_right (by omega), Nat.min_eq_right (by omega)]
theorem evI_len (S : Stk) (i : Nat) : (evI S i).length ≤ i := by
 unfold evI
 exact Nat.le_trans (List.length_filter_le _ _) (by simp)
theorem bzI_len (S : Stk) (i : Nat) : (bzI S i).length ≤ 8 := by
 unfold bzI
 exact Nat.le_trans (List.length_filter_le _ _) (by simp; omega)
theorem evI_all (S : Stk) : evI S 65 = setL S.ev 1 := by
 unfold evI setL
 rw [List.range_succ_eq_map, List.filter_cons, if_neg (by unfold deadS hasB; simp), List.filter_map]
 have : ∀ i ∈ List.range 64, ((fun k : Nat => deadS S (k : Int)) ∘ Nat.succ) i = S.ev.testBit i := fun i hi => by
  have hi := List.mem_range.1 hi
  unfold deadS hasB
  simp only [Function.comp, Nat.succ_eq_add_one]
  rw [decide_eq_true (by omega), decide_eq_true (by omega)]
  simp
 rw [List.filter_congr this]
theorem bzI_all (S : Stk) (h : S.bz < 256) : bzI S 65 = setL S.bz 0 := by
 unfold bzI setL
 rw [show min 65 8 = 8 from rfl, filter_range_skip S.bz 8 64 (fun i h1 h2 => Nat.testBit_lt_two_pow (Nat.lt_of_lt_of_le h (by exact Nat.pow_le_pow_right (by decide) h1 : 2 ^ 8 ≤ 2 ^ i))) (by decide)]
 simp
theorem numsB_snoc (l : List Nat) (i : Nat) : numsB (l ++ [i]) = numsB l ++ dig i 1 := by simp [numsB]
theorem dig1_bcs (i : Nat) (h : i < 256) : [Value.int .u8 (i : Int)] = bcs (dig i 1) := by simp [bcs, dig]; omega
theorem cell_below {w w' : World} {p : Addr} {v : Value} (hb : Below w.heap.size w w') (h : w.cell? p = some v) : w'.cell? p = some v := by
 have hlt : p.block < w.heap.size := by
  refine Nat.lt_of_not_le (fun hge => ?_)
  have h0 : w.heap[p.block]? = none := Array.getElem?_eq_none hge
  unfold World.cell? at h
  simp [h0] at h
 obtain ⟨g, o, m⟩ := p
 exact (World.cell?_of_block (hb.block g hlt)).trans h
theorem refStkBytes_any (S : Stk) (hok : StkOk S) (A : Option Addr) (n c : Nat) (w : World) {D : Nat → Prop} (hR : RSt D w S.lv A n c) : Calls Tryz.prog 61 #[.agg (rstC A n c S).toArray] w (RetB w (stkB S)) := by
 have h8 := hok.len
 have hn := hR.len
 have hn8 : n ≤ 8 := by omega
 have HSV := qy (show stkB S = dig S.lv.length 1 ++ levsB S.lv ++ (dig (evI S 65).length 1 ++ numsB (evI S 65)) ++ (dig (bzI S 65).length 1 ++ numsB (bzI S 65)) by rw [evI_all, bzI_all S hok.bz]; rfl)
 have HRR := qy (fun W (h : Below w.heap.size w W) => hR.later h)
 have HRG := qy hok.rg
 have HNN := qy hn
 have e3 : IntKind.u8.wrap (n : Int) = (n : Int) := by rw [IntKind.wrap_u8]; omega
 have hdn := qy (dig1_bcs n (by omega))
 clear hR hn
 obtain ⟨dvr1, vr1, vr2⟩ := rowRst
 obtain ⟨bs, be, zV⟩ := box1 w 152 (rstC A n c S)
 go_enter Tryz.func61, Tryz.ntmps61
 go_upto_region 1 with (fail)
 generalize w.alloc (.cells (rstC A n c S).toArray 152) = V at *
 have hVs : V.heap.size = w.heap.size + 1 ∨ True := .inr trivial
 have q0 : V.cell? ⟨w.heap.size, 0, none⟩ = some (.slice A n c) := bs.cell 0
 go_upto_region 3 with (fail)
 have hst0 : Ob (V.alloc (.cells #[.int .u8 (n : Int)] 5)) V.heap.size (some ⟨V.heap.size, 0, none⟩) 1 1 (dig S.lv.length 1) := by rw [← HNN.out]; exact Ob.lit V (Nat.le_refl _) #[.int .u8 (n : Int)] (dig n 1) 1 (by simp [dig_length]) (by decide) hdn.out
 have HST := qy (And.intro hst0 (Below.allocS (Below.refl V.heap.size V) (.cells #[.int .u8 (n : Int)] 5)))
 have HBS := qy (And.intro bs be)
 have HQ00 := qy (fun W' (h : Below V.heap.size V W') => show W'.cell? ⟨w.heap.size, 0, none⟩ = some (.slice A n c) from (bs.later h).cell 0)
 have hbs := be.size
 clear hst0 q0 bs be hVs
 go_loopw [3, 4] (fun OUT I wr => ∃ (qi : Nat) (Bk : Option Addr) (kk dk : Nat), OUT = .slice Bk kk dk ∧ I = .int .i64 (qi : Int) ∧ qi ≤ n ∧ Ob wr V.heap.size Bk kk dk (dig S.lv.length 1 ++ levsB (S.lv.take qi)) ∧ Below V.heap.size V wr) (fun _ I _ => n - (intOf I).toNat)
 case atStart => exact ⟨0, _, 1, 1, rfl, rfl, Nat.zero_le _, by simpa [levsB] using HST.out.1, HST.out.2⟩
 case round =>
  clear HST
  obtain ⟨qi, Bk, kk, dk, rfl, rfl, hi, hO, hEV⟩ := hrel
  have q0 := HQ00.out wr hEV
  have hB0 : (dig S.lv.length 1 ++ levsB (S.lv.take qi)).length ≤ 1000 := by
   rw [List.length_append, dig_length]
   have h1 : (levsB (S.lv.take qi)).length ≤ 67 * (S.lv.take qi).length := levsB_len (fun e he => (HRG.out e (List.mem_of_mem_take he)).2)
   have h2 : (S.lv.take qi).length ≤ 8 := by simp; omega
   omega
  have hkk := hO.len
  by_cases hil : qi < n
  ·have hi1 : (qi : Int) < (n : Int) := by omega
   have hiL : qi < S.lv.length := by have := HNN.out; omega
   obtain ⟨bl, ol, At, nt, ct, hAe, hc1, hc2, hrt, -⟩ := (HRR.out V HBS.out.2).at_ qi hiL
   rw [hAe] at q0
   have htk : levsB (S.lv.take (qi + 1)) = levsB (S.lv.take qi) ++ (dig (S.lv[qi]'hiL).1 1 ++ tabB (S.lv[qi]'hiL).2) := by unfold levsB; rw [List.take_succ_eq_append_getElem hiL, List.flatMap_append]; simp [levB]
   have hmem := HRG.out _ (List.getElem_mem hiL)
   generalize S.lv[qi]'hiL = en at *
   obtain ⟨ver, tt⟩ := en
   have hv8 : ver < 8 := hmem.1
   have htt : TabOk tt := hmem.2
   have htt66 : (tabB tt).length ≤ 100 := by rw [tabB_len]; have := htt.len; omega
   have HTK := qy htk
   have HKB := qy (fun W (h : Kept (fun b => b < V.heap.size) wr W) => (h.below hEV.size (fun b hb => hb) : Below V.heap.size wr W))
   have HQ0 := qy (fun W (h : Below V.heap.size wr W) => show W.cell? ⟨w.heap.size, 0, none⟩ = some (.slice (some ⟨bl, ol, none⟩) n c) by rw [← hAe]; exact HQ00.out W (hEV.trans h))
   have HCC := qy (fun W (h : Below V.heap.size wr W) => show W.cell? ⟨bl, ol + qi * 2, none⟩ = some (.int .i64 (ver : Int)) ∧ W.cell? ⟨bl, ol + qi * 2 + 1, none⟩ = some (.slice At nt ct) ∧ Rs 1 W At nt ct (itK (refT tt)) from ⟨cell_below (hEV.trans h) hc1, cell_below (hEV.trans h) hc2, hrt.later (hEV.trans h)⟩)
   have HQ1 := qy (fun W h => (HCC.out W h).1)
   have HQ2 := qy (fun W h => (HCC.out W h).2.1)
   have HQ3 := qy (fun W h => (HCC.out W h).2.2)
   have HTB := qy (fun W (h : Rs 1 W At nt ct (itK (refT tt))) => refTabBytes_any tt htt At nt ct W h)
   have e5 : IntKind.u8.wrap (ver : Int) = (ver : Int) := by rw [IntKind.wrap_u8]; omega
   have hdv := qy (dig1_bcs ver (by omega))
   clear hc1 hc2 hrt hmem htk htt
   generalize hB0e : dig S.lv.length 1 ++ levsB (S.lv.take qi) = B0 at *
   have HB0 := qy hB0e
   clear hB0e
   go_upto_region 5 with (fail)
   refine wp_own (fun b => b < V.heap.size) 19 1 80 2 (fun i => match i with | i => i) (fun i => match i with | 0 => [19] | 9 => [0] | 17 => [9] | 18 => [17] | _ => []) (fun i => match i with | 19 => .slice Bk kk dk | _ => undef) rfl (by kernel_rfl) (by kernel_rfl) (fun i => match i with | 0 => Own.ob V.heap.size B0 | 1 => Own.eq (.pointer (some ⟨w.heap.size, 0, none⟩)) | 2 => Own.eq (.slice (some ⟨bl, ol, none⟩) n c) | 3 => Own.eq (.int .i64 (qi : Int)) | 4 => Own.eq (.pointer (some ⟨bl, ol + qi * 2, none⟩)) | 5 => Own.eq (.pointer (some ⟨bl, ol + qi * 2, none⟩)) | 6 => Own.eq (.int .i64 (ver : Int)) | 7 => Own.eq (.int .u8 (ver : Int)) | 8 => Own.ob V.heap.size (dig ver 1) | 9 => Own.ob V.heap.size (B0 ++ dig ver 1) | 10 => Own.eq (.pointer (some ⟨w.heap.size, 0, none⟩)) | 11 => Own.eq (.slice (some ⟨bl, ol, none⟩) n c) | 12 => Own.eq (.int .i64 (qi : Int)) | 13 => Own.eq (.pointer (some ⟨bl, ol + qi * 2, none⟩)) | 14 => Own.eq (.pointer (some ⟨bl, ol + qi * 2 + 1, none⟩)) | 15 => Own.eq (.slice At nt ct) | 16 => Own.ob V.heap.size (tabB tt) | 17 => Own.ob V.heap.size ((B0 ++ dig ver 1) ++ tabB tt) | 18 => Own.ob V.heap.size ((B0 ++ dig ver 1) ++ tabB tt) | 19 => Own.ob V.heap.size (B0) | _ => Own.any) (fun b h => Nat.lt_of_lt_of_le h hEV.size) ?_ ?_ ?_ ?_ ?_
   ·exact fun t ht => by obtain rfl : t = 0 := (by omega); exact ⟨_, _, _, rfl, hO⟩
   ·exact fun t t' h1 h2 hne => absurd (show t = t' by omega) hne
   ·exact fun t ht b hb hp => by obtain rfl : t = 0 := (by omega); have h1 := (hO.blk b hb).1; have h2 : b < V.heap.size := hp; omega
   ·intro i hi o ho FA w' vs H K hK
    match i, hi, ho, H, hK with
    | 0, _, ho, H, hK => 
     obtain rfl := qoi ho
     have ev3 : FA.eval (.tmp 3) = .slice Bk kk dk := H.out 3 (by kernel_rfl)
     have e3 : FA.tmps[3]?.getD undef = .slice Bk kk dk := by simpa [Act.eval] using ev3
     replace ev3 := qy ev3
     have hv0 : vs 19 = .slice Bk kk dk := H.virt 19 (by omega)
     have hw := H.word 19 (by omega) (by kernel_rfl)
     rw [hv0] at hw
     go_simp
     exact hK.out _ _ (chgX (Ex.refl _)) hw (fun b hb => .inl ⟨19, rfl, by show (vs 19).ownBlock = some b; rw [hv0]; exact hb⟩)
    | 1, _, ho, H, hK => 
     obtain rfl := qoi ho
     have ev1 : FA.eval (.tmp 1) = .pointer (some ⟨w.heap.size, 0, none⟩) := H.out 1 (by kernel_rfl)
     have e1 : FA.tmps[1]?.getD undef = .pointer (some ⟨w.heap.size, 0, none⟩) := by simpa [Act.eval] using ev1
     replace ev1 := qy ev1
     go_simp
     exact hK.out _ _ (chgX (Ex.refl _)) rfl (fun _ h => h.elim)
    | 2, _, ho, H, hK => 
     obtain rfl := qoi ho
     have ev21 : FA.eval (.tmp 21) = .pointer (some ⟨w.heap.size, 0, none⟩) := (H.dep 1 21 (by kernel_rfl)).trans (H.word 1 (by omega) (by kernel_rfl))
     have e21 : FA.tmps[21]?.getD undef = .pointer (some ⟨w.heap.size, 0, none⟩) := by simpa [Act.eval] using ev21
     replace ev21 := qy ev21
     have q0 := HQ0.out w' (HKB.out _ H.kept)
     go_simp
     exact hK.out _ _ (chgX (Ex.refl _)) rfl (fun _ h => h.elim)
    | 3, _, ho, H, hK => 
     obtain rfl := qoi ho
     have ev4 : FA.eval (.tmp 4) = .int .i64 (qi : Int) := H.out 4 (by kernel_rfl)
     have e4 : FA.tmps[4]?.getD undef = .int .i64 (qi : Int) := by simpa [Act.eval] using ev4
     replace ev4 := qy ev4
     go_simp
     exact hK.out _ _ (chgX (Ex.refl _)) rfl (fun _ h => h.elim)
    | 4, _, ho, H, hK => 
     obtain rfl := qoi ho
     have ev22 : FA.eval (.tmp 22) = .slice (some ⟨bl, ol, none⟩) n c := (H.dep 2 22 (by kernel_rfl)).trans (H.word 2 (by omega) (by kernel_rfl))
     have e22 : FA.tmps[22]?.getD undef = .slice (some ⟨bl, ol, none⟩) n c := by simpa [Act.eval] using ev22
     replace ev22 := qy ev22
     have ev23 : FA.eval (.tmp 23) = .int .i64 (qi : Int) := (H.dep 3 23 (by kernel_rfl)).trans (H.word 3 (by omega) (by kernel_rfl))
     have e23 : FA.tmps[23]?.getD undef = .int .i64 (qi : Int) := by simpa [Act.eval] using ev23
     replace ev23 := qy ev23
     go_simp
     exact hK.out _ _ (chgX (Ex.refl _)) rfl (fun _ h => h.elim)
    | 5, _, ho, H, hK => 
     obtain rfl := qoi ho
     have ev24 : FA.eval (.tmp 24) = .pointer (some ⟨bl, ol + qi * 2, none⟩) := (H.dep 4 24 (by kernel_rfl)).trans (H.word 4 (by omega) (by kernel_rfl))
     have e24 : FA.tmps[24]?.getD undef = .pointer (some ⟨bl, ol + qi * 2, none⟩) := by simpa [Act.eval] using ev24
     replace ev24 := qy ev24
     go_simp
     exact hK.out _ _ (chgX (Ex.refl _)) rfl (fun _ h => h.elim)
    | 6, _, ho, H, hK => 
     obtain rfl := qoi ho
     have ev25 : FA.eval (.tmp 25) = .pointer (some ⟨bl, ol + qi * 2, none⟩) := (H.dep 5 25 (by kernel_rfl)).trans (H.word 5 (by omega) (by kernel_rfl))
     have e25 : FA.tmps[25]?.getD undef = .pointer (some ⟨bl, ol + qi * 2, none⟩) := by simpa [Act.eval] using ev25
     replace ev25 := qy ev25
     have q1 := HQ1.out w' (HKB.out _ H.kept)
     go_simp
     exact hK.out _ _ (chgX (Ex.refl _)) rfl (fun _ h => h.elim)
    | 7, _, ho, H, hK => 
     obtain rfl := qoi ho
     have ev26 : FA.eval (.tmp 26) = .int .i64 (ver : Int) := (H.dep 6 26 (by kernel_rfl)).trans (H.word 6 (by omega) (by kernel_rfl))
     have e26 : FA.tmps[26]?.getD undef = .int .i64 (ver : Int) := by simpa [Act.eval] using ev26
     replace ev26 := qy ev26
     go_simp
     exact hK.out _ _ (chgX (Ex.refl _)) rfl (fun _ h => h.elim)
    | 8, _, ho, H, hK => 
     obtain rfl := qoi ho
     have ev27 : FA.eval (.tmp 27) = .int .u8 (ver : Int) := (H.dep 7 27 (by kernel_rfl)).trans (H.word 7 (by omega) (by kernel_rfl))
     have e27 : FA.tmps[27]?.getD undef = .int .u8 (ver : Int) := by simpa [Act.eval] using ev27
     replace ev27 := qy ev27
     go_simp
     have ho1 := Ob.lit w' (Nat.le_refl _) #[.int .u8 (ver : Int)] (dig ver 1) 1 (by simp [dig_length]) (by decide) hdv.out
     exact hK.out _ _ (chgX (Ex.alloc _ _)) ⟨_, _, _, rfl, ho1.mono (Nat.le_trans hEV.size H.kept.size)⟩ (fun b hb => .inr (ho1.blk b hb).1)
    | 9, _, ho, H, hK => 
     obtain rfl := qoi ho
     clear ho
     have ev20 := H.dep 0 20 (by kernel_rfl)
     have e20 : FA.tmps[20]?.getD undef = vs 0 := by simpa [Act.eval] using ev20
     replace ev20 := qy ev20
     have ev28 := H.dep 8 28 (by kernel_rfl)
     have e28 : FA.tmps[28]?.getD undef = vs 8 := by simpa [Act.eval] using ev28
     replace ev28 := qy ev28
     obtain ⟨A1, n1, c1, hv1, h1⟩ := H.word 0 (by omega) (by kernel_rfl)
     obtain ⟨A2, n2, c2, hv2, h2⟩ := H.word 8 (by omega) (by kernel_rfl)
     have hn1 : n1 ≤ 1000 := by rw [← h1.1]; exact hB0
     have hn2 : n2 ≤ 100 := by rw [← h2.1]; simp [dig_length]
     refine wanted_if rfl ?_
     refine own_app bt (.tmp 20) (.tmp 28) rfl (ev20.out.trans hv1) h1 (ev28.out.trans hv2) h2.rb (by omega) (Nat.le_trans hEV.size H.kept.size) ?_
     intro A3 n3 c3 w3 ho3 hg3 hf3
     refine hK.out _ _ (Chg.grown hg3 (fun k hk => ⟨0, rfl, by show (vs 0).ownBlock = some k; rw [hv1]; exact hk⟩)) ⟨_, _, _, rfl, ho3⟩ (fun b hb => ?_)
     rcases hf3 b hb with h | h
     ·exact .inl ⟨0, rfl, by show (vs 0).ownBlock = some b; rw [hv1]; exact h⟩
     ·exact .inr h
    | 10, _, ho, H, hK => 
     obtain rfl := qoi ho
     have ev1 : FA.eval (.tmp 1) = .pointer (some ⟨w.heap.size, 0, none⟩) := H.out 1 (by kernel_rfl)
     have e1 : FA.tmps[1]?.getD undef = .pointer (some ⟨w.heap.size, 0, none⟩) := by simpa [Act.eval] using ev1
     replace ev1 := qy ev1
     go_simp
     exact hK.out _ _ (chgX (Ex.refl _)) rfl (fun _ h => h.elim)
    | 11, _, ho, H, hK => 
     obtain rfl := qoi ho
     have ev30 : FA.eval (.tmp 30) = .pointer (some ⟨w.heap.size, 0, none⟩) := (H.dep 10 30 (by kernel_rfl)).trans (H.word 10 (by omega) (by kernel_rfl))
     have e30 : FA.tmps[30]?.getD undef = .pointer (some ⟨w.heap.size, 0, none⟩) := by simpa [Act.eval] using ev30
     replace ev30 := qy ev30
     have q0 := HQ0.out w' (HKB.out _ H.kept)
     go_simp
     exact hK.out _ _ (chgX (Ex.refl _)) rfl (fun _ h => h.elim)
    | 12, _, ho, H, hK => 
     obtain rfl := qoi ho
     have ev4 : FA.eval (.tmp 4) = .int .i64 (qi : Int) := H.out 4 (by kernel_rfl)
     have e4 : FA.tmps[4]?.getD undef = .int .i64 (qi : Int) := by simpa [Act.eval] using ev4
     replace ev4 := qy ev4
     go_simp
     exact hK.out _ _ (chgX (Ex.refl _)) rfl (fun _ h => h.elim)
    | 13, _, ho, H, hK => 
     obtain rfl := qoi ho
     have ev31 : FA.eval (.tmp 31) = .slice (some ⟨bl, ol, none⟩) n c := (H.dep 11 31 (by kernel_rfl)).trans (H.word 11 (by omega) (by kernel_rfl))
     have e31 : FA.tmps[31]?.getD undef = .slice (some ⟨bl, ol, none⟩) n c := by simpa [Act.eval] using ev31
     replace ev31 := qy ev31
     have ev32 : FA.eval (.tmp 32) = .int .i64 (qi : Int) := (H.dep 12 32 (by kernel_rfl)).trans (H.word 12 (by omega) (by kernel_rfl))
     have e32 : FA.tmps[32]?.getD undef = .int .i64 (qi : Int) := by simpa [Act.eval] using ev32
     replace ev32 := qy ev32
     go_simp
     exact hK.out _ _ (chgX (Ex.refl _)) rfl (fun _ h => h.elim)
    | 14, _, ho, H, hK => 
     obtain rfl := qoi ho
     have ev33 : FA.eval (.tmp 33) = .pointer (some ⟨bl, ol + qi * 2, none⟩) := (H.dep 13 33 (by kernel_rfl)).trans (H.word 13 (by omega) (by kernel_rfl))
     have e33 : FA.tmps[33]?.getD undef = .pointer (some ⟨bl, ol + qi * 2, none⟩) := by simpa [Act.eval] using ev33
     replace ev33 := qy ev33
     go_simp
     exact hK.out _ _ (chgX (Ex.refl _)) rfl (fun _ h => h.elim)
    | 15, _, ho, H, hK => 
     obtain rfl := qoi ho
     have ev34 : FA.eval (.tmp 34) = .pointer (some ⟨bl, ol + qi * 2 + 1, none⟩) := (H.dep 14 34 (by kernel_rfl)).trans (H.word 14 (by omega) (by kernel_rfl))
     have e34 : FA.tmps[34]?.getD undef = .pointer (some ⟨bl, ol + qi * 2 + 1, none⟩) := by simpa [Act.eval] using ev34
     replace ev34 := qy ev34
     have q2 := HQ2.out w' (HKB.out _ H.kept)
     go_simp
     exact hK.out _ _ (chgX (Ex.refl _)) rfl (fun _ h => h.elim)
    | 16, _, ho, H, hK => 
     obtain rfl := qoi ho
     have ev35 : FA.eval (.tmp 35) = .slice At nt ct := (H.dep 15 35 (by kernel_rfl)).trans (H.word 15 (by omega) (by kernel_rfl))
     have e35 : FA.tmps[35]?.getD undef = .slice At nt ct := by simpa [Act.eval] using ev35
     replace ev35 := qy ev35
     go_simp
     refine (HTB.out w' (HQ3.out w' (HKB.out _ H.kept))).mono ?_
     rintro e w1 ⟨A1, n1, c1, bs2, d2, rfl, rfl, ho1⟩
     exact hK.out _ _ (chgX (Ex.plus_ _ _ _)) ⟨_, _, _, rfl, ho1.mono (Nat.le_trans hEV.size H.kept.size)⟩ (fun b hb => .inr (ho1.blk b hb).1)
    | 17, _, ho, H, hK => 
     obtain rfl := qoi ho
     clear ho
     have ev29 := H.dep 9 29 (by kernel_rfl)
     have e29 : FA.tmps[29]?.getD undef = vs 9 := by simpa [Act.eval] using ev29
     replace ev29 := qy ev29
     have ev36 := H.dep 16 36 (by kernel_rfl)
     have e36 : FA.tmps[36]?.getD undef = vs 16 := by simpa [Act.eval] using ev36
     replace ev36 := qy ev36
     obtain ⟨A1, n1, c1, hv1, h1⟩ := H.word 9 (by omega) (by kernel_rfl)
     obtain ⟨A2, n2, c2, hv2, h2⟩ := H.word 16 (by omega) (by kernel_rfl)
     have hn1 : n1 ≤ 1001 := by rw [← h1.1, List.length_append, dig_length]; omega
     have hn2 : n2 ≤ 100 := by rw [← h2.1]; exact htt66
     refine wanted_if rfl ?_
     refine own_app bt (.tmp 29) (.tmp 36) rfl (ev29.out.trans hv1) h1 (ev36.out.trans hv2) h2.rb (by omega) (Nat.le_trans hEV.size H.kept.size) ?_
     intro A3 n3 c3 w3 ho3 hg3 hf3
     refine hK.out _ _ (Chg.grown hg3 (fun k hk => ⟨9, rfl, by show (vs 9).ownBlock = some k; rw [hv1]; exact hk⟩)) ⟨_, _, _, rfl, ho3⟩ (fun b hb => ?_)
     rcases hf3 b hb with h | h
     ·exact .inl ⟨9, rfl, by show (vs 9).ownBlock = some b; rw [hv1]; exact h⟩
     ·exact .inr h
    | 18, _, ho, H, hK => 
     obtain rfl := qoi ho
     clear ho
     have ev37 := H.dep 17 37 (by kernel_rfl)
     have e37 : FA.tmps[37]?.getD undef = vs 17 := by simpa [Act.eval] using ev37
     replace ev37 := qy ev37
     have hw := H.word 17 (by omega) (by kernel_rfl)
     go_simp
     exact hK.out _ _ (chgX (Ex.refl _)) hw (fun b hb => .inl ⟨17, rfl, hb⟩)
    | (k + 19), hi, _, _, _ => exact absurd hi (by omega)
   intro vs w' hC hV hW hDis hFr
   have p1 : vs 1 = .pointer (some ⟨w.heap.size, 0, none⟩) := hW 1 (by omega) (by kernel_rfl)
   have p2 : vs 2 = .slice (some ⟨bl, ol, none⟩) n c := hW 2 (by omega) (by kernel_rfl)
   have p3 : vs 3 = .int .i64 (qi : Int) := hW 3 (by omega) (by kernel_rfl)
   have p4 : vs 4 = .pointer (some ⟨bl, ol + qi * 2, none⟩) := hW 4 (by omega) (by kernel_rfl)
   have p5 : vs 5 = .pointer (some ⟨bl, ol + qi * 2, none⟩) := hW 5 (by omega) (by kernel_rfl)
   have p6 : vs 6 = .int .i64 (ver : Int) := hW 6 (by omega) (by kernel_rfl)
   have p7 : vs 7 = .int .u8 (ver : Int) := hW 7 (by omega) (by kernel_rfl)
   have p8 := hW 8 (by omega) (by kernel_rfl)
   have p10 : vs 10 = .pointer (some ⟨w.heap.size, 0, none⟩) := hW 10 (by omega) (by kernel_rfl)
   have p11 : vs 11 = .slice (some ⟨bl, ol, none⟩) n c := hW 11 (by omega) (by kernel_rfl)
   have p12 : vs 12 = .int .i64 (qi : Int) := hW 12 (by omega) (by kernel_rfl)
   have p13 : vs 13 = .pointer (some ⟨bl, ol + qi * 2, none⟩) := hW 13 (by omega) (by kernel_rfl)
   have p14 : vs 14 = .pointer (some ⟨bl, ol + qi * 2 + 1, none⟩) := hW 14 (by omega) (by kernel_rfl)
   have p15 : vs 15 = .slice At nt ct := hW 15 (by omega) (by kernel_rfl)
   have p16 := hW 16 (by omega) (by kernel_rfl)
   have p18 := hW 18 (by omega) (by kernel_rfl)
   clear hW
   simp only [qta, qtb, qda, qdb, putAll, Nat.zero_add, Nat.reduceAdd, Act.put, qsT, qsZ, qsS, p1, p2, p3, p4, p5, p6, p7, p10, p11, p12, p13, p14, p15]
   obtain ⟨A5, n5, c5, hA5, ho5⟩ := p18
   replace hA5 : vs 18 = .slice A5 n5 c5 := hA5
   clear p16 p8 hDis hFr hV
   rw [hA5]
   have hE5 := hEV.trans (hC.below hEV.size (fun b hb => hb) : Below V.heap.size wr w')
   rw [List.append_assoc, ← HB0.out, List.append_assoc, ← HTK.out] at ho5
   go_wp2
   exact ⟨⟨qi + 1, A5, n5, c5, rfl, by go_num, by omega, ho5, hE5⟩, by simp [intOf]; omega⟩
  ·have hi1 : ¬ (qi : Int) < (n : Int) := by omega
   rw [List.take_of_length_le (by have := HNN.out; omega)] at hO hB0
   clear hi hil
   generalize hB1e : dig S.lv.length 1 ++ levsB S.lv = B1 at *
   clear hB1e
   have HBW := qy (fun W (h : Below wr.heap.size wr W) => (HBS.out.1.later hEV).later h)
   go_upto_region 8 with (fail)
   clear q0
   have HF := qy (And.intro hO hEV)
   clear hO hEV
   generalize wr = W0 at *
   have hKS := HF.out.2.size
   go_loopw [5, 6, 7] (fun AA BB I wr => ∃ (q : Nat) (A1 : Option Addr) (n1 c1 : Nat) (A2 : Option Addr) (n2 c2 : Nat), AA = .slice A1 n1 c1 ∧ BB = .slice A2 n2 c2 ∧ I = .int .i64 (q : Int) ∧ q ≤ 65 ∧ Ob wr W0.heap.size A1 n1 c1 (numsB (evI S q)) ∧ Ob wr W0.heap.size A2 n2 c2 (numsB (bzI S q)) ∧ (∀ k, (Value.slice A1 n1 c1).ownBlock = some k → (Value.slice A2 n2 c2).ownBlock ≠ some k) ∧ Below W0.heap.size W0 wr) (fun _ _ I _ => 65 - (intOf I).toNat)
   case atStart => exact ⟨0, none, 0, 0, none, 0, 0, rfl, rfl, rfl, by omega, Ob.nil_, Ob.nil_, (fun k hk => by cases hk), Below.refl _ _⟩
   case round =>
    obtain ⟨q, A1, n1, c1, A2, n2, c2, rfl, rfl, rfl, hq, h1, h2, hab, hE⟩ := hrel
    have hl1 := h1.len
    have hl2 := h2.len
    rw [numsB_len] at hl1 hl2
    have hl1b := evI_len S q
    have hl2b := bzI_len S q
    by_cases hq65 : q < 65
    ·have hq1 : (q : Int) < 65 := by omega
     have hwq : IntKind.u8.wrap (q : Int) = (q : Int) := by rw [IntKind.wrap_u8]; omega
     have hdq := qy (dig1_bcs q (by omega))
     have qe : wr.cell? ⟨w.heap.size, 1 + q, none⟩ = some (.bool (deadS S (q : Int))) := ((HBW.out wr hE).cell _).trans (rstC_ev A n c S q hq65)
     have hes := evI_succ S q
     cases hd : deadS S (q : Int)
     focus
      rw [hd] at qe hes
      have HES := qy (show evI S (q + 1) = evI S q from hes)
      clear hes hd
      rw [← HES.out] at h1
      go_upto_region 12 with (fail)
      clear qe
     rotate_left
     focus
      rw [hd] at qe hes
      have HES := qy (show evI S (q + 1) = evI S q ++ [q] from hes)
      clear hes hd
      go_upto_region 11 with (fail)
      clear qe
      have hr2 := h2.later (Below.allocS (Below.refl wr.heap.size wr) (.cells #[.int .u8 (q : Int)] 5))
      have hE6 := hE.trans ((Below.allocS (Below.refl wr.heap.size wr) (.cells #[.int .u8 (q : Int)] 5)).mono hE.size)
      refine wp_region_lit ?_
      iterate 4 (refine qw ?_)
      refine wpList_appB bt rfl (.tmp 46) (.tmp 49) rfl rfl (h1.later (Below.allocS (Below.refl _ _) _)) rfl (Ob.lit wr (Nat.le_refl _) _ (dig q 1) 1 (by simp [dig_length]) (by decide) hdq.out).rb (by omega) (by have := hE.size; simp; omega) ?_
      intro A1 n1 c1 wr hO7 hb7 hg7 hn7
      refine qw ?_
      have h17 : Ob wr W0.heap.size A1 n1 c1 (numsB (evI S (q + 1))) := by rw [HES.out, numsB_snoc]; exact hO7
      have h27 := hr2.grown hg7 (fun k hk e => hab k e hk)
      have hab7 := apart_app hab hn7 hr2
      have hE7 : Below W0.heap.size W0 wr := hE6.trans hb7
      have hl3 := h17.len
      rw [numsB_len] at hl3
      have hl3b := evI_len S (q + 1)
      clear h1 h2 hab hE hO7 hb7 hg7 hn7 hr2 hE6
      have h1 := h17
      have h2 := h27
      have hab := hab7
      have hE := hE7
      clear h17 h27 hab7 hE7
      go_upto_region 12 with (fail)
     iterate 2
      focus
       by_cases hq8 : q < 8
       ·have hq8i : (q : Int) < 8 := by omega
        have hbs := bzI_succ S q hq8
        cases hb : S.bz.testBit q
        ·rw [hb] at hbs
         have HBS2 := qy (show bzI S (q + 1) = bzI S q from hbs)
         have HTB := qy hb
         clear hbs hb
         refine wp_region_lit ?_
         iterate 3 (refine qw ?_)
         iterate 3 (refine wpList_step (fun K hK => ?_); go_simp; with_reducible refine hK _ _ ?_; clear hK K)
         refine wpList_ld1 (t := 152) (cs := rstC A n c S) 4 (.tmp 56) rfl (by go_simp) rfl (HBW.out _ hE) ((rstC_bz A n c S q hq8).trans (by rw [HTB.out])) Tryz.underlying4 rfl ?_
         refine qw ?_
         rw [← HBS2.out] at h2
         go_wp2
         exact ⟨⟨q + 1, A1, n1, c1, A2, n2, c2, rfl, rfl, by go_num, by omega, h1, h2, hab, hE⟩, by simp [intOf]; omega⟩
        ·rw [hb] at hbs
         have HBS2 := qy (show bzI S (q + 1) = bzI S q ++ [q] from hbs)
         have HTB := qy hb
         clear hbs hb
         refine wp_region_lit ?_
         iterate 3 (refine qw ?_)
         iterate 3 (refine wpList_step (fun K hK => ?_); go_simp; with_reducible refine hK _ _ ?_; clear hK K)
         refine wpList_ld1 (t := 152) (cs := rstC A n c S) 4 (.tmp 56) rfl (by go_simp) rfl (HBW.out _ hE) ((rstC_bz A n c S q hq8).trans (by rw [HTB.out])) Tryz.underlying4 rfl ?_
         refine qw ?_
         go_upto_region 13 with (fail)
         refine wp_region_lit ?_
         iterate 4 (refine qw ?_)
         refine wpList_appB bt rfl (.tmp 59) (.tmp 62) rfl rfl (h2.later (Below.allocS (Below.refl _ _) _)) rfl (Ob.lit wr (Nat.le_refl _) _ (dig q 1) 1 (by simp [dig_length]) (by decide) hdq.out).rb (by omega) (by have := hE.size; simp; omega) ?_
         intro A4 n4 c4 w8 hO7 hb7 hg7 hn7
         refine qw ?_
         have h28 : Ob w8 W0.heap.size A4 n4 c4 (numsB (bzI S (q + 1))) := by rw [HBS2.out, numsB_snoc]; exact hO7
         have hba : ∀ k, (Value.slice A2 n2 c2).ownBlock = some k → (Value.slice A1 n1 c1).ownBlock ≠ some k := fun k hk e => hab k e hk
         have h18 := (h1.later (Below.allocS (Below.refl wr.heap.size wr) (.cells #[.int .u8 (q : Int)] 5))).grown hg7 (fun k hk e => hba k e hk)
         have hba8 := apart_app hba hn7 (h1.later (Below.allocS (Below.refl wr.heap.size wr) (.cells #[.int .u8 (q : Int)] 5)))
         have hE8 : Below W0.heap.size W0 w8 := (hE.trans ((Below.allocS (Below.refl _ _) _).mono hE.size)).trans hb7
         go_wp2
         exact ⟨⟨q + 1, A1, n1, c1, A4, n4, c4, rfl, rfl, by go_num, by omega, h18, h28, fun k hk e => hba8 k e hk, hE8⟩, by simp [intOf]; omega⟩
       ·have hq8i : ¬ (q : Int) < 8 := by omega
        have HBS2 := qy (bzI_big S q hq8)
        refine wp_region_lit ?_
        iterate 3 (refine qw ?_)
        iterate 4 ((with_reducible refine wpList_skip ?_ ?_); (· first | (go_simp; done) | (go_simp; intro h; cases h)); simp only [Act.put, qsT, qsZ, qsS])
        refine qw ?_
        rw [← HBS2.out] at h2
        go_wp2
        exact ⟨⟨q + 1, A1, n1, c1, A2, n2, c2, rfl, rfl, by go_num, by omega, h1, h2, hab, hE⟩, by simp [intOf]; omega⟩
    ·have hq1 : ¬ (q : Int) < 65 := by omega
     have hq65' : q = 65 := by omega
     rw [hq65'] at h1 h2 hl1 hl2
     have hla : (evI S 65).length ≤ 65 := evI_len S 65
     have hlb : (bzI S 65).length ≤ 8 := bzI_len S 65
     clear hq hl1b hl2b hq65' hq65
     obtain ⟨hO0, hEV⟩ := HF.out
     have hOb := hO0.blk
     have hO := hO0.later hE
     have hkO := hO.len
     have hoa : ∀ k, (Value.slice Bk kk dk).ownBlock = some k → (Value.slice A1 n1 c1).ownBlock ≠ some k := fun k hk e => by have := (hOb k hk).2; have := (h1.blk k e).1; omega
     have hob : ∀ k, (Value.slice Bk kk dk).ownBlock = some k → (Value.slice A2 n2 c2).ownBlock ≠ some k := fun k hk e => by have := (hOb k hk).2; have := (h2.blk k e).1; omega
     have hE2 : Below V.heap.size V wr := hEV.trans (hE.mono hKS)
     have hwa : IntKind.u8.wrap (n1 : Int) = (n1 : Int) := by rw [IntKind.wrap_u8]; omega
     have hwb : IntKind.u8.wrap (n2 : Int) = (n2 : Int) := by rw [IntKind.wrap_u8]; omega
     have hda := qy (dig1_bcs n1 (by omega))
     have hdb := qy (dig1_bcs n2 (by omega))
     have HL1 := qy hl1
     have HL2 := qy hl2
     clear hO0 hOb hEV hE hl1 hl2 hab
     go_upto_region 14 with (fail)
     refine wp_region_lit ?_
     iterate 5 (refine qw ?_)
     refine wpList_appB bt rfl (.tmp 64) (.tmp 68) rfl rfl (hO.later (Below.allocS (Below.refl _ _) _)) rfl (Ob.lit wr (Nat.le_refl _) _ (dig n1 1) 1 (by simp [dig_length]) (by decide) hda.out).rb (by omega) (by have := hE2.size; simp; omega) ?_
     intro A5 m5 d5 w5 hOx hbx hgx hnx
     have hE3 : Below V.heap.size V w5 := (hE2.trans ((Below.allocS (Below.refl _ _) _).mono hE2.size)).trans hbx
     have hax := (h1.later (Below.allocS (Below.refl wr.heap.size wr) (.cells #[.int .u8 (n1 : Int)] 5))).grown hgx (fun k hk e => hoa k e hk)
     have hapx := apart_app hoa hnx (h1.later (Below.allocS (Below.refl wr.heap.size wr) (.cells #[.int .u8 (n1 : Int)] 5)))
     have h2x := (h2.later (Below.allocS (Below.refl wr.heap.size wr) (.cells #[.int .u8 (n1 : Int)] 5))).grown hgx (fun k hk e => hob k e hk)
     have hobx := apart_app hob hnx (h2.later (Below.allocS (Below.refl wr.heap.size wr) (.cells #[.int .u8 (n1 : Int)] 5)))
     have hlx : m5 ≤ kk + 1 := by have h1 := hOx.len; have h2 := hO.len; rw [List.length_append, dig_length] at h1; omega
     have hnn := HL1.out
     refine qw ?_
     refine wpList_appB bt rfl (.tmp 69) (.tmp 70) rfl rfl hOx rfl hax.rb (by omega) (by have := hE3.size; omega) ?_
     intro A6 m6 d6 w6 hOy hby hgy hny
     have h26 := h2x.grown hgy (fun k hk e => hobx k e hk)
     have hob6 := apart_app hobx hny h2x
     have hE4 : Below V.heap.size V w6 := hE3.trans hby
     refine qw ?_
     have hO6 := hOy
     have hly : m6 ≤ kk + 100 := by have h1 := hOy.len; have h2 := hOx.len; rw [List.length_append, numsB_len] at h1; omega
     clear hOx hbx hgx hnx hax hapx hlx hnn hOy hby hgy hny hE3 hE2 h2x hobx h2 hob hO
     have hE2 := hE4
     clear hE4
     have h2 := h26
     clear h1 hoa
     go_upto_region 15 with (fail)
     refine wp_region_lit ?_
     iterate 5 (refine qw ?_)
     refine wpList_appB bt rfl (.tmp 72) (.tmp 76) rfl rfl (hO6.later (Below.allocS (Below.refl _ _) _)) rfl (Ob.lit w6 (Nat.le_refl _) _ (dig n2 1) 1 (by simp [dig_length]) (by decide) hdb.out).rb (by omega) (by have := hE2.size; simp; omega) ?_
     intro A7 m7 d7 w7 hOx hbx hgx hnx
     have hE3 : Below V.heap.size V w7 := (hE2.trans ((Below.allocS (Below.refl _ _) _).mono hE2.size)).trans hbx
     have hax := (h2.later (Below.allocS (Below.refl w6.heap.size w6) (.cells #[.int .u8 (n2 : Int)] 5))).grown hgx (fun k hk e => hob6 k e hk)
     have hapx := apart_app hob6 hnx (h2.later (Below.allocS (Below.refl w6.heap.size w6) (.cells #[.int .u8 (n2 : Int)] 5)))
     have hlx : m7 ≤ m6 + 1 := by have h1 := hOx.len; have h2 := hO6.len; rw [List.length_append, dig_length] at h1; omega
     have hnn := HL2.out
     refine qw ?_
     refine wpList_appB bt rfl (.tmp 77) (.tmp 78) rfl rfl hOx rfl hax.rb (by omega) (by have := hE3.size; omega) ?_
     intro A8 m8 d8 w8 hOy hby hgy hny
     have hE4 : Below V.heap.size V w8 := hE3.trans hby
     refine qw ?_
     have hO8 := hOy
     have hly : m8 ≤ m6 + 100 := by have h1 := hOy.len; have h2 := hOx.len; rw [List.length_append, numsB_len] at h1; omega
     clear hOx hbx hgx hnx hax hapx hlx hnn hOy hby hgy hny hE3 hE2 hO6
     have hE2 := hE4
     clear hE4
     go_wp2
     go_ret
     rw [HSV.out, HL1.out, HL2.out]
     refine RetB.mk (A := A8) (n := m8) (c := d8) ?_ (HBS.out.2.trans (hE2.mono hbs))
     have h9 := hO8.mono hbs
     simpa only [List.append_assoc] using h9
end

section
attribute [local go_sem ↓] sliced_cut
attribute [local go_sem] cutA_zero
open Go.RowKit
theorem Ob.ne {w : World} {base : Nat} {A : Option Addr} {n c : Nat} {l : List UInt8} {b : Nat} {t : TypeId} {cs : List Value} (h : Ob w base A n c l) (hb : Bk w b t cs) (ht : t ≠ 5) : ∀ k, (Value.slice A n c).ownBlock = some k → k ≠ b := fun j hj e => by
 subst e
 rcases h.2.2 with ⟨hv, _⟩ | ⟨g, cap, cur, hv, _, hg, _⟩
 ·rw [hv] at hj
  simp [Value.ownBlock] at hj
 ·rw [hv] at hj
  simp [Value.ownBlock] at hj
  subst hj
  rw [Bk] at hb
  rw [hb] at hg
  injection hg with hg
  injection hg with _ h2
  exact ht h2
def dkC (A : Option Addr) (n c : Nat) (s k : Int) : List Value := [.int .i64 100000, .slice A n c, .int .i64 s, .int .i64 k]
theorem diskNew (w : World) : Calls Tryz.prog 12 #[.int .i64 100000] w fun e w' => ∃ g, e = .returned (.pointer (some ⟨g, 0, none⟩)) ∧ w.heap.size ≤ g ∧ Below w.heap.size w w' ∧ Bk w' g 112 (dkC none 0 0 0 0) := by
 go_enter Tryz.func12, Tryz.ntmps12
 go_wp2
 go_ret
 exact ⟨_, rfl, Nat.le_refl _, Below.allocS (Below.refl _ _) _, Bk.new _ _ _⟩
theorem diskApp_full (g : Nat) (A : Option Addr) (n c : Nat) (s k : Int) (Ab : Option Addr) (m cb : Nat) (w : World) (hB : Bk w g 112 (dkC A n c s k)) (hn : n ≤ 100000) (hm : m ≤ 100000) (hf : 100000 < n + m) : Calls Tryz.prog 86 #[.pointer (some ⟨g, 0, none⟩), .slice Ab m cb] w (RetV w (.int .i64 23)) := by
 have hw : IntKind.i64.wrap (100000 - (n : Int)) = 100000 - (n : Int) := IntWalk.i64_in _ (by omega)
 have hgt : 100000 - (n : Int) < (m : Int) := by omega
 go_enter Tryz.func86, Tryz.ntmps86
 go_upto_region 3 with (fail)
 refine wp_relS 13 29 rfl (by kernel_rfl) (by kernel_rfl) ?_
 refine qb 1 1 ?_
 refine qa 0 7 2 ?_
 refine qb 0 3 ?_
 refine qa 2 9 4 ?_
 refine qa 3 10 5 ?_
 refine ql 4 11 6 3 hB Tryz.underlying3 ?_
 refine qb 0 7 ?_
 refine qa 6 13 8 ?_
 refine qa 7 14 9 ?_
 refine ql 8 15 10 28 hB Tryz.underlying28 ?_
 refine qa 9 16 11 ?_
 refine qc 5 12 10 17 12 ?_
 refine qc 1 8 11 18 13 ?_
 refine Steps.fin_ (fun vs x hp => ?_)
 simp only [qta, qtb, qda, qdb, putAll, Nat.zero_add, Nat.reduceAdd, Act.put, qsT, qsZ, qsS, qi (hp 0 qd), qi (hp 1 qd), qi (hp 2 qd), qi (hp 3 qd), qi (hp 4 qd), qi (hp 5 qd), qi (hp 6 qd), qi (hp 7 qd), qi (hp 8 qd), qi (hp 9 qd), qi (hp 10 qd), qi (hp 11 qd), qi (hp 12 qd)]
 clear hp
 clear vs
 go_wp2
 go_ret
 exact RetV.is_ rfl bpl
def RetDA (B : Nat) (w : World) (g : Nat) (A : Option Addr) (n c : Nat) (s k : Int) (m : Nat) (L : List UInt8) (e : Ending) (w' : World) : Prop := e = .returned (.int .i64 0) ∧ ∃ A' c', Bk w' g 112 (dkC A' (n + m) c' s k) ∧ Ob w' B A' (n + m) c' L ∧ Chg (fun b => b = g ∨ (Value.slice A n c).ownBlock = some b) w w' ∧ ∀ b, (Value.slice A' (n + m) c').ownBlock = some b → (Value.slice A n c).ownBlock = some b ∨ w.heap.size ≤ b
theorem diskApp_ok (B g : Nat) (A : Option Addr) (n c : Nat) (s k : Int) (l : List UInt8) (Ab : Option Addr) (m cb : Nat) (lb : List UInt8) (w : World) (hB : Bk w g 112 (dkC A n c s k)) (ho : Ob w B A n c l) (hb : Rb w Ab m cb lb) (hbase : B ≤ w.heap.size) (hf : n + m ≤ 100000) : Calls Tryz.prog 86 #[.pointer (some ⟨g, 0, none⟩), .slice Ab m cb] w (RetDA B w g A n c s k m (l ++ lb)) := by
 have hBn : ∀ b, (Value.slice A n c).ownBlock = some b → g ≠ b := fun b hb e => ho.ne hB (by decide) b hb e.symm
 have hlt := hB.lt
 have HB0 := qy hB
 have hw : IntKind.i64.wrap (100000 - (n : Int)) = 100000 - (n : Int) := IntWalk.i64_in _ (by omega)
 have hgt : ¬ 100000 - (n : Int) < (m : Int) := by omega
 go_enter Tryz.func86, Tryz.ntmps86
 go_upto_region 3 with (fail)
 refine wp_relS 13 29 rfl (by kernel_rfl) (by kernel_rfl) ?_
 refine qb 1 1 ?_
 refine qa 0 7 2 ?_
 refine qb 0 3 ?_
 refine qa 2 9 4 ?_
 refine qa 3 10 5 ?_
 refine ql 4 11 6 3 hB Tryz.underlying3 ?_
 refine qb 0 7 ?_
 refine qa 6 13 8 ?_
 refine qa 7 14 9 ?_
 refine ql 8 15 10 28 hB Tryz.underlying28 ?_
 refine qa 9 16 11 ?_
 refine qc 5 12 10 17 12 ?_
 refine qc 1 8 11 18 13 ?_
 refine Steps.fin_ (fun vs x hp => ?_)
 simp only [qta, qtb, qda, qdb, putAll, Nat.zero_add, Nat.reduceAdd, Act.put, qsT, qsZ, qsS, qi (hp 0 qd), qi (hp 1 qd), qi (hp 2 qd), qi (hp 3 qd), qi (hp 4 qd), qi (hp 5 qd), qi (hp 6 qd), qi (hp 7 qd), qi (hp 8 qd), qi (hp 9 qd), qi (hp 10 qd), qi (hp 11 qd), qi (hp 12 qd)]
 clear hp
 clear vs
 have b1 := below_plus w x.bs x.d
 replace hB := hB.later b1
 replace ho := ho.later b1
 replace hb := hb.later b1
 replace hbase := Nat.le_trans hbase b1.size
 generalize plus w x.bs x.d = V at *
 go_upto_region 5 with (fail)
 refine wp_region_lit ?_
 iterate 4 (refine qw ?_)
 refine qL 28 (.tmp 23) hB Tryz.underlying28 ?_
 refine qw ?_
 refine wpList_appB bt rfl (.tmp 24) (.tmp 25) rfl rfl ho rfl hb (by omega) hbase ?_
 intro A2 n2 c2 w4 hO4 hb4 hg4 hk4
 obtain rfl : n2 = n + m := by rw [← hO4.1, List.length_append, ho.1, hb.1]
 have hB4 := hB.grown hg4 (fun e => hBn g e rfl)
 iterate 2 (refine qw ?_)
 refine wpList_st1 (v := .slice A2 (n + m) c2) (t := 112) (cs := dkC A n c s k) (off := 1) 28 (.tmp 28) (.tmp 26) rfl rfl rfl rfl hB4 (Nat.le_of_ble_eq_true rfl) rfl (by kernel_rfl) ?_
 intro W5 h5 g5
 simp only [Act.put, qsT, qsZ, qsS]
 have hO5 := hO4.grown g5 (fun b hb5 e => by
  injection e with e
  subst e
  rcases hk4 _ hb5 with h | h
  ·exact hBn _ h rfl
  ·have := b1.size; omega)
 go_wp2
 go_ret
 refine ⟨rfl, A2, c2, h5, hO5, ((Chg.of_below b1).trans (Chg.grown hg4 (fun b hb => .inr hb))).trans (Chg.one (D := fun b => b = g ∨ (Value.slice A n c).ownBlock = some b) g5 (.inl rfl)), fun b hb5 => ?_⟩
 rcases hk4 _ hb5 with h | h
 ·exact .inl h
 ·exact .inr (Nat.le_trans b1.size h)
theorem diskSync (g : Nat) (A : Option Addr) (n c : Nat) (s k : Int) (w : World) (hB : Bk w g 112 (dkC A n c s k)) (hk : 0 ≤ k ∧ k ≤ 1000000) : Calls Tryz.prog 93 #[.pointer (some ⟨g, 0, none⟩)] w fun e w' => e = .returned (.int .i64 0) ∧ Bk w' g 112 (dkC A n c n (k + 1)) ∧ Chg (fun b => b = g) w w' := by
 have hw : IntKind.i64.wrap (k + 1) = k + 1 := IntWalk.i64_in _ (by omega)
 go_enter Tryz.func93, Tryz.ntmps93
 go_upto_region 3 with (fail)
 refine wp_region_lit ?_
 iterate 4 (refine qw ?_)
 refine qL 28 (.tmp 8) hB Tryz.underlying28 ?_
 iterate 3 (refine qw ?_)
 refine wpList_st1 (v := .int .i64 (n : Int)) (t := 112) (cs := dkC A n c s k) (off := 2) 3 (.tmp 12) (.tmp 10) rfl rfl rfl rfl hB (Nat.le_of_ble_eq_true rfl) rfl (by kernel_rfl) ?_
 intro W4 h4 g4
 simp only [Act.put, qsT, qsZ, qsS]
 go_upto_region 4 with (fail)
 refine wp_region_lit ?_
 iterate 3 (refine qw ?_)
 refine qL 3 (.tmp 15) h4 Tryz.underlying3 ?_
 iterate 3 (refine qw ?_)
 refine wpList_st1 (v := .int .i64 (k + 1)) (t := 112) (cs := dkC A n c n k) (off := 3) 3 (.tmp 19) (.tmp 17) rfl rfl rfl rfl h4 (Nat.le_of_ble_eq_true rfl) rfl (by kernel_rfl) ?_
 intro W5 h5 g5
 simp only [Act.put, qsT, qsZ, qsS]
 go_wp2
 go_ret
 exact ⟨rfl, h5, (Chg.one (D := fun b => b = g) g4 rfl).trans (Chg.one (D := fun b => b = g) g5 rfl)⟩
theorem sclone_nil (w : World) : Calls Tryz.prog 116 #[.slice none 0 0] w (RetV w (.slice none 0 0)) := by
 have hnil := fun w => Lib.run_eql_slice_nil (P := Tryz.prog) w 28 5 none 0 0 0 0 Tryz.underlying28
 go_enter Tryz.func116, Tryz.ntmps116
 go_wp2
 go_ret
 exact RetV.is_ rfl (Below.refl _ _)
theorem diskRead0 (g : Nat) (w : World) (hB : Bk w g 112 (dkC none 0 0 0 0)) : Calls Tryz.prog 76 #[.pointer (some ⟨g, 0, none⟩)] w (RetV w (.slice none 0 0)) := by
 go_enter Tryz.func76, Tryz.ntmps76
 go_upto_region 3 with (fail)
 refine wp_region_lit ?_
 iterate 3 (refine qw ?_)
 refine qL 28 (.tmp 7) hB Tryz.underlying28 ?_
 refine wpq fun K hK => ?_
 go_simp
 refine (sclone_nil _).mono ?_
 rintro e w1 ⟨bs1, d1, rfl, rfl⟩
 with_reducible refine hK _ _ ?_
 clear hK K
 refine qw ?_
 go_wp2
 go_ret
 exact RetV.is_ rfl bpl
theorem diskCut0 (g : Nat) (w : World) (hB : Bk w g 112 (dkC none 0 0 0 0)) : Calls Tryz.prog 77 #[.pointer (some ⟨g, 0, none⟩), .int .i64 0] w fun e w' => e = .returned (.int .i64 0) ∧ Bk w' g 112 (dkC none 0 0 0 0) ∧ Chg (fun b => b = g) w w' := by
 go_enter Tryz.func77, Tryz.ntmps77
 go_upto_region 3 with (fail)
 refine wp_region_lit ?_
 iterate 3 (refine qw ?_)
 iterate 4 (refine wpList_step (fun K hK => ?_); go_simp; with_reducible refine hK _ _ ?_; clear hK K)
 refine wpList_ld1 (t := 112) (cs := dkC none 0 0 0 0) 28 (.tmp 13) rfl (by go_simp) rfl (hB) rfl Tryz.underlying28 rfl ?_
 iterate 2 (refine wpList_step (fun K hK => ?_); go_simp; with_reducible refine hK _ _ ?_; clear hK K)
 refine qw ?_
 go_upto_region 5 with (fail)
 refine wp_region_lit ?_
 iterate 4 (refine qw ?_)
 refine qL 28 (.tmp 21) hB Tryz.underlying28 ?_
 iterate 4 (refine qw ?_)
 refine wpList_st1 (v := .slice none 0 0) (t := 112) (cs := dkC none 0 0 0 0) (off := 1) 28 (.tmp 26) (.tmp 24) rfl rfl rfl rfl hB (Nat.le_of_ble_eq_true rfl) rfl (by kernel_rfl) ?_
 intro W4 h4 g4
 simp only [Act.put, qsT, qsZ, qsS]
 go_upto_region 6 with (fail)
 refine wp_region_lit ?_
 iterate 4 (refine qw ?_)
 refine wpList_st1 (v := .int .i64 0) (t := 112) (cs := dkC none 0 0 0 0) (off := 2) 3 (.tmp 30) (.tmp 28) rfl rfl rfl rfl h4 (Nat.le_of_ble_eq_true rfl) rfl (by kernel_rfl) ?_
 intro W5 h5 g5
 simp only [Act.put, qsT, qsZ, qsS]
 go_wp2
 go_ret
 exact ⟨rfl, h5, (Chg.one (D := fun b => b = g) g4 rfl).trans (Chg.one (D := fun b => b = g) g5 rfl)⟩
abbrev Sl := Option Addr × Nat × Nat
def slV (e : Sl) : List Value := [.slice e.1 e.2.1 e.2.2]
theorem slV_len (e : Sl) : (slV e).length = 1 := rfl
theorem slV_one (e : Sl) : ∀ u ∈ slV e, u.oneCell' = true := by simp [slV, Value.oneCell']
def PtOk (w : World) (L : List (List UInt8)) (E : List Sl) : Prop := E.length = L.length ∧ ∀ (i : Nat) (h : i < L.length) (h' : i < E.length), Rb w E[i].1 E[i].2.1 E[i].2.2 L[i]
theorem PtOk.later {w w' : World} {L : List (List UInt8)} {E : List Sl} (h : PtOk w L E) (hb : Below w.heap.size w w') : PtOk w' L E := ⟨h.1, fun i a b => (h.2 i a b).later hb⟩
theorem PtOk.nil_ (w : World) : PtOk w [] [] := ⟨rfl, fun i h => absurd h (Nat.not_lt_zero i)⟩
theorem PtOk.snoc {w : World} {L : List (List UInt8)} {E : List Sl} (h : PtOk w L E) {A : Option Addr} {n c : Nat} {l : List UInt8} (hr : Rb w A n c l) : PtOk w (L ++ [l]) (E ++ [(A, n, c)]) := by
 refine ⟨by simp [h.1], fun i h1 h2 => ?_⟩
 by_cases hi : i < L.length
 ·rw [List.getElem_append_left hi, List.getElem_append_left (by rw [h.1]; exact hi)]
  exact h.2 i hi (by rw [h.1]; exact hi)
 ·have e : i = L.length := by simp at h1; omega
  subst e
  rw [List.getElem_append_right (Nat.le_refl _), List.getElem_append_right (by rw [h.1]; exact Nat.le_refl _)]
  simp [h.1, hr]
def RL (w : World) (A : Option Addr) (n c : Nat) (L : List (List UInt8)) : Prop := ∃ E, PtOk w L E ∧ Rs 1 w A n c (E.flatMap slV)
theorem RL.later {w w' : World} {A : Option Addr} {n c : Nat} {L : List (List UInt8)} (h : RL w A n c L) (hb : Below w.heap.size w w') : RL w' A n c L := by
 obtain ⟨E, h1, h2⟩ := h
 exact ⟨E, h1.later hb, h2.later hb⟩
theorem RL.len {w : World} {A : Option Addr} {n c : Nat} {L : List (List UInt8)} (h : RL w A n c L) : n = L.length := by
 obtain ⟨E, h1, h2⟩ := h
 have := h2.1
 rw [flat_len slV 1 slV_len, h1.1] at this
 omega
theorem RL.at_ {w : World} {A : Option Addr} {n c : Nat} {L : List (List UInt8)} (h : RL w A n c L) (i : Nat) (hi : i < L.length) : ∃ b o A' n' c', A = some ⟨b, o, none⟩ ∧ w.cell? ⟨b, o + i, none⟩ = some (.slice A' n' c') ∧ Rb w A' n' c' L[i] := by
 obtain ⟨E, h1, h2⟩ := h
 have hiE : i < E.length := by rw [h1.1]; exact hi
 obtain ⟨b, o, hA, _, hc⟩ := h2.at_ (by have := h2.1; rw [flat_len slV 1 slV_len] at this; omega) (by decide)
 refine ⟨b, o, E[i].1, E[i].2.1, E[i].2.2, hA, ?_, h1.2 i hi hiE⟩
 have := hc (i * 1 + 0) (.slice E[i].1 E[i].2.1 E[i].2.2) (flat_at slV 1 slV_len E i hiE 0 _ rfl)
 simpa using this
def msC (k : Int) (nu : Nat) (A : Option Addr) (n c : Nat) : List Value := [.int .i64 k, .int .u64 (nu : Int), .slice A n c]
theorem msC_one (k : Int) (nu : Nat) (A : Option Addr) (n c : Nat) : ∀ u ∈ msC k nu A n c, u.oneCell' = true := by simp [msC, Value.oneCell']
theorem szFm (k : Int) (nu : Nat) (A : Option Addr) (n c : Nat) : (Tryz.prog.info? 38).map (·.size) = some (msC k nu A n c).length := by kernel_rfl
theorem szRm27 (k : Int) (nu : Nat) (A : Option Addr) (n c : Nat) : (Tryz.prog.info? 41).map (·.size) = some (msC k nu A n c).length := by kernel_rfl
theorem rowFm : ∃ d, Tryz.prog.underlying 38 = some d ∧ d.isRow = true := ⟨_, Tryz.underlying38, rfl⟩
theorem rowRm27 : ∃ d, Tryz.prog.underlying 41 = some d ∧ d.isRow = true := ⟨_, Tryz.underlying41, rfl⟩
def rightM (k : Int) (L : List (List UInt8)) : Bool := L.all (fun l => decide (l.length ≤ 65535)) && (if k = 1 then decide (1 ≤ L.length) && decide (L.length ≤ 16) else if k = 2 then decide (L.length = 1) else if k = 3 then decide (L.length = 0) else false)
theorem all_step (L : List (List UInt8)) (i : Nat) (h : i < L.length) (hp : ∀ l ∈ L.take i, l.length ≤ 65535) (hl : L[i].length ≤ 65535) : ∀ l ∈ L.take (i + 1), l.length ≤ 65535 := by
 intro l hm
 rw [List.take_succ_eq_append_getElem h] at hm
 rcases List.mem_append.1 hm with hm | hm
 ·exact hp l hm
 ·simp at hm; subst hm; exact hl
theorem msgRight_any (k : Int) (nu : Nat) (L : List (List UInt8)) (A : Option Addr) (n c : Nat) (w : World) (hr : RL w A n c L) (hn : n ≤ 1000000) : Calls Tryz.prog 26 #[.agg (msC k nu A n c).toArray] w (RetV w (.bool (rightM k L))) := by
 have hLn1 : n ≤ L.length := Nat.le_of_eq hr.len
 have hLn2 : L.length ≤ n := Nat.le_of_eq hr.len.symm
 obtain ⟨X, hX⟩ : ∃ X, rightM k L = X := ⟨_, rfl⟩
 rw [hX]
 have HX := qy hX
 clear hX
 obtain ⟨dvm1, vm1, vm2⟩ := rowFm
 obtain ⟨bm, be, zV⟩ := box1 w 38 (msC k nu A n c)
 go_enter Tryz.func26, Tryz.ntmps26
 go_upto_region 1 with (fail)
 generalize w.alloc (.cells (msC k nu A n c).toArray 38) = V at *
 have q0 : V.cell? ⟨w.heap.size, 0, none⟩ = some (.int .i64 k) := bm.cell 0
 have q2 : V.cell? ⟨w.heap.size, 2, none⟩ = some (.slice A n c) := bm.cell 2
 replace hr := hr.later be
 go_upto_region 2 with (fail)
 go_loop [8] (fun I => ∃ i : Nat, I = .int .i64 (i : Int) ∧ i ≤ n ∧ ∀ l ∈ L.take i, l.length ≤ 65535) (fun I => n - (intOf I).toNat)
 case atStart => exact ⟨0, rfl, Nat.zero_le _, by simp⟩
 case round =>
  obtain ⟨i, rfl, hi, hp⟩ := hrel
  by_cases hlt : i < n
  ·have hil : i < L.length := by omega
   have ii : (i : Int) < (n : Int) := by omega
   obtain ⟨b, o, A', n', c', rfl, hc, hrb⟩ := hr.at_ i hil
   have hl' := hrb.1
   by_cases h6 : 65535 < n'
   ·have i6 : (65535 : Int) < (n' : Int) := by omega
    have hX := qy (show X = false by
     rw [← HX.out]; unfold rightM
     rw [Bool.and_eq_false_iff]; left
     rw [List.all_eq_false]
     exact ⟨L[i], List.getElem_mem hil, by simp; omega⟩)
    clear hp hl' hLn1 hLn2
    go_wp2
    go_ret
    exact RetV.is_ (by rw [hX.out]; rfl) be
   ·have i6 : ¬ (65535 : Int) < (n' : Int) := by omega
    have hp2 := all_step L i hil hp (by omega)
    clear hp hl'
    go_wp2
    exact ⟨⟨i + 1, by go_num, by omega, hp2⟩, by simp [intOf]; omega⟩
  ·have ii : ¬ (i : Int) < (n : Int) := by omega
   have hall : L.all (fun l => decide (l.length ≤ 65535)) = true := by
    rw [List.take_of_length_le (by omega)] at hp
    exact List.all_eq_true.2 (fun l hl => by simpa using hp l hl)
   clear hp hi
   by_cases k1 : k = 1
   ·subst k1
    by_cases n1 : 1 ≤ n
    ·have i1 : (1 : Int) ≤ (n : Int) := by omega
     by_cases n16 : n ≤ 16
     ·have i16 : (n : Int) ≤ 16 := by omega
      have hX := qy (show X = true by rw [← HX.out]; unfold rightM; rw [hall]; simp; omega)
      clear hall hLn1 hLn2
      go_wp2
      go_ret
      exact RetV.is_ (by rw [hX.out]; rfl) be
     ·have i16 : ¬ (n : Int) ≤ 16 := by omega
      have hX := qy (show X = false by rw [← HX.out]; unfold rightM; rw [hall]; simp; omega)
      clear hall hLn1 hLn2
      go_wp2
      go_ret
      exact RetV.is_ (by rw [hX.out]; rfl) be
    ·have i1 : ¬ (1 : Int) ≤ (n : Int) := by omega
     have hX := qy (show X = false by rw [← HX.out]; unfold rightM; rw [hall]; simp; omega)
     clear hall hLn1 hLn2
     go_wp2
     go_ret
     exact RetV.is_ (by rw [hX.out]; rfl) be
   ·have k1' : (k == 1) = false := by simpa using k1
    by_cases k2 : k = 2
    ·subst k2
     by_cases n1 : n = 1
     ·have i1 : ((n : Int) == 1) = true := by simp; omega
      have hX := qy (show X = true by rw [← HX.out]; unfold rightM; rw [hall]; simp; omega)
      clear hall hLn1 hLn2 n1
      go_wp2
      go_ret
      exact RetV.is_ (by rw [hX.out]; rfl) be
     ·have i1 : ((n : Int) == 1) = false := by simp; omega
      have hX := qy (show X = false by rw [← HX.out]; unfold rightM; rw [hall]; simp; omega)
      clear hall hLn1 hLn2
      go_wp2
      go_ret
      exact RetV.is_ (by rw [hX.out]; rfl) be
    ·have k2' : (k == 2) = false := by simpa using k2
     by_cases k3 : k = 3
     ·subst k3
      by_cases n1 : n = 0
      ·have i1 : ((n : Int) == 0) = true := by simp; omega
       have hX := qy (show X = true by rw [← HX.out]; unfold rightM; rw [hall]; simp; exact List.eq_nil_of_length_eq_zero (by omega))
       clear hall hLn1 hLn2 n1
       go_wp2
       go_ret
       exact RetV.is_ (by rw [hX.out]; rfl) be
      ·have i1 : ((n : Int) == 0) = false := by simp; omega
       have hX := qy (show X = false by rw [← HX.out]; unfold rightM; rw [hall]; simp; intro h; rw [h] at hLn1; simp at hLn1; omega)
       clear hall hLn1 hLn2
       go_wp2
       go_ret
       exact RetV.is_ (by rw [hX.out]; rfl) be
     ·have k3' : (k == 3) = false := by simpa using k3
      have hX := qy (show X = false by rw [← HX.out]; unfold rightM; rw [hall]; simp [k1, k2, k3])
      clear hall hLn1 hLn2
      go_wp2
      go_ret
      exact RetV.is_ (by rw [hX.out]; rfl) be
def u32s (cs : List Int) : List Value := cs.map (.int .u32 ·)
theorem u32s_len (cs : List Int) : (u32s cs).length = cs.length := by simp [u32s]
theorem and15 (z : Int) (h0 : 0 ≤ z) (h1 : z ≤ 4294967295) : ∃ m : Nat, bits .and .u32 z 15 = (m : Int) ∧ m < 16 := by
 have h := bits_and_u32_nat z.toNat 15 (by omega) (by omega)
 rw [Int.toNat_of_nonneg h0] at h
 exact ⟨_, h, Nat.lt_of_le_of_lt Nat.and_le_right (by decide)⟩
def T16 (w : World) (g : Nat) : Prop := ∃ cs : List Int, cs.length = 16 ∧ (∀ z ∈ cs, 0 ≤ z ∧ z ≤ 4294967295) ∧ Bk w g 245 (u32s cs)
theorem T16.at_ {w : World} {g : Nat} (h : T16 w g) (m : Nat) (hm : m < 16) : ∃ y : Int, w.cell? ⟨g, m, none⟩ = some (.int .u32 y) ∧ 0 ≤ y ∧ y ≤ 4294967295 := by
 obtain ⟨cs, h1, h2, h3⟩ := h
 have hm' : m < cs.length := by omega
 refine ⟨cs[m], ?_, h2 _ (List.getElem_mem hm')⟩
 rw [h3.cell]
 simp [u32s, hm']
def RetZ (w : World) (e : Ending) (w' : World) : Prop := ∃ z : Nat, z < 4294967296 ∧ RetV w (.int .u32 (z : Int)) e w'
theorem cast_any (A : Option Addr) (n c : Nat) (L : List (List UInt8)) (w : World) (h : RL w A n c L) (hn : n ≤ 1000) (hl : ∀ l ∈ L, l.length ≤ 1000000) : Calls Tryz.prog 120 #[.slice A n c] w (RetZ w) := by
 have hLn := h.len
 go_enter Tryz.func120, Tryz.ntmps120
 go_upto_region 3 with (fail)
 have be : Below w.heap.size w (w.alloc (.cells (u32s (List.replicate 16 0)).toArray 245)) := Below.allocS (Below.refl _ _) _
 have bt : T16 (w.alloc (.cells (u32s (List.replicate 16 0)).toArray 245)) w.heap.size := ⟨List.replicate 16 0, rfl, by simp, Bk.new w 245 _⟩
 go_loopw [11] (fun J wr => ∃ j : Nat, J = .int .i64 (j : Int) ∧ j ≤ 16 ∧ T16 wr w.heap.size ∧ Below w.heap.size w wr) (fun J _ => 16 - (intOf J).toNat)
 case atStart => exact ⟨0, rfl, by omega, bt, be⟩
 case round =>
  clear bt be
  obtain ⟨j, rfl, hj, bt, be⟩ := hrel
  by_cases hlt : j < 16
  ·have ij : (j : Int) < 16 := by omega
   have hw32 : IntKind.u32.wrap (j : Int) = (j : Int) := IntWalk.u32_in _ (by omega)
   go_upto_region 7 with (fail)
   go_loop [16, 5] (fun K C => ∃ (k : Nat) (z : Int), K = .int .i64 (k : Int) ∧ k ≤ 4 ∧ C = .int .u32 z ∧ 0 ≤ z ∧ z ≤ 4294967295) (fun K _ => 4 - (intOf K).toNat)
   case atStart => exact ⟨0, _, rfl, by omega, rfl, by omega, by omega⟩
   case round =>
    obtain ⟨k, z, rfl, hk, rfl, hz0, hz1⟩ := hrel
    by_cases hlk : k < 4
    ·have ik : (k : Int) < 4 := by omega
     go_wp2
     exact ⟨⟨k + 1, _, by go_num, by omega, rfl, bits_lo_u32 _ _ _, bits_hi_u32 _ _ _⟩, by simp [intOf]; omega⟩
    ·have ik : ¬ (k : Int) < 4 := by omega
     obtain ⟨cs, hc1, hc2, hB⟩ := bt
     go_upto_region 10 with (fail)
     refine wp_region_lit ?_
     iterate 3 (refine qw ?_)
     refine wpList_st1 (v := .int .u32 z) (t := 245) (cs := u32s cs) (off := j) 188 (.tmp 28) (.tmp 27) rfl rfl rfl rfl hB (by rw [u32s_len]; omega) rfl (by kernel_rfl) ?_
     intro W4 h4 g4
     simp only [Act.put, qsT, qsZ, qsS]
     have be4 : Below w.heap.size w W4 := be.trans (below_of_grown g4 be.size (fun k hk => by injection hk with hk; omega))
     have bt4 : T16 W4 w.heap.size := ⟨cs.set j z, by simp [hc1], fun y hy => by
      rcases List.mem_or_eq_of_mem_set hy with hy | rfl
      ·exact hc2 y hy
      ·exact ⟨hz0, hz1⟩, by have := h4; simpa [u32s, List.map_set] using this⟩
     go_wp2
     exact ⟨⟨_, _, .int .i64 ((j : Int) + 1), ⟨j + 1, by simp, by omega⟩, rfl, rfl, rfl⟩, by simp [intOf]; omega⟩
  ·have ij : ¬ (j : Int) < 16 := by omega
   have h1 := h.later be
   go_upto_region 14 with (fail)
   go_loop [32, 6] (fun I C => ∃ (i : Nat) (z : Int), I = .int .i64 (i : Int) ∧ i ≤ n ∧ C = .int .u32 z ∧ 0 ≤ z ∧ z ≤ 4294967295) (fun I _ => n - (intOf I).toNat)
   case atStart => exact ⟨0, _, rfl, by omega, rfl, by omega, by omega⟩
   case round =>
    obtain ⟨i, z, rfl, hi, rfl, hz0, hz1⟩ := hrel
    by_cases hli : i < n
    ·have ii : (i : Int) < (n : Int) := by omega
     have hil : i < L.length := by omega
     obtain ⟨b, o, A', n', c', rfl, hc, hrb⟩ := h1.at_ i hil
     have hl1 := hl L[i] (List.getElem_mem hil)
     have hrl := hrb.1
     generalize L[i] = l at *
     have hn' : n' ≤ 1000000 := by omega
     go_upto_region 17 with (fail)
     go_loop [38, 6] (fun J C => ∃ (j : Nat) (z : Int), J = .int .i64 (j : Int) ∧ j ≤ n' ∧ C = .int .u32 z ∧ 0 ≤ z ∧ z ≤ 4294967295) (fun J _ => n' - (intOf J).toNat)
     case atStart => exact ⟨0, _, rfl, by omega, rfl, by omega, by omega⟩
     case round =>
      clear hz0 hz1
      obtain ⟨j, z, rfl, hj, rfl, hz0, hz1⟩ := hrel
      by_cases hlj : j < n'
      ·have ij' : (j : Int) < (n' : Int) := by omega
       have hjl : j < l.length := by omega
       obtain ⟨bb, ob, rfl, _, hcb⟩ := hrb.2.2.at_ (by rw [bcs_length]; omega)
       have qb := hcb j _ (bcs_get l j hjl)
       generalize l[j] = x at *
       have hx := x.toNat_lt
       have hw8 : IntKind.u32.wrap (x.toNat : Int) = (x.toNat : Int) := IntWalk.u32_in _ (by omega)
       go_upto_region 20 with (fail)
       obtain ⟨z1, hz⟩ : ∃ z1, bits .xor .u32 z (x.toNat : Int) = z1 := ⟨_, rfl⟩
       have a0 := bits_lo_u32 .xor z (x.toNat : Int)
       have a1 := bits_hi_u32 .xor z (x.toNat : Int)
       rw [hz] at a0 a1
       rw [hz]
       clear hz
       obtain ⟨m1, hm1, hm1l⟩ := and15 z1 a0 a1
       obtain ⟨y1, qy1, -, -⟩ := bt.at_ m1 hm1l
       go_upto_region 21 with (fail)
       clear hm1 qy1
       obtain ⟨z2, hz⟩ : ∃ z2, bits .xor .u32 (z1 / 16) y1 = z2 := ⟨_, rfl⟩
       have c0 := bits_lo_u32 .xor (z1 / 16) y1
       have c1 := bits_hi_u32 .xor (z1 / 16) y1
       rw [hz] at c0 c1
       rw [hz]
       clear hz
       obtain ⟨m2, hm2, hm2l⟩ := and15 z2 c0 c1
       obtain ⟨y2, qy2, -, -⟩ := bt.at_ m2 hm2l
       go_wp2
       exact ⟨⟨j + 1, _, by go_num, by omega, rfl, bits_lo_u32 _ _ _, bits_hi_u32 _ _ _⟩, by simp [intOf]; omega⟩
      ·have ij' : ¬ (j : Int) < (n' : Int) := by omega
       go_wp2
       exact ⟨⟨i + 1, z, by go_num, by omega, rfl, hz0, hz1⟩, by simp [intOf]; omega⟩
    ·have ii : ¬ (i : Int) < (n : Int) := by omega
     go_wp2
     go_ret
     obtain ⟨zz, hzz⟩ := Int.eq_ofNat_of_zero_le (bits_lo_u32 .xor IntKind.u32.max z)
     have hz9 := bits_hi_u32 .xor IntKind.u32.max z
     exact ⟨zz, by omega, RetV.is_ (by simp [hzz]) be⟩
theorem is27 (k : Int) (nu : Nat) (L : List (List UInt8)) (A B : Option Addr) (n c d : Nat) (w : World) (hr : RL w A n c L) (hs : RL w B n d L) (hn : n ≤ 1000000) : Calls Tryz.prog 9 #[.agg (msC k nu A n c).toArray, .agg (msC k nu B n d).toArray] w (RetV w (.bool true)) := by
 have hLn1 : n ≤ L.length := Nat.le_of_eq hr.len
 have hLn2 : L.length ≤ n := Nat.le_of_eq hr.len.symm
 obtain ⟨dvr1, vr1, vr2⟩ := rowRm27
 obtain ⟨dvm1, vm1, vm2⟩ := rowFm
 obtain ⟨b1, b2, be, zV⟩ := box2 w 38 41 (msC k nu A n c) (msC k nu B n d)
 go_enter Tryz.func9, Tryz.ntmps9
 go_upto_region 1 with (fail)
 generalize (w.alloc (.cells (msC k nu A n c).toArray 38)).alloc (.cells (msC k nu B n d).toArray 41) = V at *
 have q0 : V.cell? ⟨w.heap.size, 0, none⟩ = some (.int .i64 k) := b1.cell 0
 have q1 : V.cell? ⟨w.heap.size, 1, none⟩ = some (.int .u64 (nu : Int)) := b1.cell 1
 have q2 : V.cell? ⟨w.heap.size, 2, none⟩ = some (.slice A n c) := b1.cell 2
 have p0 : V.cell? ⟨w.heap.size + 1, 0, none⟩ = some (.int .i64 k) := b2.cell 0
 have p1 : V.cell? ⟨w.heap.size + 1, 1, none⟩ = some (.int .u64 (nu : Int)) := b2.cell 1
 have p2 : V.cell? ⟨w.heap.size + 1, 2, none⟩ = some (.slice B n d) := b2.cell 2
 replace hr := hr.later be
 replace hs := hs.later be
 go_upto_region 4 with (fail)
 clear q0 q1 p0 p1 q2 p2
 have bv := Below.refl V.heap.size V
 go_loopw [5] (fun I wr => ∃ i : Nat, I = .int .i64 (i : Int) ∧ i ≤ n ∧ Below V.heap.size V wr) (fun I _ => n - (intOf I).toNat)
 case atStart => exact ⟨0, rfl, Nat.zero_le _, bv⟩
 case round =>
  clear bv
  obtain ⟨i, rfl, hi, bv⟩ := hrel
  have q2 : wr.cell? ⟨w.heap.size, 2, none⟩ = some (.slice A n c) := (b1.later bv).cell 2
  by_cases hlt : i < n
  ·have hil : i < L.length := by omega
   have ii : (i : Int) < (n : Int) := by omega
   obtain ⟨b1_, o1_, A', n', c', rfl, hc1, hrb1⟩ := (hr.later bv).at_ i hil
   obtain ⟨b2_, o2_, B', m', d', rfl, hc2, hrb2⟩ := (hs.later bv).at_ i hil
   replace b1 := b1.later bv
   replace b2 := b2.later bv
   have HC1 := qy (fun W (h : Below wr.heap.size wr W) => (h.cell (p := ⟨b1_, o1_ + i, none⟩) (lt_of_cell hc1)).trans hc1)
   have HC2 := qy (fun W (h : Below wr.heap.size wr W) => (h.cell (p := ⟨b2_, o2_ + i, none⟩) (lt_of_cell hc2)).trans hc2)
   go_upto_region 6 with (fail)
   clear q2 hc1 hc2
   refine wp_relS 13 47 rfl (by kernel_rfl) (by kernel_rfl) ?_
   refine qb 2 1 ?_
   refine ql 0 34 2 36 b1 Tryz.underlying36 ?_
   refine qb 5 3 ?_
   refine qc 1 35 2 36 4 ?_
   apply qm 5 rfl rfl
   ·intro FA x hO hD K hK
    have e37 := qe (hD 3 37)
    clear hO hD
    have q9 := (HC1.out _ (below_plus wr x.bs x.d))
    go_simp
    exact qk hK rfl
   apply qm 6 rfl rfl
   ·intro FA x hO hD K hK
    have e38 := qe (hD 4 38)
    clear hO hD
    have es := run_str bt Tryz.underlying9 (hrb1.plus_ x.bs x.d)
    go_simp
    exact qk hK rfl
   refine qb 3 7 ?_
   refine ql 6 40 8 36 b2 Tryz.underlying36 ?_
   refine qb 5 9 ?_
   refine qc 7 41 8 42 10 ?_
   apply qm 11 rfl rfl
   ·intro FA x hO hD K hK
    have e43 := qe (hD 9 43)
    clear hO hD
    have q9 := (HC2.out _ (below_plus wr x.bs x.d))
    go_simp
    exact qk hK rfl
   apply qm 12 rfl rfl
   ·intro FA x hO hD K hK
    have e44 := qe (hD 10 44)
    clear hO hD
    have es := run_str bt Tryz.underlying9 (hrb2.plus_ x.bs x.d)
    go_simp
    exact qk hK rfl
   refine qc 5 39 11 45 13 ?_
   refine Steps.fin_ (fun vs x hp => ?_)
   simp only [qta, qtb, qda, qdb, putAll, Nat.zero_add, Nat.reduceAdd, Act.put, qsT, qsZ, qsS, qi (hp 0 qd), qi (hp 1 qd), qi (hp 2 qd), qi (hp 3 qd), qi (hp 4 qd), qi (hp 5 qd), qi (hp 6 qd), qi (hp 7 qd), qi (hp 8 qd), qi (hp 9 qd), qi (hp 10 qd), qi (hp 11 qd), qi (hp 12 qd)]
   clear hp
   clear vs
   have bv2 := bv.trans ((below_plus wr x.bs x.d).mono bv.size)
   go_wp2
   exact ⟨⟨i + 1, by go_num, by omega, bv2⟩, by simp [intOf]; omega⟩
  ·have ii : ¬ (i : Int) < (n : Int) := by omega
   clear hi
   go_wp2
   go_ret
   exact RetV.is_ rfl (be.trans (bv.mono be.size))
theorem recNone (g : Nat) (nu : Nat) (L : List (List UInt8)) (A : Option Addr) (n c : Nat) (w : World) (hf : Bk w g 49 [.pointer none]) (hr : RL w A n c L) (hn : n ≤ 1000000) (hR : rightM 1 L = true) : Calls Tryz.prog 10 #[.pointer (some ⟨g, 0, none⟩), .agg (msC 1 nu A n c).toArray] w (RetV w (.int .i64 6)) := by
 have HR := qy (fun w h => msgRight_any 1 nu L A n c w h hn)
 rw [hR] at HR
 have bf := hf
 obtain ⟨dvm1, vm1, vm2⟩ := rowFm
 obtain ⟨bm, be, zV⟩ := box1 w 38 (msC 1 nu A n c)
 replace bf := (bf.alloc (.cells (msC 1 nu A n c).toArray 38))
 go_enter Tryz.func10, Tryz.ntmps10
 go_upto_region 1 with (fail)
 generalize w.alloc (.cells (msC 1 nu A n c).toArray 38) = V at *
 replace hr := hr.later be
 have q0 : V.cell? ⟨w.heap.size, 0, none⟩ = some (.int .i64 1) := bm.cell 0
 go_upto_region 3 with (fail)
 refine wp_region_lit ?_
 refine qA 38 (.tmp 3) bm vm1 vm2 (szFm _ _ _ _ _) ?_
 refine wpq fun K hK => ?_
 go_simp
 refine (HR.out _ hr).mono ?_
 rintro e w1 ⟨bs1, d1, rfl, rfl⟩
 with_reducible refine hK _ _ ?_
 clear hK K
 replace bm := bm.later (below_plus V bs1 d1)
 replace bf := bf.later (below_plus V bs1 d1)
 replace be := belowP be bs1 d1
 clear HR hr q0
 generalize plus V bs1 d1 = V at *
 have q0 : V.cell? ⟨w.heap.size, 0, none⟩ = some (.int .i64 1) := bm.cell 0
 go_upto_region 7 with (fail)
 refine wp_relS 17 92 rfl (by kernel_rfl) (by kernel_rfl) ?_
 refine qb 0 1 ?_
 refine qa 0 27 2 ?_
 refine qa 1 28 3 ?_
 apply qm 4 rfl rfl
 ·intro FA x hO hD K hK
  have e29 := qe (hD 2 29)
  clear hO hD
  have q9 := (bf.later (below_plus V x.bs x.d)).cell 0
  go_simp
  exact qk hK rfl
 refine qa 3 30 5 ?_
 refine qa 4 31 6 ?_
 refine qf 3 5 32 7 ?_
 refine qg 6 33 5 32 8 ?_
 refine qf 0 5 32 9 ?_
 refine qg 8 35 5 32 10 ?_
 refine qg 9 36 5 32 11 ?_
 refine qg 10 37 5 32 12 ?_
 refine qg 11 38 5 32 13 ?_
 refine qg 12 39 5 32 14 ?_
 refine qg 13 40 5 32 15 ?_
 refine qh 7 34 14 41 5 32 16 ?_
 refine qc 5 32 15 42 17 ?_
 refine Steps.fin_ (fun vs x hp => ?_)
 simp only [qta, qtb, qda, qdb, putAll, Nat.zero_add, Nat.reduceAdd, Act.put, qsT, qsZ, qsS, qi (hp 0 qd), qi (hp 1 qd), qi (hp 2 qd), qi (hp 3 qd), qi (hp 4 qd), qi (hp 5 qd), qi (hp 6 qd), qi (hp 7 qd), qi (hp 8 qd), qi (hp 9 qd), qi (hp 10 qd), qi (hp 11 qd), qi (hp 12 qd), qi (hp 13 qd), qi (hp 14 qd), qi (hp 15 qd), qi (hp 16 qd)]
 clear hp
 clear vs
 go_wp2
 go_ret
 exact RetV.is_ rfl (belowP be _ _)
theorem recAck (g : Nat) (w : World) : Calls Tryz.prog 10 #[.pointer (some ⟨g, 0, none⟩), .agg (msC 3 0 none 0 0).toArray] w (RetV w (.int .i64 1)) := by
 have hR : rightM 3 [] = true := rfl
 have hr : RL w none 0 0 [] := ⟨[], PtOk.nil_ w, Rs.nil_⟩
 have HR := qy (fun w h => msgRight_any 3 0 [] none 0 0 w h (by omega))
 rw [hR] at HR
 obtain ⟨dvm1, vm1, vm2⟩ := rowFm
 obtain ⟨bm, be, zV⟩ := box1 w 38 (msC 3 0 none 0 0)
 go_enter Tryz.func10, Tryz.ntmps10
 go_upto_region 1 with (fail)
 generalize w.alloc (.cells (msC 3 0 none 0 0).toArray 38) = V at *
 replace hr := hr.later be
 have q0 : V.cell? ⟨w.heap.size, 0, none⟩ = some (.int .i64 3) := bm.cell 0
 go_upto_region 3 with (fail)
 refine wp_region_lit ?_
 refine qA 38 (.tmp 3) bm vm1 vm2 (szFm _ _ _ _ _) ?_
 refine wpq fun K hK => ?_
 go_simp
 refine (HR.out _ hr).mono ?_
 rintro e w1 ⟨bs1, d1, rfl, rfl⟩
 with_reducible refine hK _ _ ?_
 clear hK K
 replace bm := bm.later (below_plus V bs1 d1)
 replace be := belowP be bs1 d1
 clear HR hr q0
 generalize plus V bs1 d1 = V at *
 have q0 : V.cell? ⟨w.heap.size, 0, none⟩ = some (.int .i64 3) := bm.cell 0
 go_wp2
 go_ret
 exact RetV.is_ rfl be
theorem etSl : ET Tryz.prog 36 28 (.slice none 0 0) 1 24 := ⟨Tryz.underlying36, by kernel_rfl, rfl, by decide, by decide⟩
theorem Ob.apart {w : World} {B B' s : Nat} {e : TypeId} {A A' : Option Addr} {n c n' c' : Nat} {l : List UInt8} {cs : List Value} (h : Ob w B A n c l) (ho : Os e s w B' A' n' c' cs) (he : e ≠ 5) : ∀ k, (Value.slice A n c).ownBlock = some k → (Value.slice A' n' c').ownBlock ≠ some k := by
 intro k hk hk'
 rcases h.2.2 with ⟨h1, _⟩ | ⟨g, cap, cur, h1, _, h2, _⟩
 ·rw [h1] at hk; cases hk
 ·rcases ho.2 with ⟨o1, _⟩ | ⟨g', cap', cur', o1, _, o2, _⟩
  ·rw [o1] at hk'; cases hk'
  ·rw [h1] at hk
   rw [o1] at hk'
   simp only [Value.ownBlock, Option.some.injEq] at hk hk'
   subst hk
   subst hk'
   rw [h2] at o2
   injection o2 with o2
   injection o2 with o2 o3
   exact he o3.symm
def PtO (w : World) (B : Nat) (L : List (List UInt8)) (E : List Sl) : Prop := E.length = L.length ∧ ∀ (i : Nat) (h : i < L.length) (h' : i < E.length), Ob w B E[i].1 E[i].2.1 E[i].2.2 L[i]
theorem PtO.ok {w : World} {B : Nat} {L : List (List UInt8)} {E : List Sl} (h : PtO w B L E) : PtOk w L E := ⟨h.1, fun i a b => (h.2 i a b).rb⟩
theorem PtO.nil_ (w : World) (B : Nat) : PtO w B [] [] := ⟨rfl, fun i h => absurd h (Nat.not_lt_zero i)⟩
theorem PtO.snoc {w : World} {B : Nat} {L : List (List UInt8)} {E : List Sl} (h : PtO w B L E) {e : Sl} {l : List UInt8} (hr : Ob w B e.1 e.2.1 e.2.2 l) : PtO w B (L ++ [l]) (E ++ [e]) := by
 refine ⟨by simp [h.1], fun i h1 h2 => ?_⟩
 by_cases hi : i < L.length
 ·rw [List.getElem_append_left hi, List.getElem_append_left (by rw [h.1]; exact hi)]
  exact h.2 i hi (by rw [h.1]; exact hi)
 ·have e : i = L.length := by simp at h1; omega
  subst e
  rw [List.getElem_append_right (Nat.le_refl _), List.getElem_append_right (by rw [h.1]; exact Nat.le_refl _)]
  simp [h.1, hr]
def MC.pt {D : Nat → Prop} (B : Nat) (hd : ∀ b, D b → b < B) (l : List UInt8) : MC D := ⟨fun v w => ∃ A n c, ∃ e : Sl, v = .slice A n c ∧ Rs 1 w A n c (slV e) ∧ Ob w B e.1 e.2.1 e.2.2 l ∧ ∀ a, A = some a → B ≤ a.block, fun _ _ _ ⟨A, n, c, e, h1, h2, h3, h4⟩ h => ⟨A, n, c, e, h1, h2.chg h (fun a ha hD => by have := h4 a ha; have := hd _ hD; omega), h3.chg h hd, h4⟩⟩
theorem Ob.chgG {D : Nat → Prop} {w w' : World} {B : Nat} {A : Option Addr} {n c : Nat} {l : List UInt8} (h : Ob w B A n c l) (hc : Chg D w w') (hd : ∀ k, (Value.slice A n c).ownBlock = some k → ¬ D k) : Ob w' B A n c l := by
 refine ⟨h.1, h.2.1, ?_⟩
 rcases h.2.2 with h1 | ⟨g, cap, cur, h1, h2, h3, h4⟩
 ·exact .inl h1
 ·refine .inr ⟨g, cap, cur, h1, h2, ?_, h4⟩
  rw [hc.block g (Array.getElem?_eq_some_iff.1 h3).1 (hd g (by rw [h1]; rfl))]
  exact h3
def RetFr (w : World) (n : Nat) (e : Ending) (w' : World) : Prop := ∃ l : List UInt8, l.length = 14 + n ∧ RetB w l e w'
theorem frame_any (num : Nat) (hnum : num < 18446744073709551616) (A : Option Addr) (n c : Nat) (l : List UInt8) (w : World) (hb : Rb w A n c l) (hn : n ≤ 4096) : Calls Tryz.prog 87 #[.int .u64 (num : Int), .slice A n c] w (RetFr w n) := by
 have hwn : IntKind.u64.wrap (n : Int) = (n : Int) := IntWalk.u64_in _ (by omega)
 have hl := hb.1
 go_enter Tryz.func87, Tryz.ntmps87
 go_upto_region 3 with (fail)
 refine wp_region_lit ?_
 refine qw ?_
 refine wpq fun K hK => ?_
 go_simp
 refine (put_any none 0 0 [] num 8 _ Rb.nil_ (by decide) hnum (by decide) (by decide)).mono ?_
 rintro e w1 ⟨A5, n5, c5, bs5, d5, rfl, rfl, o5⟩
 with_reducible refine hK _ _ ?_
 clear hK K
 obtain rfl : n5 = 8 := by rw [← o5.1]; simp [dig_length]
 have be1 := below_plus w bs5 d5
 replace hb := hb.later be1
 generalize plus w bs5 d5 = W1 at *
 refine qw ?_
 go_upto_region 4 with (fail)
 refine wp_region_lit ?_
 iterate 4 (refine qw ?_)
 refine wpq fun K hK => ?_
 go_simp
 refine (put_any A5 8 c5 _ n 2 _ o5.rb (by decide) (by omega) (by decide) (by decide)).mono ?_
 rintro e w1 ⟨A6, n6, c6, bs6, d6, rfl, rfl, o6⟩
 with_reducible refine hK _ _ ?_
 clear hK K
 obtain rfl : n6 = 10 := by rw [← o6.1]; simp [dig_length]
 have be2 := be1.trans ((below_plus W1 bs6 d6).mono be1.size)
 replace hb := hb.later (below_plus W1 bs6 d6)
 generalize plus W1 bs6 d6 = W2 at *
 refine qw ?_
 have o6r := o6.rb
 have hf := o6.1
 obtain ⟨f10, hf10⟩ : ∃ f, [] ++ dig num 8 ++ dig n 2 = f := ⟨_, rfl⟩
 rw [hf10] at o6 o6r hf
 clear hf10 o5
 have hll : ∀ x ∈ [f10, l], x.length ≤ 1000000 := fun x hx => by
  rcases List.mem_cons.1 hx with rfl | hx
  ·omega
  ·rw [List.mem_singleton.1 hx]; omega
 go_upto_region 5 with (fail)
 refine wp_region_lit ?_
 iterate 4 (refine qw ?_)
 have hRL : RL (W2.alloc (.cells #[.slice A6 10 c6, .slice A n c] 28)) (some ⟨W2.heap.size, 0, none⟩) 2 2 [f10, l] := ⟨[(A6, 10, c6), (A, n, c)], ⟨rfl, fun i h1 h2 => by
   match i, h1, h2 with
   | 0, _, _ => exact o6r.alloc _
   | 1, _, _ => exact hb.alloc _⟩, Rs.of_bk (t := 28) (Bk.new W2 28 #[.slice A6 10 c6, .slice A n c]) rfl (Nat.le_refl _)⟩
 refine wpq fun K hK => ?_
 go_simp
 refine (cast_any _ 2 2 [f10, l] _ hRL (by decide) hll).mono ?_
 rintro e w1 ⟨z, hz, bs7, d7, rfl, rfl⟩
 with_reducible refine hK _ _ ?_
 clear hK K
 have hwz : IntKind.u64.wrap (z : Int) = (z : Int) := IntWalk.u64_in _ (by omega)
 have be3 : Below w.heap.size w (plus (W2.alloc (.cells #[.slice A6 10 c6, .slice A n c] 28)) bs7 d7) := (be2.trans (Below.allocS (Below.refl W2.heap.size W2) _ |>.mono be2.size)).trans ((below_plus _ bs7 d7).mono (by have := be2.size; simp; omega))
 have o6s : Rb (plus (W2.alloc (.cells #[.slice A6 10 c6, .slice A n c] 28)) bs7 d7) A6 10 c6 f10 := (o6r.alloc _).later bpl
 have hbs : Rb (plus (W2.alloc (.cells #[.slice A6 10 c6, .slice A n c] 28)) bs7 d7) A n c l := (hb.alloc _).later bpl
 generalize plus (W2.alloc (.cells #[.slice A6 10 c6, .slice A n c] 28)) bs7 d7 = W3 at *
 refine qw ?_
 refine wpq fun K hK => ?_
 go_simp
 refine (put_any A6 10 c6 _ z 4 _ o6s (by decide) (by omega) (by decide) (by decide)).mono ?_
 rintro e w1 ⟨A7, n7, c7, bs8, d8, rfl, rfl, o7⟩
 with_reducible refine hK _ _ ?_
 clear hK K
 obtain rfl : n7 = 14 := by rw [← o7.1, List.length_append, o6s.1, dig_length]
 have be4 := be3.trans ((below_plus W3 bs8 d8).mono be3.size)
 replace hbs := hbs.later (below_plus W3 bs8 d8)
 have z3 := be3.size
 generalize plus W3 bs8 d8 = W4 at *
 refine qw ?_
 go_upto_region 6 with (fail)
 refine wp_region_lit ?_
 iterate 2 (refine qw ?_)
 refine wpList_app bt rfl (.tmp 23) (.tmp 24) rfl rfl (o7.mono z3) rfl hbs (by omega) be4.size ?_
 intro A8 n8 c8 w8 o8 b8 g8
 refine qw ?_
 go_wp2
 go_ret
 exact ⟨_, by rw [List.length_append, o7.1, hl], RetB.mk o8 (be4.trans b8)⟩
def jnC (gd : Nat) (A : Option Addr) (n c : Nat) : List Value := [.pointer (some ⟨gd, 0, none⟩), .slice A n c]
structure Jn (X : Nat → Prop) (B : Nat) (w : World) (gl gd : Nat) (Lb : List (List UInt8)) (N : Nat) (k : Int) (Ar : Option Addr) (cr : Nat) (S : List Sl) (Ad : Option Addr) (cd : Nat) (ld : List UInt8) (s : Int) : Prop where
 bl : Bk w gl 172 (jnC gd Ar Lb.length cr)
 bd : Bk w gd 112 (dkC Ad N cd s k)
 od : Ob w B Ad N cd ld
 os : Os 28 1 w B Ar Lb.length cr (S.flatMap slV)
 pt : PtOk w Lb S
 of_ : ∀ x ∈ S, Off X w x.1
 xl : X gl
 xd : X gd
 xa : ∀ b, (Value.slice Ad N cd).ownBlock = some b → X b
 xr : ∀ b, (Value.slice Ar Lb.length cr).ownBlock = some b → X b
def JnM (X : Nat → Prop) (B : Nat) (w : World) (gl gd : Nat) (Lb : List (List UInt8)) (N : Nat) (k : Int) : Prop := ∃ Ar cr S Ad cd ld s, Jn X B w gl gd Lb N k Ar cr S Ad cd ld s
section
variable {X : Nat → Prop} {B : Nat} {w w' : World} {gl gd : Nat} {Lb : List (List UInt8)} {N : Nat} {k : Int} {Ar : Option Addr} {cr : Nat} {S : List Sl} {Ad : Option Addr} {cd : Nat} {ld : List UInt8} {s : Int}
theorem Jn.later (h : Jn X B w gl gd Lb N k Ar cr S Ad cd ld s) (hb : Below w.heap.size w w') : Jn X B w' gl gd Lb N k Ar cr S Ad cd ld s :=
 ⟨h.bl.later hb, h.bd.later hb, h.od.later hb, h.os.later hb, h.pt.later hb, fun x hx => (h.of_ x hx).size hb.size, h.xl, h.xd, h.xa, h.xr⟩
theorem JnM.later (h : JnM X B w gl gd Lb N k) (hb : Below w.heap.size w w') : JnM X B w' gl gd Lb N k := by
 obtain ⟨Ar, cr, S, Ad, cd, ld, s, h⟩ := h
 exact ⟨_, _, _, _, _, _, _, h.later hb⟩
theorem PtOk.chgX {D : Nat → Prop} {L : List (List UInt8)} (h : PtOk w L S) (hc : Chg D w w') (hd : ∀ x ∈ S, Off D w x.1) : PtOk w' L S := ⟨h.1, fun i a b => (h.2 i a b).chg hc (fun ad ha => (hd _ (List.getElem_mem b) ad ha).2)⟩
def KeepT (w w' : World) : Prop := (∀ (g : Nat) (t : TypeId) (cs : List Value), Bk w g t cs → t ≠ 172 → t ≠ 112 → t ≠ 5 → t ≠ 28 → Bk w' g t cs) ∧ ∀ r L, MpB w r L → MpB w' r L
theorem KeepT.chg {D : Nat → Prop} (hc : Chg D w w') (hD : ∀ b, D b → ∃ t cs, Bk w b t cs ∧ (t = 172 ∨ t = 112 ∨ t = 5 ∨ t = 28)) : KeepT w w' := by
 refine ⟨fun g t cs h h1 h2 h3 h4 => h.chg hc (fun hd => ?_), fun r L h => ?_⟩
 ·obtain ⟨t', cs', hb, ht⟩ := hD g hd
  have hne : t ≠ t' := fun e => by
   subst e
   rcases ht with e | e | e | e
   ·exact h1 e
   ·exact h2 e
   ·exact h3 e
   ·exact h4 e
  exact h.apart hb hne rfl
 ·have hl := h.lt
  obtain ⟨c, h⟩ := h
  refine ⟨c, (hc.block r hl (fun hd => ?_)).trans h⟩
  obtain ⟨t', cs', hb, _⟩ := hD r hd
  rw [Bk] at hb
  rw [hb] at h
  injection h with h
  cases h
theorem Os.blkT {e : TypeId} {z : Nat} {base : Nat} {A : Option Addr} {n c : Nat} {l : List Value} (h : Os e z w base A n c l) : ∀ k, (Value.slice A n c).ownBlock = some k → ∃ cs, Bk w k e cs := fun j hj => by
 rcases h.2 with ⟨hv, _⟩ | ⟨g, cap, cur, hv, _, hg, _⟩
 ·rw [hv] at hj
  simp [Value.ownBlock] at hj
 ·rw [hv] at hj
  simp [Value.ownBlock] at hj
  subst hj
  exact ⟨cur.toList, hg⟩
theorem Ob.blkT {base : Nat} {A : Option Addr} {n c : Nat} {l : List UInt8} (h : Ob w base A n c l) : ∀ k, (Value.slice A n c).ownBlock = some k → ∃ cs, Bk w k 5 cs := fun j hj => by
 rcases h.2.2 with ⟨hv, _⟩ | ⟨g, cap, cur, hv, _, hg, _⟩
 ·rw [hv] at hj
  simp [Value.ownBlock] at hj
 ·rw [hv] at hj
  simp [Value.ownBlock] at hj
  subst hj
  exact ⟨cur.toList, hg⟩
theorem Os.neB {e : TypeId} {z : Nat} {base : Nat} {A : Option Addr} {n c : Nat} {l : List Value} {b : Nat} {t : TypeId} {cs : List Value} (h : Os e z w base A n c l) (hb : Bk w b t cs) (ht : t ≠ e) : ∀ k, (Value.slice A n c).ownBlock = some k → k ≠ b := fun j hj e => by
 subst e
 rcases h.2 with ⟨hv, _⟩ | ⟨g, cap, cur, hv, _, hg, _⟩
 ·rw [hv] at hj
  simp [Value.ownBlock] at hj
 ·rw [hv] at hj
  simp [Value.ownBlock] at hj
  subst hj
  rw [Bk] at hb
  rw [hb] at hg
  injection hg with hg
  injection hg with _ h2
  exact ht h2
end
theorem jLen (gl gd : Nat) (A : Option Addr) (n c : Nat) (w : World) (hJ : Bk w gl 172 (jnC gd A n c)) : Calls Tryz.prog 32 #[.pointer (some ⟨gl, 0, none⟩)] w (RetV w (.int .i64 (n : Int))) := by
 have q1 : w.cell? ⟨gl, 1, none⟩ = some (.slice A n c) := hJ.cell 1
 go_enter Tryz.func32, Tryz.ntmps32
 go_wp2
 go_ret
 exact RetV.is_ rfl (Below.refl _ _)
def MP.fr (n : Nat) : MP := ⟨fun v w => ∃ l A c, v = .slice A (14 + n) c ∧ Rb w A (14 + n) c l, fun _ _ _ ⟨l, A, c, h1, h2⟩ h => ⟨l, A, c, h1, h2.later h.below⟩⟩
def MP.sb (B : Nat) (l : List UInt8) : MP := ⟨fun v w => ∃ s : Sl, v = .slice s.1 s.2.1 s.2.2 ∧ Rb w s.1 s.2.1 s.2.2 l ∧ ∀ a, s.1 = some a → B ≤ a.block ∧ a.block < w.heap.size, fun _ _ _ ⟨s, h1, h2, h3⟩ h => ⟨s, h1, h2.later h.below, fun a ha => ⟨(h3 a ha).1, Nat.lt_of_lt_of_le (h3 a ha).2 h.below.size⟩⟩⟩
def MP.rl1 (B : Nat) (l : List UInt8) : MP := ⟨fun v w => ∃ A, ∃ s : Sl, v = .slice A 1 1 ∧ Rs 1 w A 1 1 (slV s) ∧ Rb w s.1 s.2.1 s.2.2 l ∧ ∀ a, s.1 = some a → B ≤ a.block ∧ a.block < w.heap.size, fun _ _ _ ⟨A, s, h1, h2, h4, h3⟩ h => ⟨A, s, h1, h2.later h.below, h4.later h.below, fun a ha => ⟨(h3 a ha).1, Nat.lt_of_lt_of_le (h3 a ha).2 h.below.size⟩⟩⟩
def GrX (w w' : World) (X X' : Nat → Prop) : Prop := (∀ b, X b → X' b) ∧ (∀ b, X' b → X b ∨ w.heap.size ≤ b) ∧ ∀ b, X' b → b < w'.heap.size
theorem jWrite_full {X : Nat → Prop} (B gl gd : Nat) (Lb : List (List UInt8)) (N : Nat) (k : Int) (A : Option Addr) (n c : Nat) (l : List UInt8) (w : World) (h : JnM X B w gl gd Lb N k) (hr : Rb w A n c l) (hn : n ≤ 4096) (hN : N ≤ 100000) (hL : Lb.length ≤ 1000) (hf : 100000 < N + (14 + n)) : Calls Tryz.prog 42 #[.pointer (some ⟨gl, 0, none⟩), .slice A n c] w (RetV w (.int .i64 23)) := by
 obtain ⟨Ar, cr, S, Ad, cd, ld, s, h⟩ := h
 have hJ := h.bl
 have hw1 : IntKind.u64.wrap (Lb.length : Int) = (Lb.length : Int) := IntWalk.u64_in _ (by omega)
 have hw2 : IntKind.u64.wrap ((Lb.length : Int) + 1) = ((Lb.length + 1 : Nat) : Int) := by rw [IntWalk.u64_in _ (by omega)]; rfl
 go_enter Tryz.func42, Tryz.ntmps42
 go_upto_region 5 with (fail)
 refine wp_relS 13 39 rfl (by kernel_rfl) (by kernel_rfl) ?_
 refine qb 0 1 ?_
 refine qa 0 11 2 ?_
 refine qa 1 12 3 ?_
 refine ql 2 13 4 60 hJ Tryz.underlying60 ?_
 refine qb 0 5 ?_
 refine qa 4 15 6 ?_
 refine qa 5 16 7 ?_
 refine ql 6 17 8 36 hJ Tryz.underlying36 ?_
 refine qa 7 18 9 ?_
 refine qa 8 19 10 ?_
 refine qa 9 20 11 ?_
 refine qb 1 12 ?_
 apply qo (φ := (MP.fr n)) 13 rfl rfl
 ·intro FA x hO hD K hK
  have e21 := qe (hD 10 21)
  have e22 := qe (hD 11 22)
  clear hO hD
  go_simp
  refine (frame_any (Lb.length + 1) (by omega) A n c l _ (hr.later bpl) (by omega)).mono ?_
  rintro e w2 ⟨l9, hl9, A9, n9, c9, bs9, d9, rfl, rfl, o9⟩
  obtain rfl : n9 = 14 + n := by rw [← o9.1, hl9]
  exact hK.out _ _ (Ex.plus_ _ _ _) ⟨_, _, _, rfl, o9.rb⟩
 refine Steps.fin_ (fun vs x hp => ?_)
 have p12 := hp 12 qd
 simp only [qta, qtb, qda, qdb, putAll, Nat.zero_add, Nat.reduceAdd, Act.put, qsT, qsZ, qsS, qi (hp 0 qd), qi (hp 1 qd), qi (hp 2 qd), qi (hp 3 qd), qi (hp 4 qd), qi (hp 5 qd), qi (hp 6 qd), qi (hp 7 qd), qi (hp 8 qd), qi (hp 9 qd), qi (hp 10 qd), qi (hp 11 qd)]
 clear hp
 generalize vs 12 = y12 at *
 clear vs
 obtain ⟨l9, A9, c9, rfl, r9⟩ := p12
 have b1 := below_plus w x.bs x.d
 have hD1 := h.bd.later b1
 generalize plus w x.bs x.d = W1 at *
 refine wpq fun K hK => ?_
 go_simp
 refine (diskApp_full gd Ad N cd s k A9 (14 + n) c9 _ hD1 hN (by omega) hf).mono ?_
 rintro e w1 ⟨bs2, d2, rfl, rfl⟩
 with_reducible refine hK _ _ ?_
 clear hK K
 refine qw ?_
 go_wp2
 go_ret
 exact RetV.is_ rfl (b1.trans ((below_plus W1 bs2 d2).mono b1.size))
def RetJW (X : Nat → Prop) (B : Nat) (w : World) (gl gd : Nat) (Lb : List (List UInt8)) (N : Nat) (k : Int) (e : Ending) (w' : World) : Prop := e = .returned (.int .i64 0) ∧ ∃ X', GrX w w' X X' ∧ JnM X' B w' gl gd Lb N k ∧ Chg X w w' ∧ KeepT w w'
theorem jWrite_ok {X : Nat → Prop} (B gl gd : Nat) (Lb : List (List UInt8)) (N : Nat) (k : Int) (A : Option Addr) (n c : Nat) (l : List UInt8) (w : World) (h : JnM X B w gl gd Lb N k) (hX : ∀ b, X b → b < w.heap.size) (hB : B ≤ w.heap.size) (hr : Rb w A n c l) (hro : Off X w A) (hn : n ≤ 4096) (hL : Lb.length ≤ 1000) (hf : N + (14 + n) ≤ 100000) : Calls Tryz.prog 42 #[.pointer (some ⟨gl, 0, none⟩), .slice A n c] w (RetJW X B w gl gd (Lb ++ [l]) (N + (14 + n)) k) := by
 obtain ⟨Ar, cr, S, Ad, cd, ld, s, h⟩ := h
 have hJ := h.bl
 have hw1 : IntKind.u64.wrap (Lb.length : Int) = (Lb.length : Int) := IntWalk.u64_in _ (by omega)
 have hw2 : IntKind.u64.wrap ((Lb.length : Int) + 1) = ((Lb.length + 1 : Nat) : Int) := by rw [IntWalk.u64_in _ (by omega)]; rfl
 go_enter Tryz.func42, Tryz.ntmps42
 go_upto_region 5 with (fail)
 refine wp_relS 13 39 rfl (by kernel_rfl) (by kernel_rfl) ?_
 refine qb 0 1 ?_
 refine qa 0 11 2 ?_
 refine qa 1 12 3 ?_
 refine ql 2 13 4 60 hJ Tryz.underlying60 ?_
 refine qb 0 5 ?_
 refine qa 4 15 6 ?_
 refine qa 5 16 7 ?_
 refine ql 6 17 8 36 hJ Tryz.underlying36 ?_
 refine qa 7 18 9 ?_
 refine qa 8 19 10 ?_
 refine qa 9 20 11 ?_
 refine qb 1 12 ?_
 apply qo (φ := (MP.fr n)) 13 rfl rfl
 ·intro FA x hO hD K hK
  have e21 := qe (hD 10 21)
  have e22 := qe (hD 11 22)
  clear hO hD
  go_simp
  refine (frame_any (Lb.length + 1) (by omega) A n c l _ (hr.later bpl) (by omega)).mono ?_
  rintro e w2 ⟨l9, hl9, A9, n9, c9, bs9, d9, rfl, rfl, o9⟩
  obtain rfl : n9 = 14 + n := by rw [← o9.1, hl9]
  exact hK.out _ _ (Ex.plus_ _ _ _) ⟨_, _, _, rfl, o9.rb⟩
 refine Steps.fin_ (fun vs x hp => ?_)
 have p12 := hp 12 qd
 simp only [qta, qtb, qda, qdb, putAll, Nat.zero_add, Nat.reduceAdd, Act.put, qsT, qsZ, qsS, qi (hp 0 qd), qi (hp 1 qd), qi (hp 2 qd), qi (hp 3 qd), qi (hp 4 qd), qi (hp 5 qd), qi (hp 6 qd), qi (hp 7 qd), qi (hp 8 qd), qi (hp 9 qd), qi (hp 10 qd), qi (hp 11 qd)]
 clear hp
 generalize vs 12 = y12 at *
 clear vs
 obtain ⟨l9, A9, c9, rfl, r9⟩ := p12
 have b1 := below_plus w x.bs x.d
 have h1 := h.later b1
 have hr1 := hr.later b1
 have hX1 : ∀ b, X b → b < (plus w x.bs x.d).heap.size := fun b hb => Nat.lt_of_lt_of_le (hX b hb) b1.size
 have hB1 := Nat.le_trans hB b1.size
 clear hJ
 generalize plus w x.bs x.d = W1 at *
 refine wpq fun K hK => ?_
 go_simp
 refine (diskApp_ok B gd Ad N cd s k ld A9 (14 + n) c9 l9 _ h1.bd h1.od r9 hB1 hf).mono ?_
 rintro e w1 ⟨rfl, A3, c3, hD3, hO3, hAp, hk3⟩
 with_reducible refine hK _ _ ?_
 clear hK K
 generalize hWW : w1 = W4 at *
 clear hWW
 refine qw ?_
 have hcX : Chg X W1 W4 := hAp.wid (fun b hb => hb.elim (fun e => e ▸ h1.xd) (h1.xa b))
 have hJ4 : Bk W4 gl 172 (jnC gd Ar Lb.length cr) := h1.bl.chg hAp (fun e => e.elim (fun e => h1.bl.apart h1.bd (by decide) e) (fun e => h1.od.ne h1.bl (by decide) _ e rfl))
 have hO4 := h1.os.chg hAp (fun b hb e => e.elim (fun e => h1.os.neB h1.bd (by decide) b hb e) (fun e => Ob.apart h1.od h1.os (by decide) b e hb))
 have hP4 := h1.pt.chgX hcX h1.of_
 have hr4 := hr1.chg hcX (fun a ha => (hro a ha).2)
 have z4 := hAp.size
 have hA4lt : ∀ b, (Value.slice A3 (N + (14 + n)) c3).ownBlock = some b → b < W4.heap.size := fun b hb => (hO3.blk b hb).2
 go_upto_region 8 with (fail)
 refine wp_relES 8 39 [0] rfl (by kernel_rfl) (by kernel_rfl) ?_
 apply Steps.oneP (.pointer (some ⟨gl, 0, none⟩)) 1 rfl (by decide)
 ·intro o ho FA x hO hD
  obtain rfl := qoi ho
  have e0 := hO 0 (by kernel_rfl)
  simp only [eval_tmp, qgT, qgS, qgZ, qoS] at e0
  have ev0 := qy ((eval_tmp FA 0).trans e0)
  clear hO hD ho
  refine .inl ⟨by simp [Region.wanted], fun w => ?_⟩
  go_simp
 apply Steps.oneE (MP.eq _) 2 rfl (by decide)
 ·intro o ho FA x hO hD K hK
  obtain rfl := qoi ho
  have e0 := hO 0 (by kernel_rfl)
  simp only [eval_tmp, qgT, qgS, qgZ, qoS] at e0
  have ev0 := qy ((eval_tmp FA 0).trans e0)
  clear hO hD ho
  go_simp
  exact qk hK rfl
 apply Steps.oneE (MP.eq _) 3 rfl (by decide)
 ·intro o ho FA x hO hD K hK
  obtain rfl := qoi ho
  obtain ⟨e29, ev29⟩ := qE (hD 1 29 (by kernel_rfl))
  clear hO hD ho
  go_simp
  exact qk hK rfl
 apply Steps.oneE (MP.eq _) 4 rfl (by decide)
 ·intro o ho FA x hO hD K hK
  obtain rfl := qoi ho
  obtain ⟨e30, ev30⟩ := qE (hD 2 30 (by kernel_rfl))
  clear hO hD ho
  go_simp
  exact qk hK rfl
 apply Steps.oneE (MP.eq _) 5 rfl (by decide)
 ·intro o ho FA x hO hD K hK
  obtain rfl := qoi ho
  obtain ⟨e31, ev31⟩ := qE (hD 3 31 (by kernel_rfl))
  clear hO hD ho
  refine wanted_if rfl ?_
  refine wp_ld1 36 (.tmp 31) rfl ev31.out (hJ4.later bpl) rfl Tryz.underlying36 rfl ?_
  exact qk hK rfl
 apply Steps.oneE (MP.eq _) 6 rfl (by decide)
 ·intro o ho FA x hO hD K hK
  obtain rfl := qoi ho
  have e1 := hO 1 (by kernel_rfl)
  simp only [eval_tmp, qgT, qgS, qgZ, qoS] at e1
  have ev1 := qy ((eval_tmp FA 1).trans e1)
  clear hO hD ho
  go_simp
  exact qk hK rfl
 apply Steps.oneE (MP.sb W4.heap.size l) 7 rfl (by decide)
 ·intro o ho FA x hO hD K hK
  obtain rfl := qoi ho
  obtain ⟨e33, ev33⟩ := qE (hD 5 33 (by kernel_rfl))
  clear hO hD ho
  go_simp
  refine (clone_any A n c l _ (hr4.later bpl) (by omega)).mono ?_
  rintro e w2 ⟨A9, n9, c9, bs9, d9, rfl, rfl, o9⟩
  exact hK.out _ _ (Ex.plus_ _ _ _) ⟨(A9, n9, c9), rfl, o9.rb, fun a ha => ⟨Nat.le_trans (below_plus W4 x.bs x.d).size (o9.blk a.block (by rw [show A9 = some a from ha]; rfl)).1, (o9.blk a.block (by rw [show A9 = some a from ha]; rfl)).2⟩⟩
 apply Steps.oneE (MP.rl1 W4.heap.size l) 8 rfl (by decide)
 ·intro o ho FA x hO hD K hK
  obtain rfl := qoi ho
  obtain ⟨u34, f34, e34, ev34⟩ := qG (hD 6 34 (by kernel_rfl))
  clear hO hD ho
  obtain ⟨s9, rfl, hs9, hf9⟩ := f34
  go_simp
  refine hK.out _ _ (Ex.alloc _ _) ⟨_, s9, rfl, ?_, hs9.alloc _, fun a ha => ⟨(hf9 a ha).1, by have := (hf9 a ha).2; simp; omega⟩⟩
  exact Rs.of_bk (t := 28) (Bk.newK 28 _ (slV s9) (by simp [size_plus]) rfl) rfl (Nat.le_refl _)
 refine Steps.fin_ (fun vs x hp => ?_)
 have p6 := hp 6 qd
 have p7 := hp 7 qd
 simp only [qta, qtb, qda, qdb, putAll, Nat.zero_add, Nat.reduceAdd, Act.put, qsT, qsZ, qsS, qi (hp 0 qd), qi (hp 1 qd), qi (hp 2 qd), qi (hp 3 qd), qi (hp 4 qd), qi (hp 5 qd)]
 clear hp
 generalize vs 6 = y6 at *
 generalize vs 7 = y7 at *
 clear vs
 obtain ⟨Ax, s9, rfl, hs5, hsb5, hsf⟩ := p7
 have b5 := below_plus W4 x.bs x.d
 have hJ5 := hJ4.later b5
 have hO5 := hO4.later b5
 have hP5 := hP4.later b5
 have hD5 := hD3.later b5
 have hA5 := hO3.later b5
 have hB5 := Nat.le_trans hB1 (Nat.le_trans z4 b5.size)
 have z5 := b5.size
 have hJr : ∀ b, (Value.slice Ar Lb.length cr).ownBlock = some b → b ≠ gl := hO5.neB hJ5 (by decide)
 clear p6 hJ4 hO4 hD3 hO3
 generalize plus W4 x.bs x.d = W5 at *
 refine wpList_appS2 etSl rfl (.tmp 32) (.tmp 35) rfl rfl hO5 rfl hs5 (slV_one _) (by omega) hB5 ?_
 intro A7 n7 c7 w7 hn7 hO7 hb7 hg7 hk7
 subst hn7
 have hJ7 := hJ5.grown hg7 (fun e => hJr _ e rfl)
 iterate 2 (refine qw ?_)
 refine wpList_st1 (v := .slice A7 (Lb.length + 1) c7) (t := 172) (cs := jnC gd Ar Lb.length cr) (off := 1) 36 (.tmp 38) (.tmp 36) rfl rfl rfl rfl hJ7 (Nat.le_of_ble_eq_true rfl) rfl (by kernel_rfl) ?_
 intro W8 h8 g8
 simp only [Act.put, qsT, qsZ, qsS]
 refine wpList_nil ?_
 refine NoPanic.normal ?_
 go_wp2
 go_ret
 have hrB := hO5.neB hD5 (by decide)
 have hap := Ob.apart hA5 hO5 (by decide)
 have hgd : gd ≠ gl := fun e => h1.bl.apart h1.bd (by decide) e.symm
 have c57 : Chg X W5 w7 := Chg.grown hg7 (fun b hb => h1.xr b hb)
 have c78 : Chg X w7 W8 := Chg.one g8 h1.xl
 have c58 := c57.trans c78
 have z58 := c58.size
 have z7 := hg7.size
 have z8 := g8.size
 have hX2 : ∀ b, (X b ∨ (Value.slice A3 (N + (14 + n)) c3).ownBlock = some b ∨ (Value.slice A7 (Lb.length + 1) c7).ownBlock = some b) → X b ∨ W1.heap.size ≤ b := fun b hb => by
  rcases hb with hb | hb | hb
  ·exact .inl hb
  ·rcases hk3 b hb with h | h
   ·exact .inl (h1.xa b h)
   ·exact .inr h
  ·rcases hk7 with h | h
   ·rw [h] at hb; exact .inl (h1.xr b hb)
   ·rw [h] at hb; injection hb with hb; exact .inr (by omega)
 have o7ne : ∀ b, (Value.slice A7 (Lb.length + 1) c7).ownBlock = some b → b ≠ gl := hO7.neB hJ7 (by decide)
 refine ⟨rfl, fun b => X b ∨ (Value.slice A3 (N + (14 + n)) c3).ownBlock = some b ∨ (Value.slice A7 (Lb.length + 1) c7).ownBlock = some b, ⟨fun b hb => .inl hb, fun b hb => (hX2 b hb).imp id (fun h => Nat.le_trans b1.size h), fun b hb => ?_⟩, ⟨A7, c7, S ++ [s9], A3, c3, ld ++ l9, s, ?_⟩, (((Chg.of_below b1).trans hcX).trans (Chg.of_below b5)).trans c58, ?_⟩
 ·rcases hb with hb | hb | hb
  ·have := hX1 b hb; omega
  ·have := hA4lt b hb; omega
  ·have := (hO7.blk b hb).2; omega
 ·have eL : (Lb ++ [l]).length = Lb.length + 1 := by simp
  have eS : (S ++ [s9]).flatMap slV = S.flatMap slV ++ slV s9 := by simp
  have hoff : ∀ x ∈ S ++ [s9], Off X W5 x.1 := fun x hx => by
   rcases List.mem_append.1 hx with hx | hx
   ·exact (h1.of_ x hx).size (by omega)
   ·rw [List.mem_singleton.1 hx]
    exact fun a ha => ⟨(hsf a ha).2, fun hb => by have := hX1 _ hb; have := (hsf a ha).1; omega⟩
  refine ⟨by rw [eL]; exact h8, (hD5.grown hg7 (fun e => hrB _ e rfl)).grown g8 (fun e => by injection e with e; exact hgd e.symm), ((hA5.grown hg7 (fun b hb e => hap b hb e)).grown g8 (fun b hb e => by injection e with e; exact hA5.ne hJ5 (by decide) b hb e.symm)), ?_, (hP5.snoc hsb5).chgX c58 hoff, fun x hx => ?_, .inl h1.xl, .inl h1.xd, fun b hb => .inr (.inl hb), fun b hb => .inr (.inr (by rw [eL] at hb; exact hb))⟩
  ·rw [eL, eS]
   exact hO7.grown g8 (fun b hb e => by injection e with e; exact o7ne b hb e.symm)
  ·rcases List.mem_append.1 hx with hx | hx
   ·exact ((h1.of_ x hx).more hX2).size (by omega)
   ·rw [List.mem_singleton.1 hx]
    refine fun a ha => ⟨Nat.lt_of_lt_of_le (hsf a ha).2 z58, fun hb => ?_⟩
    have g1 := hsf a ha
    rcases hb with hb | hb | hb
    ·have := hX1 _ hb; omega
    ·have := hA4lt _ hb; omega
    ·rcases hk7 with h | h
     ·rw [h] at hb; have := hX1 _ (h1.xr _ hb); omega
     ·rw [h] at hb; injection hb with hb; omega
 ·have c1 : Chg (fun b => b = gl ∨ b = gd ∨ (Value.slice Ad N cd).ownBlock = some b ∨ (Value.slice Ar Lb.length cr).ownBlock = some b) w W8 := (((Chg.of_below b1).trans (hAp.wid (fun b hb => hb.elim (fun e => .inr (.inl e)) (fun e => .inr (.inr (.inl e)))))).trans (Chg.of_below b5)).trans ((Chg.grown hg7 (fun b hb => .inr (.inr (.inr hb)))).trans (Chg.one g8 (.inl rfl)))
  refine KeepT.chg c1 (fun b hb => ?_)
  rcases hb with rfl | rfl | hb | hb
  ·exact ⟨_, _, h.bl, .inl rfl⟩
  ·exact ⟨_, _, h.bd, .inr (.inl rfl)⟩
  ·obtain ⟨cs, hcs⟩ := h.od.blkT b hb
   exact ⟨_, _, hcs, .inr (.inr (.inl rfl))⟩
  ·obtain ⟨cs, hcs⟩ := h.os.blkT b hb
   exact ⟨_, _, hcs, .inr (.inr (.inr rfl))⟩
theorem jSync {X : Nat → Prop} (B gl gd : Nat) (Lb : List (List UInt8)) (N : Nat) (k : Int) (w : World) (h : JnM X B w gl gd Lb N k) (hk : 0 ≤ k ∧ k ≤ 1000000) : Calls Tryz.prog 49 #[.pointer (some ⟨gl, 0, none⟩)] w fun e w' => e = .returned (.int .i64 0) ∧ JnM X B w' gl gd Lb N (k + 1) ∧ Chg X w w' ∧ KeepT w w' := by
 obtain ⟨Ar, cr, S, Ad, cd, ld, s, h⟩ := h
 have hX0 := qy h.xd
 go_enter Tryz.func49, Tryz.ntmps49
 go_upto_region 3 with (fail)
 refine wp_region_lit ?_
 iterate 3 (refine qw ?_)
 refine qL 60 (.tmp 7) h.bl Tryz.underlying60 ?_
 refine wpq fun K hK => ?_
 go_simp
 refine (diskSync gd Ad N cd s k _ (h.bd.later (Below.refl _ _)) hk).mono ?_
 rintro e w1 ⟨rfl, hD4, hc4⟩
 with_reducible refine hK _ _ ?_
 clear hK K
 generalize hWW : w1 = W4 at *
 clear hWW
 refine qw ?_
 go_wp2
 go_ret
 have hcX : Chg X w W4 := hc4.wid (fun b hb => by rw [show b = gd from hb]; exact hX0.out)
 exact ⟨rfl, ⟨Ar, cr, S, Ad, cd, ld, N, h.bl.chg hc4 (fun e => h.bl.apart h.bd (by decide) e), hD4, h.od.chgG hc4 (fun b hb e => h.od.ne h.bd (by decide) b hb e), h.os.chg hc4 (fun b hb e => h.os.neB h.bd (by decide) b hb e), h.pt.chgX hcX h.of_, fun x hx => (h.of_ x hx).size hcX.size, h.xl, h.xd, h.xa, h.xr⟩, hcX, KeepT.chg hc4 (fun b hb => by rw [show b = gd from hb]; exact ⟨_, _, h.bd, .inr (.inl rfl)⟩)⟩
def RetGt (w : World) (l : List UInt8) (e : Ending) (w' : World) : Prop := ∃ A n c bs d, e = .returned (.tuple #[.slice A n c, .bool true]) ∧ w' = plus w bs d ∧ Ob (plus w bs d) w.heap.size A n c l
theorem jGet {X : Nat → Prop} (B gl gd : Nat) (Lb : List (List UInt8)) (N : Nat) (k : Int) (w : World) (h : JnM X B w gl gd Lb N k) (hL : Lb.length ≤ 1000) (hl : ∀ l ∈ Lb, l.length ≤ 5000) (i : Nat) (hi : i < Lb.length) : Calls Tryz.prog 34 #[.pointer (some ⟨gl, 0, none⟩), .int .i64 ((i + 1 : Nat) : Int)] w (RetGt w Lb[i]) := by
 obtain ⟨Ar, cr, S, Ad, cd, ld, s, h⟩ := h
 have i1 : ¬ ((i + 1 : Nat) : Int) < 1 := by omega
 have i2 : ¬ (Lb.length : Int) < ((i + 1 : Nat) : Int) := by omega
 have i3 : IntKind.i64.wrap (((i + 1 : Nat) : Int) - 1) = (i : Int) := by rw [IntWalk.i64_in _ (by omega)]; omega
 have hlm := hl Lb[i] (List.getElem_mem hi)
 generalize hi1 : ((i + 1 : Nat) : Int) = I1 at *
 go_enter Tryz.func34, Tryz.ntmps34
 go_upto_region 1 with (fail)
 refine wp_region_lit ?_
 iterate 3 (refine qw ?_)
 iterate 2 (refine wpList_step (fun K hK => ?_); go_simp; with_reducible refine hK _ _ ?_; clear hK K)
 refine wpList_step (fun K hK => ?_)
 go_simp
 refine (jLen gl gd Ar Lb.length cr _ h.bl).mono ?_
 rintro e w1 ⟨bs1, d1, rfl, rfl⟩
 with_reducible refine hK _ _ ?_
 clear hK K
 have b1 := below_plus w bs1 d1
 replace h := h.later b1
 generalize plus w bs1 d1 = W1 at *
 refine wpList_step (fun K hK => ?_); go_simp; with_reducible refine hK _ _ ?_; clear hK K
 refine qw ?_
 have hRL : RL W1 Ar Lb.length cr Lb := ⟨S, h.pt, h.os.rs⟩
 obtain ⟨b, o, A9, n9, c9, rfl, hcl, hrb⟩ := hRL.at_ i hi
 have hn9 := hrb.1
 obtain ⟨l, hl9⟩ : ∃ l, Lb[i] = l := ⟨_, rfl⟩
 rw [hl9] at hrb hlm hn9
 have HL9 := qy hl9
 clear hl9
 have ii : (i : Int) < (Lb.length : Int) := by omega
 go_upto_region 3 with (fail)
 refine wp_region_lit ?_
 iterate 3 (refine qw ?_)
 refine qL 36 (.tmp 16) h.bl Tryz.underlying36 ?_
 iterate 4 (refine qw ?_)
 refine wpq fun K hK => ?_
 go_simp
 refine (clone_any A9 n9 c9 _ _ hrb (by omega)).mono ?_
 rintro e w1 ⟨A8, n8, c8, bs8, d8, rfl, rfl, o8⟩
 with_reducible refine hK _ _ ?_
 clear hK K
 iterate 2 (refine qw ?_)
 go_wp2
 go_ret2
 obtain ⟨bs9, d9, hw9⟩ := plus_of (b1.trans ((below_plus W1 bs8 d8).mono b1.size))
 exact ⟨A8, n8, c8, bs9, d9, rfl, hw9, by rw [← hw9, HL9.out]; exact o8.mono b1.size⟩
theorem first_nil (num : Int) (w : World) : Calls Tryz.prog 115 #[.slice none 0 0, .int .u64 num] w (RetV w (.tuple #[.slice none 0 0, .bool false])) := by
 go_enter Tryz.func115, Tryz.ntmps115
 go_wp2
 go_ret2
 exact RetV.is_ rfl (Below.refl _ _)
theorem scan_nil (w : World) : Calls Tryz.prog 75 #[.slice none 0 0] w (RetV w (.tuple #[.slice none 0 0, .int .i64 0])) := by
 go_enter Tryz.func75, Tryz.ntmps75
 go_upto_region 3 with (fail)
 go_loopw [4, 5] (fun L I wr => L = .slice none 0 0 ∧ I = .int .i64 0 ∧ Below w.heap.size w wr) (fun _ _ _ => 0)
 case atStart => exact ⟨rfl, rfl, Below.refl _ _⟩
 case round =>
  obtain ⟨rfl, rfl, be⟩ := hrel
  go_upto_region 3 with (fail)
  refine wp_region_lit ?_
  iterate 7 (refine qw ?_)
  refine wpq fun K hK => ?_
  go_simp
  refine (first_nil _ _).mono ?_
  rintro e w1 ⟨bs1, d1, rfl, rfl⟩
  with_reducible refine hK _ _ ?_
  clear hK K
  have b1 := below_plus wr bs1 d1
  generalize plus wr bs1 d1 = W1 at *
  iterate 5 (refine qw ?_)
  go_wp2
  go_ret2
  exact RetV.is_ rfl (be.trans (b1.mono be.size))
theorem jOpen (gd : Nat) (w : World) (hD : Bk w gd 112 (dkC none 0 0 0 0)) : Calls Tryz.prog 31 #[.pointer (some ⟨gd, 0, none⟩)] w fun e w' => ∃ gl, e = .returned (.tuple #[.pointer (some ⟨gl, 0, none⟩), .int .i64 0]) ∧ w.heap.size ≤ gl ∧ Bk w' gl 172 (jnC gd none 0 0) ∧ Bk w' gd 112 (dkC none 0 0 0 0) ∧ Chg (fun b => b = gd) w w' := by
 go_enter Tryz.func31, Tryz.ntmps31
 go_upto_region 3 with (fail)
 refine wp_region_lit ?_
 refine qw ?_
 refine wpq fun K hK => ?_
 go_simp
 refine (diskRead0 gd _ hD).mono ?_
 rintro e w1 ⟨bs1, d1, rfl, rfl⟩
 with_reducible refine hK _ _ ?_
 clear hK K
 have b1 := below_plus w bs1 d1
 replace hD := hD.later b1
 generalize plus w bs1 d1 = W1 at *
 refine wpq fun K hK => ?_
 go_simp
 refine (scan_nil _).mono ?_
 rintro e w1 ⟨bs2, d2, rfl, rfl⟩
 with_reducible refine hK _ _ ?_
 clear hK K
 have b2 := b1.trans ((below_plus W1 bs2 d2).mono b1.size)
 replace hD := hD.later (below_plus W1 bs2 d2)
 generalize plus W1 bs2 d2 = W2 at *
 iterate 5 (refine qw ?_)
 go_upto_region 4 with (fail)
 refine wp_region_lit ?_
 iterate 2 (refine qw ?_)
 refine wpq fun K hK => ?_
 go_simp
 refine (diskCut0 gd _ hD).mono ?_
 rintro e w1 ⟨rfl, hD4, hc4⟩
 with_reducible refine hK _ _ ?_
 clear hK K
 generalize hWW : w1 = W4 at *
 clear hWW
 refine qw ?_
 have c4 : Chg (fun b => b = gd) w W4 := (Chg.of_below b2).trans hc4
 go_wp2
 go_ret2
 exact ⟨_, rfl, c4.size, Bk.new _ _ _, hD4.alloc _, c4.trans (Chg.of_below (Below.allocS (Below.refl _ _) _))⟩
theorem vclone_any (A : Option Addr) (n c : Nat) (cs : List Value) (w : World) (h : Rs 8 w A n c cs) (h1 : ∀ u ∈ cs, u.oneCell' = true) (hm : n ≤ 1000000) : Calls Tryz.prog 65 #[.slice A n c] w (RetOs 143 8 w cs) := by
 have hnil := fun w => Lib.run_eql_slice_nil (P := Tryz.prog) w 94 143 A n c 0 0 Tryz.underlying94
 cases A with
 | none =>
  go_enter Tryz.func65, Tryz.ntmps65
  go_wp2
  go_ret
  have : cs = [] := by
   rcases h.2.2 with h | ⟨b, off, h, _⟩
   ·exact h
   ·cases h
  rw [this]
  exact RetOs.mk Os.nil_ (Below.refl _ _)
 | some ad =>
  go_enter Tryz.func65, Tryz.ntmps65
  go_wp2_with (at_builtin; refine wpList_appS etVe rfl (.tmp 5) (.tmp 6) rfl rfl (Os.lit w (Nat.le_refl _) #[] 0 rfl (Nat.zero_le _)) rfl (h.alloc _) h1 (by omega) (by simp) ?_; intro A2 n2 c2 w4 hn2 hO4 hb4 hg4; subst hn2)
  go_ret
  simp only [List.nil_append, Nat.zero_add] at hO4
  exact RetOs.mk hO4 ((Below.allocS (Below.refl _ _) _).trans (hb4.mono (by simp)))
structure CpI (B : Nat) (w : World) (A2 : Option Addr) (n c2 : Nat) (C : Cf) (E E2 : List Ve) (j : Nat) : Prop where
 len : E2.length = E.length
 vs : E2.map (·.1) = C.vs
 row : Os 143 8 w 0 A2 n c2 (E2.flatMap veC)
 tb : ∀ x ∈ E2.take j, Bk w x.2.T 210 (stkC x.1.S) ∧ B ≤ x.2.T
 mm : ∀ x ∈ E2.take j, Os 128 2 w B x.2.A x.2.n x.2.c (prs .i64 x.1.ms)
 rest : E2.drop j = E.drop j
 nd : ((E2.take j).map (·.2.T)).Nodup
theorem cfgCopy_any {G D : Nat → Prop} (C : Cf) (hC : CfOk C) (g : Nat) (A : Option Addr) (n c : Nat) (E : List Ve) (w : World) (hX : CfX G D w g C A n c E) : Calls Tryz.prog 28 #[.pointer (some ⟨g, 0, none⟩)] w fun e w' => ∃ g2, e = .returned (.pointer (some ⟨g2, 0, none⟩)) ∧ Below w.heap.size w w' ∧ ∃ D2, (∀ b, D2 b → w.heap.size ≤ b) ∧ CfM (fun b => b < w.heap.size ∨ D2 b) D2 w' g2 C := by
 have hk := hC.key
 have hb := hC.bl
 obtain ⟨dvs, vs1, vs2⟩ := rowSt
 have hn16 : n ≤ 16 := by have := hX.n_; have := hC.vl; omega
 have hflat : ∀ u ∈ E.flatMap veC, u.oneCell' = true := flat_one veC veC_one E
 go_enter Tryz.func28, Tryz.ntmps28
 go_upto_region 3 with (fail)
 refine wp_region_lit ?_
 iterate 2 (refine qw ?_)
 refine qA 96 (.tmp 8) hX.st vs1 vs2 (szSt C hk hb A n c) ?_
 refine qw ?_
 refine wpList_stA (t := 96) 96 (.tmp 3) (.tmp 9) rfl rfl (stC C A n c) (Tryz.zeroCells96).toList (by rw [stC_len C hk hb]; kernel_rfl) (stC_one C A n c) rfl rfl (Bk.new _ _ _) (szSt C hk hb A n c) ?_
 intro W3 h3 g3
 simp only [Act.put, qsT, qsZ, qsS]
 have b3 : Below w.heap.size w W3 := below_grown (Below.allocS (Below.refl _ _) _) g3 (Nat.le_refl _)
 have hX3 := hX.later b3
 have hgg : g < w.heap.size := hX.st.lt
 go_upto_region 4 with (fail)
 refine wp_region_lit ?_
 iterate 3 (refine qw ?_)
 refine wpList_ld1 (t := 96) (cs := stC C A n c) 94 (.tmp 12) rfl (by rfl) rfl hX3.st (stC_vips C hk hb A n c) Tryz.underlying94 rfl ?_
 refine wpq fun K hK => ?_
 go_simp
 refine (vclone_any A n c _ _ hX3.row.rs hflat (by omega)).mono ?_
 rintro e w1 ⟨A2, n2, c2, bs4, d4, rfl, rfl, ho4⟩
 with_reducible refine hK _ _ ?_
 clear hK K
 obtain rfl : n = n2 := by have := ho4.1; have := hX3.row.rs.1; omega
 have b4 := below_plus W3 bs4 d4
 have hX4 := hX3.later b4
 have h4 := h3.later b4
 have ho4g := fun k hk => (ho4.blk k hk)
 generalize plus W3 bs4 d4 = W4 at *
 refine qw ?_
 refine wpList_st1 (v := .slice A2 n c2) (t := 96) (cs := stC C A n c) (off := 278) 94 (.tmp 15) (.tmp 14) rfl rfl rfl rfl h4 (by rw [stC_len C hk hb]; decide) rfl (by kernel_rfl) ?_
 intro W5 h5 g5
 simp only [Act.put, qsT, qsZ, qsS]
 rw [stC_setVips C hk hb A n c A2 n c2 C.vs] at h5
 replace h5 : Bk W5 w.heap.size 96 (stC C A2 n c2) := h5
 have b5 : Below w.heap.size w W5 := below_grown (b3.trans (b4.mono b3.size)) g5 (Nat.le_refl _)
 have z3 : w.heap.size < W3.heap.size := h3.lt
 have ho5 := ho4.grown g5 (fun k hk e => by have := (ho4g k hk).1; injection e with e; omega)
 have hA2 : ∀ k, (Value.slice A2 n c2).ownBlock = some k → w.heap.size < k := fun k hk => by have := (ho4g k hk).1; omega
 have hI0 : CpI w.heap.size W5 A2 n c2 C E E 0 := ⟨rfl, hX.vs, ho5.mono (Nat.zero_le _), by simp, by simp, rfl, by simp⟩
 clear ho4 ho5 ho4g b4 hX4 h4 hX3 h3 b3 g3 g5
 have hEn : E.length = n := by have := hX.len; have := hX.n_; omega
 have q278 : W5.cell? ⟨w.heap.size, 278, none⟩ = some (.slice A2 n c2) := (h5.cell 278).trans (stC_vips C hk hb A2 n c2)
 go_upto_region 6 with (fail)
 clear q278
 go_loopw [19] (fun I wr => ∃ (j : Nat) (E2 : List Ve), I = .int .i64 (j : Int) ∧ j ≤ n ∧ CpI w.heap.size wr A2 n c2 C E E2 j ∧ Bk wr w.heap.size 96 (stC C A2 n c2) ∧ Below w.heap.size w wr) (fun I _ => n - (intOf I).toNat)
 case atStart => exact ⟨0, E, rfl, Nat.zero_le _, hI0, h5, b5⟩
 case round =>
  clear hI0 h5 b5
  obtain ⟨j, E2, rfl, hj, hI, hS, be⟩ := hrel
  by_cases hlt : j < n
  ·have ij : (j : Int) < (n : Int) := by omega
   have hjE : j < E.length := by omega
   have hjE2 : j < E2.length := by rw [hI.len]; exact hjE
   have hey : E2[j] = E[j] := by
    have h1 := congrArg (fun l : List Ve => l[0]?) hI.rest
    simp only [List.getElem?_drop, Nat.add_zero, List.getElem?_eq_getElem hjE2, List.getElem?_eq_getElem hjE, Option.some.injEq] at h1
    exact h1
   have hym0 := (hX.mm _ (List.getElem_mem hjE)).later be
   have hyt0 := (hX.tb _ (List.getElem_mem hjE)).later be
   have hyTl := hX.lt _ (hX.sub _ (hX.dt _ (List.getElem_mem hjE)))
   have hvm : E[j].1 ∈ C.vs := by rw [← hX.vs]; exact List.mem_map.2 ⟨_, List.getElem_mem hjE, rfl⟩
   have hyn0 : E[j].2.n ≤ 1000000 := by
    have h1 := okM_len (hC.vs _ hvm).ms
    have h2 := hym0.1
    rw [prs_length] at h2
    omega
   obtain ⟨b2, cur, rfl, hob, hB2, hcl, htk, hnc, hcm⟩ := hI.row.bk (by omega)
   have hrow := hI.row
   have hset := flat_set veC 8 veC_len E2 j hjE2
   have hrg := fun W (h : Below wr.heap.size wr W) => (hrow.rs.later h).rangeE veC_len j hjE2
   rw [hey] at hset
   simp only [hey, Nat.zero_add] at hrg
   obtain ⟨y, hy⟩ : ∃ y, E[j] = y := ⟨_, rfl⟩
   rw [hy] at hey hym0 hyt0 hyTl hyn0 hset hrg
   have hym := hym0
   have hyn := hyn0
   have HY := qy hy
   have HQ6 := qy (fun W (h : Below wr.heap.size wr W) => (hrg W h 6 _ rfl : W.cell? ⟨b2, j * 8 + 6, none⟩ = some (.slice y.2.A y.2.n y.2.c)))
   have HQ7a := qy (hrg wr (Below.refl _ _) 7 _ rfl : wr.cell? ⟨b2, j * 8 + 7, none⟩ = some (.pointer (some ⟨y.2.T, 0, none⟩)))
   have HEY := qy hey
   clear hrg hy hey
   go_upto_region 8 with (fail)
   refine wp_relS 10 47 rfl (by kernel_rfl) (by kernel_rfl) ?_
   refine qb 3 1 ?_
   refine ql 0 22 2 94 hS Tryz.underlying94 ?_ (hv := (stC_vips C hk hb _ _ _))
   refine qb 4 3 ?_
   refine qb 3 4 ?_
   refine ql 3 25 5 94 hS Tryz.underlying94 ?_ (hv := (stC_vips C hk hb _ _ _))
   refine qb 4 6 ?_
   refine qc 4 26 5 27 7 ?_
   refine qa 6 28 8 ?_
   apply qm 9 rfl rfl
   ·intro FA x hO hD K hK
    have e29 := qe (hD 7 29)
    clear hO hD
    have q6 := HQ6.out _ (below_plus wr x.bs x.d)
    go_simp
    exact qk hK rfl
   apply qo (φ := (MP.os 128 2 wr.heap.size (prs .i64 y.1.ms))) 10 rfl rfl
   ·intro FA x hO hD K hK
    have e30 := qe (hD 8 30)
    clear hO hD
    go_simp
    refine (mclone_any y.1.ms y.2.A y.2.n y.2.c _ (hym.later bpl) hyn).mono ?_
    rintro e w2 ⟨A9, n9, c9, bs9, d9, rfl, rfl, o9⟩
    exact hK.out _ _ (Ex.plus_ _ _ _) ⟨_, _, _, rfl, o9.mono (below_plus wr x.bs x.d).size⟩
   refine Steps.fin_ (fun vs x hp => ?_)
   have p9 := hp 9 qd
   simp only [qta, qtb, qda, qdb, putAll, Nat.zero_add, Nat.reduceAdd, Act.put, qsT, qsZ, qsS, qi (hp 0 qd), qi (hp 1 qd), qi (hp 2 qd), qi (hp 3 qd), qi (hp 4 qd), qi (hp 5 qd), qi (hp 6 qd), qi (hp 7 qd), qi (hp 8 qd)]
   clear hp
   generalize vs 9 = y9 at *
   clear vs
   obtain ⟨A9, n9, c9, rfl, ho9⟩ := p9
   have b6 := below_plus wr x.bs x.d
   have hB6 := hB2.later b6
   have hS6 := hS.later b6
   have ho96 := ho9
   have be6 := be.trans (b6.mono be.size)
   generalize plus wr x.bs x.d = W6 at *
   iterate 2 (refine qw ?_)
   refine wpList_st1 (v := .slice A9 n9 c9) (t := 143) (cs := cur) (off := j * 8 + 6) 65 (.tmp 33) (.tmp 31) rfl rfl rfl rfl hB6 (by omega) rfl (by kernel_rfl) ?_
   intro W7 h7 g7
   simp only [Act.put, qsT, qsZ, qsS]
   have hb2 := hA2 b2 hob
   have hb2l := hB2.lt
   have be7 : Below w.heap.size w W7 := below_grown be6 g7 (by omega)
   have hS7 := hS6.grown g7 (fun e => by injection e with e; omega)
   have hyt7 := (hyt0.later b6).grown g7 (fun e => by injection e with e; omega)
   have HQ7 := qy (fun W (h : Below W7.heap.size W7 W) => show W.cell? ⟨b2, j * 8 + 7, none⟩ = some (.pointer (some ⟨y.2.T, 0, none⟩)) from by
    rw [(h7.later h).cell, List.getElem?_set_ne (by omega), ← hB2.cell]
    exact HQ7a.out)
   have ho97 := ho96.grown g7 (fun k hk e => by have := (ho96.blk k hk).1; injection e with e; omega)
   have g67 := g7
   clear hB6 hS6 ho9 ho96 g7 be6
   go_upto_region 9 with (fail)
   refine wp_relS 10 47 rfl (by kernel_rfl) (by kernel_rfl) ?_
   refine qb 3 1 ?_
   refine ql 0 34 2 94 hS7 Tryz.underlying94 ?_ (hv := (stC_vips C hk hb _ _ _))
   refine qb 4 3 ?_
   refine qb 3 4 ?_
   refine ql 3 37 5 94 hS7 Tryz.underlying94 ?_ (hv := (stC_vips C hk hb _ _ _))
   refine qb 4 6 ?_
   refine qc 4 38 5 39 7 ?_
   refine qa 6 40 8 ?_
   apply qm 9 rfl rfl
   ·intro FA x hO hD K hK
    have e41 := qe (hD 7 41)
    clear hO hD
    have q7 := HQ7.out _ (below_plus W7 x.bs x.d)
    go_simp
    exact qk hK rfl
   apply qo (φ := (MP.blk W7.heap.size 210 (stkC y.1.S))) 10 rfl rfl
   ·intro FA x hO hD K hK
    have e42 := qe (hD 8 42)
    clear hO hD
    go_simp
    refine (copy_any y.1.S y.2.T _ (hyt7.later bpl)).mono ?_
    rintro e w2 ⟨T9, rfl, hT9, hb9, hB9⟩
    exact hK.out _ _ (Ex.of hb9) ⟨T9, rfl, Nat.le_trans (below_plus W7 x.bs x.d).size hT9, hB9⟩
   refine Steps.fin_ (fun vs x hp => ?_)
   have p9 := hp 9 qd
   simp only [qta, qtb, qda, qdb, putAll, Nat.zero_add, Nat.reduceAdd, Act.put, qsT, qsZ, qsS, qi (hp 0 qd), qi (hp 1 qd), qi (hp 2 qd), qi (hp 3 qd), qi (hp 4 qd), qi (hp 5 qd), qi (hp 6 qd), qi (hp 7 qd), qi (hp 8 qd)]
   clear hp
   generalize vs 9 = y9 at *
   clear vs
   obtain ⟨T9, rfl, hT9, hBT⟩ := p9
   have b8 := below_plus W7 x.bs x.d
   have h8 := h7.later b8
   have hS8 := hS7.later b8
   have ho98 := ho97.later b8
   have be8 := be7.trans (b8.mono be7.size)
   generalize plus W7 x.bs x.d = W8 at *
   iterate 2 (refine qw ?_)
   refine wpList_st1 (v := .pointer (some ⟨T9, 0, none⟩)) (t := 143) (cs := cur.set (j * 8 + 6) (.slice A9 n9 c9)) (off := j * 8 + 7) 141 (.tmp 45) (.tmp 43) rfl rfl rfl rfl h8 (by rw [List.length_set]; omega) rfl (by kernel_rfl) ?_
   intro W9 h9 g9
   simp only [Act.put, qsT, qsZ, qsS]
   have be9 : Below w.heap.size w W9 := below_grown be8 g9 (by omega)
   have z6 := b6.size
   have z7 := g67.size
   have z8 := b8.size
   have hTb : T9 ≠ b2 := by omega
   have up : ∀ {t : TypeId} {cs : List Value} {k : Nat}, Bk wr k t cs → k ≠ b2 → Bk W9 k t cs := fun h hne => (((h.later b6).grown g67 (fun e => by injection e with e; exact hne e.symm)).later b8).grown g9 (fun e => by injection e with e; exact hne e.symm)
   have upO : ∀ {e : TypeId} {z base : Nat} {A : Option Addr} {n c : Nat} {cs : List Value}, Os e z wr base A n c cs → (∀ k, (Value.slice A n c).ownBlock = some k → k ≠ b2) → Os e z W9 base A n c cs := fun h hne => (((h.later b6).grown g67 (fun k hk e => by injection e with e; exact hne k hk e.symm)).later b8).grown g9 (fun k hk e => by injection e with e; exact hne k hk e.symm)
   have hI9 : CpI w.heap.size W9 (some ⟨b2, 0, none⟩) n c2 C E (E2.set j (y.1, ⟨A9, n9, c9, T9⟩)) (j + 1) := by
    have hts := take_set_succ E2 j ((y.1, ⟨A9, n9, c9, T9⟩) : Ve) hjE2
    have hEY := HEY.out
    refine ⟨by rw [List.length_set]; exact hI.len, ?_, ?_, fun z hz => ?_, fun z hz => ?_, ?_, ?_⟩
    ·rw [List.map_set, hI.vs]
     have : C.vs[j]? = some y.1 := by rw [← hI.vs, List.getElem?_map, List.getElem?_eq_getElem hjE2, hEY]; rfl
     obtain ⟨h4, h5⟩ := List.getElem?_eq_some_iff.1 this
     show C.vs.set j y.1 = C.vs
     rw [← h5, List.set_getElem_self]
    ·refine Os.of_bk h9 (by rw [List.length_set, List.length_set]; exact hcl) ?_ hnc hcm (by rw [flat_len veC 8 veC_len, List.length_set, hI.len, hEn])
     rw [List.take_set, List.take_set, htk, flat_set veC 8 veC_len E2 j hjE2 (y.1, ⟨A9, n9, c9, y.2.T⟩) 6 _ (by decide) (by rw [hEY]; rfl)]
     rw [flat_set veC 8 veC_len _ j (by rw [List.length_set]; exact hjE2) (y.1, ⟨A9, n9, c9, T9⟩) 7 _ (by decide) (by rw [List.getElem_set_self]; rfl), List.set_set]
    ·rw [hts] at hz
     rcases List.mem_append.1 hz with hz | hz
     ·obtain ⟨t1, t2⟩ := hI.tb z hz
      exact ⟨up t1 (fun e => hB2.apart t1 (by decide) e.symm), t2⟩
     ·rw [List.mem_singleton.1 hz]
      exact ⟨hBT.grown g9 (fun e => by injection e with e; exact hTb e.symm), by show w.heap.size ≤ T9; have := be7.size; omega⟩
    ·rw [hts] at hz
     rcases List.mem_append.1 hz with hz | hz
     ·have t1 := hI.mm z hz
      exact upO t1 (t1.neB hB2 (by decide))
     ·rw [List.mem_singleton.1 hz]
      have t1 := ho98.grown g9 (fun k hk e => by injection e with e; exact ho98.neB h8 (by decide) k hk e.symm)
      exact t1.mono be.size
    ·rw [List.drop_set_of_lt (by omega)]
     have := congrArg (List.drop 1) hI.rest
     simpa [List.drop_drop] using this
    ·rw [hts, List.map_append, List.nodup_append]
     refine ⟨hI.nd, by simp, fun a ha b hb => ?_⟩
     obtain ⟨z, hz, rfl⟩ := List.mem_map.1 ha
     have t1 := (hI.tb z hz).1.lt
     simp only [List.map_cons, List.map_nil, List.mem_singleton] at hb
     subst hb
     omega
   have hS9 := hS8.grown g9 (fun e => by injection e with e; omega)
   go_wp2
   exact ⟨⟨j + 1, _, by go_num, by omega, hI9, hS9, be9⟩, by simp [intOf]; omega⟩
  ·obtain rfl : j = n := by omega
   have ij : ¬ (j : Int) < (j : Int) := by omega
   have hall : E2.take j = E2 := List.take_of_length_le (by rw [hI.len]; omega)
   go_wp2
   go_ret
   refine ⟨_, rfl, be, fun b => b = w.heap.size ∨ (Value.slice A2 j c2).ownBlock = some b ∨ ∃ z ∈ E2, z.2.T = b, fun b hb => ?_, A2, j, c2, E2, ?_⟩
   ·rcases hb with rfl | hb | ⟨z, hz, rfl⟩
    ·exact Nat.le_refl _
    ·have := hA2 b hb; omega
    ·exact (hI.tb z (by rw [hall]; exact hz)).2
   ·have hbl : ∀ b, (b = w.heap.size ∨ (Value.slice A2 j c2).ownBlock = some b ∨ ∃ z ∈ E2, z.2.T = b) → b < wr.heap.size := fun b hb => by
     rcases hb with rfl | hb | ⟨z, hz, rfl⟩
     ·exact hS.lt
     ·exact (hI.row.blk b hb).2
     ·exact (hI.tb z (by rw [hall]; exact hz)).1.lt
    refine ⟨hI.vs, hS, hI.row, fun k hk => .inr (.inl hk), .inl rfl, fun z hz => (hI.tb z (by rw [hall]; exact hz)).1, fun z hz => .inr (.inr ⟨z, hz, rfl⟩), fun z hz => (hI.mm z (by rw [hall]; exact hz)).rs, fun z hz a ha => ?_, by have := hI.nd; rwa [hall] at this, fun b hb => .inr hb, fun b hb => hb.elim (fun h => Nat.lt_of_lt_of_le h be.size) (hbl b)⟩
    have hm := hI.mm z (by rw [hall]; exact hz)
    have hm2 := hm.blk a.block (by rw [ha]; rfl)
    refine ⟨hm2.2, fun hb => ?_⟩
    rcases hb with hb | hb | hb | ⟨z2, hz2, hb⟩
    ·omega
    ·exact hm.neB hS (by decide) a.block (by rw [ha]; rfl) hb
    ·obtain ⟨b2, cur, -, hob, hB2, -, -, -, -⟩ := hI.row.bk (by
      rcases Nat.eq_zero_or_pos j with h0 | h0
      ·subst h0
       have : E2 = [] := List.eq_nil_of_length_eq_zero (by rw [hI.len]; exact hEn)
       rw [this] at hz; cases hz
      ·exact h0)
     rw [hob] at hb
     injection hb with hb
     exact hm.neB hB2 (by decide) a.block (by rw [ha]; rfl) hb.symm
    ·exact hm.neB (hI.tb z2 (by rw [hall]; exact hz2)).1 (by decide) a.block (by rw [ha]; rfl) hb.symm
theorem codecOp_own (k v b e : Nat) (six : Bool) (ah al pt pr wy : Nat) (ms : List (Int × Int)) (A : Option Addr) (n c : Nat) (w : World) (k1 : k < 256) (k2 : v < 256) (k3 : b < 256) (k4 : e < 256) (k5 : wy < 256) (h1 : ah < 18446744073709551616) (h2 : al < 18446744073709551616) (h3 : pt < 65536) (h4 : pr < 256) (hr : Rs 2 w A n c (prs .i64 ms)) (hn : n ≤ 1000000) (hn64 : n ≤ 64)
  (hms : ms.all (fun p => shB p.1 && shB p.2) = true) (hR : rightB k v b e six ah al wy ms = true) : Calls Tryz.prog 43 #[.agg (opC k v b e six ah al pt pr wy A n c).toArray] w (RetB w (opB k v b e six ah al pt pr wy ms)) := by
 obtain ⟨da, a1, a2⟩ : ∃ d, Tryz.prog.underlying 53 = some d ∧ d.isRow = true := ⟨_, Tryz.underlying53, rfl⟩
 have HR := qy (fun w (h : Rs 2 w A n c (prs .i64 ms)) => right_any k v b e six ah al pt pr wy ms A n c w h2 h hn)
 have hr0 := hr
 have hwk : IntKind.u64.wrap ((k : Nat) : Int) = ((k : Nat) : Int) := IntWalk.u64_in _ (by omega)
 have HPk : Hid (∀ A n c l w, Rb w A n c l → n ≤ 1000 → Calls Tryz.prog 51 #[.slice A n c, .int .u64 ((k : Nat) : Int), .int .i64 1] w (RetB w (l ++ dig k 1))) := qy (fun A n c l w h hn => put_any A n c l k 1 w h (by omega) (by omega) (by omega) (by omega))
 have hwv : IntKind.u64.wrap ((v : Nat) : Int) = ((v : Nat) : Int) := IntWalk.u64_in _ (by omega)
 have HPv : Hid (∀ A n c l w, Rb w A n c l → n ≤ 1000 → Calls Tryz.prog 51 #[.slice A n c, .int .u64 ((v : Nat) : Int), .int .i64 1] w (RetB w (l ++ dig v 1))) := qy (fun A n c l w h hn => put_any A n c l v 1 w h (by omega) (by omega) (by omega) (by omega))
 have hwb : IntKind.u64.wrap ((b : Nat) : Int) = ((b : Nat) : Int) := IntWalk.u64_in _ (by omega)
 have HPb : Hid (∀ A n c l w, Rb w A n c l → n ≤ 1000 → Calls Tryz.prog 51 #[.slice A n c, .int .u64 ((b : Nat) : Int), .int .i64 1] w (RetB w (l ++ dig b 1))) := qy (fun A n c l w h hn => put_any A n c l b 1 w h (by omega) (by omega) (by omega) (by omega))
 have hwe : IntKind.u64.wrap ((e : Nat) : Int) = ((e : Nat) : Int) := IntWalk.u64_in _ (by omega)
 have HPe : Hid (∀ A n c l w, Rb w A n c l → n ≤ 1000 → Calls Tryz.prog 51 #[.slice A n c, .int .u64 ((e : Nat) : Int), .int .i64 1] w (RetB w (l ++ dig e 1))) := qy (fun A n c l w h hn => put_any A n c l e 1 w h (by omega) (by omega) (by omega) (by omega))
 have hwpr : IntKind.u64.wrap ((pr : Nat) : Int) = ((pr : Nat) : Int) := IntWalk.u64_in _ (by omega)
 have HPpr : Hid (∀ A n c l w, Rb w A n c l → n ≤ 1000 → Calls Tryz.prog 51 #[.slice A n c, .int .u64 ((pr : Nat) : Int), .int .i64 1] w (RetB w (l ++ dig pr 1))) := qy (fun A n c l w h hn => put_any A n c l pr 1 w h (by omega) (by omega) (by omega) (by omega))
 have hwwy : IntKind.u64.wrap ((wy : Nat) : Int) = ((wy : Nat) : Int) := IntWalk.u64_in _ (by omega)
 have HPwy : Hid (∀ A n c l w, Rb w A n c l → n ≤ 1000 → Calls Tryz.prog 51 #[.slice A n c, .int .u64 ((wy : Nat) : Int), .int .i64 1] w (RetB w (l ++ dig wy 1))) := qy (fun A n c l w h hn => put_any A n c l wy 1 w h (by omega) (by omega) (by omega) (by omega))
 have hwpt : IntKind.u64.wrap ((pt : Nat) : Int) = ((pt : Nat) : Int) := IntWalk.u64_in _ (by omega)
 have HPpt : Hid (∀ A n c l w, Rb w A n c l → n ≤ 1000 → Calls Tryz.prog 51 #[.slice A n c, .int .u64 ((pt : Nat) : Int), .int .i64 2] w (RetB w (l ++ dig pt 2))) := qy (fun A n c l w h hn => put_any A n c l pt 2 w h (by omega) (by omega) (by omega) (by omega))
 have HAD := qy (fun w => address_any six ah al w h1 h2)
 have HMB := qy (fun w (h : Rs 2 w A n c (prs .i64 ms)) => members_any ms A n c w h hn64 hms)
 replace hr := hr.alloc (.cells (opC k v b e six ah al pt pr wy A n c).toArray 67)
 obtain ⟨dv1, v1, v2⟩ := rowOpC
 obtain ⟨b1, be, zV⟩ := box1 w 67 (opC k v b e six ah al pt pr wy A n c)
 go_enter Tryz.func43, Tryz.ntmps43
 go_upto_region 1 with (fail)
 generalize w.alloc (.cells (opC k v b e six ah al pt pr wy A n c).toArray 67) = V at *
 replace zV : w.heap.size < V.heap.size := zV
 rw [hR] at HR
 go_upto_region 3 with (first
  | (refine at_op (.load 67 (.tmp 1)) rfl ?_; refine qA 67 (.tmp 1) b1 v1 v2 (szOp _ _ _ _ _ _ _ _ _ _ _ _ _) ?_)
  | (go_at_call 40; refine (HR.out _ (hr0.later be)).mono ?_; rintro e1 w1 ⟨bs0, d0, rfl, rfl⟩))
 replace b1 := b1.later (below_plus V bs0 d0)
 replace be := belowP be bs0 d0
 have zb0' : w.heap.size < (plus V bs0 d0).heap.size := b1.lt
 generalize plus V bs0 d0 = V0 at *
 clear hr
 have q := b1.cell 0
 replace q : V0.cell? ⟨w.heap.size, 0, none⟩ = some (.int .i64 (k : Int)) := q
 go_wp2_with fail
 refine (HPk.out _ _ _ _ _ Rb.nil_ (by omega)).mono ?_
 rintro e w1 ⟨A1, n1, c1, bs1, d1, rfl, rfl, ho1⟩
 replace b1 := b1.later (below_plus V0 bs1 d1)
 replace be := belowP be bs1 d1
 clear q
 have zb1 : w.heap.size < V0.heap.size := zb0'
 have zb1' : w.heap.size < (plus V0 bs1 d1).heap.size := b1.lt
 have hz1 : V0.heap.size ≤ (plus V0 bs1 d1).heap.size := by simp [size_plus]
 have hn1 : n1 ≤ 100 := by have := ho1.rb.1; simp [dig_length, placeB_len] at this; have := adrB_length six ah al; omega
 generalize plus V0 bs1 d1 = V1 at *
 have q := b1.cell 1
 replace q : V1.cell? ⟨w.heap.size, 1, none⟩ = some (.int .i64 (v : Int)) := q
 go_wp2_with fail
 refine (HPv.out _ _ _ _ _ ho1.rb (by omega)).mono ?_
 rintro e w1 ⟨A2, n2, c2, bs2, d2, rfl, rfl, ho2⟩
 replace b1 := b1.later (below_plus V1 bs2 d2)
 replace be := belowP be bs2 d2
 clear q
 have zb2 : w.heap.size < V1.heap.size := zb1'
 have zb2' : w.heap.size < (plus V1 bs2 d2).heap.size := b1.lt
 have hz2 : V1.heap.size ≤ (plus V1 bs2 d2).heap.size := by simp [size_plus]
 have hn2 : n2 ≤ 100 := by have := ho2.rb.1; simp [dig_length, placeB_len] at this; have := adrB_length six ah al; omega
 generalize plus V1 bs2 d2 = V2 at *
 have q := b1.cell 2
 replace q : V2.cell? ⟨w.heap.size, 2, none⟩ = some (.int .i64 (b : Int)) := q
 go_wp2_with fail
 refine (HPb.out _ _ _ _ _ ho2.rb (by omega)).mono ?_
 rintro e w1 ⟨A3, n3, c3, bs3, d3, rfl, rfl, ho3⟩
 replace b1 := b1.later (below_plus V2 bs3 d3)
 replace be := belowP be bs3 d3
 clear q
 have zb3 : w.heap.size < V2.heap.size := zb2'
 have zb3' : w.heap.size < (plus V2 bs3 d3).heap.size := b1.lt
 have hz3 : V2.heap.size ≤ (plus V2 bs3 d3).heap.size := by simp [size_plus]
 have hn3 : n3 ≤ 100 := by have := ho3.rb.1; simp [dig_length, placeB_len] at this; have := adrB_length six ah al; omega
 generalize plus V2 bs3 d3 = V3 at *
 have q := b1.cell 3
 replace q : V3.cell? ⟨w.heap.size, 3, none⟩ = some (.int .i64 (e : Int)) := q
 go_wp2_with fail
 refine (HPe.out _ _ _ _ _ ho3.rb (by omega)).mono ?_
 rintro e w1 ⟨A4, n4, c4, bs4, d4, rfl, rfl, ho4⟩
 replace b1 := b1.later (below_plus V3 bs4 d4)
 replace be := belowP be bs4 d4
 clear q
 have zb4 : w.heap.size < V3.heap.size := zb3'
 have zb4' : w.heap.size < (plus V3 bs4 d4).heap.size := b1.lt
 have hz4 : V3.heap.size ≤ (plus V3 bs4 d4).heap.size := by simp [size_plus]
 have hn4 : n4 ≤ 100 := by have := ho4.rb.1; simp [dig_length, placeB_len] at this; have := adrB_length six ah al; omega
 generalize plus V3 bs4 d4 = V4 at *
 go_wp2_with (refine at_op (.load 53 (.tmp 27)) rfl ?_; refine wpList_ldA (t := 67) (off := 4) 53 (.tmp 27) rfl rfl (adC six ah al) rfl b1 rfl a1 a2 (szAd _ _ _) ?_)
 refine (HAD.out _).mono ?_
 rintro e1 w1 ⟨A9, n9, c9, bs9, d9, rfl, rfl, hx9⟩
 replace b1 := b1.later (below_plus V4 bs9 d9)
 replace be := belowP be bs9 d9
 replace ho4 := ho4.plus_ bs9 d9
 have hz9 : V3.heap.size ≤ (plus V4 bs9 d9).heap.size := by simp [size_plus]; omega
 have hn9 : n9 ≤ 17 := by have := hx9.1; simp [placeB_len] at this; have := adrB_length six ah al; omega
 generalize plus V4 bs9 d9 = V9 at *
 go_upto_region 8 with (at_builtin; refine wpList_app bt rfl (.tmp 26) (.tmp 29) rfl rfl ho4 rfl hx9 (by omega) hz9 ?_; intro A5 n5 c5 V5 ho5 hb5 hg5)
 replace b1 := b1.below hb5 (by omega)
 replace be := be.trans (hb5.mono (by omega))
 have zb5' : w.heap.size < V5.heap.size := b1.lt
 have hn5 : n5 ≤ 200 := by have := ho5.rb.1; simp [dig_length, placeB_len] at this; have := adrB_length six ah al; omega
 clear ho1 ho2 ho3 ho4 hx9 hb5 hg5
 have q := b1.cell 7
 replace q : V5.cell? ⟨w.heap.size, 7, none⟩ = some (.int .u16 (pt : Int)) := q
 go_wp2_with fail
 refine (HPpt.out _ _ _ _ _ ho5.rb (by omega)).mono ?_
 rintro e w1 ⟨A6, n6, c6, bs6, d6, rfl, rfl, ho6⟩
 replace b1 := b1.later (below_plus V5 bs6 d6)
 replace be := belowP be bs6 d6
 clear q
 have zb6 : w.heap.size < V5.heap.size := zb5'
 have zb6' : w.heap.size < (plus V5 bs6 d6).heap.size := b1.lt
 have hz6 : V5.heap.size ≤ (plus V5 bs6 d6).heap.size := by simp [size_plus]
 have hn6 : n6 ≤ 100 := by have := ho6.rb.1; simp [dig_length, placeB_len] at this; have := adrB_length six ah al; omega
 generalize plus V5 bs6 d6 = V6 at *
 have q := b1.cell 8
 replace q : V6.cell? ⟨w.heap.size, 8, none⟩ = some (.int .u8 (pr : Int)) := q
 go_wp2_with fail
 refine (HPpr.out _ _ _ _ _ ho6.rb (by omega)).mono ?_
 rintro e w1 ⟨A7, n7, c7, bs7, d7, rfl, rfl, ho7⟩
 replace b1 := b1.later (below_plus V6 bs7 d7)
 replace be := belowP be bs7 d7
 clear q
 have zb7 : w.heap.size < V6.heap.size := zb6'
 have zb7' : w.heap.size < (plus V6 bs7 d7).heap.size := b1.lt
 have hz7 : V6.heap.size ≤ (plus V6 bs7 d7).heap.size := by simp [size_plus]
 have hn7 : n7 ≤ 100 := by have := ho7.rb.1; simp [dig_length, placeB_len] at this; have := adrB_length six ah al; omega
 generalize plus V6 bs7 d7 = V7 at *
 have q := b1.cell 9
 replace q : V7.cell? ⟨w.heap.size, 9, none⟩ = some (.int .i64 (wy : Int)) := q
 go_wp2_with fail
 refine (HPwy.out _ _ _ _ _ ho7.rb (by omega)).mono ?_
 rintro e w1 ⟨A8, n8, c8, bs8, d8, rfl, rfl, ho8⟩
 replace b1 := b1.later (below_plus V7 bs8 d8)
 replace be := belowP be bs8 d8
 clear q
 have zb8 : w.heap.size < V7.heap.size := zb7'
 have zb8' : w.heap.size < (plus V7 bs8 d8).heap.size := b1.lt
 have hz8 : V7.heap.size ≤ (plus V7 bs8 d8).heap.size := by simp [size_plus]
 have hn8 : n8 ≤ 100 := by have := ho8.rb.1; simp [dig_length, placeB_len] at this; have := adrB_length six ah al; omega
 generalize plus V7 bs8 d8 = V8 at *
 have q := b1.cell 10
 replace q : V8.cell? ⟨w.heap.size, 10, none⟩ = some (.slice A n c) := q
 go_wp2_with fail
 refine (HMB.out _ (hr0.later be)).mono ?_
 rintro e1 w1 ⟨A9, n9, c9, bs9, d9, rfl, rfl, hx9⟩
 replace be := belowP be bs9 d9
 replace ho8 := ho8.plus_ bs9 d9
 have hz9 : V7.heap.size ≤ (plus V8 bs9 d9).heap.size := by simp [size_plus]; omega
 have hn9 : n9 ≤ 200 := by have := hx9.1; simp [membersB, pairsB_len, dig_length] at this; have := hr0.1; rw [prs_length] at this; omega
 clear q b1
 generalize plus V8 bs9 d9 = V9 at *
 go_wp2_with (at_builtin; refine wpList_app bt rfl (.tmp 46) (.tmp 49) rfl rfl ho8 rfl hx9 (by omega) hz9 ?_; intro A10 n10 c10 V10 ho10 hb10 hg10)
 go_ret
 have hfin := RetB.mk (ho10.mono (by omega)) (be.trans (hb10.mono (by omega)))
 have e9 : (((((((([] ++ dig k 1) ++ dig v 1) ++ dig b 1) ++ dig e 1) ++ placeB six ah al) ++ dig pt 2) ++ dig pr 1) ++ dig wy 1) ++ membersB ms = opB k v b e six ah al pt pr wy ms := by simp [opB]
 rw [e9] at hfin
 exact hfin
def cnC (gl : Nat) (s : Nat) (gst gsu gm : Nat) (An : Option Addr) : List Value := [.pointer (some ⟨gl, 0, none⟩), .int .i64 (s : Int), .pointer (some ⟨gst, 0, none⟩), .pointer (some ⟨gsu, 0, none⟩), .map (some gm), .slice An 2 2]
def StX (X : Nat → Prop) (w : World) (g : Nat) (C : Cf) : Prop := ∃ G D, CfM G D w g C ∧ ∀ b, X b → G b ∧ ¬ D b
theorem StX.later {X : Nat → Prop} {w w' : World} {g : Nat} {C : Cf} (h : StX X w g C) (hb : Below w.heap.size w w') : StX X w' g C := by
 obtain ⟨G, D, ⟨A, n, c, E, h⟩, h2⟩ := h
 exact ⟨G, D, ⟨A, n, c, E, h.later hb⟩, h2⟩
theorem StX.chg {X : Nat → Prop} {w w' : World} {g : Nat} {C : Cf} (h : StX X w g C) (hc : Chg X w w') : StX X w' g C := by
 obtain ⟨G, D, ⟨A, n, c, E, h⟩, h2⟩ := h
 exact ⟨G, D, ⟨A, n, c, E, h.chg hc (fun b hb => (h2 b hb).1) (fun b hb => (h2 b hb).2)⟩, h2⟩
theorem StX.grow {X X' : Nat → Prop} {w w' : World} {g : Nat} {C : Cf} (h : StX X w g C) (hc : Chg X w w') (hg : GrX w w' X X') : StX X' w' g C := by
 obtain ⟨G, D, ⟨A, n, c, E, h⟩, h2⟩ := h
 have h9 := h.chg hc (fun b hb => (h2 b hb).1) (fun b hb => (h2 b hb).2)
 have hm : ∀ b, (G b ∨ X' b) → G b ∨ w.heap.size ≤ b := fun b hb => hb.elim .inl (fun hb => (hg.2.1 b hb).imp (fun hx => (h2 b hx).1) id)
 exact ⟨fun b => G b ∨ X' b, D, ⟨A, n, c, E, h9.more (fun b hb => .inl hb) (fun b hb => hb.elim (fun hb => h9.lt b hb) (fun hb => hg.2.2 b hb)) (fun x hx => ((h.mo x hx).more hm).size hc.size)⟩, fun b hb => ⟨.inr hb, fun hd => (hg.2.1 b hb).elim (fun hx => (h2 b hx).2 hd) (fun hx => by have := h.lt b (h.sub b hd); omega)⟩⟩
structure CnX (X : Nat → Prop) (B : Nat) (w : World) (gc : Nat) (key : List UInt8) (L : List OpR) (s : Nat) (k : Int) (gl gd gst gsu gm : Nat) (An : Option Addr) (R : List MvE) : Prop where
 bc : Bk w gc 107 (cnC gl s gst gsu gm An)
 jn : JnM X B w gl gd (L.map opBs) (dlenL L) k
 st : StX X w gst (stL key L)
 su : StX X w gsu (stL key (L.take s))
 mp : MpB w gm R
 rm : RetM R L
 nd : Rs 2 w An 2 2 [.int .u64 0, .int .u64 0, .int .u64 0, .int .u64 0]
 no : Off X w An
 xc : X gc
 xm : X gm
 ok : CnOk key L
 sl : s ≤ L.length
 lt : ∀ b, X b → B ≤ b ∧ b < w.heap.size
 ll : L.length ≤ 100
def CnM (B : Nat) (w : World) (gc : Nat) (key : List UInt8) (L : List OpR) (s : Nat) (k : Int) : Prop := ∃ X gl gd gst gsu gm An R, CnX X B w gc key L s k gl gd gst gsu gm An R
section
variable {X : Nat → Prop} {B : Nat} {w w' : World} {gc : Nat} {key : List UInt8} {L : List OpR} {s : Nat} {k : Int} {gl gd gst gsu gm : Nat} {An : Option Addr} {R : List MvE}
theorem CnX.later (h : CnX X B w gc key L s k gl gd gst gsu gm An R) (hb : Below w.heap.size w w') : CnX X B w' gc key L s k gl gd gst gsu gm An R :=
 ⟨h.bc.later hb, h.jn.later hb, h.st.later hb, h.su.later hb, h.mp.later hb, h.rm, h.nd.later hb, h.no.size hb.size, h.xc, h.xm, h.ok, h.sl, fun b hx => ⟨(h.lt b hx).1, Nat.lt_of_lt_of_le (h.lt b hx).2 hb.size⟩, h.ll⟩
theorem CnM.later (h : CnM B w gc key L s k) (hb : Below w.heap.size w w') : CnM B w' gc key L s k := by
 obtain ⟨X, gl, gd, gst, gsu, gm, An, R, h⟩ := h
 exact ⟨_, _, _, _, _, _, _, _, h.later hb⟩
end
theorem rowNd : ∃ d, Tryz.prog.underlying 186 = some d ∧ d.isRow = true := ⟨_, Tryz.underlying186, rfl⟩
theorem cAll {X : Nat → Prop} {B : Nat} (gc : Nat) (key : List UInt8) (L : List OpR) (s : Nat) (k : Int) (gl gd gst gsu gm : Nat) (An : Option Addr) (R : List MvE) (m : Nat) (w : World) (h : CnX X B w gc key L s k gl gd gst gsu gm An R) : Calls Tryz.prog 41 #[.pointer (some ⟨gc, 0, none⟩), .int .u64 (m : Int)] w (RetV w (.bool (decide (m = 0)))) := by
 obtain ⟨dvn, vn1, vn2⟩ := rowNd
 have q5 : w.cell? ⟨gc, 5, none⟩ = some (.slice An 2 2) := h.bc.cell 5
 obtain ⟨bl, ol, rfl, -, -⟩ := h.nd.at_ (by decide) (by decide)
 have hnd := h.nd
 go_enter Tryz.func41, Tryz.ntmps41
 go_upto_region 2 with (fail)
 go_loopw [12] (fun I wr => ∃ i : Nat, I = .int .i64 (i : Int) ∧ i ≤ 2 ∧ (i = 0 ∨ m = 0) ∧ Below w.heap.size w wr) (fun I _ => 2 - (intOf I).toNat)
 case atStart => exact ⟨0, rfl, by omega, .inl rfl, Below.refl _ _⟩
 case round =>
  obtain ⟨i, rfl, hi, hi0, be⟩ := hrel
  by_cases hlt : i < 2
  ·have ii : (i : Int) < 2 := by omega
   have hrg : wr.rangeAt bl (ol + i * 2) [.int .u64 0, .int .u64 0] := fun a u hu => by
    have := (hnd.later be).at_ (by decide) (by decide)
    obtain ⟨b', o', hA, -, hc⟩ := this
    injection hA with hA
    injection hA with e1 e2
    subst e1 e2
    rw [Nat.add_assoc]
    apply hc
    have ha : a < 2 := by have := (List.getElem?_eq_some_iff.1 hu).1; simpa using this
    have hia : i = 0 ∨ i = 1 := by omega
    have haa : a = 0 ∨ a = 1 := by omega
    rcases hia with rfl | rfl <;> rcases haa with rfl | rfl <;> simpa using hu
   go_upto_region 3 with (fail)
   refine wp_region_lit ?_
   refine qw ?_
   refine wpList_load_mid rfl 186 (.tmp 14) rfl bl (ol + i * 2) rfl [.int .u64 0, .int .u64 0] _ hrg vn1 vn2 (by kernel_rfl) ?_
   refine qw ?_
   refine wpList_stA (t := 186) 186 (.tmp 6) (.tmp 15) rfl rfl [.int .u64 0, .int .u64 0] [.int .u64 0, .int .u64 0] rfl (by simp [Value.oneCell']) rfl rfl (Bk.new _ _ _) (by kernel_rfl) ?_
   intro W4 h4 g4
   simp only [Act.put, qsT, qsZ, qsS]
   have be4 : Below w.heap.size w W4 := be.trans ((below_grown (Below.allocS (Below.refl _ _) _) g4 (Nat.le_refl _)).mono be.size)
   have q0 : W4.cell? ⟨wr.heap.size, 0, none⟩ = some (.int .u64 0) := h4.cell 0
   by_cases hm0 : m = 0
   ·subst hm0
    go_wp2
    exact ⟨⟨i + 1, by go_num, by omega, by simp, be4⟩, by simp [intOf]; omega⟩
   ·have im : (0 : Int) < (m : Int) := by omega
    go_wp2
    go_ret
    exact RetV.is_ (by simp [hm0]) be4
  ·have ii : ¬ (i : Int) < 2 := by omega
   have hm0 : m = 0 := by omega
   go_wp2
   go_ret
   exact RetV.is_ (by simp [hm0]) be
theorem cLen {X : Nat → Prop} {B : Nat} (gc : Nat) (key : List UInt8) (L : List OpR) (s : Nat) (k : Int) (gl gd gst gsu gm : Nat) (An : Option Addr) (R : List MvE) (w : World) (h : CnX X B w gc key L s k gl gd gst gsu gm An R) : Calls Tryz.prog 19 #[.pointer (some ⟨gc, 0, none⟩)] w (RetV w (.tuple #[.int .i64 (s : Int), .int .i64 (L.length : Int)])) := by
 have HJL := qy (fun W (hb : Below w.heap.size w W) => (by
  obtain ⟨Ar, cr, S, Ad, cd, ld, s', hj⟩ := h.jn.later hb
  have := jLen gl gd Ar (L.map opBs).length cr W hj.bl
  rwa [List.length_map] at this : Calls Tryz.prog 32 #[.pointer (some ⟨gl, 0, none⟩)] W (RetV W (.int .i64 (L.length : Int)))))
 go_enter Tryz.func19, Tryz.ntmps19
 go_upto_region 3 with (fail)
 refine wp_relS 9 15 rfl (by kernel_rfl) (by kernel_rfl) ?_
 refine qb 0 1 ?_
 refine qa 0 6 2 ?_
 refine qa 1 7 3 ?_
 refine ql 2 8 4 3 h.bc Tryz.underlying3 ?_
 refine qb 0 5 ?_
 refine qa 4 10 6 ?_
 refine qa 5 11 7 ?_
 refine ql 6 12 8 99 h.bc Tryz.underlying99 ?_
 apply qm 9 rfl rfl
 ·intro FA x hO hD K hK
  have e13 := qe (hD 7 13)
  clear hO hD
  go_simp
  refine (HJL.out _ bpl).mono ?_
  rintro e w2 ⟨bs9, d9, rfl, rfl⟩
  exact hK.out _ _ (Ex.plus_ _ _ _) rfl
 refine Steps.fin_ (fun vs x hp => ?_)
 simp only [qta, qtb, qda, qdb, putAll, Nat.zero_add, Nat.reduceAdd, Act.put, qsT, qsZ, qsS, qi (hp 0 qd), qi (hp 1 qd), qi (hp 2 qd), qi (hp 3 qd), qi (hp 4 qd), qi (hp 5 qd), qi (hp 6 qd), qi (hp 7 qd), qi (hp 8 qd)]
 clear hp
 clear vs
 go_wp2
 go_ret2
 exact RetV.is_ rfl bpl
theorem cState {X : Nat → Prop} {B : Nat} (gc : Nat) (key : List UInt8) (hk : key.length = 16) (L : List OpR) (s : Nat) (k : Int) (gl gd gst gsu gm : Nat) (An : Option Addr) (R : List MvE) (w : World) (h : CnX X B w gc key L s k gl gd gst gsu gm An R) : Calls Tryz.prog 21 #[.pointer (some ⟨gc, 0, none⟩)] w fun e w' => ∃ g2 G D, e = .returned (.pointer (some ⟨g2, 0, none⟩)) ∧ Below w.heap.size w w' ∧ CfM G D w' g2 (stL key (L.take s)) := by
 have hCk := h.ok.st hk s
 obtain ⟨G, D, ⟨A, n, c, E, hX⟩, -⟩ := h.su
 go_enter Tryz.func21, Tryz.ntmps21
 go_upto_region 3 with (fail)
 refine wp_region_lit ?_
 iterate 3 (refine qw ?_)
 refine qL 47 (.tmp 7) h.bc Tryz.underlying47 ?_
 refine wpq fun K hK => ?_
 go_simp
 refine (cfgCopy_any _ hCk gsu A n c E _ hX).mono ?_
 rintro e w1 ⟨g2, rfl, hb2, D2, hD2, hM2⟩
 with_reducible refine hK _ _ ?_
 clear hK K
 generalize hWW : w1 = W4 at *
 clear hWW
 refine qw ?_
 go_wp2
 go_ret
 exact ⟨g2, _, _, rfl, hb2, hM2⟩
theorem eqTwoV {P : Program} (w : World) (d : Nat) (xs ys : Array Value) (f0 f1 : Field) (h0 : f0.name ≠ "_") (h1 : f1.name ≠ "_") (u u' v v' : Value) (b0 b1 : Bool)
  (p0 : (part f0.type xs f0.offset).run P w = .ok u w) (p0' : (part f0.type ys f0.offset).run P w = .ok u' w) (p1 : (part f1.type xs f1.offset).run P w = .ok v w) (p1' : (part f1.type ys f1.offset).run P w = .ok v' w)
  (e0 : (Op.equalIn d f0.type u u').run P w = .ok b0 w) (e1 : (Op.equalIn d f1.type v v').run P w = .ok b1 w) : (Op.eqFields d xs ys [f0, f1]).run P w = .ok (b0 && b1) w := by
 cases b0 <;> cases b1 <;> simp [Op.eqFields, h0, h1, Sem.run_bind, p0, p0', p1, p1', e0, e1, Result.andThen_ok, Sem.run_pure]
theorem verFields : (Tryz.prog.fieldsOf 123).toList.map (fun f => (f.name, f.type, f.offset)) = [("vip", 3, 0), ("version", 3, 1)] := by kernel_rfl
theorem verStood : Tryz.prog.stoodInHeld 123 = false := by kernel_rfl
theorem verUnder : Tryz.prog.underlying 123 = some (.struct (Tryz.prog.fieldsOf 123)) := by kernel_rfl
theorem two_ofV {α β : Type} {f : α → β} {l : List α} {a b : β} (h : l.map f = [a, b]) : ∃ x y, l = [x, y] ∧ f x = a ∧ f y = b := by
 match l, h with
 | [x, y], h => simp at h; exact ⟨x, y, rfl, h.1, h.2⟩
theorem eq_ver (w : World) (p q : Int × Int) : (Op.equal 123 (mv p) (mv q)).run Tryz.prog w = .ok (decide (p = q)) w := by
 obtain ⟨f0, f1, hl, h0, h1⟩ := two_ofV verFields
 simp only [Prod.mk.injEq] at h0 h1
 obtain ⟨a1, a2, a3⟩ := h0
 obtain ⟨b1, b2, b3⟩ := h1
 have hd : decide (p = q) = ((p.1 == q.1) && (p.2 == q.2)) := by
  obtain ⟨p1, p2⟩ := p
  obtain ⟨q1, q2⟩ := q
  rw [Bool.eq_iff_iff]
  simp
 rw [hd]
 refine (run_equalIn_struct w 9999 123 _ _ verUnder verStood).trans ?_
 rw [hl]
 refine eqTwoV w 9999 _ _ f0 f1 (by rw [a1]; decide) (by rw [b1]; decide) (.int .i64 p.1) (.int .i64 q.1) (.int .i64 p.2) (.int .i64 q.2) _ _ ?_ ?_ ?_ ?_ ?_ ?_
 ·rw [a2, a3]; simp [part, isAgg, run_underlying Tryz.underlying3]
 ·rw [a2, a3]; simp [part, isAgg, run_underlying Tryz.underlying3]
 ·rw [b2, b3]; simp [part, isAgg, run_underlying Tryz.underlying3]
 ·rw [b2, b3]; simp [part, isAgg, run_underlying Tryz.underlying3]
 ·rw [a2, run_equalIn_int w 9998 3 .i64 .i64 p.1 q.1 Tryz.underlying3]
 ·rw [b2, run_equalIn_int w 9998 3 .i64 .i64 p.2 q.2 Tryz.underlying3]
theorem mvT : MvT Tryz.prog 104 123 :=
 ⟨⟨23, Tryz.underlying104, fun w => by kernel_rfl⟩, eq_ver, fun w e p => by kernel_rfl, ⟨_, verUnder, fun _ _ => rfl⟩⟩
def RetNo (w : World) (gm : Nat) (R : List MvE) (k v e : Int) (num : Nat) (en : Ending) (w' : World) : Prop := (∃ x, en = .returned x) ∧ Chg (fun b => b = gm) w w' ∧ ((¬ k = 4 ∧ MpB w' gm R) ∨ (k = 4 ∧ ∃ c, MpB w' gm (mvPut (v, e) num c R)))
theorem note_any (gc gl s gst gsu gm : Nat) (An : Option Addr) (R : List MvE) (k v b e : Int) (six : Bool) (ah al pt pr : Nat) (wy : Int) (A : Option Addr) (m d : Nat) (num : Nat) (w : World) (hc : Bk w gc 107 (cnC gl s gst gsu gm An)) (hM : MpB w gm R) : Calls Tryz.prog 35 #[.pointer (some ⟨gc, 0, none⟩), .agg (opC k v b e six ah al pt pr wy A m d).toArray, .int .u64 (num : Int)] w (RetNo w gm R k v e num) := by
 obtain ⟨bo, be, zV⟩ := box1 w 67 (opC k v b e six ah al pt pr wy A m d)
 go_enter Tryz.func35, Tryz.ntmps35
 go_upto_region 1 with (fail)
 generalize w.alloc (.cells (opC k v b e six ah al pt pr wy A m d).toArray 67) = V at *
 replace hc := hc.later be
 replace hM := hM.later be
 have q0 : V.cell? ⟨w.heap.size, 0, none⟩ = some (.int .i64 k) := bo.cell 0
 by_cases hk : k = 4
 ·subst hk
  go_upto_region 2 with (fail)
  clear q0
  refine wp_relS 10 19 rfl (by kernel_rfl) (by kernel_rfl) ?_
  refine qb 0 1 ?_
  refine qa 0 9 2 ?_
  refine qa 1 10 3 ?_
  refine ql 2 11 4 104 hc Tryz.underlying104 ?_
  refine qb 4 5 ?_
  refine ql 4 13 6 3 bo Tryz.underlying3 ?_
  refine qb 4 7 ?_
  refine ql 6 15 8 3 bo Tryz.underlying3 ?_
  apply qo (φ := (MP.eq (mv (v, e)))) 9 rfl rfl
  ·intro FA x hO hD K hK
   have e14 := qe (hD 5 14)
   have e16 := qe (hD 7 16)
   clear hO hD
   go_simp
   exact qk hK rfl
  apply qo (φ := (MP.eq (.int .u64 (num : Int)))) 10 rfl rfl
  ·intro FA x hO hD K hK
   have e2 := hO 2
   simp only [eval_tmp, qgT, qgS, qgZ, qoS] at e2
   clear hO hD
   go_simp
   exact qk hK rfl
  refine Steps.fin_ (fun vs x hp => ?_)
  simp only [qta, qtb, qda, qdb, putAll, Nat.zero_add, Nat.reduceAdd, Act.put, qsT, qsZ, qsS, qi (hp 0 qd), qi (hp 1 qd), qi (hp 2 qd), qi (hp 3 qd), qi (hp 4 qd), qi (hp 5 qd), qi (hp 6 qd), qi (hp 7 qd), qi (hp 8 qd), qi (hp 9 qd)]
  clear hp
  clear vs
  have b1 := below_plus V x.bs x.d
  replace hM := hM.later b1
  replace be := be.trans (b1.mono be.size)
  generalize plus V x.bs x.d = W3 at *
  refine wpList_mapU mvT (.tmp 12) (.tmp 17) (.tmp 18) rfl rfl (r := gm) (L := R) (p := (v, e)) (n := num) rfl rfl rfl hM ?_
  intro W4 cc hM4 g4
  simp only [Act.put, qsT, qsZ, qsS]
  go_wp2
  exact ⟨rfl, _, results_none Tryz.results35 _ _ _, ⟨_, rfl⟩, (Chg.of_below be).trans (Chg.one (D := fun b => b = gm) g4 rfl), .inr ⟨rfl, _, hM4⟩⟩
 ·have ik : (k == 4) = false := by simpa using hk
  go_wp2
  exact ⟨rfl, _, results_none Tryz.results35 _ _ _, ⟨_, rfl⟩, Chg.of_below be, .inl ⟨hk, hM⟩⟩
theorem CfX.mkG {G D G' : Nat → Prop} {w : World} {g : Nat} {C : Cf} {A : Option Addr} {n c : Nat} {E : List Ve} (h : CfX G D w g C A n c E) (h1 : ∀ b, G' b → G b) (h2 : ∀ b, D b → G' b) : CfX G' D w g C A n c E :=
 ⟨h.vs, h.st, h.row, h.dr, h.dg, h.tb, h.dt, h.mm, fun x hx a ha => ⟨(h.mo x hx a ha).1, fun hb => (h.mo x hx a ha).2 (h1 _ hb)⟩, h.nd, h2, fun b hb => h.lt b (h1 b hb)⟩
theorem MpB.ne_bk {w : World} {r g : Nat} {L : List MvE} {t : TypeId} {cs : List Value} (h : MpB w r L) (hb : Bk w g t cs) : r ≠ g := fun e => by
 subst e
 obtain ⟨c, h⟩ := h
 rw [Bk] at hb
 rw [hb] at h
 injection h with h
 cases h
theorem JnM.chgD {X D : Nat → Prop} {B : Nat} {w w' : World} {gl gd : Nat} {Lb : List (List UInt8)} {N : Nat} {k : Int} (h : JnM X B w gl gd Lb N k) (hc : Chg D w w') (hD : ∀ b, D b → ∀ t cs, Bk w b t cs → t ≠ 172 ∧ t ≠ 112 ∧ t ≠ 5 ∧ t ≠ 28) (hDX : ∀ b, D b → X b) : JnM X B w' gl gd Lb N k := by
 obtain ⟨Ar, cr, S, Ad, cd, ld, s, h⟩ := h
 exact ⟨Ar, cr, S, Ad, cd, ld, s, h.bl.chg hc (fun hd => (hD _ hd _ _ h.bl).1 rfl), h.bd.chg hc (fun hd => (hD _ hd _ _ h.bd).2.1 rfl), h.od.chgG hc (fun b hb hd => by obtain ⟨cs, hcs⟩ := h.od.blkT b hb; exact (hD _ hd _ _ hcs).2.2.1 rfl), h.os.chg hc (fun b hb hd => by obtain ⟨cs, hcs⟩ := h.os.blkT b hb; exact (hD _ hd _ _ hcs).2.2.2 rfl),
  h.pt.chgX hc (fun x hx a ha => ⟨(h.of_ x hx a ha).1, fun hd => (h.of_ x hx a ha).2 (hDX _ hd)⟩), fun x hx => (h.of_ x hx).size hc.size, h.xl, h.xd, h.xa, h.xr⟩
def KeepC (w w' : World) : Prop := ∀ (g : Nat) (t : TypeId) (cs : List Value), Bk w g t cs → t ≠ 107 → t ≠ 172 → t ≠ 112 → t ≠ 5 → t ≠ 28 → Bk w' g t cs
theorem KeepC.below {w w' : World} (hb : Below w.heap.size w w') : KeepC w w' := fun g t cs h _ _ _ _ _ => h.later hb
theorem KeepC.trans {w w' w'' : World} (h : KeepC w w') (h' : KeepC w' w'') : KeepC w w'' := fun g t cs hb h1 h2 h3 h4 h5 => h' g t cs (h g t cs hb h1 h2 h3 h4 h5) h1 h2 h3 h4 h5
theorem KeepC.keepT {w w' : World} (h : KeepT w w') : KeepC w w' := fun g t cs hb h1 h2 h3 h4 h5 => h.1 g t cs hb h2 h3 h4 h5
theorem KeepC.st {w w' : World} {gc : Nat} {c0 : List Value} (hc : Bk w gc 107 c0) (hg : w.grownBy w' (some gc)) : KeepC w w' := fun g t cs h h1 _ _ _ _ => h.grown hg (fun e => by injection e with e; subst e; exact h.apart hc h1 rfl)
theorem KeepC.mp {w w' : World} {gm : Nat} {R : List MvE} (hm : MpB w gm R) (hc : Chg (fun b => b = gm) w w') : KeepC w w' := fun g t cs h _ _ _ _ _ => h.chg hc (fun e => hm.ne_bk h (show g = gm from e).symm)
def RetIs (X : Nat → Prop) (B : Nat) (w : World) (gc : Nat) (key : List UInt8) (L : List OpR) (s : Nat) (k : Int) (e : Ending) (w' : World) : Prop := (∃ x, e = .returned x) ∧ (∃ X' gl gd gst gsu gm An R, CnX X' B w' gc key L s k gl gd gst gsu gm An R ∧ (∀ b, X' b → X b ∨ w.heap.size ≤ b) ∧ ∀ b, X b → X' b) ∧ Chg X w w' ∧ KeepC w w'
theorem isL_no {key : List UInt8} {L : List OpR} {o : OpR} (h : isE key L o ≠ 0) : isL key L o = L := if_neg h
theorem shB_rg {x : Int} (h : shB x = true) : 0 ≤ x ∧ x ≤ 255 := by
 simp only [shB, Bool.and_eq_true, decide_eq_true_eq] at h
 omega
theorem codecOp_int (q v b e : Int) (six : Bool) (ah al pt pr : Nat) (wy : Int) (ms : List (Int × Int)) (A : Option Addr) (m d : Nat) (w : World) (ho : OpOk (⟨q, v, b, e, six, ah, al, pt, pr, wy, ms⟩ : OpR)) (hR : rgO (⟨q, v, b, e, six, ah, al, pt, pr, wy, ms⟩ : OpR) = true) (hr : Rs 2 w A m d (prs .i64 ms)) : Calls Tryz.prog 43 #[.agg (opC q v b e six ah al pt pr wy A m d).toArray] w (RetB w (opBs (⟨q, v, b, e, six, ah, al, pt, pr, wy, ms⟩ : OpR))) := by
 have hl := rgO_len hR
 have hml : m = ms.length := by have := hr.1; rw [prs_length] at this; omega
 have h0 := hR
 simp only [rgO, rightB, Bool.and_eq_true] at h0
 obtain ⟨⟨⟨⟨⟨r1, r2⟩, r3⟩, r4⟩, r5⟩, r6, r7, r8⟩ := h0
 have r1 := shB_rg r1
 have r2 := shB_rg r2
 have r3 := shB_rg r3
 have r4 := shB_rg r4
 have r5 := shB_rg r5
 have hah := ho.ah
 have hal := ho.al
 have hpt := ho.pt
 have hpr := ho.pr
 simp only [] at hah hal hpt hpr hl
 obtain ⟨q', rfl⟩ := Int.eq_ofNat_of_zero_le r1.1
 obtain ⟨v', rfl⟩ := Int.eq_ofNat_of_zero_le r2.1
 obtain ⟨b', rfl⟩ := Int.eq_ofNat_of_zero_le r3.1
 obtain ⟨e', rfl⟩ := Int.eq_ofNat_of_zero_le r4.1
 obtain ⟨wy', rfl⟩ := Int.eq_ofNat_of_zero_le r5.1
 have h := codecOp_own q' v' b' e' six ah al pt pr wy' ms A m d w (by omega) (by omega) (by omega) (by omega) (by omega) hah hal hpt hpr hr (by omega) (by omega) r8 hR
 simpa [opBs] using h
theorem issue_any {X : Nat → Prop} {B : Nat} (gc : Nat) (key : List UInt8) (hk : key.length = 16) (L : List OpR) (s : Nat) (k : Int) (gl gd gst gsu gm : Nat) (An : Option Addr) (R : List MvE) (q v b e : Int) (six : Bool) (ah al pt pr : Nat) (wy : Int) (ms : List (Int × Int)) (A : Option Addr) (m d : Nat) (w : World) (h : CnX X B w gc key L s k gl gd gst gsu gm An R) (hL : L.length ≤ 60) (hB : B ≤ w.heap.size) (ho : OpOk (⟨q, v, b, e, six, ah, al, pt, pr, wy, ms⟩ : OpR)) (hr : Rs 2 w A m d (prs .i64 ms)) (hro : Off X w A) (hm : m ≤ 1000000) : Calls Tryz.prog 14 #[.pointer (some ⟨gc, 0, none⟩), .agg (opC q v b e six ah al pt pr wy A m d).toArray] w (RetIs X B w gc key (isL key L (⟨q, v, b, e, six, ah, al, pt, pr, wy, ms⟩ : OpR)) s k) := by
 obtain ⟨dvo, vo1, vo2⟩ := rowOpC
 have HRG := qy (fun W hw => right_any q v b e six ah al pt pr wy ms A m d W ho.al hw hm)
 have hCk : CfOk (stL key L) := stL_ok hk (fun o hx => (h.ok.ok o hx).1)
 obtain ⟨rr, hrr⟩ : ∃ rr, rightB q v b e six ah al wy ms = rr := ⟨_, rfl⟩
 rw [hrr] at HRG
 have HRR := qy (show rgO (⟨q, v, b, e, six, ah, al, pt, pr, wy, ms⟩ : OpR) = rr from hrr)
 clear hrr
 obtain ⟨bo, be, zV⟩ := box1 w 67 (opC q v b e six ah al pt pr wy A m d)
 go_enter Tryz.func14, Tryz.ntmps14
 go_upto_region 1 with (fail)
 generalize w.alloc (.cells (opC q v b e six ah al pt pr wy A m d).toArray 67) = V at *
 go_upto_region 3 with (fail)
 refine wp_region_lit ?_
 refine qA 67 (.tmp 3) bo vo1 vo2 (szOp q v b e six ah al pt pr wy A m d) ?_
 refine wpq fun K hK => ?_
 go_simp
 refine (HRG.out _ (hr.later be)).mono ?_
 rintro e w1 ⟨bs1, d1, rfl, rfl⟩
 with_reducible refine hK _ _ ?_
 clear hK K
 refine qw ?_
 have b1 := below_plus V bs1 d1
 have h1 := h.later (be.trans (b1.mono be.size))
 have bo1 := bo.later b1
 have hr1 := (hr.later be).later b1
 have hro1 := (hro.size be.size).size b1.size
 have be1 := be.trans (b1.mono be.size)
 have z1 : w.heap.size + 1 ≤ (plus V bs1 d1).heap.size := Nat.le_trans zV b1.size
 clear b1 bo zV
 generalize plus V bs1 d1 = W1 at *
 cases rr with
 | false =>
  go_wp2
  go_ret
  refine ⟨⟨_, rfl⟩, ?_, Chg.of_below be1, KeepC.below be1⟩
  rw [isL_no (by unfold isE; rw [if_pos HRR.out]; decide)]
  exact ⟨_, _, _, _, _, _, _, _, h1, fun b hb => .inl hb, fun b hb => hb⟩
 | true =>
 obtain ⟨Gi, Di, ⟨Ai, ni, ci, Ei, hX1⟩, hXi⟩ := h1.st
 go_upto_region 5 with (fail)
 refine wp_region_lit ?_
 iterate 3 (refine qw ?_)
 refine qL 47 (.tmp 15) h1.bc Tryz.underlying47 ?_
 refine wpq fun K hK => ?_
 go_simp
 refine (cfgCopy_any _ hCk gst Ai ni ci Ei _ hX1).mono ?_
 rintro e w1 ⟨g2, rfl, hb2, D2, hD2, A3, n3, c3, E3, hX3⟩
 with_reducible refine hK _ _ ?_
 clear hK K
 generalize hWW : w1 = W2 at *
 clear hWW
 refine qw ?_
 have h2 := h1.later hb2
 have bo2 := bo1.later hb2
 have hr2 := hr1.later hb2
 have hro2 := hro1.size hb2.size
 have hX4 := hX3.mkG (G' := fun b => X b ∨ D2 b) (fun b hb => hb.imp (fun hb => (h1.lt b hb).2) id) (fun b hb => .inr hb)
 have hro4 : Off (fun b => X b ∨ D2 b) W2 A := fun a ha => ⟨(hro2 a ha).1, fun hb => hb.elim (hro2 a ha).2 (fun hb => by have := hD2 _ hb; have := (hro1 a ha).1; omega)⟩
 have HAP := qy (apply_any q v b e six ah al pt pr wy ms A m d (stL key L) hCk g2 A3 n3 c3 E3 W2 hX4 ho hr2 hro4 hm)
 go_upto_region 6 with (fail)
 refine wp_region_lit ?_
 refine qw ?_
 refine qA 67 (.tmp 3) bo2 vo1 vo2 (szOp q v b e six ah al pt pr wy A m d) ?_
 refine wpq fun K hK => ?_
 go_simp
 refine (HAP.out).mono ?_
 rintro e w1 ⟨rfl, G9, D9, hM9, hG9, hc9⟩
 with_reducible refine hK _ _ ?_
 clear hK K
 generalize hWW : w1 = W3 at *
 clear hWW
 refine qw ?_
 have b3 : Below W1.heap.size W1 W3 := hb2.trans (hc9.below hD2 hb2.size)
 have h3 := h1.later b3
 have bo3 := bo1.later b3
 have hr3 := hr1.later b3
 have be3 := be1.trans (b3.mono be1.size)
 have hM9X : ∀ b, X b → G9 b ∧ ¬ D9 b := fun b hb => ⟨hG9.gg b (.inl hb), fun hd => (hG9.dn b hd).elim (fun hd => by have := hD2 b hd; have := (h1.lt b hb).2; omega) (fun hd => by have := (h2.lt b hb).2; omega)⟩
 clear HAP hX4 hro4 hr2 bo2 hX3 hX1 hc9 hG9
 obtain ⟨er, her⟩ : ∃ er, chE (stL key L) (⟨q, v, b, e, six, ah, al, pt, pr, wy, ms⟩ : OpR) = er := ⟨_, rfl⟩
 have HER := qy her
 rw [her]
 clear her
 by_cases he0 : er = 0
 rotate_left
 ·have hei : ((er : Int) != 0) = true := by rw [bne_iff_ne]; omega
  go_wp2
  go_ret
  refine ⟨⟨_, rfl⟩, ?_, Chg.of_below be3, KeepC.below be3⟩
  rw [isL_no (by unfold isE; rw [if_neg (by rw [HRR.out]; decide), if_pos (by rw [HER.out]; exact he0), HER.out]; exact he0)]
  exact ⟨_, _, _, _, _, _, _, _, h3, fun b hb => .inl hb, fun b hb => hb⟩
 subst he0
 go_upto_region 9 with (fail)
 obtain ⟨mz, hmz⟩ : ∃ mz, decide (mvAt (v, e) R = 0) = mz := ⟨_, rfl⟩
 have HMZ := qy hmz
 have hmz9 : mz = true → busyL L (v, e) = false := fun hz => by
  rw [hz] at hmz
  have : ¬ mvAt (v, e) R ≠ 0 := by simpa using hmz
  cases hb8 : busyL L (v, e)
  ·rfl
  ·exact absurd ((h3.rm (v, e)).2 hb8) this
 have step : ((q == 5) = true ∧ mz = false ∧ q = 5) ∨ ((q == 5) = true ∧ mz = true ∧ (decide (q = 5) && busyL L (v, e)) = false) ∨ ((q == 5) = false ∧ (decide (q = 5) && busyL L (v, e)) = false) := by
  by_cases h5 : q = 5
  ·cases mz
   ·exact .inl ⟨by simp [h5], rfl, h5⟩
   ·exact .inr (.inl ⟨by simp [h5], rfl, by simp [hmz9 rfl]⟩)
  ·exact .inr (.inr ⟨by simpa using h5, by simp [h5]⟩)
 clear hmz9
 rcases step with ⟨iq, hm1, h5⟩ | ⟨iq, hm1, hnb⟩ | ⟨iq, hnb⟩
 iterate 2
  subst hm1
  refine wp_relS 18 65 rfl (by kernel_rfl) (by kernel_rfl) ?_
  refine qb 3 1 ?_
  refine ql 0 24 2 3 bo3 Tryz.underlying3 ?_
  refine qa 1 25 3 ?_
  refine qa 2 26 4 ?_
  refine qf 0 3 27 5 ?_
  refine qf 0 3 27 6 ?_
  refine qg 5 29 3 27 7 ?_
  refine qg 6 30 3 27 8 ?_
  apply qm 9 rfl rfl
  ·intro FA x hO hD K hK
   obtain ⟨e31, ev31⟩ := qE (hD 7 31)
   have e27 := qe (hD 3 27)
   first | have ge27 := slot_of e27 | have ge27 := slot_un e27
   clear hO hD
   first | (refine wanted_ifG ?_ ?_; (· go_simp); refine wp_ld1 104 (.tmp 31) rfl ev31.out (h3.bc.later bpl) rfl Tryz.underlying104 rfl ?_; exact qk hK rfl) | (go_simp; exact qk hK rfl) | (rcases ge27 with ge27 | ge27 <;> (go_simp; exact qk hK rfl))
  refine qf 3 3 27 10 ?_
  apply qm 11 rfl rfl
  ·intro FA x hO hD K hK
   obtain ⟨e33, ev33⟩ := qE (hD 9 33)
   have e27 := qe (hD 3 27)
   first | have ge27 := slot_of e27 | have ge27 := slot_un e27
   clear hO hD
   first | (refine wanted_ifG ?_ ?_; (· go_simp); refine wp_ld1 3 (.tmp 33) rfl ev33.out (bo3.later bpl) rfl Tryz.underlying3 rfl ?_; exact qk hK rfl) | (go_simp; exact qk hK rfl) | (rcases ge27 with ge27 | ge27 <;> (go_simp; exact qk hK rfl))
  refine qf 3 3 27 12 ?_
  apply qm 13 rfl rfl
  ·intro FA x hO hD K hK
   obtain ⟨e35, ev35⟩ := qE (hD 11 35)
   have e27 := qe (hD 3 27)
   first | have ge27 := slot_of e27 | have ge27 := slot_un e27
   clear hO hD
   first | (refine wanted_ifG ?_ ?_; (· go_simp); refine wp_ld1 3 (.tmp 35) rfl ev35.out (bo3.later bpl) rfl Tryz.underlying3 rfl ?_; exact qk hK rfl) | (go_simp; exact qk hK rfl) | (rcases ge27 with ge27 | ge27 <;> (go_simp; exact qk hK rfl))
  apply qo (φ := (MP.eq (mv (v, e)))) 14 rfl rfl
  ·intro FA x hO hD K hK
   have e34 := qe (hD 10 34)
   have e36 := qe (hD 12 36)
   have e27 := qe (hD 3 27)
   first | have ge27 := slot_of e27 | have ge27 := slot_un e27
   clear hO hD
   first | (go_simp; exact qk hK rfl) | (rcases ge27 with ge27 | ge27 <;> (go_simp; exact qk hK rfl))
  apply qo (φ := (MP.eq (.int .u64 (mvAt (v, e) R : Int)))) 15 rfl rfl
  ·intro FA x hO hD K hK
   have e32 := qe (hD 8 32)
   have e37 := qe (hD 13 37)
   have e27 := qe (hD 3 27)
   first | have ge27 := slot_of e27 | have ge27 := slot_un e27
   clear hO hD
   refine wanted_ifG (by go_simp) ?_
   obtain ⟨cc, hcc⟩ := h3.mp.later (below_plus W3 x.bs x.d)
   have es := run_lookupV mvT _ gm R cc hcc (v, e)
   go_simp
   exact qk hK rfl
  apply qm 16 rfl rfl
  ·intro FA x hO hD K hK
   have e28 := qe (hD 4 28)
   have e38 := qe (hD 14 38)
   have e27 := qe (hD 3 27)
   first | have ge27 := slot_of e27 | have ge27 := slot_un e27
   clear hO hD
   refine wanted_ifG (by go_simp) ?_
   go_simp
   refine (cAll gc key L s k gl gd gst gsu gm An R (mvAt (v, e) R) _ (h3.later bpl)).mono ?_
   rintro e9 w9 ⟨bs9, d9, rfl, rfl⟩
   rw [hmz]
   exact hK.out _ _ (Ex.plus_ _ _ _) rfl
  refine qg 15 39 3 27 17 ?_
  refine qc 3 27 16 40 18 ?_
  refine Steps.fin_ (fun vs x hp => ?_)
  simp only [qta, qtb, qda, qdb, putAll, Nat.zero_add, Nat.reduceAdd, Act.put, qsT, qsZ, qsS, qi (hp 0 qd), qi (hp 1 qd), qi (hp 2 qd), qi (hp 3 qd), qi (hp 4 qd), qi (hp 5 qd), qi (hp 6 qd), qi (hp 7 qd), qi (hp 8 qd), qi (hp 9 qd), qi (hp 10 qd), qi (hp 11 qd), qi (hp 12 qd), qi (hp 13 qd), qi (hp 14 qd), qi (hp 15 qd), qi (hp 16 qd), qi (hp 17 qd)]
  clear hp
  clear vs
  rotate_left
 clear hmz HMZ
 refine wp_relS 18 65 rfl (by kernel_rfl) (by kernel_rfl) ?_
 refine qb 3 1 ?_
 refine ql 0 24 2 3 bo3 Tryz.underlying3 ?_
 refine qa 1 25 3 ?_
 refine qa 2 26 4 ?_
 apply qo (φ := (MP.eq undef)) 5 rfl rfl
 ·intro FA x hO hD K hK
  have e0 := hO 0
  simp only [eval_tmp, qgT, qgS, qgZ, qoS] at e0
  have e27 := qe (hD 3 27)
  first | have ge27 := slot_of e27 | have ge27 := slot_un e27
  clear hO hD
  go_simp
  exact qk hK rfl
 apply qo (φ := (MP.eq undef)) 6 rfl rfl
 ·intro FA x hO hD K hK
  have e0 := hO 0
  simp only [eval_tmp, qgT, qgS, qgZ, qoS] at e0
  have e27 := qe (hD 3 27)
  first | have ge27 := slot_of e27 | have ge27 := slot_un e27
  clear hO hD
  go_simp
  exact qk hK rfl
 apply qo (φ := (MP.eq undef)) 7 rfl rfl
 ·intro FA x hO hD K hK
  have e29 := qe (hD 5 29)
  have e27 := qe (hD 3 27)
  first | have ge27 := slot_of e27 | have ge27 := slot_un e27
  clear hO hD
  go_simp
  exact qk hK rfl
 apply qo (φ := (MP.eq undef)) 8 rfl rfl
 ·intro FA x hO hD K hK
  have e30 := qe (hD 6 30)
  have e27 := qe (hD 3 27)
  first | have ge27 := slot_of e27 | have ge27 := slot_un e27
  clear hO hD
  go_simp
  exact qk hK rfl
 apply qo (φ := (MP.eq undef)) 9 rfl rfl
 ·intro FA x hO hD K hK
  have e31 := qe (hD 7 31)
  have e27 := qe (hD 3 27)
  first | have ge27 := slot_of e27 | have ge27 := slot_un e27
  clear hO hD
  go_simp
  exact qk hK rfl
 apply qo (φ := (MP.eq undef)) 10 rfl rfl
 ·intro FA x hO hD K hK
  have e3 := hO 3
  simp only [eval_tmp, qgT, qgS, qgZ, qoS] at e3
  have e27 := qe (hD 3 27)
  first | have ge27 := slot_of e27 | have ge27 := slot_un e27
  clear hO hD
  go_simp
  exact qk hK rfl
 apply qo (φ := (MP.eq undef)) 11 rfl rfl
 ·intro FA x hO hD K hK
  have e33 := qe (hD 9 33)
  have e27 := qe (hD 3 27)
  first | have ge27 := slot_of e27 | have ge27 := slot_un e27
  clear hO hD
  go_simp
  exact qk hK rfl
 apply qo (φ := (MP.eq undef)) 12 rfl rfl
 ·intro FA x hO hD K hK
  have e3 := hO 3
  simp only [eval_tmp, qgT, qgS, qgZ, qoS] at e3
  have e27 := qe (hD 3 27)
  first | have ge27 := slot_of e27 | have ge27 := slot_un e27
  clear hO hD
  go_simp
  exact qk hK rfl
 apply qo (φ := (MP.eq undef)) 13 rfl rfl
 ·intro FA x hO hD K hK
  have e35 := qe (hD 11 35)
  have e27 := qe (hD 3 27)
  first | have ge27 := slot_of e27 | have ge27 := slot_un e27
  clear hO hD
  go_simp
  exact qk hK rfl
 apply qo (φ := (MP.eq undef)) 14 rfl rfl
 ·intro FA x hO hD K hK
  have e34 := qe (hD 10 34)
  have e36 := qe (hD 12 36)
  have e27 := qe (hD 3 27)
  first | have ge27 := slot_of e27 | have ge27 := slot_un e27
  clear hO hD
  go_simp
  exact qk hK rfl
 apply qo (φ := (MP.eq undef)) 15 rfl rfl
 ·intro FA x hO hD K hK
  have e32 := qe (hD 8 32)
  have e37 := qe (hD 13 37)
  have e27 := qe (hD 3 27)
  first | have ge27 := slot_of e27 | have ge27 := slot_un e27
  clear hO hD
  go_simp
  exact qk hK rfl
 apply qo (φ := (MP.eq undef)) 16 rfl rfl
 ·intro FA x hO hD K hK
  have e28 := qe (hD 4 28)
  have e38 := qe (hD 14 38)
  have e27 := qe (hD 3 27)
  first | have ge27 := slot_of e27 | have ge27 := slot_un e27
  clear hO hD
  go_simp
  exact qk hK rfl
 apply qo (φ := (MP.eq undef)) 17 rfl rfl
 ·intro FA x hO hD K hK
  have e39 := qe (hD 15 39)
  have e27 := qe (hD 3 27)
  first | have ge27 := slot_of e27 | have ge27 := slot_un e27
  clear hO hD
  go_simp
  exact qk hK rfl
 refine qc 3 27 16 40 18 ?_
 refine Steps.fin_ (fun vs x hp => ?_)
 simp only [qta, qtb, qda, qdb, putAll, Nat.zero_add, Nat.reduceAdd, Act.put, qsT, qsZ, qsS, qi (hp 0 qd), qi (hp 1 qd), qi (hp 2 qd), qi (hp 3 qd), qi (hp 4 qd), qi (hp 5 qd), qi (hp 6 qd), qi (hp 7 qd), qi (hp 8 qd), qi (hp 9 qd), qi (hp 10 qd), qi (hp 11 qd), qi (hp 12 qd), qi (hp 13 qd), qi (hp 14 qd), qi (hp 15 qd), qi (hp 16 qd), qi (hp 17 qd)]
 clear hp
 clear vs
 rotate_left
 ·have b4 := below_plus W3 x.bs x.d
  have h4 := h3.later b4
  have be4 := be3.trans (b4.mono be3.size)
  generalize plus W3 x.bs x.d = W4 at *
  go_wp2
  go_ret
  refine ⟨⟨_, rfl⟩, ?_, Chg.of_below be4, KeepC.below be4⟩
  have hbz : busyL L (v, e) = true := (h3.rm (v, e)).1 (by simpa using HMZ.out)
  rw [isL_no (by unfold isE; rw [if_neg (by rw [HRR.out]; decide), if_neg (by rw [HER.out]; decide), if_pos (by simp [h5, hbz])]; decide)]
  exact ⟨_, _, _, _, _, _, _, _, h4, fun b hb => .inl hb, fun b hb => hb⟩
 iterate 2
  focus
   have HNB := qy hnb
   clear hnb
   have HOP := qy (fun W hw => codecOp_int q v b e six ah al pt pr wy ms A m d W ho HRR.out hw)
   have hn300 := opBs_le HRR.out
   have hLm : (L.map opBs).length ≤ 1000 := by rw [List.length_map]; omega
   have b4 := below_plus W3 x.bs x.d
   have h4 := h3.later b4
   have bo4 := bo3.later b4
   have hr4 := hr3.later b4
   have be4 := be3.trans (b4.mono be3.size)
   have hS4 : StX X (plus W3 x.bs x.d) g2 (apC (stL key L) (⟨q, v, b, e, six, ah, al, pt, pr, wy, ms⟩ : OpR)) := StX.later (show StX X W3 g2 (apC (stL key L) (⟨q, v, b, e, six, ah, al, pt, pr, wy, ms⟩ : OpR)) from ⟨G9, D9, hM9, hM9X⟩) b4
   clear b4
   generalize plus W3 x.bs x.d = W4 at *
   go_upto_region 11 with (fail)
   refine wp_relS 6 65 rfl (by kernel_rfl) (by kernel_rfl) ?_
   refine qb 0 1 ?_
   refine qa 0 42 2 ?_
   refine qa 1 43 3 ?_
   refine ql 2 44 4 99 h4.bc Tryz.underlying99 ?_
   apply qm 5 rfl rfl
   ·intro FA x hO hD K hK
    have e3 := hO 3
    simp only [eval_tmp, qgT, qgS, qgZ, qoS] at e3
    have ev3 := qy ((eval_tmp FA 3).trans e3)
    clear hO hD
    refine wanted_if rfl ?_
    refine wp_ldA 67 (.tmp 3) rfl (opC q v b e six ah al pt pr wy A m d) ev3.out (bo4.later bpl) (whole_ _) vo1 vo2 (szOp q v b e six ah al pt pr wy A m d) ?_
    exact qk hK rfl
   apply qo (φ := (MP.ob W4.heap.size (opBs (⟨q, v, b, e, six, ah, al, pt, pr, wy, ms⟩ : OpR)))) 6 rfl rfl
   ·intro FA x hO hD K hK
    have e46 := qe (hD 4 46)
    clear hO hD
    go_simp
    refine (HOP.out _ (hr4.later bpl)).mono ?_
    rintro e9 w9 ⟨A9, n9, c9, bs9, d9, rfl, rfl, o9⟩
    exact hK.out _ _ (Ex.plus_ _ _ _) ⟨_, _, _, rfl, o9.mono (below_plus W4 x.bs x.d).size⟩
   refine Steps.fin_ (fun vs x hp => ?_)
   have p5 := hp 5 qd
   simp only [qta, qtb, qda, qdb, putAll, Nat.zero_add, Nat.reduceAdd, Act.put, qsT, qsZ, qsS, qi (hp 0 qd), qi (hp 1 qd), qi (hp 2 qd), qi (hp 3 qd), qi (hp 4 qd)]
   clear hp
   generalize vs 5 = y5 at *
   clear vs
   obtain ⟨A9, n9, c9, rfl, ho9⟩ := p5
   obtain rfl : n9 = (opBs (⟨q, v, b, e, six, ah, al, pt, pr, wy, ms⟩ : OpR)).length := ho9.1.symm
   have b5 := below_plus W4 x.bs x.d
   have h5 := h4.later b5
   have bo5 := bo4.later b5
   have hr5 := hr4.later b5
   have hS5 := hS4.later b5
   have be5 := be4.trans (b5.mono be4.size)
   have hB5 := Nat.le_trans hB be5.size
   have ho9X : Off X (plus W4 x.bs x.d) A9 := fun a ha => ⟨(ho9.blk a.block (by rw [ha]; rfl)).2, fun hb => by have := (ho9.blk a.block (by rw [ha]; rfl)).1; have := (h4.lt _ hb).2; omega⟩
   clear b5
   generalize plus W4 x.bs x.d = W5 at *
   by_cases hf : 100000 < dlenL L + (14 + (opBs (⟨q, v, b, e, six, ah, al, pt, pr, wy, ms⟩ : OpR)).length)
   ·have HF := qy hf
    refine wpq fun K hK => ?_
    go_simp
    refine (jWrite_full B gl gd (L.map opBs) (dlenL L) k A9 (opBs (⟨q, v, b, e, six, ah, al, pt, pr, wy, ms⟩ : OpR)).length c9 (opBs (⟨q, v, b, e, six, ah, al, pt, pr, wy, ms⟩ : OpR)) _ h5.jn ho9.rb (by omega) h5.ok.dl hLm hf).mono ?_
    rintro e w1 ⟨bs6, d6, rfl, rfl⟩
    with_reducible refine hK _ _ ?_
    clear hK K
    refine qw ?_
    have be6 := be5.trans ((below_plus W5 bs6 d6).mono be5.size)
    go_wp2
    go_ret
    refine ⟨⟨_, rfl⟩, ?_, Chg.of_below be6, KeepC.below be6⟩
    rw [isL_no (by unfold isE; rw [if_neg (by rw [HRR.out]; decide), if_neg (by rw [HER.out]; decide), if_neg (by rw [HNB.out]; decide), if_pos HF.out]; decide)]
    exact ⟨_, _, _, _, _, _, _, _, h5.later (below_plus W5 bs6 d6), fun b hb => .inl hb, fun b hb => hb⟩
   replace hf : dlenL L + (14 + (opBs (⟨q, v, b, e, six, ah, al, pt, pr, wy, ms⟩ : OpR)).length) ≤ 100000 := by omega
   have HF := qy hf
   refine wpq fun K hK => ?_
   go_simp
   refine (jWrite_ok B gl gd (L.map opBs) (dlenL L) k A9 (opBs (⟨q, v, b, e, six, ah, al, pt, pr, wy, ms⟩ : OpR)).length c9 (opBs (⟨q, v, b, e, six, ah, al, pt, pr, wy, ms⟩ : OpR)) _ h5.jn (fun b hb => (h5.lt b hb).2) hB5 ho9.rb ho9X (by omega) hLm hf).mono ?_
   rintro e w1 ⟨rfl, X2, hg6, hj6, hc6, hk6⟩
   with_reducible refine hK _ _ ?_
   clear hK K
   generalize hWW : w1 = W6 at *
   clear hWW
   refine qw ?_
   have hc6b := hk6.1 gc _ _ h5.bc (by decide) (by decide) (by decide) (by decide)
   have hM6 := hk6.2 gm R h5.mp
   have bo6 := hk6.1 _ _ _ bo5 (by decide) (by decide) (by decide) (by decide)
   have hgcl := (h.lt gc h.xc).2
   have hgm : gm ≠ gc := hM6.ne_bk hc6b
   obtain ⟨nl, hnl⟩ : ∃ nl : Nat, nl = L.length + 1 := ⟨_, rfl⟩
   have hwl : IntKind.u64.wrap (nl : Int) = (nl : Int) := IntWalk.u64_in _ (by omega)
   have hnl0 : nl ≠ 0 := by omega
   have HNL := qy hnl
   clear hnl
   go_upto_region 14 with (fail)
   refine wp_region_lit ?_
   iterate 4 (refine qw ?_)
   refine wpList_st1 (v := .pointer (some ⟨g2, 0, none⟩)) (t := 107) (cs := cnC gl s gst gsu gm An) (off := 2) 47 (.tmp 55) (.tmp 53) rfl rfl rfl rfl hc6b (Nat.le_of_ble_eq_true rfl) rfl (by kernel_rfl) ?_
   intro W7 h7 g7
   simp only [Act.put, qsT, qsZ, qsS]
   replace h7 : Bk W7 gc 107 (cnC gl s g2 gsu gm An) := h7
   have bo7 := bo6.grown g7 (fun e9 => by injection e9 with e9; omega)
   have hM7 := hM6.grown g7 (fun e9 => by injection e9 with e9; exact hgm e9.symm)
   have hj7 : JnM X2 B W7 gl gd (L.map opBs ++ [opBs (⟨q, v, b, e, six, ah, al, pt, pr, wy, ms⟩ : OpR)]) (dlenL L + (14 + (opBs (⟨q, v, b, e, six, ah, al, pt, pr, wy, ms⟩ : OpR)).length)) k := hj6.chgD (Chg.one (D := fun b => b = gc) g7 rfl) (fun b9 hb9 t cs hbk => by
    rw [show b9 = gc from hb9] at hbk
    have ht : t = 107 := Classical.byContradiction (fun hne => hbk.apart hc6b hne rfl)
    rw [ht]
    decide) (fun b9 hb9 => by rw [show b9 = gc from hb9]; exact hg6.1 _ h5.xc)
   have HJL := qy (fun W (hb9 : Below W7.heap.size W7 W) => (by
    obtain ⟨Ar, cr, S, Ad, cd, ld, s', hj⟩ := hj7.later hb9
    have := jLen gl gd Ar _ cr W hj.bl
    rw [List.length_append, List.length_map, List.length_singleton, ← HNL.out] at this
    exact this : Calls Tryz.prog 32 #[.pointer (some ⟨gl, 0, none⟩)] W (RetV W (.int .i64 (nl : Int)))))
   have z7 := g7.size
   go_upto_region 15 with (fail)
   refine wp_relS 8 65 rfl (by kernel_rfl) (by kernel_rfl) ?_
   refine qb 0 1 ?_
   apply qm 2 rfl rfl
   ·intro FA x hO hD K hK
    have e3 := hO 3
    simp only [eval_tmp, qgT, qgS, qgZ, qoS] at e3
    have ev3 := qy ((eval_tmp FA 3).trans e3)
    clear hO hD
    refine wanted_if rfl ?_
    refine wp_ldA 67 (.tmp 3) rfl (opC q v b e six ah al pt pr wy A m d) ev3.out (bo7.later bpl) (whole_ _) vo1 vo2 (szOp q v b e six ah al pt pr wy A m d) ?_
    exact qk hK rfl
   refine qb 0 3 ?_
   refine qa 2 58 4 ?_
   refine qa 3 59 5 ?_
   refine ql 4 60 6 99 h7 Tryz.underlying99 ?_
   apply qm 7 rfl rfl
   ·intro FA x hO hD K hK
    have e61 := qe (hD 5 61)
    clear hO hD
    go_simp
    refine (HJL.out _ bpl).mono ?_
    rintro e9 w9 ⟨bs9, d9, rfl, rfl⟩
    exact hK.out _ _ (Ex.plus_ _ _ _) rfl
   refine qa 6 62 8 ?_
   refine Steps.fin_ (fun vs x hp => ?_)
   simp only [qta, qtb, qda, qdb, putAll, Nat.zero_add, Nat.reduceAdd, Act.put, qsT, qsZ, qsS, qi (hp 0 qd), qi (hp 1 qd), qi (hp 2 qd), qi (hp 3 qd), qi (hp 4 qd), qi (hp 5 qd), qi (hp 6 qd), qi (hp 7 qd)]
   clear hp
   clear vs
   have b8 := below_plus W7 x.bs x.d
   have h8 := h7.later b8
   have hM8 := hM7.later b8
   have hj8 := hj7.later b8
   generalize plus W7 x.bs x.d = W8 at *
   refine wpq fun K hK => ?_
   go_simp
   refine (note_any gc gl s g2 gsu gm An R q v b e six ah al pt pr wy A m d nl _ h8 hM8).mono ?_
   rintro e w1 ⟨⟨xv, rfl⟩, hc9, hm9⟩
   with_reducible refine hK _ _ ?_
   clear hK K
   generalize hWW : w1 = W9 at *
   clear hWW
   go_wp2
   go_ret
   have hX2c := hg6.1 _ h5.xc
   have hX2m := hg6.1 _ h5.xm
   have c69 : Chg X2 W6 W9 := ((Chg.one g7 hX2c).trans (Chg.of_below b8)).trans (hc9.wid (fun b9 hb9 => by rw [show b9 = gm from hb9]; exact hX2m))
   have hE0 : isE key L (⟨q, v, b, e, six, ah, al, pt, pr, wy, ms⟩ : OpR) = 0 := by
    unfold isE
    rw [if_neg (by rw [HRR.out]; decide), if_neg (by rw [HER.out]; decide), if_neg (by rw [HNB.out]; decide), if_neg (by have := HF.out; omega)]
   have hlt9 : ∀ b9, X2 b9 → B ≤ b9 ∧ b9 < W9.heap.size := fun b9 hb9 => ⟨(hg6.2.1 b9 hb9).elim (fun hx => (h5.lt b9 hx).1) (fun hx => Nat.le_trans hB5 hx), Nat.lt_of_lt_of_le (hg6.2.2 b9 hb9) c69.size⟩
   have c69X : Chg X W6 W9 := ((Chg.one g7 h5.xc).trans (Chg.of_below b8)).trans (hc9.wid (fun b9 hb9 => by rw [show b9 = gm from hb9]; exact h5.xm))
   refine ⟨⟨_, rfl⟩, ?_, ((Chg.of_below be5).trans hc6).trans c69X, ((((KeepC.below be5).trans (KeepC.keepT hk6)).trans (KeepC.st hc6b g7)).trans (KeepC.below b8)).trans (KeepC.mp hM8 hc9)⟩
   rw [show isL key L (⟨q, v, b, e, six, ah, al, pt, pr, wy, ms⟩ : OpR) = L ++ [(⟨q, v, b, e, six, ah, al, pt, pr, wy, ms⟩ : OpR)] from if_pos hE0]
   have hjF : JnM X2 B W9 gl gd ((L ++ [(⟨q, v, b, e, six, ah, al, pt, pr, wy, ms⟩ : OpR)]).map opBs) (dlenL (L ++ [(⟨q, v, b, e, six, ah, al, pt, pr, wy, ms⟩ : OpR)])) k := by
    rw [List.map_append, dlenL_snoc]
    exact hj8.chgD hc9 (fun b9 hb9 t cs hbk => absurd rfl (hM8.ne_bk (by rw [show b9 = gm from hb9] at hbk; exact hbk))) (fun b9 hb9 => by rw [show b9 = gm from hb9]; exact hX2m)
   have hbF := h8.chg hc9 (fun e9 => hgm (show gc = gm from e9).symm)
   have hSF : StX X2 W9 g2 (stL key (L ++ [(⟨q, v, b, e, six, ah, al, pt, pr, wy, ms⟩ : OpR)])) := by
    rw [stL_snoc]
    exact (hS5.grow hc6 hg6).chg c69
   have hUF : StX X2 W9 gsu (stL key ((L ++ [(⟨q, v, b, e, six, ah, al, pt, pr, wy, ms⟩ : OpR)]).take s)) := by
    rw [List.take_append_of_le_length h.sl]
    exact (h5.su.grow hc6 hg6).chg c69
   have hnoF : Off X2 W6 An := (h5.no.more hg6.2.1).size hc6.size
   have hndF := (h5.nd.chg hc6 (fun a ha => (h5.no a ha).2)).chg c69 (fun a ha => (hnoF a ha).2)
   have hslF : s ≤ (L ++ [(⟨q, v, b, e, six, ah, al, pt, pr, wy, ms⟩ : OpR)]).length := by have := h.sl; rw [List.length_append]; omega
   have hllF : (L ++ [(⟨q, v, b, e, six, ah, al, pt, pr, wy, ms⟩ : OpR)]).length ≤ 100 := by rw [List.length_append, List.length_singleton]; omega
   rcases hm9 with ⟨h49, hm9⟩ | ⟨h49, cc, hm9⟩
   ·exact ⟨X2, gl, gd, g2, gsu, gm, An, R, ⟨hbF, hjF, hSF, hUF, hm9, h.rm.no h49, hndF, hnoF.size c69.size, hX2c, hX2m, h.ok.step ho hE0, hslF, hlt9, hllF⟩, fun b hb => (hg6.2.1 b hb).imp id (fun h => Nat.le_trans be5.size h), hg6.1⟩
   ·exact ⟨X2, gl, gd, g2, gsu, gm, An, _, ⟨hbF, hjF, hSF, hUF, hm9, RetM.yes (o := (⟨q, v, b, e, six, ah, al, pt, pr, wy, ms⟩ : OpR)) h.rm h49 nl cc hnl0, hndF, hnoF.size c69.size, hX2c, hX2m, h.ok.step ho hE0, hslF, hlt9, hllF⟩, fun b hb => (hg6.2.1 b hb).imp id (fun h => Nat.le_trans be5.size h), hg6.1⟩
def MP.stx (X : Nat → Prop) (C : Cf) : MP := ⟨fun v w => ∃ g, v = .pointer (some ⟨g, 0, none⟩) ∧ StX X w g C, fun _ _ _ ⟨g, h1, h2⟩ h => ⟨g, h1, h2.later h.below⟩⟩
theorem commit_any {X : Nat → Prop} {B : Nat} (gc : Nat) (key : List UInt8) (hkey : key.length = 16) (L : List OpR) (s : Nat) (k : Int) (gl gd gst gsu gm : Nat) (An : Option Addr) (R : List MvE) (w : World) (h : CnX X B w gc key L s k gl gd gst gsu gm An R) (hk : 0 ≤ k ∧ k ≤ 1000000) (hB : B ≤ w.heap.size) : Calls Tryz.prog 17 #[.pointer (some ⟨gc, 0, none⟩)] w (RetIs X B w gc key L L.length (k + 1)) := by
 have hCk : CfOk (stL key L) := stL_ok hkey (fun o hx => (h.ok.ok o hx).1)
 go_enter Tryz.func17, Tryz.ntmps17
 go_upto_region 3 with (fail)
 refine wp_region_lit ?_
 iterate 3 (refine qw ?_)
 refine qL 99 (.tmp 8) h.bc Tryz.underlying99 ?_
 refine wpq fun K hK => ?_
 go_simp
 refine (jSync B gl gd (L.map opBs) (dlenL L) k _ h.jn hk).mono ?_
 rintro e w1 ⟨rfl, hj2, hc2, hk2⟩
 with_reducible refine hK _ _ ?_
 clear hK K
 generalize hWW : w1 = W2 at *
 clear hWW
 refine qw ?_
 have h2 : CnX X B W2 gc key L s (k + 1) gl gd gst gsu gm An R := ⟨hk2.1 _ _ _ h.bc (by decide) (by decide) (by decide) (by decide), hj2, h.st.chg hc2, h.su.chg hc2, hk2.2 _ _ h.mp, h.rm, h.nd.chg hc2 (fun a ha => (h.no a ha).2), h.no.size hc2.size, h.xc, h.xm, h.ok, h.sl, fun b hb => ⟨(h.lt b hb).1, Nat.lt_of_lt_of_le (h.lt b hb).2 hc2.size⟩, h.ll⟩
 have c2 : Chg X w W2 := hc2
 have HJL := qy (fun W (hb9 : Below W2.heap.size W2 W) => (by
  obtain ⟨Ar, cr, S, Ad, cd, ld, s', hj⟩ := h2.jn.later hb9
  have := jLen gl gd Ar _ cr W hj.bl
  rw [List.length_map] at this
  exact this : Calls Tryz.prog 32 #[.pointer (some ⟨gl, 0, none⟩)] W (RetV W (.int .i64 (L.length : Int)))))
 have k2 := KeepC.keepT hk2
 clear hc2 hk2 hj2
 go_upto_region 6 with (fail)
 refine wp_relS 10 40 rfl (by kernel_rfl) (by kernel_rfl) ?_
 refine qb 0 1 ?_
 refine qa 0 14 2 ?_
 refine qa 1 15 3 ?_
 refine ql 2 16 4 3 h2.bc Tryz.underlying3 ?_
 refine qb 0 5 ?_
 refine qa 4 18 6 ?_
 refine qa 5 19 7 ?_
 refine ql 6 20 8 99 h2.bc Tryz.underlying99 ?_
 apply qm 9 rfl rfl
 ·intro FA x hO hD K hK
  have e21 := qe (hD 7 21)
  clear hO hD
  go_simp
  refine (HJL.out _ bpl).mono ?_
  rintro e9 w9 ⟨bs9, d9, rfl, rfl⟩
  exact hK.out _ _ (Ex.plus_ _ _ _) rfl
 refine qc 3 17 8 22 10 ?_
 refine Steps.fin_ (fun vs x hp => ?_)
 simp only [qta, qtb, qda, qdb, putAll, Nat.zero_add, Nat.reduceAdd, Act.put, qsT, qsZ, qsS, qi (hp 0 qd), qi (hp 1 qd), qi (hp 2 qd), qi (hp 3 qd), qi (hp 4 qd), qi (hp 5 qd), qi (hp 6 qd), qi (hp 7 qd), qi (hp 8 qd), qi (hp 9 qd)]
 clear hp
 clear vs
 have b3 := below_plus W2 x.bs x.d
 have h3 := h2.later b3
 have c3 : Chg X w (plus W2 x.bs x.d) := c2.trans (Chg.of_below b3)
 generalize plus W2 x.bs x.d = W3 at *
 by_cases hs : s < L.length
 rotate_left
 ·have is_ : ¬ (s : Int) < (L.length : Int) := by omega
  obtain rfl : s = L.length := by have := h.sl; omega
  go_wp2
  go_ret
  exact ⟨⟨_, rfl⟩, ⟨_, _, _, _, _, _, _, _, h3, fun b hb => .inl hb, fun b hb => hb⟩, c3, k2.trans (KeepC.below b3)⟩
 have is_ : (s : Int) < (L.length : Int) := by omega
 obtain ⟨Gi, Di, ⟨Ai, ni, ci, Ei, hXi⟩, hXX⟩ := h3.st
 go_upto_region 7 with (fail)
 refine wp_relES 12 40 [1] rfl (by kernel_rfl) (by kernel_rfl) ?_
 apply Steps.oneE (MP.eq _) 1 rfl (by decide)
 ·intro o ho FA x hO hD K hK
  obtain rfl := qoi ho
  have e0 := hO 0 (by kernel_rfl)
  simp only [eval_tmp, qgT, qgS, qgZ, qoS] at e0
  have ev0 := qy ((eval_tmp FA 0).trans e0)
  clear hO hD ho
  go_simp
  exact qk hK rfl
 apply Steps.oneP (.pointer (some ⟨gc, 0, none⟩)) 2 rfl (by decide)
 ·intro o ho FA x hO hD
  obtain rfl := qoi ho
  have e0 := hO 0 (by kernel_rfl)
  simp only [eval_tmp, qgT, qgS, qgZ, qoS] at e0
  have ev0 := qy ((eval_tmp FA 0).trans e0)
  clear hO hD ho
  refine .inl ⟨by simp [Region.wanted], fun w => ?_⟩
  go_simp
 apply Steps.oneE (MP.eq _) 3 rfl (by decide)
 ·intro o ho FA x hO hD K hK
  obtain rfl := qoi ho
  have e0 := hO 0 (by kernel_rfl)
  simp only [eval_tmp, qgT, qgS, qgZ, qoS] at e0
  have ev0 := qy ((eval_tmp FA 0).trans e0)
  clear hO hD ho
  go_simp
  exact qk hK rfl
 apply Steps.oneE (MP.eq _) 4 rfl (by decide)
 ·intro o ho FA x hO hD K hK
  obtain rfl := qoi ho
  obtain ⟨e26, ev26⟩ := qE (hD 2 26 (by kernel_rfl))
  clear hO hD ho
  go_simp
  exact qk hK rfl
 apply Steps.oneE (MP.eq _) 5 rfl (by decide)
 ·intro o ho FA x hO hD K hK
  obtain rfl := qoi ho
  obtain ⟨e27, ev27⟩ := qE (hD 3 27 (by kernel_rfl))
  clear hO hD ho
  go_simp
  exact qk hK rfl
 apply Steps.oneE (MP.eq _) 6 rfl (by decide)
 ·intro o ho FA x hO hD K hK
  obtain rfl := qoi ho
  obtain ⟨e28, ev28⟩ := qE (hD 4 28 (by kernel_rfl))
  clear hO hD ho
  refine wanted_if rfl ?_
  refine wp_ld1 99 (.tmp 28) rfl ev28.out (h3.bc.later bpl) rfl Tryz.underlying99 rfl ?_
  exact qk hK rfl
 apply Steps.oneE (MP.eq _) 7 rfl (by decide)
 ·intro o ho FA x hO hD K hK
  obtain rfl := qoi ho
  obtain ⟨e29, ev29⟩ := qE (hD 5 29 (by kernel_rfl))
  clear hO hD ho
  go_simp
  refine (HJL.out _ (b3.trans (bpl.mono b3.size))).mono ?_
  rintro e9 w9 ⟨bs9, d9, rfl, rfl⟩
  exact hK.out _ _ (Ex.plus_ _ _ _) rfl
 apply Steps.oneE (MP.eq _) 8 rfl (by decide)
 ·intro o ho FA x hO hD K hK
  obtain rfl := qoi ho
  have e0 := hO 0 (by kernel_rfl)
  simp only [eval_tmp, qgT, qgS, qgZ, qoS] at e0
  have ev0 := qy ((eval_tmp FA 0).trans e0)
  clear hO hD ho
  go_simp
  exact qk hK rfl
 apply Steps.oneE (MP.eq _) 9 rfl (by decide)
 ·intro o ho FA x hO hD K hK
  obtain rfl := qoi ho
  obtain ⟨e31, ev31⟩ := qE (hD 7 31 (by kernel_rfl))
  clear hO hD ho
  go_simp
  exact qk hK rfl
 apply Steps.oneE (MP.eq _) 10 rfl (by decide)
 ·intro o ho FA x hO hD K hK
  obtain rfl := qoi ho
  obtain ⟨e32, ev32⟩ := qE (hD 8 32 (by kernel_rfl))
  clear hO hD ho
  go_simp
  exact qk hK rfl
 apply Steps.oneE (MP.eq _) 11 rfl (by decide)
 ·intro o ho FA x hO hD K hK
  obtain rfl := qoi ho
  obtain ⟨e33, ev33⟩ := qE (hD 9 33 (by kernel_rfl))
  clear hO hD ho
  refine wanted_if rfl ?_
  refine wp_ld1 47 (.tmp 33) rfl ev33.out (h3.bc.later bpl) rfl Tryz.underlying47 rfl ?_
  exact qk hK rfl
 apply Steps.oneE (MP.stx X (stL key L)) 12 rfl (by decide)
 ·intro o ho FA x hO hD K hK
  obtain rfl := qoi ho
  obtain ⟨e34, ev34⟩ := qE (hD 10 34 (by kernel_rfl))
  clear hO hD ho
  go_simp
  refine (cfgCopy_any _ hCk gst Ai ni ci Ei _ (hXi.later bpl)).mono ?_
  rintro e9 w9 ⟨g9, rfl, hb9, D9, hD9, hM9⟩
  refine hK.out _ _ (Ex.of hb9) ⟨g9, rfl, _, _, hM9, fun b hb => ⟨.inl (Nat.lt_of_lt_of_le (h3.lt b hb).2 (below_plus W3 x.bs x.d).size), fun hd => by have := hD9 b hd; have := (h3.lt b hb).2; have := (below_plus W3 x.bs x.d).size; omega⟩⟩
 refine Steps.fin_ (fun vs x hp => ?_)
 have p11 := hp 11 qd
 simp only [qta, qtb, qda, qdb, putAll, Nat.zero_add, Nat.reduceAdd, Act.put, qsT, qsZ, qsS, qi (hp 0 qd), qi (hp 1 qd), qi (hp 2 qd), qi (hp 3 qd), qi (hp 4 qd), qi (hp 5 qd), qi (hp 6 qd), qi (hp 7 qd), qi (hp 8 qd), qi (hp 9 qd), qi (hp 10 qd)]
 clear hp
 generalize vs 11 = y11 at *
 clear vs
 obtain ⟨g9, rfl, hS9⟩ := p11
 have b4 := below_plus W3 x.bs x.d
 have h4 := h3.later b4
 have c4 : Chg X w (plus W3 x.bs x.d) := c3.trans (Chg.of_below b4)
 generalize plus W3 x.bs x.d = W4 at *
 iterate 2 (refine qw ?_)
 refine wpList_st1 (v := .int .i64 (L.length : Int)) (t := 107) (cs := cnC gl s gst gsu gm An) (off := 1) 3 (.tmp 37) (.tmp 30) rfl rfl rfl rfl h4.bc (Nat.le_of_ble_eq_true rfl) rfl (by kernel_rfl) ?_
 intro W5 h5 g5
 iterate 2 (refine qw ?_)
 refine wpList_st1 (v := .pointer (some ⟨g9, 0, none⟩)) (t := 107) (cs := cnC gl L.length gst gsu gm An) (off := 3) 47 (.tmp 39) (.tmp 35) rfl rfl rfl rfl h5 (Nat.le_of_ble_eq_true rfl) rfl (by kernel_rfl) ?_
 intro W6 h6 g6
 simp only [Act.put, qsT, qsZ, qsS]
 refine wpList_nil ?_
 refine NoPanic.normal ?_
 go_wp2
 go_ret
 have c46 : Chg (fun b => b = gc) W4 W6 := (Chg.one (D := fun b => b = gc) g5 rfl).trans (Chg.one (D := fun b => b = gc) g6 rfl)
 have c46X : Chg X W4 W6 := c46.wid (fun b hb => by rw [show b = gc from hb]; exact h4.xc)
 have hbc : Bk W6 gc 107 (cnC gl L.length gst g9 gm An) := h6
 have hgm := h4.mp.ne_bk h4.bc
 refine ⟨⟨_, rfl⟩, ⟨X, gl, gd, gst, g9, gm, An, R, ⟨hbc, ?_, h4.st.chg c46X, ?_, (h4.mp.grown g5 (fun e => by injection e with e; exact hgm e.symm)).grown g6 (fun e => by injection e with e; exact hgm e.symm), h4.rm, h4.nd.chg c46X (fun a ha => (h4.no a ha).2), h4.no.size c46X.size, h4.xc, h4.xm, h4.ok, Nat.le_refl _, fun b hb => ⟨(h4.lt b hb).1, Nat.lt_of_lt_of_le (h4.lt b hb).2 c46X.size⟩, h4.ll⟩, fun b hb => .inl hb, fun b hb => hb⟩, c4.trans c46X, ((((k2.trans (KeepC.below b3)).trans (KeepC.below b4)).trans (KeepC.st h4.bc g5)).trans (KeepC.st h5 g6))⟩
 ·exact h4.jn.chgD c46 (fun b hb t cs hbk => by
   rw [show b = gc from hb] at hbk
   have ht : t = 107 := Classical.byContradiction (fun hne => hbk.apart h4.bc hne rfl)
   rw [ht]
   decide) (fun b hb => by rw [show b = gc from hb]; exact h4.xc)
 ·rw [List.take_length]
  exact hS9.chg c46X
def MP.mpn (B : Nat) : MP := ⟨fun v w => ∃ r, v = .map (some r) ∧ B ≤ r ∧ MpB w r [], fun _ _ _ ⟨r, h1, h2, h3⟩ h => ⟨r, h1, h2, h3.later h.below⟩⟩
def MP.nds (B : Nat) : MP := ⟨fun v w => ∃ g, v = .slice (some ⟨g, 0, none⟩) 2 2 ∧ B ≤ g ∧ Bk w g 186 [.int .u64 0, .int .u64 0, .int .u64 0, .int .u64 0], fun _ _ _ ⟨r, h1, h2, h3⟩ h => ⟨r, h1, h2, h3.later h.below⟩⟩
def Cn0 (B : Nat) (key : List UInt8) (gst gm gn : Nat) (w : World) : Prop := B ≤ gst ∧ Bk w gst 96 (stC (cf0 key) none 0 0) ∧ B ≤ gm ∧ MpB w gm [] ∧ B ≤ gn ∧ Bk w gn 186 [.int .u64 0, .int .u64 0, .int .u64 0, .int .u64 0]
theorem Cn0.later {B : Nat} {key : List UInt8} {gst gm gn : Nat} {w w' : World} (h : Cn0 B key gst gm gn w) (hb : Below w.heap.size w w') : Cn0 B key gst gm gn w' := by
 obtain ⟨h1, h2, h3, h4, h5, h6⟩ := h
 exact ⟨h1, h2.later hb, h3, h4.later hb, h5, h6.later hb⟩
def MP.cn0 (B gl : Nat) (key : List UInt8) : MP := ⟨fun v w => ∃ gst gm gn, v = .agg ([.pointer (some ⟨gl, 0, none⟩), .int .i64 0, .pointer (some ⟨gst, 0, none⟩), .pointer none, .map (some gm), .slice (some ⟨gn, 0, none⟩) 2 2] : List Value).toArray ∧ Cn0 B key gst gm gn w, fun _ _ _ ⟨gst, gm, gn, h1, h2⟩ h => ⟨gst, gm, gn, h1, h2.later h.below⟩⟩
def MP.cnb (B gl : Nat) (key : List UInt8) : MP := ⟨fun v w => ∃ gc gst gm gn, v = .pointer (some ⟨gc, 0, none⟩) ∧ B ≤ gc ∧ Bk w gc 107 [.pointer (some ⟨gl, 0, none⟩), .int .i64 0, .pointer (some ⟨gst, 0, none⟩), .pointer none, .map (some gm), .slice (some ⟨gn, 0, none⟩) 2 2] ∧ Cn0 B key gst gm gn w, fun _ _ _ ⟨gc, gst, gm, gn, h1, h2, h3, h4⟩ h => ⟨gc, gst, gm, gn, h1, h2, h3.later h.below, h4.later h.below⟩⟩
theorem run_bCn (gl gst gm gn : Nat) (w : World) : (Instr.build 107 #[(0, .pointer (some ⟨gl, 0, none⟩)), (1, .int .i64 0), (2, .pointer (some ⟨gst, 0, none⟩)), (4, .map (some gm)), (5, .slice (some ⟨gn, 0, none⟩) 2 2)]).run Tryz.prog w = .ok (.agg ([.pointer (some ⟨gl, 0, none⟩), .int .i64 0, .pointer (some ⟨gst, 0, none⟩), .pointer none, .map (some gm), .slice (some ⟨gn, 0, none⟩) 2 2] : List Value).toArray) w := by kernel_rfl
def RetOc (Z : Nat → Prop) (gd B : Nat) (w : World) (key : List UInt8) (e : Ending) (w' : World) : Prop := ∃ gc, e = .returned (.tuple #[.pointer (some ⟨gc, 0, none⟩), .int .i64 0]) ∧ (∃ X gl gd gst gsu gm An R, CnX X B w' gc key [] 0 0 gl gd gst gsu gm An R ∧ ∀ b, Z b → X b) ∧ Chg (fun b => b = gd) w w'
theorem cOpen (Z : Nat → Prop) (B gd : Nat) (key : List UInt8) (hk : key.length = 16) (w : World) (hD : Bk w gd 112 (dkC none 0 0 0 0)) (hB : B ≤ gd) (hZ : ∀ b, Z b → B ≤ b ∧ b < w.heap.size) (hZd : ¬ Z gd) : Calls Tryz.prog 11 #[.pointer (some ⟨gd, 0, none⟩), .agg (bcs key).toArray, .int .i64 2] w (RetOc Z gd B w key) := by
 obtain ⟨du, u1, u2⟩ : ∃ d, Tryz.prog.underlying 88 = some d ∧ d.isRow = true := ⟨_, Tryz.underlying88, rfl⟩
 have hmm : ∀ w, (Instr.makeMap 104 none).run Tryz.prog w = .ok (.map (some w.heap.size)) (w.alloc (.map #[] 0)) := fun w => by kernel_rfl
 have hms : ∀ w, (Instr.makeSlice 105 (.int .i64 2) (.int .i64 2)).run Tryz.prog w = .ok (.slice (some ⟨w.heap.size, 0, none⟩) 2 2) (w.alloc (.cells #[.int .u64 0, .int .u64 0, .int .u64 0, .int .u64 0] 186)) := fun w => by kernel_rfl
 have hCk : CfOk (cf0 key) := cf0_ok key hk
 have hgd := hD.lt
 obtain ⟨bk, be, zV⟩ := box1 w 88 (bcs key)
 go_enter Tryz.func11, Tryz.ntmps11
 go_upto_region 1 with (fail)
 generalize w.alloc (.cells (bcs key).toArray 88) = V at *
 go_upto_region 1 with (fail)
 refine wp_region_lit ?_
 refine qw ?_
 refine wpq fun K hK => ?_
 go_simp
 refine (jOpen gd _ (hD.later be)).mono ?_
 rintro e w1 ⟨gl, rfl, hgl, hJ, hD2, hc2⟩
 with_reducible refine hK _ _ ?_
 clear hK K
 have bk2 := bk.chg hc2 (by omega)
 generalize hWW : w1 = W2 at *
 clear hWW
 iterate 5 (refine qw ?_)
 go_upto_region 4 with (fail)
 refine wp_region_lit ?_
 iterate 3 (refine qw ?_)
 iterate 2 (refine wpList_step (fun K hK => ?_); go_simp; with_reducible refine hK _ _ ?_; clear hK K)
 refine qw ?_
 go_upto_region 6 with (fail)
 refine wp_relS 11 84 rfl (by kernel_rfl) (by kernel_rfl) ?_
 refine qb 8 1 ?_
 refine qb 8 2 ?_
 apply qm 3 rfl rfl
 ·intro FA x hO hD K hK
  have e31 := qe (hD 1 31)
  clear hO hD
  go_simp
  refine (jLen gl gd none 0 0 _ (hJ.later bpl)).mono ?_
  rintro e w9 ⟨bs9, d9, rfl, rfl⟩
  exact hK.out _ _ (Ex.plus_ _ _ _) rfl
 apply qm 4 rfl rfl
 ·intro FA x hO hD K hK
  have e4 := hO 4
  simp only [eval_tmp, qgT, qgS, qgZ, qoS] at e4
  have ev4 := qy ((eval_tmp FA 4).trans e4)
  clear hO hD
  refine wanted_if rfl ?_
  refine wp_ldA 88 (.tmp 4) rfl (bcs key) ev4.out (bk2.later bpl) (whole_ _) u1 u2 (szKey key hk) ?_
  exact qk hK rfl
 apply qo (φ := (MP.blk W2.heap.size 96 (stC (cf0 key) none 0 0))) 5 rfl rfl
 ·intro FA x hO hD K hK
  have e33 := qe (hD 3 33)
  clear hO hD
  go_simp
  refine (new_any key hk _).mono ?_
  rintro e w9 ⟨g9, rfl, hg9, hb9, hst9⟩
  exact hK.out _ _ (Ex.of hb9) ⟨g9, rfl, Nat.le_trans (below_plus W2 x.bs x.d).size hg9, hst9⟩
 apply qo (φ := (MP.mpn W2.heap.size)) 6 rfl rfl
 ·intro FA x hO hD K hK
  clear hO hD
  have es := hmm
  go_simp
  exact hK.out _ _ (Ex.alloc _ _) ⟨_, rfl, Nat.le_add_right _ _, by have h9 := MpB.new (plus W2 x.bs x.d); rwa [size_plus] at h9⟩
 refine qb 2 7 ?_
 apply qo (φ := (MP.nds W2.heap.size)) 8 rfl rfl
 ·intro FA x hO hD K hK
  have e36 := qe (hD 6 36)
  clear hO hD
  have es := hms
  go_simp
  exact hK.out _ _ (Ex.alloc _ _) ⟨_, rfl, Nat.le_add_right _ _, Bk.newK _ _ _ (by simp [size_plus]) rfl⟩
 apply qo (φ := (MP.cn0 W2.heap.size gl key)) 9 rfl rfl
 ·intro FA x hO hD K hK
  obtain ⟨e30, ev30⟩ := qE (hD 0 30)
  obtain ⟨e32, ev32⟩ := qE (hD 2 32)
  obtain ⟨u34, f34, e34, ev34⟩ := qG (hD 4 34)
  obtain ⟨u35, f35, e35, ev35⟩ := qG (hD 5 35)
  obtain ⟨u37, f37, e37, ev37⟩ := qG (hD 7 37)
  clear hO hD
  obtain ⟨gst, rfl, hgst, hst⟩ := f34
  obtain ⟨gm, rfl, hgm, hmp⟩ := f35
  obtain ⟨gn, rfl, hgn, hnd⟩ := f37
  refine wanted_if rfl ?_
  refine wp_buildV 107 [(0, .tmp 30), (1, .tmp 32), (2, .tmp 34), (4, .tmp 35), (5, .tmp 37)] rfl (.agg ([.pointer (some ⟨gl, 0, none⟩), .int .i64 0, .pointer (some ⟨gst, 0, none⟩), .pointer none, .map (some gm), .slice (some ⟨gn, 0, none⟩) 2 2]).toArray) (by simp only [List.map_cons, List.map_nil, ev30.out, ev32.out, ev34.out, ev35.out, ev37.out]; exact run_bCn _ _ _ _ _) ?_
  exact qk hK ⟨gst, gm, gn, rfl, hgst, hst, hgm, hmp, hgn, hnd⟩
 apply qo (φ := (MP.cnb W2.heap.size gl key)) 10 rfl rfl
 ·intro FA x hO hD K hK
  obtain ⟨u38, f38, e38, ev38⟩ := qG (hD 8 38)
  clear hO hD
  obtain ⟨gst, gm, gn, rfl, hgst, hst, hgm, hmp, hgn, hnd⟩ := f38
  go_simp
  exact hK.out _ _ (Ex.alloc _ _) ⟨_, gst, gm, gn, rfl, Nat.le_add_right _ _, Bk.newK _ _ _ (by simp [size_plus]) rfl, hgst, hst.alloc _, hgm, hmp.later (Below.allocS (Below.refl _ _) _), hgn, hnd.alloc _⟩
 apply qo (φ := (MP.cnb W2.heap.size gl key)) 11 rfl rfl
 ·intro FA x hO hD K hK
  obtain ⟨u39, f39, e39, ev39⟩ := qG (hD 9 39)
  clear hO hD
  go_simp
  exact qk hK f39
 refine Steps.fin_ (fun vs x hp => ?_)
 have p4 := hp 4 qd
 have p5 := hp 5 qd
 have p7 := hp 7 qd
 have p8 := hp 8 qd
 have p9 := hp 9 qd
 have p10 := hp 10 qd
 simp only [qta, qtb, qda, qdb, putAll, Nat.zero_add, Nat.reduceAdd, Act.put, qsT, qsZ, qsS, qi (hp 0 qd), qi (hp 1 qd), qi (hp 2 qd), qi (hp 3 qd), qi (hp 6 qd)]
 clear hp
 generalize vs 4 = y4 at *
 generalize vs 5 = y5 at *
 generalize vs 7 = y7 at *
 generalize vs 8 = y8 at *
 generalize vs 9 = y9 at *
 generalize vs 10 = y10 at *
 clear vs
 obtain ⟨gc, gst, gm, gn, rfl, hgc, hbc, hgst, hst, hgm, hmp, hgn, hnd⟩ := p10
 have b3 := below_plus W2 x.bs x.d
 have hJ3 := hJ.later b3
 have hD3 := hD2.later b3
 have be2 : Below B w W2 := (be.mono (by omega)).trans (hc2.below (fun b hb => by rw [show b = gd from hb]; exact hB) (by have := be.size; omega))
 have be3 : Below B w (plus W2 x.bs x.d) := be2.trans (b3.mono (by have := be2.size; omega))
 have z2 := be2.size
 clear p4 p5 p7 p8 p9 hJ hD2 bk bk2
 generalize plus W2 x.bs x.d = W3 at *
 have n1 : gst ≠ gc := fun e => hst.apart hbc (by decide) e
 have n2 : gst ≠ gl := fun e => hst.apart hJ3 (by decide) e
 have n3 : gst ≠ gd := fun e => hst.apart hD3 (by decide) e
 have n4 := hmp.ne_bk hst
 have hXl : ∀ b, ((b = gc ∨ b = gl ∨ b = gd ∨ b = gm) ∨ Z b) → b < W3.heap.size := fun b hb => by
  rcases hb with (rfl | rfl | rfl | rfl) | hb
  ·exact hbc.lt
  ·exact hJ3.lt
  ·exact hD3.lt
  ·exact hmp.lt
  ·have := (hZ b hb).2; have := be3.size; omega
 have hX4 := cf0_X (G := fun b => (b = gc ∨ b = gl ∨ b = gd ∨ b = gm) ∨ Z b) hst hXl
 have q1 : W3.cell? ⟨gc, 1, none⟩ = some (.int .i64 0) := hbc.cell 1
 have h4 := hbc
 go_upto_region 8 with (fail)
 go_loopw [11] (fun I wr => I = .int .i64 1 ∧ wr = W3) (fun I _ => 0)
 case atStart => exact ⟨rfl, rfl⟩
 case round =>
  obtain ⟨rfl, hwr⟩ := hrel
  replace hwr := hwr.symm
  subst hwr
  go_upto_region 15 with (fail)
  clear q1
  refine wp_region_lit ?_
  iterate 4 (refine qw ?_)
  refine qL 47 (.tmp 78) h4 Tryz.underlying47 ?_
  refine wpq fun K hK => ?_
  go_simp
  refine (cfgCopy_any _ hCk gst none 0 0 [] _ hX4).mono ?_
  rintro e w1 ⟨g9, rfl, hb9, D9, hD9, hM9⟩
  with_reducible refine hK _ _ ?_
  clear hK K
  have h4 := h4.later hb9
  generalize hWW : w1 = W9 at *
  clear hWW
  iterate 2 (refine qw ?_)
  refine wpList_st1 (v := .pointer (some ⟨g9, 0, none⟩)) (t := 107) (cs := [.pointer (some ⟨gl, 0, none⟩), .int .i64 0, .pointer (some ⟨gst, 0, none⟩), .pointer none, .map (some gm), .slice (some ⟨gn, 0, none⟩) 2 2]) (off := 3) 47 (.tmp 82) (.tmp 80) rfl rfl rfl rfl h4 (Nat.le_of_ble_eq_true rfl) rfl (by kernel_rfl) ?_
  intro W6 h6 g6
  simp only [Act.put, qsT, qsZ, qsS]
  go_wp2
  go_ret2
  have z9 := hb9.size
  have c96 : Chg (fun b => (b = gc ∨ b = gl ∨ b = gd ∨ b = gm) ∨ Z b) W9 W6 := Chg.one g6 (.inl (.inl rfl))
  have c36 : Chg (fun b => (b = gc ∨ b = gl ∨ b = gd ∨ b = gm) ∨ Z b) W3 W6 := (Chg.of_below hb9).trans c96
  have c36' : Chg (fun b => b = gc ∨ b = gl ∨ b = gd ∨ b = gm) W3 W6 := (Chg.of_below hb9).trans (Chg.one g6 (.inl rfl))
  have m1 : gl ≠ gc := fun e => hJ3.apart hbc (by decide) e
  have m2 : gd ≠ gc := fun e => hD3.apart hbc (by decide) e
  have m3 := hmp.ne_bk hbc
  have m4 : gn ≠ gc := fun e => hnd.apart hbc (by decide) e
  have m5 : gn ≠ gl := fun e => hnd.apart hJ3 (by decide) e
  have m6 : gn ≠ gd := fun e => hnd.apart hD3 (by decide) e
  have m7 := hmp.ne_bk hnd
  have hs0 : StX (fun b => (b = gc ∨ b = gl ∨ b = gd ∨ b = gm) ∨ Z b) W3 gst (cf0 key) := ⟨_, _, ⟨_, _, _, _, hX4⟩, fun b hb => ⟨.inl hb, fun e => by
   have e : b = gst := e
   rcases hb with (rfl | rfl | rfl | rfl) | hb
   ·exact n1 e.symm
   ·exact n2 e.symm
   ·exact n3 e.symm
   ·exact n4 e
   ·have := (hZ b hb).2; have := hgst; have := hc2.size; have := be.size; omega⟩⟩
  have hs9 : StX (fun b => (b = gc ∨ b = gl ∨ b = gd ∨ b = gm) ∨ Z b) W9 g9 (cf0 key) := ⟨_, _, hM9, fun b hb => ⟨.inl (hXl b hb), fun hd => by have := hD9 b hd; have := hXl b hb; omega⟩⟩
  have nog : ∀ b, ((b = gc ∨ b = gl ∨ b = gd ∨ b = gm) ∨ Z b) → b ≠ gn := fun b hb e => by
   rcases hb with (h | h | h | h) | h
   ·exact m4 (e.symm.trans h)
   ·exact m5 (e.symm.trans h)
   ·exact m6 (e.symm.trans h)
   ·exact m7 (h.symm.trans e)
   ·have := (hZ b h).2; have := hgn; have := hc2.size; have := be.size; omega
  have c03 : Chg (fun b => b = gd) w W3 := ((Chg.of_below be).trans hc2).trans (Chg.of_below b3)
  have c06 : Chg (fun b => b = gd) w W6 := ⟨c36.os.trans c03.os, c36.tape.trans c03.tape, c36.output.trans c03.output, Nat.le_trans c03.size c36.size, fun b hb hn => by
   have z5 := hc2.size
   have z0 := be.size
   have hnd9 : ¬ (b = gc ∨ b = gl ∨ b = gd ∨ b = gm) := fun h => by
    rcases h with h | h | h | h
    ·omega
    ·omega
    ·exact hn h
    ·omega
   exact (c36'.block b (Nat.lt_of_lt_of_le hb c03.size) hnd9).trans (c03.block b hb hn)⟩
  refine ⟨gc, rfl, ⟨fun b => (b = gc ∨ b = gl ∨ b = gd ∨ b = gm) ∨ Z b, gl, gd, gst, g9, gm, some ⟨gn, 0, none⟩, [], ?_, fun b hb => .inr hb⟩, c06⟩
  ·refine ⟨h6, ?_, hs0.chg c36, hs9.chg c96, (hmp.later hb9).grown g6 (fun e => by injection e with e; exact m3 e.symm), RetM.nil, ?_, ?_, .inl (.inl rfl), .inl (.inr (.inr (.inr rfl))), CnOk.nil key, Nat.le_refl _, fun b hb => ⟨?_, Nat.lt_of_lt_of_le (hXl b hb) c36.size⟩, by simp⟩
   ·exact ⟨none, 0, [], none, 0, [], 0, (hJ3.later hb9).grown g6 (fun e => by injection e with e; exact m1 e.symm), (hD3.later hb9).grown g6 (fun e => by injection e with e; exact m2 e.symm), Ob.nil_, Os.nil_, PtOk.nil_ _, fun x hx => (by cases hx), .inl (.inr (.inl rfl)), .inl (.inr (.inr (.inl rfl))), fun b hb => (by cases hb), fun b hb => (by cases hb)⟩
   ·exact Rs.of_bk ((hnd.later hb9).grown g6 (fun e => by injection e with e; exact m4 e.symm)) rfl (Nat.le_refl _)
   ·exact fun a ha => by
     injection ha with ha
     subst ha
     exact ⟨Nat.lt_of_lt_of_le hnd.lt c36.size, fun hb => nog gn hb rfl⟩
   ·have z0 := be.size
    have z5 := hc2.size
    rcases hb with (rfl | rfl | rfl | rfl) | hb
    ·omega
    ·omega
    ·omega
    ·omega
    ·exact (hZ b hb).1
def PtOb (B : Nat) (w : World) (L : List (List UInt8)) (S : List Sl) : Prop := S.length = L.length ∧ ∀ (i : Nat) (h : i < L.length) (h' : i < S.length), Ob w B S[i].1 S[i].2.1 S[i].2.2 L[i]
theorem PtOb.later {B : Nat} {w w' : World} {L : List (List UInt8)} {S : List Sl} (h : PtOb B w L S) (hb : Below w.heap.size w w') : PtOb B w' L S := ⟨h.1, fun i a b => (h.2 i a b).later hb⟩
theorem PtOb.ok {B : Nat} {w : World} {L : List (List UInt8)} {S : List Sl} (h : PtOb B w L S) : PtOk w L S := ⟨h.1, fun i a b => (h.2 i a b).rb⟩
theorem PtOb.snoc {B : Nat} {w : World} {L : List (List UInt8)} {S : List Sl} (h : PtOb B w L S) {A : Option Addr} {n c : Nat} {l : List UInt8} (hr : Ob w B A n c l) : PtOb B w (L ++ [l]) (S ++ [(A, n, c)]) := by
 refine ⟨by simp [h.1], fun i h1 h2 => ?_⟩
 by_cases hi : i < L.length
 ·rw [List.getElem_append_left hi, List.getElem_append_left (by rw [h.1]; exact hi)]
  exact h.2 i hi (by rw [h.1]; exact hi)
 ·have e : i = L.length := by simp at h1; omega
  subst e
  rw [List.getElem_append_right (Nat.le_refl _), List.getElem_append_right (by rw [h.1]; exact Nat.le_refl _)]
  simp [h.1, hr]
theorem PtOb.grown {B : Nat} {w w' : World} {L : List (List UInt8)} {S : List Sl} (h : PtOb B w L S) {row : Option Nat} (hg : w.grownBy w' row) (hne : ∀ (A : Option Addr) (n c : Nat) (l : List UInt8), Ob w B A n c l → ∀ k, (Value.slice A n c).ownBlock = some k → row ≠ some k) : PtOb B w' L S := ⟨h.1, fun i a b => (h.2 i a b).grown hg (hne _ _ _ _ (h.2 i a b))⟩
def RetSn (w : World) (T : List (List UInt8)) (e : Ending) (w' : World) : Prop := ∃ A n c, e = .returned (.slice A n c) ∧ RL w' A n c T ∧ Below w.heap.size w w' ∧ ∀ g, g < w.heap.size → ∀ w2, w'.grownBy w2 (some g) → RL w2 A n c T
theorem cSince {X : Nat → Prop} {B : Nat} (gc : Nat) (key : List UInt8) (L : List OpR) (s : Nat) (k : Int) (gl gd gst gsu gm : Nat) (An : Option Addr) (R : List MvE) (n : Nat) (w : World) (h : CnX X B w gc key L s k gl gd gst gsu gm An R) (hn : n < s) : Calls Tryz.prog 22 #[.pointer (some ⟨gc, 0, none⟩), .int .u64 (n : Int)] w (RetSn w (((L.take s).drop n).map opBs)) := by
 have hll := h.ll
 have hsl := h.sl
 have hws : IntKind.u64.wrap (s : Int) = (s : Int) := IntWalk.u64_in _ (by omega)
 have hwn : IntKind.i64.wrap (n : Int) = (n : Int) := IntWalk.i64_in _ (by omega)
 have hnge : ¬ (s : Int) ≤ (n : Int) := by omega
 have hwn1 : IntKind.i64.wrap ((n : Int) + 1) = ((n + 1 : Nat) : Int) := by rw [IntWalk.i64_in _ (by omega)]; rfl
 obtain ⟨T, hT⟩ : ∃ T, ((L.take s).drop n).map opBs = T := ⟨_, rfl⟩
 have hTl : T.length = s - n := by rw [← hT]; simp; omega
 have hTi : ∀ j (hj : j < T.length) (hj2 : n + j < (L.map opBs).length), (L.map opBs)[n + j] = T[j] := fun j hj hj2 => by subst hT; simp
 have HTI := qy hTi
 have HJG := fun (i : Nat) (hi : i < (L.map opBs).length) => (fun W (hb9 : Below w.heap.size w W) => jGet B gl gd (L.map opBs) (dlenL L) k W (h.jn.later hb9) (by rw [List.length_map]; omega) (fun l hl => by
  obtain ⟨o, ho, rfl⟩ := List.mem_map.1 hl
  have := opBs_le (h.ok.ok o ho).2
  omega) i hi)
 have HJ0 := qy HJG
 clear HJG hTi
 rw [hT]
 clear hT
 go_enter Tryz.func22, Tryz.ntmps22
 go_upto_region 1 with (fail)
 refine wp_region_lit ?_
 iterate 3 (refine qw ?_)
 iterate 4 (refine wpList_step (fun K hK => ?_); go_simp; with_reducible refine hK _ _ ?_; clear hK K)
 refine wpList_ld1 (t := 107) (cs := cnC gl s gst gsu gm An) 3 (.tmp 15) rfl (by go_simp) rfl (h.bc) rfl Tryz.underlying3 rfl ?_
 iterate 2 (refine wpList_step (fun K hK => ?_); go_simp; with_reducible refine hK _ _ ?_; clear hK K)
 refine qw ?_
 go_upto_region 5 with (fail)
 go_loopw [5, 6] (fun Lr I wr => ∃ (j : Nat) (A' : Option Addr) (c' : Nat) (S : List Sl), I = .int .i64 ((n + 1 + j : Nat) : Int) ∧ Lr = .slice A' j c' ∧ j ≤ s - n ∧ Os 28 1 wr w.heap.size A' j c' (S.flatMap slV) ∧ PtOb w.heap.size wr (T.take j) S ∧ Below w.heap.size w wr) (fun _ I _ => s + 1 - (intOf I).toNat)
 case atStart => exact ⟨0, none, 0, [], rfl, rfl, Nat.zero_le _, Os.nil_, ⟨rfl, fun i hi => absurd hi (Nat.not_lt_zero i)⟩, Below.refl _ _⟩
 case round =>
  obtain ⟨j, A', c', S, rfl, rfl, hj, hO, hP, be⟩ := hrel
  have h1 := h.later be
  have q1 : wr.cell? ⟨gc, 1, none⟩ = some (.int .i64 (s : Int)) := h1.bc.cell 1
  by_cases hlt : j < s - n
  ·have ij : ((n + 1 + j : Nat) : Int) ≤ (s : Int) := by omega
   have hjT : j < T.length := by omega
   have hjL : n + j < (L.map opBs).length := by rw [List.length_map]; omega
   have HJG := qy (HJ0.out (n + j) hjL)
   rw [HTI.out j hjT hjL, show n + j + 1 = n + 1 + j from by omega] at HJG
   have htk : T.take (j + 1) = T.take j ++ [T[j]] := List.take_succ_eq_append_getElem hjT
   obtain ⟨l, hl9⟩ : ∃ l, T[j] = l := ⟨_, rfl⟩
   rw [hl9] at HJG htk
   have HTK := qy htk
   clear hl9 htk
   have hwi : IntKind.i64.wrap (((n + 1 + j : Nat) : Int) + 1) = ((n + 1 + (j + 1) : Nat) : Int) := by rw [IntWalk.i64_in _ (by omega)]; omega
   generalize hI : ((n + 1 + j : Nat) : Int) = I at *
   go_upto_region 7 with (fail)
   refine wp_region_lit ?_
   iterate 3 (refine qw ?_)
   refine qL 99 (.tmp 34) h1.bc Tryz.underlying99 ?_
   refine qw ?_
   refine wpq fun K hK => ?_
   go_simp
   refine (HJG.out _ be).mono ?_
   rintro e w1 ⟨A9, n9, c9, bs9, d9, rfl, rfl, o9⟩
   with_reducible refine hK _ _ ?_
   clear hK K
   have b7 := below_plus wr bs9 d9
   have o99 := o9.mono be.size
   replace hO := hO.later b7
   replace hP := hP.later b7
   have be7 := be.trans (b7.mono be.size)
   generalize plus wr bs9 d9 = W7 at *
   iterate 5 (refine qw ?_)
   go_upto_region 8 with (fail)
   refine wp_region_lit ?_
   iterate 3 (refine qw ?_)
   refine wpList_appS2 etSl rfl (.tmp 40) (.tmp 42) rfl rfl (hO.later (Below.allocS (Below.refl _ _) _)) rfl (Rs.of_bk (n := 1) (c := 1) (Bk.new W7 28 #[.slice A9 n9 c9]) rfl (Nat.le_refl _)) (by simp [Value.oneCell']) (by omega) (by have := be7.size; simp; omega) ?_
   intro A8 n8 c8 w8 hn8 hO8 hb8 hg8 hk8
   subst hn8
   refine qw ?_
   have ba := Below.allocS (Below.refl W7.heap.size W7) (.cells #[.slice A9 n9 c9] 28)
   have hP8 := ((hP.snoc o99).later ba).grown hg8 (fun A n c l ho k hk e => Ob.apart ho (hO.later ba) (by decide) k hk e)
   have be8 : Below w.heap.size w w8 := (be7.trans (ba.mono be7.size)).trans hb8
   go_wp2
   refine ⟨⟨j + 1, A8, c8, S ++ [(A9, n9, c9)], ?_, rfl, by omega, by rw [show (S ++ [((A9, n9, c9) : Sl)]).flatMap slV = S.flatMap slV ++ [.slice A9 n9 c9] from by simp [slV]]; exact hO8, by rw [HTK.out]; exact hP8, be8⟩, ?_⟩
   ·first | rfl | (rw [hwi]; done) | (simp [hwi]; done) | (congr 1; omega)
   ·rw [← hI]; simp [intOf]; omega
  ·have ij : ¬ ((n + 1 + j : Nat) : Int) ≤ (s : Int) := by omega
   obtain rfl : j = s - n := by omega
   generalize hI : ((n + 1 + (s - n) : Nat) : Int) = I at *
   go_wp2
   go_ret
   rw [List.take_of_length_le (by omega)] at hP
   exact ⟨A', _, c', rfl, ⟨S, hP.ok, hO.rs⟩, be, fun g hg w2 hg2 => ⟨S, (hP.grown hg2 (fun A n c l ho k hk e => by have := (ho.blk k hk).1; injection e with e; omega)).ok, (hO.grown hg2 (fun k hk e => by have := (hO.blk k hk).1; injection e with e; omega)).rs⟩⟩
theorem ring_rb {w : World} {key : List UInt8} (hk : K16 key) (n : Nat) (t : TypeId) : Rb (w.alloc (.cells (ringC key n).toArray t)) (some ⟨w.heap.size, 0, none⟩) 16 16 key := by
 refine ⟨hk, Nat.le_refl _, .inr ⟨w.heap.size, 0, rfl, by simp, fun i u hu => ?_⟩⟩
 rw [Nat.zero_add]
 have hi : i < (bcs key).length := (List.getElem?_eq_some_iff.1 hu).1
 simpa [ringC, List.getElem?_append_left hi] using hu
theorem ringBytes_any (key : List UInt8) (hk : K16 key) (n : Nat) (w : World) (hn : n < 18446744073709551616) : Calls Tryz.prog 52 #[.agg (ringC key n).toArray] w (RetB w (key ++ dig n 8)) := by
 have q := ringC_16 key hk n
 have hrk := ring_rb (w := w) hk n 90
 go_enter Tryz.func52, Tryz.ntmps52
 go_wp2
 refine wp_rel 6 8 rfl (by kernel_rfl) (by kernel_rfl) (fun i => match i with | 0 => MP.eq (.pointer (some ⟨w.heap.size, 0, none⟩)) | 1 => MP.eq (.slice (some ⟨w.heap.size, 0, none⟩) 16 16) | 2 => MP.eq (.pointer (some ⟨w.heap.size, 16, none⟩)) | 3 => MP.eq (.int .u64 (n : Int)) | 4 => MP.ob w.heap.size (key ++ dig n 8) | 5 => MP.ob w.heap.size (key ++ dig n 8) | _ => MP.any) ?_ ?_
 ·intro i hi o ho FA x hO hD K hK
  match i, hi, ho, hO, hD, hK with
  | 0, _, ho, hO, hD, hK => 
   obtain rfl := qoi ho
   have ev1 : FA.eval (.tmp 1) = .pointer (some ⟨w.heap.size, 0, none⟩) := hO 1 (by kernel_rfl)
   have e1 : FA.tmps[1]?.getD undef = .pointer (some ⟨w.heap.size, 0, none⟩) := by simpa [Act.eval] using ev1
   replace ev1 := qy ev1
   clear hO hD ho
   go_simp
   exact qk hK rfl
  | 1, _, ho, hO, hD, hK => 
   obtain rfl := qoi ho
   have ev3 : FA.eval (.tmp 3) = .pointer (some ⟨w.heap.size, 0, none⟩) := hD 0 3 (by kernel_rfl)
   have e3 : FA.tmps[3]?.getD undef = .pointer (some ⟨w.heap.size, 0, none⟩) := by simpa [Act.eval] using ev3
   replace ev3 := qy ev3
   clear hO hD ho
   go_simp
   exact qk hK rfl
  | 2, _, ho, hO, hD, hK => 
   obtain rfl := qoi ho
   have ev1 : FA.eval (.tmp 1) = .pointer (some ⟨w.heap.size, 0, none⟩) := hO 1 (by kernel_rfl)
   have e1 : FA.tmps[1]?.getD undef = .pointer (some ⟨w.heap.size, 0, none⟩) := by simpa [Act.eval] using ev1
   replace ev1 := qy ev1
   clear hO hD ho
   go_simp
   exact qk hK rfl
  | 3, _, ho, hO, hD, hK => 
   obtain rfl := qoi ho
   have ev5 : FA.eval (.tmp 5) = .pointer (some ⟨w.heap.size, 16, none⟩) := hD 2 5 (by kernel_rfl)
   have e5 : FA.tmps[5]?.getD undef = .pointer (some ⟨w.heap.size, 16, none⟩) := by simpa [Act.eval] using ev5
   replace ev5 := qy ev5
   clear hO hD ho
   go_simp
   exact qk hK rfl
  | 4, _, ho, hO, hD, hK => 
   obtain rfl := qoi ho
   have ev4 : FA.eval (.tmp 4) = .slice (some ⟨w.heap.size, 0, none⟩) 16 16 := hD 1 4 (by kernel_rfl)
   have e4 : FA.tmps[4]?.getD undef = .slice (some ⟨w.heap.size, 0, none⟩) 16 16 := by simpa [Act.eval] using ev4
   replace ev4 := qy ev4
   have ev6 : FA.eval (.tmp 6) = .int .u64 (n : Int) := hD 3 6 (by kernel_rfl)
   have e6 : FA.tmps[6]?.getD undef = .int .u64 (n : Int) := by simpa [Act.eval] using ev6
   replace ev6 := qy ev6
   clear hO hD ho
   go_simp
   refine (put_any _ 16 16 key n 8 _ (hrk.plus_ _ _) (by omega) hn (by omega) (by omega)).mono ?_
   rintro e w1 ⟨A2, n2, c2, bs2, d2, rfl, rfl, ho2⟩
   exact hK.out _ _ (Ex.plus_ _ _ _) ⟨_, _, _, rfl, ho2.mono (by simp [size_plus]; omega)⟩
  | 5, _, ho, hO, hD, hK => 
   obtain rfl := qoi ho
   have f7 := hD 4 7 (by kernel_rfl)
   generalize eu7 : FA.eval (.tmp 7) = u7 at f7
   have e7 : FA.tmps[7]?.getD undef = u7 := by rw [← eu7]; simp [Act.eval]
   clear eu7
   clear hO hD ho
   obtain ⟨A1, n1, c1, rfl, ho1⟩ := f7
   go_simp
   exact qk hK ⟨_, _, _, rfl, ho1⟩
  | (k + 6), hi, _, _, _, _ => exact absurd hi (by omega)
 intro vs x hp
 have p0 : vs 0 = .pointer (some ⟨w.heap.size, 0, none⟩) := hp 0 (by omega)
 have p1 : vs 1 = .slice (some ⟨w.heap.size, 0, none⟩) 16 16 := hp 1 (by omega)
 have p2 : vs 2 = .pointer (some ⟨w.heap.size, 16, none⟩) := hp 2 (by omega)
 have p3 : vs 3 = .int .u64 (n : Int) := hp 3 (by omega)
 have p4 := hp 4 (by omega)
 have p5 := hp 5 (by omega)
 clear hp
 simp only [qta, qtb, qda, qdb, putAll, Nat.zero_add, Nat.reduceAdd, Act.put, qsT, qsZ, qsS, p0, p1, p2, p3]
 clear p0 p1 p2 p3
 generalize vs 4 = y4 at *
 generalize vs 5 = y5 at *
 clear vs
 obtain ⟨A1, n1, c1, rfl, ho1⟩ := p5
 go_wp2
 go_ret
 exact RetB.mk ho1 (belowP ((Below.refl _ _).alloc (Nat.le_refl _) _) _ _)
end

end Go.Proofs.YtjiiloffgipfhaaGreatDoor
