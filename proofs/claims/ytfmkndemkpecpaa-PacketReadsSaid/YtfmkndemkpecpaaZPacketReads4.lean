/- Texts of the law PacketReads, part 4. -/
import Derived.Test.YtfmkndemkpecpaaZPacketReads3
/- The reference's Parse of a header of IPv4. -/
namespace Go.Proofs.Ytfmkndemkpecpaa
open Go.RowKit
set_option linter.unusedVariables false
set_option linter.unusedSimpArgs false
attribute [local go_sem ↓] sliced_cut

attribute [local go_sem] cutA_zero

set_option maxHeartbeats 4000000 in
set_option maxRecDepth 100000 in
theorem refP4_short (A : Option Addr) (n c : Nat) (l : List UInt8) (w : World) (h : Rb w A n c l) (hm9 : n ≤ 1000000) (hn : n < 20) : Calls Try.prog 78 #[.slice A n c] w (RetV w (.tuple #[.agg (h4C 0 0 0 false false 0 0 0 0 false 0 0 false 0 0 none 0 0).toArray, .slice none 0 0, .int .i64 20])) := by
  obtain ⟨du, u1, u2⟩ := rowR4
  have d20 : decide ((n : Int) < 20) = true := by simp only [decide_eq_true_eq]; omega
  have hZ : Bk (w.alloc (.cells #[.int .u8 0, .int .i64 0, .int .u16 0, .bool false, .bool false, .int .i64 0, .int .u8 0, .int .u8 0, .int .u16 0, .bool false, .int .u64 0, .int .u64 0, .bool false, .int .u64 0, .int .u64 0, .slice none 0 0] 184)) w.heap.size 184 (h4C 0 0 0 false false 0 0 0 0 false 0 0 false 0 0 none 0 0) := Bk.new w 184 #[.int .u8 0, .int .i64 0, .int .u16 0, .bool false, .bool false, .int .i64 0, .int .u8 0, .int .u8 0, .int .u16 0, .bool false, .int .u64 0, .int .u64 0, .bool false, .int .u64 0, .int .u64 0, .slice none 0 0]
  have be : Below w.heap.size w (w.alloc (.cells #[.int .u8 0, .int .i64 0, .int .u16 0, .bool false, .bool false, .int .i64 0, .int .u8 0, .int .u8 0, .int .u16 0, .bool false, .int .u64 0, .int .u64 0, .bool false, .int .u64 0, .int .u64 0, .slice none 0 0] 184)) := Below.allocS (Below.refl _ _) _
  go_enter Try.func78, Try.ntmps78
  go_wp2_with (refine at_op (.store 184 (.tmp 2) (.tmp 11)) rfl ?_; refine wpList_stA (t := 184) 184 (.tmp 2) (.tmp 11) rfl rfl (h4C 0 0 0 false false 0 0 0 0 false 0 0 false 0 0 none 0 0) (h4C 0 0 0 false false 0 0 0 0 false 0 0 false 0 0 none 0 0) rfl (h4C_one _ _ _ _ _ _ _ _ _ _ _ _ _ _ _ _ _ _) rfl rfl hZ (szR4 _ _ _ _ _ _ _ _ _ _ _ _ _ _ _ _ _ _) ?_; intro W9 h9 g9)
  refine bodyPost_agg3 Try.results78 rfl rfl rfl h9.range u1 u2 (szR4 _ _ _ _ _ _ _ _ _ _ _ _ _ _ _ _ _ _) rfl (RetV.mk ?_)
  exact below_grown be g9 (by omega)
set_option maxHeartbeats 4000000 in
set_option maxRecDepth 100000 in
theorem refP4_f1 (A : Option Addr) (n c : Nat) (l : List UInt8) (w : World) (h : Rb w A n c l) (hm9 : n ≤ 1000000) (f ts ln id pl tl pr sm sa da : Nat) (x0 : num ((l.drop 0).take 1) = f) (x1 : num ((l.drop 1).take 1) = ts) (x2 : num ((l.drop 2).take 2) = ln) (x3 : num ((l.drop 4).take 2) = id) (x4 : num ((l.drop 6).take 2) = pl) (x5 : num ((l.drop 8).take 1) = tl) (x6 : num ((l.drop 9).take 1) = pr) (x7 : num ((l.drop 10).take 2) = sm) (x8 : num ((l.drop 12).take 4) = sa) (x9 : num ((l.drop 16).take 4) = da) (hn : 20 ≤ n) (hb : f / 16 ≠ 4) : Calls Try.prog 78 #[.slice A n c] w (RetV w (.tuple #[.agg (h4C 0 0 0 false false 0 0 0 0 false 0 0 false 0 0 none 0 0).toArray, .slice none 0 0, .int .i64 21])) := by
  obtain ⟨du, u1, u2⟩ := rowR4
  have hc := h.2.1
  have hl := h.1
  have d20 : decide ((n : Int) < 20) = false := by simp only [decide_eq_false_iff_not]; omega
  have hf8 : f < 256 := by rw [← x0]; exact num_lt' l 0 1 256 (by decide)
  have hpl : pl < 65536 := by rw [← x4]; exact num_lt' l 6 2 65536 (by decide)
  have hln : ln < 65536 := by rw [← x2]; exact num_lt' l 2 2 65536 (by decide)
  have hid : id < 65536 := by rw [← x3]; exact num_lt' l 4 2 65536 (by decide)
  have hsm : sm < 65536 := by rw [← x7]; exact num_lt' l 10 2 65536 (by decide)
  obtain ⟨b, off, rfl, hbl, hcell⟩ := h.2.2.at_ (by rw [bcs_length, h.1]; omega)
  have y0 := num_cell hcell 0 (by rw [h.1]; omega)
  have y1 := num_cell hcell 1 (by rw [h.1]; omega)
  have y8 := num_cell hcell 8 (by rw [h.1]; omega)
  have y9 := num_cell hcell 9 (by rw [h.1]; omega)
  rw [x0] at y0
  rw [x1] at y1
  rw [x5] at y8
  rw [x6] at y9
  have i0 : (0 : Int) < (n : Int) := by omega
  have i1 : (1 : Int) < (n : Int) := by omega
  have i8 : (8 : Int) < (n : Int) := by omega
  have i9 : (9 : Int) < (n : Int) := by omega
  rw [Nat.add_zero] at y0
  clear hcell x0 x1 x5 x6
  obtain ⟨m, hm⟩ : ∃ m : Nat, m = f % 16 := ⟨_, rfl⟩
  have e1 : (f : Int) % 16 = (m : Int) := by omega
  obtain ⟨sz, hsz⟩ : ∃ s : Nat, s = 4 * m := ⟨_, rfl⟩
  have e2 : IntKind.i64.wrap ((m : Int) * 4) = (sz : Int) := by rw [IntWalk.i64_in _ (by omega)]; omega
  have e3 : IntKind.i64.wrap (m : Int) = (m : Int) := IntWalk.i64_in _ (by omega)
  replace x2 := Lib.hid x2
  replace x3 := Lib.hid x3
  replace x4 := Lib.hid x4
  replace x7 := Lib.hid x7
  replace x8 := Lib.hid x8
  replace x9 := Lib.hid x9
  have hb1n : ((f : Int) / 16 != 4) = true := by rw [bne_iff_ne]; omega
  clear hm hsz
  have hZ : Bk (w.alloc (.cells #[.int .u8 0, .int .i64 0, .int .u16 0, .bool false, .bool false, .int .i64 0, .int .u8 0, .int .u8 0, .int .u16 0, .bool false, .int .u64 0, .int .u64 0, .bool false, .int .u64 0, .int .u64 0, .slice none 0 0] 184)) w.heap.size 184 (h4C 0 0 0 false false 0 0 0 0 false 0 0 false 0 0 none 0 0) := Bk.new w 184 #[.int .u8 0, .int .i64 0, .int .u16 0, .bool false, .bool false, .int .i64 0, .int .u8 0, .int .u8 0, .int .u16 0, .bool false, .int .u64 0, .int .u64 0, .bool false, .int .u64 0, .int .u64 0, .slice none 0 0]
  have be : Below w.heap.size w (w.alloc (.cells #[.int .u8 0, .int .i64 0, .int .u16 0, .bool false, .bool false, .int .i64 0, .int .u8 0, .int .u8 0, .int .u16 0, .bool false, .int .u64 0, .int .u64 0, .bool false, .int .u64 0, .int .u64 0, .slice none 0 0] 184)) := Below.allocS (Below.refl _ _) _
  go_enter Try.func78, Try.ntmps78
  go_wp2_with (refine at_op (.store 184 (.tmp 2) (.tmp 27)) rfl ?_; refine wpList_stA (t := 184) 184 (.tmp 2) (.tmp 27) rfl rfl (h4C 0 0 0 false false 0 0 0 0 false 0 0 false 0 0 none 0 0) (h4C 0 0 0 false false 0 0 0 0 false 0 0 false 0 0 none 0 0) rfl (h4C_one _ _ _ _ _ _ _ _ _ _ _ _ _ _ _ _ _ _) rfl rfl hZ (szR4 _ _ _ _ _ _ _ _ _ _ _ _ _ _ _ _ _ _) ?_; intro W9 h9 g9)
  refine bodyPost_agg3 Try.results78 rfl rfl rfl h9.range u1 u2 (szR4 _ _ _ _ _ _ _ _ _ _ _ _ _ _ _ _ _ _) rfl (RetV.mk ?_)
  exact below_grown be g9 (by omega)
set_option maxHeartbeats 4000000 in
set_option maxRecDepth 100000 in
theorem refP4_f2 (A : Option Addr) (n c : Nat) (l : List UInt8) (w : World) (h : Rb w A n c l) (hm9 : n ≤ 1000000) (f ts ln id pl tl pr sm sa da : Nat) (x0 : num ((l.drop 0).take 1) = f) (x1 : num ((l.drop 1).take 1) = ts) (x2 : num ((l.drop 2).take 2) = ln) (x3 : num ((l.drop 4).take 2) = id) (x4 : num ((l.drop 6).take 2) = pl) (x5 : num ((l.drop 8).take 1) = tl) (x6 : num ((l.drop 9).take 1) = pr) (x7 : num ((l.drop 10).take 2) = sm) (x8 : num ((l.drop 12).take 4) = sa) (x9 : num ((l.drop 16).take 4) = da) (hn : 20 ≤ n) (hb : f / 16 = 4) (hs : 4 * (f % 16) < 20) : Calls Try.prog 78 #[.slice A n c] w (RetV w (.tuple #[.agg (h4C 0 0 0 false false 0 0 0 0 false 0 0 false 0 0 none 0 0).toArray, .slice none 0 0, .int .i64 21])) := by
  obtain ⟨du, u1, u2⟩ := rowR4
  have hc := h.2.1
  have hl := h.1
  have d20 : decide ((n : Int) < 20) = false := by simp only [decide_eq_false_iff_not]; omega
  have hf8 : f < 256 := by rw [← x0]; exact num_lt' l 0 1 256 (by decide)
  have hpl : pl < 65536 := by rw [← x4]; exact num_lt' l 6 2 65536 (by decide)
  have hln : ln < 65536 := by rw [← x2]; exact num_lt' l 2 2 65536 (by decide)
  have hid : id < 65536 := by rw [← x3]; exact num_lt' l 4 2 65536 (by decide)
  have hsm : sm < 65536 := by rw [← x7]; exact num_lt' l 10 2 65536 (by decide)
  obtain ⟨b, off, rfl, hbl, hcell⟩ := h.2.2.at_ (by rw [bcs_length, h.1]; omega)
  have y0 := num_cell hcell 0 (by rw [h.1]; omega)
  have y1 := num_cell hcell 1 (by rw [h.1]; omega)
  have y8 := num_cell hcell 8 (by rw [h.1]; omega)
  have y9 := num_cell hcell 9 (by rw [h.1]; omega)
  rw [x0] at y0
  rw [x1] at y1
  rw [x5] at y8
  rw [x6] at y9
  have i0 : (0 : Int) < (n : Int) := by omega
  have i1 : (1 : Int) < (n : Int) := by omega
  have i8 : (8 : Int) < (n : Int) := by omega
  have i9 : (9 : Int) < (n : Int) := by omega
  rw [Nat.add_zero] at y0
  clear hcell x0 x1 x5 x6
  obtain ⟨m, hm⟩ : ∃ m : Nat, m = f % 16 := ⟨_, rfl⟩
  have e1 : (f : Int) % 16 = (m : Int) := by omega
  obtain ⟨sz, hsz⟩ : ∃ s : Nat, s = 4 * m := ⟨_, rfl⟩
  have e2 : IntKind.i64.wrap ((m : Int) * 4) = (sz : Int) := by rw [IntWalk.i64_in _ (by omega)]; omega
  have e3 : IntKind.i64.wrap (m : Int) = (m : Int) := IntWalk.i64_in _ (by omega)
  replace x2 := Lib.hid x2
  replace x3 := Lib.hid x3
  replace x4 := Lib.hid x4
  replace x7 := Lib.hid x7
  replace x8 := Lib.hid x8
  replace x9 := Lib.hid x9
  have hb1 : (f : Int) / 16 = 4 := by omega
  have hb1n : ((f : Int) / 16 != 4) = false := by rw [hb1]; rfl
  have qd0 : decide ((sz : Int) < 20) = true := by simp only [decide_eq_true_eq]; omega
  have qd1 : decide (sz < 20) = true := by simp only [decide_eq_true_eq]; omega
  clear hb1
  clear hm hsz
  have hZ : Bk (w.alloc (.cells #[.int .u8 0, .int .i64 0, .int .u16 0, .bool false, .bool false, .int .i64 0, .int .u8 0, .int .u8 0, .int .u16 0, .bool false, .int .u64 0, .int .u64 0, .bool false, .int .u64 0, .int .u64 0, .slice none 0 0] 184)) w.heap.size 184 (h4C 0 0 0 false false 0 0 0 0 false 0 0 false 0 0 none 0 0) := Bk.new w 184 #[.int .u8 0, .int .i64 0, .int .u16 0, .bool false, .bool false, .int .i64 0, .int .u8 0, .int .u8 0, .int .u16 0, .bool false, .int .u64 0, .int .u64 0, .bool false, .int .u64 0, .int .u64 0, .slice none 0 0]
  have be : Below w.heap.size w (w.alloc (.cells #[.int .u8 0, .int .i64 0, .int .u16 0, .bool false, .bool false, .int .i64 0, .int .u8 0, .int .u8 0, .int .u16 0, .bool false, .int .u64 0, .int .u64 0, .bool false, .int .u64 0, .int .u64 0, .slice none 0 0] 184)) := Below.allocS (Below.refl _ _) _
  go_enter Try.func78, Try.ntmps78
  go_wp2_with (refine at_op (.store 184 (.tmp 2) (.tmp 27)) rfl ?_; refine wpList_stA (t := 184) 184 (.tmp 2) (.tmp 27) rfl rfl (h4C 0 0 0 false false 0 0 0 0 false 0 0 false 0 0 none 0 0) (h4C 0 0 0 false false 0 0 0 0 false 0 0 false 0 0 none 0 0) rfl (h4C_one _ _ _ _ _ _ _ _ _ _ _ _ _ _ _ _ _ _) rfl rfl hZ (szR4 _ _ _ _ _ _ _ _ _ _ _ _ _ _ _ _ _ _) ?_; intro W9 h9 g9)
  refine bodyPost_agg3 Try.results78 rfl rfl rfl h9.range u1 u2 (szR4 _ _ _ _ _ _ _ _ _ _ _ _ _ _ _ _ _ _) rfl (RetV.mk ?_)
  exact below_grown be g9 (by omega)
set_option maxHeartbeats 4000000 in
set_option maxRecDepth 100000 in
theorem refP4_f3 (A : Option Addr) (n c : Nat) (l : List UInt8) (w : World) (h : Rb w A n c l) (hm9 : n ≤ 1000000) (f ts ln id pl tl pr sm sa da : Nat) (st mo : Bool) (x0 : num ((l.drop 0).take 1) = f) (x1 : num ((l.drop 1).take 1) = ts) (x2 : num ((l.drop 2).take 2) = ln) (x3 : num ((l.drop 4).take 2) = id) (x4 : num ((l.drop 6).take 2) = pl) (x5 : num ((l.drop 8).take 1) = tl) (x6 : num ((l.drop 9).take 1) = pr) (x7 : num ((l.drop 10).take 2) = sm) (x8 : num ((l.drop 12).take 4) = sa) (x9 : num ((l.drop 16).take 4) = da) (hst : (pl / 16384 % 2 == 1) = st) (hmo : (pl / 8192 % 2 == 1) = mo) (hn : 20 ≤ n) (hb : f / 16 = 4) (hs : 20 ≤ 4 * (f % 16)) (hp9 : 32768 ≤ pl) : Calls Try.prog 78 #[.slice A n c] w (RetV w (.tuple #[.agg (h4C 0 0 0 false false 0 0 0 0 false 0 0 false 0 0 none 0 0).toArray, .slice none 0 0, .int .i64 21])) := by
  obtain ⟨du, u1, u2⟩ := rowR4
  have hc := h.2.1
  have hl := h.1
  have d20 : decide ((n : Int) < 20) = false := by simp only [decide_eq_false_iff_not]; omega
  have hf8 : f < 256 := by rw [← x0]; exact num_lt' l 0 1 256 (by decide)
  have hpl : pl < 65536 := by rw [← x4]; exact num_lt' l 6 2 65536 (by decide)
  have hln : ln < 65536 := by rw [← x2]; exact num_lt' l 2 2 65536 (by decide)
  have hid : id < 65536 := by rw [← x3]; exact num_lt' l 4 2 65536 (by decide)
  have hsm : sm < 65536 := by rw [← x7]; exact num_lt' l 10 2 65536 (by decide)
  obtain ⟨b, off, rfl, hbl, hcell⟩ := h.2.2.at_ (by rw [bcs_length, h.1]; omega)
  have y0 := num_cell hcell 0 (by rw [h.1]; omega)
  have y1 := num_cell hcell 1 (by rw [h.1]; omega)
  have y8 := num_cell hcell 8 (by rw [h.1]; omega)
  have y9 := num_cell hcell 9 (by rw [h.1]; omega)
  rw [x0] at y0
  rw [x1] at y1
  rw [x5] at y8
  rw [x6] at y9
  have i0 : (0 : Int) < (n : Int) := by omega
  have i1 : (1 : Int) < (n : Int) := by omega
  have i8 : (8 : Int) < (n : Int) := by omega
  have i9 : (9 : Int) < (n : Int) := by omega
  rw [Nat.add_zero] at y0
  clear hcell x0 x1 x5 x6
  obtain ⟨m, hm⟩ : ∃ m : Nat, m = f % 16 := ⟨_, rfl⟩
  have e1 : (f : Int) % 16 = (m : Int) := by omega
  obtain ⟨sz, hsz⟩ : ∃ s : Nat, s = 4 * m := ⟨_, rfl⟩
  have e2 : IntKind.i64.wrap ((m : Int) * 4) = (sz : Int) := by rw [IntWalk.i64_in _ (by omega)]; omega
  have e3 : IntKind.i64.wrap (m : Int) = (m : Int) := IntWalk.i64_in _ (by omega)
  replace x2 := Lib.hid x2
  replace x3 := Lib.hid x3
  replace x4 := Lib.hid x4
  replace x7 := Lib.hid x7
  replace x8 := Lib.hid x8
  replace x9 := Lib.hid x9
  have hb1 : (f : Int) / 16 = 4 := by omega
  have hb1n : ((f : Int) / 16 != 4) = false := by rw [hb1]; rfl
  have qd2 : decide ((sz : Int) < 20) = false := by simp only [decide_eq_false_iff_not]; omega
  have qd3 : decide (sz < 20) = false := by simp only [decide_eq_false_iff_not]; omega
  have qd4 : decide (32767 < (pl : Int)) = true := by simp only [decide_eq_true_eq]; omega
  have qd5 : decide (32767 < pl) = true := by simp only [decide_eq_true_eq]; omega
  obtain ⟨za, hza⟩ : ∃ p : Nat, p = pl / 16384 := ⟨_, rfl⟩
  obtain ⟨zb, hzb⟩ : ∃ p : Nat, p = za % 2 := ⟨_, rfl⟩
  obtain ⟨zc, hzc⟩ : ∃ p : Nat, p = pl / 8192 := ⟨_, rfl⟩
  obtain ⟨zd, hzd⟩ : ∃ p : Nat, p = zc % 2 := ⟨_, rfl⟩
  obtain ⟨fo, hfo⟩ : ∃ p : Nat, p = pl % 8192 := ⟨_, rfl⟩
  have v1 : (pl : Int) / 16384 = (za : Int) := by omega
  have v2 : (za : Int) % 2 = (zb : Int) := by omega
  have v3 : ((zb : Int) == 1) = st := by rw [← hst, ← hza, ← hzb, Bool.eq_iff_iff, beq_iff_eq, beq_iff_eq]; omega
  have v4 : (pl : Int) / 8192 = (zc : Int) := by omega
  have v5 : (zc : Int) % 2 = (zd : Int) := by omega
  have v6 : ((zd : Int) == 1) = mo := by rw [← hmo, ← hzc, ← hzd, Bool.eq_iff_iff, beq_iff_eq, beq_iff_eq]; omega
  have v7 : (pl : Int) % 8192 = (fo : Int) := by omega
  have hfo2 : fo < 8192 := by omega
  have m1 : (za : Int).tmod 2 = (zb : Int) := by rw [Int.tmod_eq_emod_of_nonneg (by omega)]; omega
  have m2 : (zc : Int).tmod 2 = (zd : Int) := by rw [Int.tmod_eq_emod_of_nonneg (by omega)]; omega
  have m3 : (pl : Int).tmod 8192 = (fo : Int) := by rw [Int.tmod_eq_emod_of_nonneg (by omega)]; omega
  have wp1 : IntKind.u64.wrap (za : Int) = (za : Int) := IntWalk.u64_in _ (by omega)
  have wp2 : IntKind.u64.wrap (zb : Int) = (zb : Int) := IntWalk.u64_in _ (by omega)
  have wp3 : IntKind.u64.wrap (zc : Int) = (zc : Int) := IntWalk.u64_in _ (by omega)
  have wp4 : IntKind.u64.wrap (zd : Int) = (zd : Int) := IntWalk.u64_in _ (by omega)
  have wfo : IntKind.u64.wrap (fo : Int) = (fo : Int) := IntWalk.u64_in _ (by omega)
  have v8 : IntKind.i64.wrap (fo : Int) = (fo : Int) := IntWalk.i64_in _ (by omega)
  have v9 : IntKind.i64.wrap (ln : Int) = (ln : Int) := IntWalk.i64_in _ (by omega)
  have va : IntKind.u16.wrap (id : Int) = (id : Int) := IntWalk.u16_in _ (by omega)
  have vb : IntKind.u16.wrap (sm : Int) = (sm : Int) := IntWalk.u16_in _ (by omega)
  clear hza hzb hzc hzd hfo hst hmo
  clear hm hsz hb1
  have hZ : Bk (w.alloc (.cells #[.int .u8 0, .int .i64 0, .int .u16 0, .bool false, .bool false, .int .i64 0, .int .u8 0, .int .u8 0, .int .u16 0, .bool false, .int .u64 0, .int .u64 0, .bool false, .int .u64 0, .int .u64 0, .slice none 0 0] 184)) w.heap.size 184 (h4C 0 0 0 false false 0 0 0 0 false 0 0 false 0 0 none 0 0) := Bk.new w 184 #[.int .u8 0, .int .i64 0, .int .u16 0, .bool false, .bool false, .int .i64 0, .int .u8 0, .int .u8 0, .int .u16 0, .bool false, .int .u64 0, .int .u64 0, .bool false, .int .u64 0, .int .u64 0, .slice none 0 0]
  have be : Below w.heap.size w (w.alloc (.cells #[.int .u8 0, .int .i64 0, .int .u16 0, .bool false, .bool false, .int .i64 0, .int .u8 0, .int .u8 0, .int .u16 0, .bool false, .int .u64 0, .int .u64 0, .bool false, .int .u64 0, .int .u64 0, .slice none 0 0] 184)) := Below.allocS (Below.refl _ _) _
  go_enter Try.func78, Try.ntmps78
  go_wp2_with fail
  refine (refGetV _ n c l _ _ 6 2 pl _ (h.alloc _) rfl rfl x4.out (by omega) (by omega) (by omega)).mono ?_
  rintro e w1 ⟨rfl, rfl⟩
  go_upto_region 7 with (fail)
  go_wp2
  refine wp_relE 31 103 [0, 3, 5, 6, 8, 9, 10, 11, 12, 13, 14, 15, 16, 17, 18, 19, 20, 23, 26, 28] rfl (by kernel_rfl) (by kernel_rfl) (fun i => match i with | 0 => MP.eq (.slice (some ⟨b, off, none⟩) n c) | 1 => MP.eq (.pointer (some ⟨b, off + 1, none⟩)) | 2 => MP.eq (.int .u8 (ts : Int)) | 3 => MP.eq (.slice (some ⟨b, off, none⟩) n c) | 4 => MP.eq (.int .u64 (ln : Int)) | 5 => MP.eq (.int .i64 (ln : Int)) | 6 => MP.eq (.slice (some ⟨b, off, none⟩) n c) | 7 => MP.eq (.int .u64 (id : Int)) | 8 => MP.eq (.int .u16 (id : Int)) | 9 => MP.eq (.int .u64 (pl : Int)) | 10 => MP.eq (.int .u64 (za : Int)) | 11 => MP.eq (.int .u64 (zb : Int)) | 12 => MP.eq (.bool st) | 13 => MP.eq (.int .u64 (pl : Int)) | 14 => MP.eq (.int .u64 (zc : Int)) | 15 => MP.eq (.int .u64 (zd : Int)) | 16 => MP.eq (.bool mo) | 17 => MP.eq (.int .u64 (pl : Int)) | 18 => MP.eq (.int .u64 (fo : Int)) | 19 => MP.eq (.int .i64 (fo : Int)) | 20 => MP.eq (.slice (some ⟨b, off, none⟩) n c) | 21 => MP.eq (.pointer (some ⟨b, off + 8, none⟩)) | 22 => MP.eq (.int .u8 (tl : Int)) | 23 => MP.eq (.slice (some ⟨b, off, none⟩) n c) | 24 => MP.eq (.pointer (some ⟨b, off + 9, none⟩)) | 25 => MP.eq (.int .u8 (pr : Int)) | 26 => MP.eq (.slice (some ⟨b, off, none⟩) n c) | 27 => MP.eq (.int .u64 (sm : Int)) | 28 => MP.eq (.int .u16 (sm : Int)) | 29 => MP.eq (.agg #[.int .u8 (ts : Int), .int .i64 (ln : Int), .int .u16 (id : Int), .bool st, .bool mo, .int .i64 (fo : Int), .int .u8 (tl : Int), .int .u8 (pr : Int), .int .u16 (sm : Int), .bool false, .int .u64 0, .int .u64 0, .bool false, .int .u64 0, .int .u64 0, .slice none 0 0]) | 30 => MP.blk (w.heap.size + 1) 184 (h4C 0 0 0 false false 0 0 0 0 false 0 0 false 0 0 none 0 0) | _ => MP.any) ?_ ?_
  · intro i hi o ho FA x hO hD
    match i, hi, ho, hO, hD with
    | 0, _, ho, hO, hD => 
      obtain rfl := Option.some.inj ho.symm
      clear ho
      have ev0 : FA.eval (.tmp 0) = .slice (some ⟨b, off, none⟩) n c := hO 0 (by kernel_rfl)
      have e0 : FA.tmps[0]?.getD undef = .slice (some ⟨b, off, none⟩) n c := by simpa [Act.eval] using ev0
      replace ev0 := Lib.hid ev0
      clear hO hD
      rw [if_pos (by decide)]
      refine ⟨.slice (some ⟨b, off, none⟩) n c, .inl ⟨by simp [Region.wanted], fun w => ?_⟩, rfl⟩
      go_simp
    | 1, _, ho, hO, hD => 
      obtain rfl := Option.some.inj ho.symm
      clear ho
      have ev30 : FA.eval (.tmp 30) = .slice (some ⟨b, off, none⟩) n c := hD 0 30 (by kernel_rfl)
      have e30 : FA.tmps[30]?.getD undef = .slice (some ⟨b, off, none⟩) n c := by simpa [Act.eval] using ev30
      replace ev30 := Lib.hid ev30
      clear hO hD
      rw [if_neg (by decide)]
      intro K hK
      go_simp
      exact hK.out _ _ (Ex.refl _) rfl
    | 2, _, ho, hO, hD => 
      obtain rfl := Option.some.inj ho.symm
      clear ho
      have ev31 : FA.eval (.tmp 31) = .pointer (some ⟨b, off + 1, none⟩) := hD 1 31 (by kernel_rfl)
      have e31 : FA.tmps[31]?.getD undef = .pointer (some ⟨b, off + 1, none⟩) := by simpa [Act.eval] using ev31
      replace ev31 := Lib.hid ev31
      clear hO hD
      rw [if_neg (by decide)]
      intro K hK
      go_simp
      exact hK.out _ _ (Ex.refl _) rfl
    | 3, _, ho, hO, hD => 
      obtain rfl := Option.some.inj ho.symm
      clear ho
      have ev0 : FA.eval (.tmp 0) = .slice (some ⟨b, off, none⟩) n c := hO 0 (by kernel_rfl)
      have e0 : FA.tmps[0]?.getD undef = .slice (some ⟨b, off, none⟩) n c := by simpa [Act.eval] using ev0
      replace ev0 := Lib.hid ev0
      clear hO hD
      rw [if_pos (by decide)]
      refine ⟨.slice (some ⟨b, off, none⟩) n c, .inl ⟨by simp [Region.wanted], fun w => ?_⟩, rfl⟩
      go_simp
    | 4, _, ho, hO, hD => 
      obtain rfl := Option.some.inj ho.symm
      clear ho
      have ev33 : FA.eval (.tmp 33) = .slice (some ⟨b, off, none⟩) n c := hD 3 33 (by kernel_rfl)
      have e33 : FA.tmps[33]?.getD undef = .slice (some ⟨b, off, none⟩) n c := by simpa [Act.eval] using ev33
      replace ev33 := Lib.hid ev33
      clear hO hD
      rw [if_neg (by decide)]
      intro K hK
      go_simp
      refine (refGetV _ n c l _ _ 2 2 ln _ ((h.alloc _).plus_ _ _) rfl rfl x2.out (by omega) (by omega) (by omega)).mono ?_
      rintro e w1 ⟨rfl, rfl⟩
      exact hK.out _ _ (Ex.refl _) rfl
    | 5, _, ho, hO, hD => 
      obtain rfl := Option.some.inj ho.symm
      clear ho
      have ev34 : FA.eval (.tmp 34) = .int .u64 (ln : Int) := hD 4 34 (by kernel_rfl)
      have e34 : FA.tmps[34]?.getD undef = .int .u64 (ln : Int) := by simpa [Act.eval] using ev34
      replace ev34 := Lib.hid ev34
      clear hO hD
      rw [if_pos (by decide)]
      refine ⟨.int .i64 (ln : Int), .inl ⟨by simp [Region.wanted], fun w => ?_⟩, rfl⟩
      go_simp
    | 6, _, ho, hO, hD => 
      obtain rfl := Option.some.inj ho.symm
      clear ho
      have ev0 : FA.eval (.tmp 0) = .slice (some ⟨b, off, none⟩) n c := hO 0 (by kernel_rfl)
      have e0 : FA.tmps[0]?.getD undef = .slice (some ⟨b, off, none⟩) n c := by simpa [Act.eval] using ev0
      replace ev0 := Lib.hid ev0
      clear hO hD
      rw [if_pos (by decide)]
      refine ⟨.slice (some ⟨b, off, none⟩) n c, .inl ⟨by simp [Region.wanted], fun w => ?_⟩, rfl⟩
      go_simp
    | 7, _, ho, hO, hD => 
      obtain rfl := Option.some.inj ho.symm
      clear ho
      have ev36 : FA.eval (.tmp 36) = .slice (some ⟨b, off, none⟩) n c := hD 6 36 (by kernel_rfl)
      have e36 : FA.tmps[36]?.getD undef = .slice (some ⟨b, off, none⟩) n c := by simpa [Act.eval] using ev36
      replace ev36 := Lib.hid ev36
      clear hO hD
      rw [if_neg (by decide)]
      intro K hK
      go_simp
      refine (refGetV _ n c l _ _ 4 2 id _ ((h.alloc _).plus_ _ _) rfl rfl x3.out (by omega) (by omega) (by omega)).mono ?_
      rintro e w1 ⟨rfl, rfl⟩
      exact hK.out _ _ (Ex.refl _) rfl
    | 8, _, ho, hO, hD => 
      obtain rfl := Option.some.inj ho.symm
      clear ho
      have ev37 : FA.eval (.tmp 37) = .int .u64 (id : Int) := hD 7 37 (by kernel_rfl)
      have e37 : FA.tmps[37]?.getD undef = .int .u64 (id : Int) := by simpa [Act.eval] using ev37
      replace ev37 := Lib.hid ev37
      clear hO hD
      rw [if_pos (by decide)]
      refine ⟨.int .u16 (id : Int), .inl ⟨by simp [Region.wanted], fun w => ?_⟩, rfl⟩
      go_simp
    | 9, _, ho, hO, hD => 
      obtain rfl := Option.some.inj ho.symm
      clear ho
      have ev6 : FA.eval (.tmp 6) = .int .u64 (pl : Int) := hO 6 (by kernel_rfl)
      have e6 : FA.tmps[6]?.getD undef = .int .u64 (pl : Int) := by simpa [Act.eval] using ev6
      replace ev6 := Lib.hid ev6
      clear hO hD
      rw [if_pos (by decide)]
      refine ⟨.int .u64 (pl : Int), .inl ⟨by simp [Region.wanted], fun w => ?_⟩, rfl⟩
      go_simp
    | 10, _, ho, hO, hD => 
      obtain rfl := Option.some.inj ho.symm
      clear ho
      have ev39 : FA.eval (.tmp 39) = .int .u64 (pl : Int) := hD 9 39 (by kernel_rfl)
      have e39 : FA.tmps[39]?.getD undef = .int .u64 (pl : Int) := by simpa [Act.eval] using ev39
      replace ev39 := Lib.hid ev39
      clear hO hD
      rw [if_pos (by decide)]
      refine ⟨.int .u64 (za : Int), .inl ⟨by simp [Region.wanted], fun w => ?_⟩, rfl⟩
      go_simp
    | 11, _, ho, hO, hD => 
      obtain rfl := Option.some.inj ho.symm
      clear ho
      have ev40 : FA.eval (.tmp 40) = .int .u64 (za : Int) := hD 10 40 (by kernel_rfl)
      have e40 : FA.tmps[40]?.getD undef = .int .u64 (za : Int) := by simpa [Act.eval] using ev40
      replace ev40 := Lib.hid ev40
      clear hO hD
      rw [if_pos (by decide)]
      refine ⟨.int .u64 (zb : Int), .inl ⟨by simp [Region.wanted], fun w => ?_⟩, rfl⟩
      go_simp
    | 12, _, ho, hO, hD => 
      obtain rfl := Option.some.inj ho.symm
      clear ho
      have ev41 : FA.eval (.tmp 41) = .int .u64 (zb : Int) := hD 11 41 (by kernel_rfl)
      have e41 : FA.tmps[41]?.getD undef = .int .u64 (zb : Int) := by simpa [Act.eval] using ev41
      replace ev41 := Lib.hid ev41
      clear hO hD
      rw [if_pos (by decide)]
      refine ⟨.bool st, .inl ⟨by simp [Region.wanted], fun w => ?_⟩, rfl⟩
      go_simp
    | 13, _, ho, hO, hD => 
      obtain rfl := Option.some.inj ho.symm
      clear ho
      have ev6 : FA.eval (.tmp 6) = .int .u64 (pl : Int) := hO 6 (by kernel_rfl)
      have e6 : FA.tmps[6]?.getD undef = .int .u64 (pl : Int) := by simpa [Act.eval] using ev6
      replace ev6 := Lib.hid ev6
      clear hO hD
      rw [if_pos (by decide)]
      refine ⟨.int .u64 (pl : Int), .inl ⟨by simp [Region.wanted], fun w => ?_⟩, rfl⟩
      go_simp
    | 14, _, ho, hO, hD => 
      obtain rfl := Option.some.inj ho.symm
      clear ho
      have ev43 : FA.eval (.tmp 43) = .int .u64 (pl : Int) := hD 13 43 (by kernel_rfl)
      have e43 : FA.tmps[43]?.getD undef = .int .u64 (pl : Int) := by simpa [Act.eval] using ev43
      replace ev43 := Lib.hid ev43
      clear hO hD
      rw [if_pos (by decide)]
      refine ⟨.int .u64 (zc : Int), .inl ⟨by simp [Region.wanted], fun w => ?_⟩, rfl⟩
      go_simp
    | 15, _, ho, hO, hD => 
      obtain rfl := Option.some.inj ho.symm
      clear ho
      have ev44 : FA.eval (.tmp 44) = .int .u64 (zc : Int) := hD 14 44 (by kernel_rfl)
      have e44 : FA.tmps[44]?.getD undef = .int .u64 (zc : Int) := by simpa [Act.eval] using ev44
      replace ev44 := Lib.hid ev44
      clear hO hD
      rw [if_pos (by decide)]
      refine ⟨.int .u64 (zd : Int), .inl ⟨by simp [Region.wanted], fun w => ?_⟩, rfl⟩
      go_simp
    | 16, _, ho, hO, hD => 
      obtain rfl := Option.some.inj ho.symm
      clear ho
      have ev45 : FA.eval (.tmp 45) = .int .u64 (zd : Int) := hD 15 45 (by kernel_rfl)
      have e45 : FA.tmps[45]?.getD undef = .int .u64 (zd : Int) := by simpa [Act.eval] using ev45
      replace ev45 := Lib.hid ev45
      clear hO hD
      rw [if_pos (by decide)]
      refine ⟨.bool mo, .inl ⟨by simp [Region.wanted], fun w => ?_⟩, rfl⟩
      go_simp
    | 17, _, ho, hO, hD => 
      obtain rfl := Option.some.inj ho.symm
      clear ho
      have ev6 : FA.eval (.tmp 6) = .int .u64 (pl : Int) := hO 6 (by kernel_rfl)
      have e6 : FA.tmps[6]?.getD undef = .int .u64 (pl : Int) := by simpa [Act.eval] using ev6
      replace ev6 := Lib.hid ev6
      clear hO hD
      rw [if_pos (by decide)]
      refine ⟨.int .u64 (pl : Int), .inl ⟨by simp [Region.wanted], fun w => ?_⟩, rfl⟩
      go_simp
    | 18, _, ho, hO, hD => 
      obtain rfl := Option.some.inj ho.symm
      clear ho
      have ev47 : FA.eval (.tmp 47) = .int .u64 (pl : Int) := hD 17 47 (by kernel_rfl)
      have e47 : FA.tmps[47]?.getD undef = .int .u64 (pl : Int) := by simpa [Act.eval] using ev47
      replace ev47 := Lib.hid ev47
      clear hO hD
      rw [if_pos (by decide)]
      refine ⟨.int .u64 (fo : Int), .inl ⟨by simp [Region.wanted], fun w => ?_⟩, rfl⟩
      go_simp
    | 19, _, ho, hO, hD => 
      obtain rfl := Option.some.inj ho.symm
      clear ho
      have ev48 : FA.eval (.tmp 48) = .int .u64 (fo : Int) := hD 18 48 (by kernel_rfl)
      have e48 : FA.tmps[48]?.getD undef = .int .u64 (fo : Int) := by simpa [Act.eval] using ev48
      replace ev48 := Lib.hid ev48
      clear hO hD
      rw [if_pos (by decide)]
      refine ⟨.int .i64 (fo : Int), .inl ⟨by simp [Region.wanted], fun w => ?_⟩, rfl⟩
      go_simp
    | 20, _, ho, hO, hD => 
      obtain rfl := Option.some.inj ho.symm
      clear ho
      have ev0 : FA.eval (.tmp 0) = .slice (some ⟨b, off, none⟩) n c := hO 0 (by kernel_rfl)
      have e0 : FA.tmps[0]?.getD undef = .slice (some ⟨b, off, none⟩) n c := by simpa [Act.eval] using ev0
      replace ev0 := Lib.hid ev0
      clear hO hD
      rw [if_pos (by decide)]
      refine ⟨.slice (some ⟨b, off, none⟩) n c, .inl ⟨by simp [Region.wanted], fun w => ?_⟩, rfl⟩
      go_simp
    | 21, _, ho, hO, hD => 
      obtain rfl := Option.some.inj ho.symm
      clear ho
      have ev50 : FA.eval (.tmp 50) = .slice (some ⟨b, off, none⟩) n c := hD 20 50 (by kernel_rfl)
      have e50 : FA.tmps[50]?.getD undef = .slice (some ⟨b, off, none⟩) n c := by simpa [Act.eval] using ev50
      replace ev50 := Lib.hid ev50
      clear hO hD
      rw [if_neg (by decide)]
      intro K hK
      go_simp
      exact hK.out _ _ (Ex.refl _) rfl
    | 22, _, ho, hO, hD => 
      obtain rfl := Option.some.inj ho.symm
      clear ho
      have ev51 : FA.eval (.tmp 51) = .pointer (some ⟨b, off + 8, none⟩) := hD 21 51 (by kernel_rfl)
      have e51 : FA.tmps[51]?.getD undef = .pointer (some ⟨b, off + 8, none⟩) := by simpa [Act.eval] using ev51
      replace ev51 := Lib.hid ev51
      clear hO hD
      rw [if_neg (by decide)]
      intro K hK
      go_simp
      exact hK.out _ _ (Ex.refl _) rfl
    | 23, _, ho, hO, hD => 
      obtain rfl := Option.some.inj ho.symm
      clear ho
      have ev0 : FA.eval (.tmp 0) = .slice (some ⟨b, off, none⟩) n c := hO 0 (by kernel_rfl)
      have e0 : FA.tmps[0]?.getD undef = .slice (some ⟨b, off, none⟩) n c := by simpa [Act.eval] using ev0
      replace ev0 := Lib.hid ev0
      clear hO hD
      rw [if_pos (by decide)]
      refine ⟨.slice (some ⟨b, off, none⟩) n c, .inl ⟨by simp [Region.wanted], fun w => ?_⟩, rfl⟩
      go_simp
    | 24, _, ho, hO, hD => 
      obtain rfl := Option.some.inj ho.symm
      clear ho
      have ev53 : FA.eval (.tmp 53) = .slice (some ⟨b, off, none⟩) n c := hD 23 53 (by kernel_rfl)
      have e53 : FA.tmps[53]?.getD undef = .slice (some ⟨b, off, none⟩) n c := by simpa [Act.eval] using ev53
      replace ev53 := Lib.hid ev53
      clear hO hD
      rw [if_neg (by decide)]
      intro K hK
      go_simp
      exact hK.out _ _ (Ex.refl _) rfl
    | 25, _, ho, hO, hD => 
      obtain rfl := Option.some.inj ho.symm
      clear ho
      have ev54 : FA.eval (.tmp 54) = .pointer (some ⟨b, off + 9, none⟩) := hD 24 54 (by kernel_rfl)
      have e54 : FA.tmps[54]?.getD undef = .pointer (some ⟨b, off + 9, none⟩) := by simpa [Act.eval] using ev54
      replace ev54 := Lib.hid ev54
      clear hO hD
      rw [if_neg (by decide)]
      intro K hK
      go_simp
      exact hK.out _ _ (Ex.refl _) rfl
    | 26, _, ho, hO, hD => 
      obtain rfl := Option.some.inj ho.symm
      clear ho
      have ev0 : FA.eval (.tmp 0) = .slice (some ⟨b, off, none⟩) n c := hO 0 (by kernel_rfl)
      have e0 : FA.tmps[0]?.getD undef = .slice (some ⟨b, off, none⟩) n c := by simpa [Act.eval] using ev0
      replace ev0 := Lib.hid ev0
      clear hO hD
      rw [if_pos (by decide)]
      refine ⟨.slice (some ⟨b, off, none⟩) n c, .inl ⟨by simp [Region.wanted], fun w => ?_⟩, rfl⟩
      go_simp
    | 27, _, ho, hO, hD => 
      obtain rfl := Option.some.inj ho.symm
      clear ho
      have ev56 : FA.eval (.tmp 56) = .slice (some ⟨b, off, none⟩) n c := hD 26 56 (by kernel_rfl)
      have e56 : FA.tmps[56]?.getD undef = .slice (some ⟨b, off, none⟩) n c := by simpa [Act.eval] using ev56
      replace ev56 := Lib.hid ev56
      clear hO hD
      rw [if_neg (by decide)]
      intro K hK
      go_simp
      refine (refGetV _ n c l _ _ 10 2 sm _ ((h.alloc _).plus_ _ _) rfl rfl x7.out (by omega) (by omega) (by omega)).mono ?_
      rintro e w1 ⟨rfl, rfl⟩
      exact hK.out _ _ (Ex.refl _) rfl
    | 28, _, ho, hO, hD => 
      obtain rfl := Option.some.inj ho.symm
      clear ho
      have ev57 : FA.eval (.tmp 57) = .int .u64 (sm : Int) := hD 27 57 (by kernel_rfl)
      have e57 : FA.tmps[57]?.getD undef = .int .u64 (sm : Int) := by simpa [Act.eval] using ev57
      replace ev57 := Lib.hid ev57
      clear hO hD
      rw [if_pos (by decide)]
      refine ⟨.int .u16 (sm : Int), .inl ⟨by simp [Region.wanted], fun w => ?_⟩, rfl⟩
      go_simp
    | 29, _, ho, hO, hD => 
      obtain rfl := Option.some.inj ho.symm
      clear ho
      have ev32 : FA.eval (.tmp 32) = .int .u8 (ts : Int) := hD 2 32 (by kernel_rfl)
      have e32 : FA.tmps[32]?.getD undef = .int .u8 (ts : Int) := by simpa [Act.eval] using ev32
      replace ev32 := Lib.hid ev32
      have ev35 : FA.eval (.tmp 35) = .int .i64 (ln : Int) := hD 5 35 (by kernel_rfl)
      have e35 : FA.tmps[35]?.getD undef = .int .i64 (ln : Int) := by simpa [Act.eval] using ev35
      replace ev35 := Lib.hid ev35
      have ev38 : FA.eval (.tmp 38) = .int .u16 (id : Int) := hD 8 38 (by kernel_rfl)
      have e38 : FA.tmps[38]?.getD undef = .int .u16 (id : Int) := by simpa [Act.eval] using ev38
      replace ev38 := Lib.hid ev38
      have ev42 : FA.eval (.tmp 42) = .bool st := hD 12 42 (by kernel_rfl)
      have e42 : FA.tmps[42]?.getD undef = .bool st := by simpa [Act.eval] using ev42
      replace ev42 := Lib.hid ev42
      have ev46 : FA.eval (.tmp 46) = .bool mo := hD 16 46 (by kernel_rfl)
      have e46 : FA.tmps[46]?.getD undef = .bool mo := by simpa [Act.eval] using ev46
      replace ev46 := Lib.hid ev46
      have ev49 : FA.eval (.tmp 49) = .int .i64 (fo : Int) := hD 19 49 (by kernel_rfl)
      have e49 : FA.tmps[49]?.getD undef = .int .i64 (fo : Int) := by simpa [Act.eval] using ev49
      replace ev49 := Lib.hid ev49
      have ev52 : FA.eval (.tmp 52) = .int .u8 (tl : Int) := hD 22 52 (by kernel_rfl)
      have e52 : FA.tmps[52]?.getD undef = .int .u8 (tl : Int) := by simpa [Act.eval] using ev52
      replace ev52 := Lib.hid ev52
      have ev55 : FA.eval (.tmp 55) = .int .u8 (pr : Int) := hD 25 55 (by kernel_rfl)
      have e55 : FA.tmps[55]?.getD undef = .int .u8 (pr : Int) := by simpa [Act.eval] using ev55
      replace ev55 := Lib.hid ev55
      have ev58 : FA.eval (.tmp 58) = .int .u16 (sm : Int) := hD 28 58 (by kernel_rfl)
      have e58 : FA.tmps[58]?.getD undef = .int .u16 (sm : Int) := by simpa [Act.eval] using ev58
      replace ev58 := Lib.hid ev58
      clear hO hD
      rw [if_neg (by decide)]
      intro K hK
      go_simp
      exact hK.out _ _ (Ex.refl _) rfl
    | 30, _, ho, hO, hD => 
      obtain rfl := Option.some.inj ho.symm
      clear ho
      clear hO hD
      rw [if_neg (by decide)]
      intro K hK
      go_simp
      refine hK.out _ _ (Ex.alloc _ _) ⟨_, rfl, ?_, ?_⟩
      · simp [size_plus]
      · refine Bk.newK _ _ _ ?_ rfl
        simp [size_plus]
    | (k + 31), hi, _, _, _ => exact absurd hi (by omega)
  intro vs x hp
  have p0 : vs 0 = .slice (some ⟨b, off, none⟩) n c := hp 0 (by omega)
  have p1 : vs 1 = .pointer (some ⟨b, off + 1, none⟩) := hp 1 (by omega)
  have p2 : vs 2 = .int .u8 (ts : Int) := hp 2 (by omega)
  have p3 : vs 3 = .slice (some ⟨b, off, none⟩) n c := hp 3 (by omega)
  have p4 : vs 4 = .int .u64 (ln : Int) := hp 4 (by omega)
  have p5 : vs 5 = .int .i64 (ln : Int) := hp 5 (by omega)
  have p6 : vs 6 = .slice (some ⟨b, off, none⟩) n c := hp 6 (by omega)
  have p7 : vs 7 = .int .u64 (id : Int) := hp 7 (by omega)
  have p8 : vs 8 = .int .u16 (id : Int) := hp 8 (by omega)
  have p9 : vs 9 = .int .u64 (pl : Int) := hp 9 (by omega)
  have p10 : vs 10 = .int .u64 (za : Int) := hp 10 (by omega)
  have p11 : vs 11 = .int .u64 (zb : Int) := hp 11 (by omega)
  have p12 : vs 12 = .bool st := hp 12 (by omega)
  have p13 : vs 13 = .int .u64 (pl : Int) := hp 13 (by omega)
  have p14 : vs 14 = .int .u64 (zc : Int) := hp 14 (by omega)
  have p15 : vs 15 = .int .u64 (zd : Int) := hp 15 (by omega)
  have p16 : vs 16 = .bool mo := hp 16 (by omega)
  have p17 : vs 17 = .int .u64 (pl : Int) := hp 17 (by omega)
  have p18 : vs 18 = .int .u64 (fo : Int) := hp 18 (by omega)
  have p19 : vs 19 = .int .i64 (fo : Int) := hp 19 (by omega)
  have p20 : vs 20 = .slice (some ⟨b, off, none⟩) n c := hp 20 (by omega)
  have p21 : vs 21 = .pointer (some ⟨b, off + 8, none⟩) := hp 21 (by omega)
  have p22 : vs 22 = .int .u8 (tl : Int) := hp 22 (by omega)
  have p23 : vs 23 = .slice (some ⟨b, off, none⟩) n c := hp 23 (by omega)
  have p24 : vs 24 = .pointer (some ⟨b, off + 9, none⟩) := hp 24 (by omega)
  have p25 : vs 25 = .int .u8 (pr : Int) := hp 25 (by omega)
  have p26 : vs 26 = .slice (some ⟨b, off, none⟩) n c := hp 26 (by omega)
  have p27 : vs 27 = .int .u64 (sm : Int) := hp 27 (by omega)
  have p28 : vs 28 = .int .u16 (sm : Int) := hp 28 (by omega)
  have p29 : vs 29 = .agg #[.int .u8 (ts : Int), .int .i64 (ln : Int), .int .u16 (id : Int), .bool st, .bool mo, .int .i64 (fo : Int), .int .u8 (tl : Int), .int .u8 (pr : Int), .int .u16 (sm : Int), .bool false, .int .u64 0, .int .u64 0, .bool false, .int .u64 0, .int .u64 0, .slice none 0 0] := hp 29 (by omega)
  have p30 := hp 30 (by omega)
  clear hp
  simp only [List.take_succ_cons, List.take_zero, List.drop_succ_cons, List.drop_zero, putAll, Nat.zero_add, Nat.reduceAdd, Act.put, List.setIfInBounds_toArray, List.set_cons_zero, List.set_cons_succ, p0, p1, p2, p3, p4, p5, p6, p7, p8, p9, p10, p11, p12, p13, p14, p15, p16, p17, p18, p19, p20, p21, p22, p23, p24, p25, p26, p27, p28, p29]
  clear p0 p1 p2 p3 p4 p5 p6 p7 p8 p9 p10 p11 p12 p13 p14 p15 p16 p17 p18 p19 p20 p21 p22 p23 p24 p25 p26 p27 p28 p29
  generalize vs 30 = y30 at *
  clear vs
  obtain ⟨g, rfl, hgw, hb⟩ := p30
  go_upto_region 8 with (refine at_op (.store 184 (.tmp 7) (.tmp 59)) rfl ?_; refine wpList_stA (t := 184) 184 (.tmp 7) (.tmp 59) rfl rfl ([.int .u8 (ts : Int), .int .i64 (ln : Int), .int .u16 (id : Int), .bool st, .bool mo, .int .i64 (fo : Int), .int .u8 (tl : Int), .int .u8 (pr : Int), .int .u16 (sm : Int), .bool false, .int .u64 0, .int .u64 0, .bool false, .int .u64 0, .int .u64 0, .slice none 0 0]) (h4C 0 0 0 false false 0 0 0 0 false 0 0 false 0 0 none 0 0) rfl (by simp [Value.oneCell']) rfl rfl hb (by kernel_rfl) ?_; intro w3 hX hg3)
  replace hZ := (hZ.later (below_plus _ x.bs x.d)).grown hg3 (by simp; omega)
  replace be := below_grown (belowP be x.bs x.d) hg3 (by omega)
  clear hg3 hb
  refine NoPanic.normal ?_
  go_wp2_with fail
  refine (refGetV _ n c l _ _ 12 4 sa _ (h.later be) rfl rfl x8.out (by omega) (by omega) (by omega)).mono ?_
  rintro e w1 ⟨rfl, rfl⟩
  have zx := hX.lt
  go_upto_region 9 with (refine at_op (.store 26 (.tmp 63) (.tmp 62)) rfl ?_; refine wpList_stM (t := 184) 26 (.tmp 63) (.tmp 62) rfl rfl (adC false 0 sa) _ (by simp [adC]) (adC_one _ _ _) rfl rfl hX (szAd _ _ _) ?_; intro w4 hX2 hg)
  simp only [splice, adC, List.take_succ_cons, List.take_zero, List.drop_succ_cons, List.drop_zero, List.length_cons, List.length_nil, Nat.zero_add, Nat.reduceAdd, List.cons_append, List.nil_append] at hX2
  replace hZ := hZ.grown hg (by simp; omega)
  replace be := below_grown be hg (by omega)
  clear hX hg zx
  have hX := hX2
  clear hX2
  go_wp2_with fail
  refine (refGetV _ n c l _ _ 16 4 da _ (h.later be) rfl rfl x9.out (by omega) (by omega) (by omega)).mono ?_
  rintro e w1 ⟨rfl, rfl⟩
  have zx := hX.lt
  go_upto_region 10 with (refine at_op (.store 26 (.tmp 67) (.tmp 66)) rfl ?_; refine wpList_stM (t := 184) 26 (.tmp 67) (.tmp 66) rfl rfl (adC false 0 da) _ (by simp [adC]) (adC_one _ _ _) rfl rfl hX (szAd _ _ _) ?_; intro w5 hX2 hg)
  simp only [splice, adC, List.take_succ_cons, List.take_zero, List.drop_succ_cons, List.drop_zero, List.length_cons, List.length_nil, Nat.zero_add, Nat.reduceAdd, List.cons_append, List.nil_append] at hX2
  replace hZ := hZ.grown hg (by simp; omega)
  replace be := below_grown be hg (by omega)
  clear hX hg zx
  have hX := hX2
  clear hX2
  have yl : w5.cell? ⟨g, 1, none⟩ = some (.int .i64 (ln : Int)) := hX.cell 1
  have zx := hX.lt
  go_wp2_with (refine at_op (.store 184 (.tmp 2) (.tmp 76)) rfl ?_; refine wpList_stA (t := 184) 184 (.tmp 2) (.tmp 76) rfl rfl (h4C 0 0 0 false false 0 0 0 0 false 0 0 false 0 0 none 0 0) (h4C 0 0 0 false false 0 0 0 0 false 0 0 false 0 0 none 0 0) rfl (h4C_one _ _ _ _ _ _ _ _ _ _ _ _ _ _ _ _ _ _) rfl rfl hZ (szR4 _ _ _ _ _ _ _ _ _ _ _ _ _ _ _ _ _ _) ?_; intro W9 h9 g9)
  refine bodyPost_agg3 Try.results78 rfl rfl rfl h9.range u1 u2 (szR4 _ _ _ _ _ _ _ _ _ _ _ _ _ _ _ _ _ _) rfl (RetV.mk ?_)
  exact below_grown be g9 (by omega)
set_option maxHeartbeats 4000000 in
set_option maxRecDepth 100000 in
theorem refP4_f4 (A : Option Addr) (n c : Nat) (l : List UInt8) (w : World) (h : Rb w A n c l) (hm9 : n ≤ 1000000) (f ts ln id pl tl pr sm sa da : Nat) (st mo : Bool) (x0 : num ((l.drop 0).take 1) = f) (x1 : num ((l.drop 1).take 1) = ts) (x2 : num ((l.drop 2).take 2) = ln) (x3 : num ((l.drop 4).take 2) = id) (x4 : num ((l.drop 6).take 2) = pl) (x5 : num ((l.drop 8).take 1) = tl) (x6 : num ((l.drop 9).take 1) = pr) (x7 : num ((l.drop 10).take 2) = sm) (x8 : num ((l.drop 12).take 4) = sa) (x9 : num ((l.drop 16).take 4) = da) (hst : (pl / 16384 % 2 == 1) = st) (hmo : (pl / 8192 % 2 == 1) = mo) (hn : 20 ≤ n) (hb : f / 16 = 4) (hs : 20 ≤ 4 * (f % 16)) (hp9 : pl < 32768) (hl9 : ln < 4 * (f % 16)) : Calls Try.prog 78 #[.slice A n c] w (RetV w (.tuple #[.agg (h4C 0 0 0 false false 0 0 0 0 false 0 0 false 0 0 none 0 0).toArray, .slice none 0 0, .int .i64 21])) := by
  obtain ⟨du, u1, u2⟩ := rowR4
  have hc := h.2.1
  have hl := h.1
  have d20 : decide ((n : Int) < 20) = false := by simp only [decide_eq_false_iff_not]; omega
  have hf8 : f < 256 := by rw [← x0]; exact num_lt' l 0 1 256 (by decide)
  have hpl : pl < 65536 := by rw [← x4]; exact num_lt' l 6 2 65536 (by decide)
  have hln : ln < 65536 := by rw [← x2]; exact num_lt' l 2 2 65536 (by decide)
  have hid : id < 65536 := by rw [← x3]; exact num_lt' l 4 2 65536 (by decide)
  have hsm : sm < 65536 := by rw [← x7]; exact num_lt' l 10 2 65536 (by decide)
  obtain ⟨b, off, rfl, hbl, hcell⟩ := h.2.2.at_ (by rw [bcs_length, h.1]; omega)
  have y0 := num_cell hcell 0 (by rw [h.1]; omega)
  have y1 := num_cell hcell 1 (by rw [h.1]; omega)
  have y8 := num_cell hcell 8 (by rw [h.1]; omega)
  have y9 := num_cell hcell 9 (by rw [h.1]; omega)
  rw [x0] at y0
  rw [x1] at y1
  rw [x5] at y8
  rw [x6] at y9
  have i0 : (0 : Int) < (n : Int) := by omega
  have i1 : (1 : Int) < (n : Int) := by omega
  have i8 : (8 : Int) < (n : Int) := by omega
  have i9 : (9 : Int) < (n : Int) := by omega
  rw [Nat.add_zero] at y0
  clear hcell x0 x1 x5 x6
  obtain ⟨m, hm⟩ : ∃ m : Nat, m = f % 16 := ⟨_, rfl⟩
  have e1 : (f : Int) % 16 = (m : Int) := by omega
  obtain ⟨sz, hsz⟩ : ∃ s : Nat, s = 4 * m := ⟨_, rfl⟩
  have e2 : IntKind.i64.wrap ((m : Int) * 4) = (sz : Int) := by rw [IntWalk.i64_in _ (by omega)]; omega
  have e3 : IntKind.i64.wrap (m : Int) = (m : Int) := IntWalk.i64_in _ (by omega)
  replace x2 := Lib.hid x2
  replace x3 := Lib.hid x3
  replace x4 := Lib.hid x4
  replace x7 := Lib.hid x7
  replace x8 := Lib.hid x8
  replace x9 := Lib.hid x9
  have hb1 : (f : Int) / 16 = 4 := by omega
  have hb1n : ((f : Int) / 16 != 4) = false := by rw [hb1]; rfl
  have qd2 : decide ((sz : Int) < 20) = false := by simp only [decide_eq_false_iff_not]; omega
  have qd3 : decide (sz < 20) = false := by simp only [decide_eq_false_iff_not]; omega
  have qd6 : decide (32767 < (pl : Int)) = false := by simp only [decide_eq_false_iff_not]; omega
  have qd7 : decide (32767 < pl) = false := by simp only [decide_eq_false_iff_not]; omega
  have qd8 : decide ((ln : Int) < (sz : Int)) = true := by simp only [decide_eq_true_eq]; omega
  have qd9 : decide (ln < sz) = true := by simp only [decide_eq_true_eq]; omega
  obtain ⟨za, hza⟩ : ∃ p : Nat, p = pl / 16384 := ⟨_, rfl⟩
  obtain ⟨zb, hzb⟩ : ∃ p : Nat, p = za % 2 := ⟨_, rfl⟩
  obtain ⟨zc, hzc⟩ : ∃ p : Nat, p = pl / 8192 := ⟨_, rfl⟩
  obtain ⟨zd, hzd⟩ : ∃ p : Nat, p = zc % 2 := ⟨_, rfl⟩
  obtain ⟨fo, hfo⟩ : ∃ p : Nat, p = pl % 8192 := ⟨_, rfl⟩
  have v1 : (pl : Int) / 16384 = (za : Int) := by omega
  have v2 : (za : Int) % 2 = (zb : Int) := by omega
  have v3 : ((zb : Int) == 1) = st := by rw [← hst, ← hza, ← hzb, Bool.eq_iff_iff, beq_iff_eq, beq_iff_eq]; omega
  have v4 : (pl : Int) / 8192 = (zc : Int) := by omega
  have v5 : (zc : Int) % 2 = (zd : Int) := by omega
  have v6 : ((zd : Int) == 1) = mo := by rw [← hmo, ← hzc, ← hzd, Bool.eq_iff_iff, beq_iff_eq, beq_iff_eq]; omega
  have v7 : (pl : Int) % 8192 = (fo : Int) := by omega
  have hfo2 : fo < 8192 := by omega
  have m1 : (za : Int).tmod 2 = (zb : Int) := by rw [Int.tmod_eq_emod_of_nonneg (by omega)]; omega
  have m2 : (zc : Int).tmod 2 = (zd : Int) := by rw [Int.tmod_eq_emod_of_nonneg (by omega)]; omega
  have m3 : (pl : Int).tmod 8192 = (fo : Int) := by rw [Int.tmod_eq_emod_of_nonneg (by omega)]; omega
  have wp1 : IntKind.u64.wrap (za : Int) = (za : Int) := IntWalk.u64_in _ (by omega)
  have wp2 : IntKind.u64.wrap (zb : Int) = (zb : Int) := IntWalk.u64_in _ (by omega)
  have wp3 : IntKind.u64.wrap (zc : Int) = (zc : Int) := IntWalk.u64_in _ (by omega)
  have wp4 : IntKind.u64.wrap (zd : Int) = (zd : Int) := IntWalk.u64_in _ (by omega)
  have wfo : IntKind.u64.wrap (fo : Int) = (fo : Int) := IntWalk.u64_in _ (by omega)
  have v8 : IntKind.i64.wrap (fo : Int) = (fo : Int) := IntWalk.i64_in _ (by omega)
  have v9 : IntKind.i64.wrap (ln : Int) = (ln : Int) := IntWalk.i64_in _ (by omega)
  have va : IntKind.u16.wrap (id : Int) = (id : Int) := IntWalk.u16_in _ (by omega)
  have vb : IntKind.u16.wrap (sm : Int) = (sm : Int) := IntWalk.u16_in _ (by omega)
  clear hza hzb hzc hzd hfo hst hmo
  clear hm hsz hb1
  have hZ : Bk (w.alloc (.cells #[.int .u8 0, .int .i64 0, .int .u16 0, .bool false, .bool false, .int .i64 0, .int .u8 0, .int .u8 0, .int .u16 0, .bool false, .int .u64 0, .int .u64 0, .bool false, .int .u64 0, .int .u64 0, .slice none 0 0] 184)) w.heap.size 184 (h4C 0 0 0 false false 0 0 0 0 false 0 0 false 0 0 none 0 0) := Bk.new w 184 #[.int .u8 0, .int .i64 0, .int .u16 0, .bool false, .bool false, .int .i64 0, .int .u8 0, .int .u8 0, .int .u16 0, .bool false, .int .u64 0, .int .u64 0, .bool false, .int .u64 0, .int .u64 0, .slice none 0 0]
  have be : Below w.heap.size w (w.alloc (.cells #[.int .u8 0, .int .i64 0, .int .u16 0, .bool false, .bool false, .int .i64 0, .int .u8 0, .int .u8 0, .int .u16 0, .bool false, .int .u64 0, .int .u64 0, .bool false, .int .u64 0, .int .u64 0, .slice none 0 0] 184)) := Below.allocS (Below.refl _ _) _
  go_enter Try.func78, Try.ntmps78
  go_wp2_with fail
  refine (refGetV _ n c l _ _ 6 2 pl _ (h.alloc _) rfl rfl x4.out (by omega) (by omega) (by omega)).mono ?_
  rintro e w1 ⟨rfl, rfl⟩
  go_upto_region 7 with (fail)
  go_wp2
  refine wp_relE 31 103 [0, 3, 5, 6, 8, 9, 10, 11, 12, 13, 14, 15, 16, 17, 18, 19, 20, 23, 26, 28] rfl (by kernel_rfl) (by kernel_rfl) (fun i => match i with | 0 => MP.eq (.slice (some ⟨b, off, none⟩) n c) | 1 => MP.eq (.pointer (some ⟨b, off + 1, none⟩)) | 2 => MP.eq (.int .u8 (ts : Int)) | 3 => MP.eq (.slice (some ⟨b, off, none⟩) n c) | 4 => MP.eq (.int .u64 (ln : Int)) | 5 => MP.eq (.int .i64 (ln : Int)) | 6 => MP.eq (.slice (some ⟨b, off, none⟩) n c) | 7 => MP.eq (.int .u64 (id : Int)) | 8 => MP.eq (.int .u16 (id : Int)) | 9 => MP.eq (.int .u64 (pl : Int)) | 10 => MP.eq (.int .u64 (za : Int)) | 11 => MP.eq (.int .u64 (zb : Int)) | 12 => MP.eq (.bool st) | 13 => MP.eq (.int .u64 (pl : Int)) | 14 => MP.eq (.int .u64 (zc : Int)) | 15 => MP.eq (.int .u64 (zd : Int)) | 16 => MP.eq (.bool mo) | 17 => MP.eq (.int .u64 (pl : Int)) | 18 => MP.eq (.int .u64 (fo : Int)) | 19 => MP.eq (.int .i64 (fo : Int)) | 20 => MP.eq (.slice (some ⟨b, off, none⟩) n c) | 21 => MP.eq (.pointer (some ⟨b, off + 8, none⟩)) | 22 => MP.eq (.int .u8 (tl : Int)) | 23 => MP.eq (.slice (some ⟨b, off, none⟩) n c) | 24 => MP.eq (.pointer (some ⟨b, off + 9, none⟩)) | 25 => MP.eq (.int .u8 (pr : Int)) | 26 => MP.eq (.slice (some ⟨b, off, none⟩) n c) | 27 => MP.eq (.int .u64 (sm : Int)) | 28 => MP.eq (.int .u16 (sm : Int)) | 29 => MP.eq (.agg #[.int .u8 (ts : Int), .int .i64 (ln : Int), .int .u16 (id : Int), .bool st, .bool mo, .int .i64 (fo : Int), .int .u8 (tl : Int), .int .u8 (pr : Int), .int .u16 (sm : Int), .bool false, .int .u64 0, .int .u64 0, .bool false, .int .u64 0, .int .u64 0, .slice none 0 0]) | 30 => MP.blk (w.heap.size + 1) 184 (h4C 0 0 0 false false 0 0 0 0 false 0 0 false 0 0 none 0 0) | _ => MP.any) ?_ ?_
  · intro i hi o ho FA x hO hD
    match i, hi, ho, hO, hD with
    | 0, _, ho, hO, hD => 
      obtain rfl := Option.some.inj ho.symm
      clear ho
      have ev0 : FA.eval (.tmp 0) = .slice (some ⟨b, off, none⟩) n c := hO 0 (by kernel_rfl)
      have e0 : FA.tmps[0]?.getD undef = .slice (some ⟨b, off, none⟩) n c := by simpa [Act.eval] using ev0
      replace ev0 := Lib.hid ev0
      clear hO hD
      rw [if_pos (by decide)]
      refine ⟨.slice (some ⟨b, off, none⟩) n c, .inl ⟨by simp [Region.wanted], fun w => ?_⟩, rfl⟩
      go_simp
    | 1, _, ho, hO, hD => 
      obtain rfl := Option.some.inj ho.symm
      clear ho
      have ev30 : FA.eval (.tmp 30) = .slice (some ⟨b, off, none⟩) n c := hD 0 30 (by kernel_rfl)
      have e30 : FA.tmps[30]?.getD undef = .slice (some ⟨b, off, none⟩) n c := by simpa [Act.eval] using ev30
      replace ev30 := Lib.hid ev30
      clear hO hD
      rw [if_neg (by decide)]
      intro K hK
      go_simp
      exact hK.out _ _ (Ex.refl _) rfl
    | 2, _, ho, hO, hD => 
      obtain rfl := Option.some.inj ho.symm
      clear ho
      have ev31 : FA.eval (.tmp 31) = .pointer (some ⟨b, off + 1, none⟩) := hD 1 31 (by kernel_rfl)
      have e31 : FA.tmps[31]?.getD undef = .pointer (some ⟨b, off + 1, none⟩) := by simpa [Act.eval] using ev31
      replace ev31 := Lib.hid ev31
      clear hO hD
      rw [if_neg (by decide)]
      intro K hK
      go_simp
      exact hK.out _ _ (Ex.refl _) rfl
    | 3, _, ho, hO, hD => 
      obtain rfl := Option.some.inj ho.symm
      clear ho
      have ev0 : FA.eval (.tmp 0) = .slice (some ⟨b, off, none⟩) n c := hO 0 (by kernel_rfl)
      have e0 : FA.tmps[0]?.getD undef = .slice (some ⟨b, off, none⟩) n c := by simpa [Act.eval] using ev0
      replace ev0 := Lib.hid ev0
      clear hO hD
      rw [if_pos (by decide)]
      refine ⟨.slice (some ⟨b, off, none⟩) n c, .inl ⟨by simp [Region.wanted], fun w => ?_⟩, rfl⟩
      go_simp
    | 4, _, ho, hO, hD => 
      obtain rfl := Option.some.inj ho.symm
      clear ho
      have ev33 : FA.eval (.tmp 33) = .slice (some ⟨b, off, none⟩) n c := hD 3 33 (by kernel_rfl)
      have e33 : FA.tmps[33]?.getD undef = .slice (some ⟨b, off, none⟩) n c := by simpa [Act.eval] using ev33
      replace ev33 := Lib.hid ev33
      clear hO hD
      rw [if_neg (by decide)]
      intro K hK
      go_simp
      refine (refGetV _ n c l _ _ 2 2 ln _ ((h.alloc _).plus_ _ _) rfl rfl x2.out (by omega) (by omega) (by omega)).mono ?_
      rintro e w1 ⟨rfl, rfl⟩
      exact hK.out _ _ (Ex.refl _) rfl
    | 5, _, ho, hO, hD => 
      obtain rfl := Option.some.inj ho.symm
      clear ho
      have ev34 : FA.eval (.tmp 34) = .int .u64 (ln : Int) := hD 4 34 (by kernel_rfl)
      have e34 : FA.tmps[34]?.getD undef = .int .u64 (ln : Int) := by simpa [Act.eval] using ev34
      replace ev34 := Lib.hid ev34
      clear hO hD
      rw [if_pos (by decide)]
      refine ⟨.int .i64 (ln : Int), .inl ⟨by simp [Region.wanted], fun w => ?_⟩, rfl⟩
      go_simp
    | 6, _, ho, hO, hD => 
      obtain rfl := Option.some.inj ho.symm
      clear ho
      have ev0 : FA.eval (.tmp 0) = .slice (some ⟨b, off, none⟩) n c := hO 0 (by kernel_rfl)
      have e0 : FA.tmps[0]?.getD undef = .slice (some ⟨b, off, none⟩) n c := by simpa [Act.eval] using ev0
      replace ev0 := Lib.hid ev0
      clear hO hD
      rw [if_pos (by decide)]
      refine ⟨.slice (some ⟨b, off, none⟩) n c, .inl ⟨by simp [Region.wanted], fun w => ?_⟩, rfl⟩
      go_simp
    | 7, _, ho, hO, hD => 
      obtain rfl := Option.some.inj ho.symm
      clear ho
      have ev36 : FA.eval (.tmp 36) = .slice (some ⟨b, off, none⟩) n c := hD 6 36 (by kernel_rfl)
      have e36 : FA.tmps[36]?.getD undef = .slice (some ⟨b, off, none⟩) n c := by simpa [Act.eval] using ev36
      replace ev36 := Lib.hid ev36
      clear hO hD
      rw [if_neg (by decide)]
      intro K hK
      go_simp
      refine (refGetV _ n c l _ _ 4 2 id _ ((h.alloc _).plus_ _ _) rfl rfl x3.out (by omega) (by omega) (by omega)).mono ?_
      rintro e w1 ⟨rfl, rfl⟩
      exact hK.out _ _ (Ex.refl _) rfl
    | 8, _, ho, hO, hD => 
      obtain rfl := Option.some.inj ho.symm
      clear ho
      have ev37 : FA.eval (.tmp 37) = .int .u64 (id : Int) := hD 7 37 (by kernel_rfl)
      have e37 : FA.tmps[37]?.getD undef = .int .u64 (id : Int) := by simpa [Act.eval] using ev37
      replace ev37 := Lib.hid ev37
      clear hO hD
      rw [if_pos (by decide)]
      refine ⟨.int .u16 (id : Int), .inl ⟨by simp [Region.wanted], fun w => ?_⟩, rfl⟩
      go_simp
    | 9, _, ho, hO, hD => 
      obtain rfl := Option.some.inj ho.symm
      clear ho
      have ev6 : FA.eval (.tmp 6) = .int .u64 (pl : Int) := hO 6 (by kernel_rfl)
      have e6 : FA.tmps[6]?.getD undef = .int .u64 (pl : Int) := by simpa [Act.eval] using ev6
      replace ev6 := Lib.hid ev6
      clear hO hD
      rw [if_pos (by decide)]
      refine ⟨.int .u64 (pl : Int), .inl ⟨by simp [Region.wanted], fun w => ?_⟩, rfl⟩
      go_simp
    | 10, _, ho, hO, hD => 
      obtain rfl := Option.some.inj ho.symm
      clear ho
      have ev39 : FA.eval (.tmp 39) = .int .u64 (pl : Int) := hD 9 39 (by kernel_rfl)
      have e39 : FA.tmps[39]?.getD undef = .int .u64 (pl : Int) := by simpa [Act.eval] using ev39
      replace ev39 := Lib.hid ev39
      clear hO hD
      rw [if_pos (by decide)]
      refine ⟨.int .u64 (za : Int), .inl ⟨by simp [Region.wanted], fun w => ?_⟩, rfl⟩
      go_simp
    | 11, _, ho, hO, hD => 
      obtain rfl := Option.some.inj ho.symm
      clear ho
      have ev40 : FA.eval (.tmp 40) = .int .u64 (za : Int) := hD 10 40 (by kernel_rfl)
      have e40 : FA.tmps[40]?.getD undef = .int .u64 (za : Int) := by simpa [Act.eval] using ev40
      replace ev40 := Lib.hid ev40
      clear hO hD
      rw [if_pos (by decide)]
      refine ⟨.int .u64 (zb : Int), .inl ⟨by simp [Region.wanted], fun w => ?_⟩, rfl⟩
      go_simp
    | 12, _, ho, hO, hD => 
      obtain rfl := Option.some.inj ho.symm
      clear ho
      have ev41 : FA.eval (.tmp 41) = .int .u64 (zb : Int) := hD 11 41 (by kernel_rfl)
      have e41 : FA.tmps[41]?.getD undef = .int .u64 (zb : Int) := by simpa [Act.eval] using ev41
      replace ev41 := Lib.hid ev41
      clear hO hD
      rw [if_pos (by decide)]
      refine ⟨.bool st, .inl ⟨by simp [Region.wanted], fun w => ?_⟩, rfl⟩
      go_simp
    | 13, _, ho, hO, hD => 
      obtain rfl := Option.some.inj ho.symm
      clear ho
      have ev6 : FA.eval (.tmp 6) = .int .u64 (pl : Int) := hO 6 (by kernel_rfl)
      have e6 : FA.tmps[6]?.getD undef = .int .u64 (pl : Int) := by simpa [Act.eval] using ev6
      replace ev6 := Lib.hid ev6
      clear hO hD
      rw [if_pos (by decide)]
      refine ⟨.int .u64 (pl : Int), .inl ⟨by simp [Region.wanted], fun w => ?_⟩, rfl⟩
      go_simp
    | 14, _, ho, hO, hD => 
      obtain rfl := Option.some.inj ho.symm
      clear ho
      have ev43 : FA.eval (.tmp 43) = .int .u64 (pl : Int) := hD 13 43 (by kernel_rfl)
      have e43 : FA.tmps[43]?.getD undef = .int .u64 (pl : Int) := by simpa [Act.eval] using ev43
      replace ev43 := Lib.hid ev43
      clear hO hD
      rw [if_pos (by decide)]
      refine ⟨.int .u64 (zc : Int), .inl ⟨by simp [Region.wanted], fun w => ?_⟩, rfl⟩
      go_simp
    | 15, _, ho, hO, hD => 
      obtain rfl := Option.some.inj ho.symm
      clear ho
      have ev44 : FA.eval (.tmp 44) = .int .u64 (zc : Int) := hD 14 44 (by kernel_rfl)
      have e44 : FA.tmps[44]?.getD undef = .int .u64 (zc : Int) := by simpa [Act.eval] using ev44
      replace ev44 := Lib.hid ev44
      clear hO hD
      rw [if_pos (by decide)]
      refine ⟨.int .u64 (zd : Int), .inl ⟨by simp [Region.wanted], fun w => ?_⟩, rfl⟩
      go_simp
    | 16, _, ho, hO, hD => 
      obtain rfl := Option.some.inj ho.symm
      clear ho
      have ev45 : FA.eval (.tmp 45) = .int .u64 (zd : Int) := hD 15 45 (by kernel_rfl)
      have e45 : FA.tmps[45]?.getD undef = .int .u64 (zd : Int) := by simpa [Act.eval] using ev45
      replace ev45 := Lib.hid ev45
      clear hO hD
      rw [if_pos (by decide)]
      refine ⟨.bool mo, .inl ⟨by simp [Region.wanted], fun w => ?_⟩, rfl⟩
      go_simp
    | 17, _, ho, hO, hD => 
      obtain rfl := Option.some.inj ho.symm
      clear ho
      have ev6 : FA.eval (.tmp 6) = .int .u64 (pl : Int) := hO 6 (by kernel_rfl)
      have e6 : FA.tmps[6]?.getD undef = .int .u64 (pl : Int) := by simpa [Act.eval] using ev6
      replace ev6 := Lib.hid ev6
      clear hO hD
      rw [if_pos (by decide)]
      refine ⟨.int .u64 (pl : Int), .inl ⟨by simp [Region.wanted], fun w => ?_⟩, rfl⟩
      go_simp
    | 18, _, ho, hO, hD => 
      obtain rfl := Option.some.inj ho.symm
      clear ho
      have ev47 : FA.eval (.tmp 47) = .int .u64 (pl : Int) := hD 17 47 (by kernel_rfl)
      have e47 : FA.tmps[47]?.getD undef = .int .u64 (pl : Int) := by simpa [Act.eval] using ev47
      replace ev47 := Lib.hid ev47
      clear hO hD
      rw [if_pos (by decide)]
      refine ⟨.int .u64 (fo : Int), .inl ⟨by simp [Region.wanted], fun w => ?_⟩, rfl⟩
      go_simp
    | 19, _, ho, hO, hD => 
      obtain rfl := Option.some.inj ho.symm
      clear ho
      have ev48 : FA.eval (.tmp 48) = .int .u64 (fo : Int) := hD 18 48 (by kernel_rfl)
      have e48 : FA.tmps[48]?.getD undef = .int .u64 (fo : Int) := by simpa [Act.eval] using ev48
      replace ev48 := Lib.hid ev48
      clear hO hD
      rw [if_pos (by decide)]
      refine ⟨.int .i64 (fo : Int), .inl ⟨by simp [Region.wanted], fun w => ?_⟩, rfl⟩
      go_simp
    | 20, _, ho, hO, hD => 
      obtain rfl := Option.some.inj ho.symm
      clear ho
      have ev0 : FA.eval (.tmp 0) = .slice (some ⟨b, off, none⟩) n c := hO 0 (by kernel_rfl)
      have e0 : FA.tmps[0]?.getD undef = .slice (some ⟨b, off, none⟩) n c := by simpa [Act.eval] using ev0
      replace ev0 := Lib.hid ev0
      clear hO hD
      rw [if_pos (by decide)]
      refine ⟨.slice (some ⟨b, off, none⟩) n c, .inl ⟨by simp [Region.wanted], fun w => ?_⟩, rfl⟩
      go_simp
    | 21, _, ho, hO, hD => 
      obtain rfl := Option.some.inj ho.symm
      clear ho
      have ev50 : FA.eval (.tmp 50) = .slice (some ⟨b, off, none⟩) n c := hD 20 50 (by kernel_rfl)
      have e50 : FA.tmps[50]?.getD undef = .slice (some ⟨b, off, none⟩) n c := by simpa [Act.eval] using ev50
      replace ev50 := Lib.hid ev50
      clear hO hD
      rw [if_neg (by decide)]
      intro K hK
      go_simp
      exact hK.out _ _ (Ex.refl _) rfl
    | 22, _, ho, hO, hD => 
      obtain rfl := Option.some.inj ho.symm
      clear ho
      have ev51 : FA.eval (.tmp 51) = .pointer (some ⟨b, off + 8, none⟩) := hD 21 51 (by kernel_rfl)
      have e51 : FA.tmps[51]?.getD undef = .pointer (some ⟨b, off + 8, none⟩) := by simpa [Act.eval] using ev51
      replace ev51 := Lib.hid ev51
      clear hO hD
      rw [if_neg (by decide)]
      intro K hK
      go_simp
      exact hK.out _ _ (Ex.refl _) rfl
    | 23, _, ho, hO, hD => 
      obtain rfl := Option.some.inj ho.symm
      clear ho
      have ev0 : FA.eval (.tmp 0) = .slice (some ⟨b, off, none⟩) n c := hO 0 (by kernel_rfl)
      have e0 : FA.tmps[0]?.getD undef = .slice (some ⟨b, off, none⟩) n c := by simpa [Act.eval] using ev0
      replace ev0 := Lib.hid ev0
      clear hO hD
      rw [if_pos (by decide)]
      refine ⟨.slice (some ⟨b, off, none⟩) n c, .inl ⟨by simp [Region.wanted], fun w => ?_⟩, rfl⟩
      go_simp
    | 24, _, ho, hO, hD => 
      obtain rfl := Option.some.inj ho.symm
      clear ho
      have ev53 : FA.eval (.tmp 53) = .slice (some ⟨b, off, none⟩) n c := hD 23 53 (by kernel_rfl)
      have e53 : FA.tmps[53]?.getD undef = .slice (some ⟨b, off, none⟩) n c := by simpa [Act.eval] using ev53
      replace ev53 := Lib.hid ev53
      clear hO hD
      rw [if_neg (by decide)]
      intro K hK
      go_simp
      exact hK.out _ _ (Ex.refl _) rfl
    | 25, _, ho, hO, hD => 
      obtain rfl := Option.some.inj ho.symm
      clear ho
      have ev54 : FA.eval (.tmp 54) = .pointer (some ⟨b, off + 9, none⟩) := hD 24 54 (by kernel_rfl)
      have e54 : FA.tmps[54]?.getD undef = .pointer (some ⟨b, off + 9, none⟩) := by simpa [Act.eval] using ev54
      replace ev54 := Lib.hid ev54
      clear hO hD
      rw [if_neg (by decide)]
      intro K hK
      go_simp
      exact hK.out _ _ (Ex.refl _) rfl
    | 26, _, ho, hO, hD => 
      obtain rfl := Option.some.inj ho.symm
      clear ho
      have ev0 : FA.eval (.tmp 0) = .slice (some ⟨b, off, none⟩) n c := hO 0 (by kernel_rfl)
      have e0 : FA.tmps[0]?.getD undef = .slice (some ⟨b, off, none⟩) n c := by simpa [Act.eval] using ev0
      replace ev0 := Lib.hid ev0
      clear hO hD
      rw [if_pos (by decide)]
      refine ⟨.slice (some ⟨b, off, none⟩) n c, .inl ⟨by simp [Region.wanted], fun w => ?_⟩, rfl⟩
      go_simp
    | 27, _, ho, hO, hD => 
      obtain rfl := Option.some.inj ho.symm
      clear ho
      have ev56 : FA.eval (.tmp 56) = .slice (some ⟨b, off, none⟩) n c := hD 26 56 (by kernel_rfl)
      have e56 : FA.tmps[56]?.getD undef = .slice (some ⟨b, off, none⟩) n c := by simpa [Act.eval] using ev56
      replace ev56 := Lib.hid ev56
      clear hO hD
      rw [if_neg (by decide)]
      intro K hK
      go_simp
      refine (refGetV _ n c l _ _ 10 2 sm _ ((h.alloc _).plus_ _ _) rfl rfl x7.out (by omega) (by omega) (by omega)).mono ?_
      rintro e w1 ⟨rfl, rfl⟩
      exact hK.out _ _ (Ex.refl _) rfl
    | 28, _, ho, hO, hD => 
      obtain rfl := Option.some.inj ho.symm
      clear ho
      have ev57 : FA.eval (.tmp 57) = .int .u64 (sm : Int) := hD 27 57 (by kernel_rfl)
      have e57 : FA.tmps[57]?.getD undef = .int .u64 (sm : Int) := by simpa [Act.eval] using ev57
      replace ev57 := Lib.hid ev57
      clear hO hD
      rw [if_pos (by decide)]
      refine ⟨.int .u16 (sm : Int), .inl ⟨by simp [Region.wanted], fun w => ?_⟩, rfl⟩
      go_simp
    | 29, _, ho, hO, hD => 
      obtain rfl := Option.some.inj ho.symm
      clear ho
      have ev32 : FA.eval (.tmp 32) = .int .u8 (ts : Int) := hD 2 32 (by kernel_rfl)
      have e32 : FA.tmps[32]?.getD undef = .int .u8 (ts : Int) := by simpa [Act.eval] using ev32
      replace ev32 := Lib.hid ev32
      have ev35 : FA.eval (.tmp 35) = .int .i64 (ln : Int) := hD 5 35 (by kernel_rfl)
      have e35 : FA.tmps[35]?.getD undef = .int .i64 (ln : Int) := by simpa [Act.eval] using ev35
      replace ev35 := Lib.hid ev35
      have ev38 : FA.eval (.tmp 38) = .int .u16 (id : Int) := hD 8 38 (by kernel_rfl)
      have e38 : FA.tmps[38]?.getD undef = .int .u16 (id : Int) := by simpa [Act.eval] using ev38
      replace ev38 := Lib.hid ev38
      have ev42 : FA.eval (.tmp 42) = .bool st := hD 12 42 (by kernel_rfl)
      have e42 : FA.tmps[42]?.getD undef = .bool st := by simpa [Act.eval] using ev42
      replace ev42 := Lib.hid ev42
      have ev46 : FA.eval (.tmp 46) = .bool mo := hD 16 46 (by kernel_rfl)
      have e46 : FA.tmps[46]?.getD undef = .bool mo := by simpa [Act.eval] using ev46
      replace ev46 := Lib.hid ev46
      have ev49 : FA.eval (.tmp 49) = .int .i64 (fo : Int) := hD 19 49 (by kernel_rfl)
      have e49 : FA.tmps[49]?.getD undef = .int .i64 (fo : Int) := by simpa [Act.eval] using ev49
      replace ev49 := Lib.hid ev49
      have ev52 : FA.eval (.tmp 52) = .int .u8 (tl : Int) := hD 22 52 (by kernel_rfl)
      have e52 : FA.tmps[52]?.getD undef = .int .u8 (tl : Int) := by simpa [Act.eval] using ev52
      replace ev52 := Lib.hid ev52
      have ev55 : FA.eval (.tmp 55) = .int .u8 (pr : Int) := hD 25 55 (by kernel_rfl)
      have e55 : FA.tmps[55]?.getD undef = .int .u8 (pr : Int) := by simpa [Act.eval] using ev55
      replace ev55 := Lib.hid ev55
      have ev58 : FA.eval (.tmp 58) = .int .u16 (sm : Int) := hD 28 58 (by kernel_rfl)
      have e58 : FA.tmps[58]?.getD undef = .int .u16 (sm : Int) := by simpa [Act.eval] using ev58
      replace ev58 := Lib.hid ev58
      clear hO hD
      rw [if_neg (by decide)]
      intro K hK
      go_simp
      exact hK.out _ _ (Ex.refl _) rfl
    | 30, _, ho, hO, hD => 
      obtain rfl := Option.some.inj ho.symm
      clear ho
      clear hO hD
      rw [if_neg (by decide)]
      intro K hK
      go_simp
      refine hK.out _ _ (Ex.alloc _ _) ⟨_, rfl, ?_, ?_⟩
      · simp [size_plus]
      · refine Bk.newK _ _ _ ?_ rfl
        simp [size_plus]
    | (k + 31), hi, _, _, _ => exact absurd hi (by omega)
  intro vs x hp
  have p0 : vs 0 = .slice (some ⟨b, off, none⟩) n c := hp 0 (by omega)
  have p1 : vs 1 = .pointer (some ⟨b, off + 1, none⟩) := hp 1 (by omega)
  have p2 : vs 2 = .int .u8 (ts : Int) := hp 2 (by omega)
  have p3 : vs 3 = .slice (some ⟨b, off, none⟩) n c := hp 3 (by omega)
  have p4 : vs 4 = .int .u64 (ln : Int) := hp 4 (by omega)
  have p5 : vs 5 = .int .i64 (ln : Int) := hp 5 (by omega)
  have p6 : vs 6 = .slice (some ⟨b, off, none⟩) n c := hp 6 (by omega)
  have p7 : vs 7 = .int .u64 (id : Int) := hp 7 (by omega)
  have p8 : vs 8 = .int .u16 (id : Int) := hp 8 (by omega)
  have p9 : vs 9 = .int .u64 (pl : Int) := hp 9 (by omega)
  have p10 : vs 10 = .int .u64 (za : Int) := hp 10 (by omega)
  have p11 : vs 11 = .int .u64 (zb : Int) := hp 11 (by omega)
  have p12 : vs 12 = .bool st := hp 12 (by omega)
  have p13 : vs 13 = .int .u64 (pl : Int) := hp 13 (by omega)
  have p14 : vs 14 = .int .u64 (zc : Int) := hp 14 (by omega)
  have p15 : vs 15 = .int .u64 (zd : Int) := hp 15 (by omega)
  have p16 : vs 16 = .bool mo := hp 16 (by omega)
  have p17 : vs 17 = .int .u64 (pl : Int) := hp 17 (by omega)
  have p18 : vs 18 = .int .u64 (fo : Int) := hp 18 (by omega)
  have p19 : vs 19 = .int .i64 (fo : Int) := hp 19 (by omega)
  have p20 : vs 20 = .slice (some ⟨b, off, none⟩) n c := hp 20 (by omega)
  have p21 : vs 21 = .pointer (some ⟨b, off + 8, none⟩) := hp 21 (by omega)
  have p22 : vs 22 = .int .u8 (tl : Int) := hp 22 (by omega)
  have p23 : vs 23 = .slice (some ⟨b, off, none⟩) n c := hp 23 (by omega)
  have p24 : vs 24 = .pointer (some ⟨b, off + 9, none⟩) := hp 24 (by omega)
  have p25 : vs 25 = .int .u8 (pr : Int) := hp 25 (by omega)
  have p26 : vs 26 = .slice (some ⟨b, off, none⟩) n c := hp 26 (by omega)
  have p27 : vs 27 = .int .u64 (sm : Int) := hp 27 (by omega)
  have p28 : vs 28 = .int .u16 (sm : Int) := hp 28 (by omega)
  have p29 : vs 29 = .agg #[.int .u8 (ts : Int), .int .i64 (ln : Int), .int .u16 (id : Int), .bool st, .bool mo, .int .i64 (fo : Int), .int .u8 (tl : Int), .int .u8 (pr : Int), .int .u16 (sm : Int), .bool false, .int .u64 0, .int .u64 0, .bool false, .int .u64 0, .int .u64 0, .slice none 0 0] := hp 29 (by omega)
  have p30 := hp 30 (by omega)
  clear hp
  simp only [List.take_succ_cons, List.take_zero, List.drop_succ_cons, List.drop_zero, putAll, Nat.zero_add, Nat.reduceAdd, Act.put, List.setIfInBounds_toArray, List.set_cons_zero, List.set_cons_succ, p0, p1, p2, p3, p4, p5, p6, p7, p8, p9, p10, p11, p12, p13, p14, p15, p16, p17, p18, p19, p20, p21, p22, p23, p24, p25, p26, p27, p28, p29]
  clear p0 p1 p2 p3 p4 p5 p6 p7 p8 p9 p10 p11 p12 p13 p14 p15 p16 p17 p18 p19 p20 p21 p22 p23 p24 p25 p26 p27 p28 p29
  generalize vs 30 = y30 at *
  clear vs
  obtain ⟨g, rfl, hgw, hb⟩ := p30
  go_upto_region 8 with (refine at_op (.store 184 (.tmp 7) (.tmp 59)) rfl ?_; refine wpList_stA (t := 184) 184 (.tmp 7) (.tmp 59) rfl rfl ([.int .u8 (ts : Int), .int .i64 (ln : Int), .int .u16 (id : Int), .bool st, .bool mo, .int .i64 (fo : Int), .int .u8 (tl : Int), .int .u8 (pr : Int), .int .u16 (sm : Int), .bool false, .int .u64 0, .int .u64 0, .bool false, .int .u64 0, .int .u64 0, .slice none 0 0]) (h4C 0 0 0 false false 0 0 0 0 false 0 0 false 0 0 none 0 0) rfl (by simp [Value.oneCell']) rfl rfl hb (by kernel_rfl) ?_; intro w3 hX hg3)
  replace hZ := (hZ.later (below_plus _ x.bs x.d)).grown hg3 (by simp; omega)
  replace be := below_grown (belowP be x.bs x.d) hg3 (by omega)
  clear hg3 hb
  refine NoPanic.normal ?_
  go_wp2_with fail
  refine (refGetV _ n c l _ _ 12 4 sa _ (h.later be) rfl rfl x8.out (by omega) (by omega) (by omega)).mono ?_
  rintro e w1 ⟨rfl, rfl⟩
  have zx := hX.lt
  go_upto_region 9 with (refine at_op (.store 26 (.tmp 63) (.tmp 62)) rfl ?_; refine wpList_stM (t := 184) 26 (.tmp 63) (.tmp 62) rfl rfl (adC false 0 sa) _ (by simp [adC]) (adC_one _ _ _) rfl rfl hX (szAd _ _ _) ?_; intro w4 hX2 hg)
  simp only [splice, adC, List.take_succ_cons, List.take_zero, List.drop_succ_cons, List.drop_zero, List.length_cons, List.length_nil, Nat.zero_add, Nat.reduceAdd, List.cons_append, List.nil_append] at hX2
  replace hZ := hZ.grown hg (by simp; omega)
  replace be := below_grown be hg (by omega)
  clear hX hg zx
  have hX := hX2
  clear hX2
  go_wp2_with fail
  refine (refGetV _ n c l _ _ 16 4 da _ (h.later be) rfl rfl x9.out (by omega) (by omega) (by omega)).mono ?_
  rintro e w1 ⟨rfl, rfl⟩
  have zx := hX.lt
  go_upto_region 10 with (refine at_op (.store 26 (.tmp 67) (.tmp 66)) rfl ?_; refine wpList_stM (t := 184) 26 (.tmp 67) (.tmp 66) rfl rfl (adC false 0 da) _ (by simp [adC]) (adC_one _ _ _) rfl rfl hX (szAd _ _ _) ?_; intro w5 hX2 hg)
  simp only [splice, adC, List.take_succ_cons, List.take_zero, List.drop_succ_cons, List.drop_zero, List.length_cons, List.length_nil, Nat.zero_add, Nat.reduceAdd, List.cons_append, List.nil_append] at hX2
  replace hZ := hZ.grown hg (by simp; omega)
  replace be := below_grown be hg (by omega)
  clear hX hg zx
  have hX := hX2
  clear hX2
  have yl : w5.cell? ⟨g, 1, none⟩ = some (.int .i64 (ln : Int)) := hX.cell 1
  have zx := hX.lt
  go_wp2_with (refine at_op (.store 184 (.tmp 2) (.tmp 76)) rfl ?_; refine wpList_stA (t := 184) 184 (.tmp 2) (.tmp 76) rfl rfl (h4C 0 0 0 false false 0 0 0 0 false 0 0 false 0 0 none 0 0) (h4C 0 0 0 false false 0 0 0 0 false 0 0 false 0 0 none 0 0) rfl (h4C_one _ _ _ _ _ _ _ _ _ _ _ _ _ _ _ _ _ _) rfl rfl hZ (szR4 _ _ _ _ _ _ _ _ _ _ _ _ _ _ _ _ _ _) ?_; intro W9 h9 g9)
  refine bodyPost_agg3 Try.results78 rfl rfl rfl h9.range u1 u2 (szR4 _ _ _ _ _ _ _ _ _ _ _ _ _ _ _ _ _ _) rfl (RetV.mk ?_)
  exact below_grown be g9 (by omega)
set_option maxHeartbeats 4000000 in
set_option maxRecDepth 100000 in
theorem refP4_l (A : Option Addr) (n c : Nat) (l : List UInt8) (w : World) (h : Rb w A n c l) (hm9 : n ≤ 1000000) (f ts ln id pl tl pr sm sa da : Nat) (st mo : Bool) (x0 : num ((l.drop 0).take 1) = f) (x1 : num ((l.drop 1).take 1) = ts) (x2 : num ((l.drop 2).take 2) = ln) (x3 : num ((l.drop 4).take 2) = id) (x4 : num ((l.drop 6).take 2) = pl) (x5 : num ((l.drop 8).take 1) = tl) (x6 : num ((l.drop 9).take 1) = pr) (x7 : num ((l.drop 10).take 2) = sm) (x8 : num ((l.drop 12).take 4) = sa) (x9 : num ((l.drop 16).take 4) = da) (hst : (pl / 16384 % 2 == 1) = st) (hmo : (pl / 8192 % 2 == 1) = mo) (hn : 20 ≤ n) (hb : f / 16 = 4) (hs : 20 ≤ 4 * (f % 16)) (hp9 : pl < 32768) (hl9 : 4 * (f % 16) ≤ ln) (hq : n < ln) : Calls Try.prog 78 #[.slice A n c] w (RetV w (.tuple #[.agg (h4C 0 0 0 false false 0 0 0 0 false 0 0 false 0 0 none 0 0).toArray, .slice none 0 0, .int .i64 20])) := by
  obtain ⟨du, u1, u2⟩ := rowR4
  have hc := h.2.1
  have hl := h.1
  have d20 : decide ((n : Int) < 20) = false := by simp only [decide_eq_false_iff_not]; omega
  have hf8 : f < 256 := by rw [← x0]; exact num_lt' l 0 1 256 (by decide)
  have hpl : pl < 65536 := by rw [← x4]; exact num_lt' l 6 2 65536 (by decide)
  have hln : ln < 65536 := by rw [← x2]; exact num_lt' l 2 2 65536 (by decide)
  have hid : id < 65536 := by rw [← x3]; exact num_lt' l 4 2 65536 (by decide)
  have hsm : sm < 65536 := by rw [← x7]; exact num_lt' l 10 2 65536 (by decide)
  obtain ⟨b, off, rfl, hbl, hcell⟩ := h.2.2.at_ (by rw [bcs_length, h.1]; omega)
  have y0 := num_cell hcell 0 (by rw [h.1]; omega)
  have y1 := num_cell hcell 1 (by rw [h.1]; omega)
  have y8 := num_cell hcell 8 (by rw [h.1]; omega)
  have y9 := num_cell hcell 9 (by rw [h.1]; omega)
  rw [x0] at y0
  rw [x1] at y1
  rw [x5] at y8
  rw [x6] at y9
  have i0 : (0 : Int) < (n : Int) := by omega
  have i1 : (1 : Int) < (n : Int) := by omega
  have i8 : (8 : Int) < (n : Int) := by omega
  have i9 : (9 : Int) < (n : Int) := by omega
  rw [Nat.add_zero] at y0
  clear hcell x0 x1 x5 x6
  obtain ⟨m, hm⟩ : ∃ m : Nat, m = f % 16 := ⟨_, rfl⟩
  have e1 : (f : Int) % 16 = (m : Int) := by omega
  obtain ⟨sz, hsz⟩ : ∃ s : Nat, s = 4 * m := ⟨_, rfl⟩
  have e2 : IntKind.i64.wrap ((m : Int) * 4) = (sz : Int) := by rw [IntWalk.i64_in _ (by omega)]; omega
  have e3 : IntKind.i64.wrap (m : Int) = (m : Int) := IntWalk.i64_in _ (by omega)
  replace x2 := Lib.hid x2
  replace x3 := Lib.hid x3
  replace x4 := Lib.hid x4
  replace x7 := Lib.hid x7
  replace x8 := Lib.hid x8
  replace x9 := Lib.hid x9
  have hb1 : (f : Int) / 16 = 4 := by omega
  have hb1n : ((f : Int) / 16 != 4) = false := by rw [hb1]; rfl
  have qd2 : decide ((sz : Int) < 20) = false := by simp only [decide_eq_false_iff_not]; omega
  have qd3 : decide (sz < 20) = false := by simp only [decide_eq_false_iff_not]; omega
  have qd10 : decide (32767 < (pl : Int)) = false := by simp only [decide_eq_false_iff_not]; omega
  have qd11 : decide (32767 < pl) = false := by simp only [decide_eq_false_iff_not]; omega
  have qd12 : decide ((ln : Int) < (sz : Int)) = false := by simp only [decide_eq_false_iff_not]; omega
  have qd13 : decide (ln < sz) = false := by simp only [decide_eq_false_iff_not]; omega
  have qd14 : decide ((n : Int) < (ln : Int)) = true := by simp only [decide_eq_true_eq]; omega
  have qd15 : decide (n < ln) = true := by simp only [decide_eq_true_eq]; omega
  obtain ⟨za, hza⟩ : ∃ p : Nat, p = pl / 16384 := ⟨_, rfl⟩
  obtain ⟨zb, hzb⟩ : ∃ p : Nat, p = za % 2 := ⟨_, rfl⟩
  obtain ⟨zc, hzc⟩ : ∃ p : Nat, p = pl / 8192 := ⟨_, rfl⟩
  obtain ⟨zd, hzd⟩ : ∃ p : Nat, p = zc % 2 := ⟨_, rfl⟩
  obtain ⟨fo, hfo⟩ : ∃ p : Nat, p = pl % 8192 := ⟨_, rfl⟩
  have v1 : (pl : Int) / 16384 = (za : Int) := by omega
  have v2 : (za : Int) % 2 = (zb : Int) := by omega
  have v3 : ((zb : Int) == 1) = st := by rw [← hst, ← hza, ← hzb, Bool.eq_iff_iff, beq_iff_eq, beq_iff_eq]; omega
  have v4 : (pl : Int) / 8192 = (zc : Int) := by omega
  have v5 : (zc : Int) % 2 = (zd : Int) := by omega
  have v6 : ((zd : Int) == 1) = mo := by rw [← hmo, ← hzc, ← hzd, Bool.eq_iff_iff, beq_iff_eq, beq_iff_eq]; omega
  have v7 : (pl : Int) % 8192 = (fo : Int) := by omega
  have hfo2 : fo < 8192 := by omega
  have m1 : (za : Int).tmod 2 = (zb : Int) := by rw [Int.tmod_eq_emod_of_nonneg (by omega)]; omega
  have m2 : (zc : Int).tmod 2 = (zd : Int) := by rw [Int.tmod_eq_emod_of_nonneg (by omega)]; omega
  have m3 : (pl : Int).tmod 8192 = (fo : Int) := by rw [Int.tmod_eq_emod_of_nonneg (by omega)]; omega
  have wp1 : IntKind.u64.wrap (za : Int) = (za : Int) := IntWalk.u64_in _ (by omega)
  have wp2 : IntKind.u64.wrap (zb : Int) = (zb : Int) := IntWalk.u64_in _ (by omega)
  have wp3 : IntKind.u64.wrap (zc : Int) = (zc : Int) := IntWalk.u64_in _ (by omega)
  have wp4 : IntKind.u64.wrap (zd : Int) = (zd : Int) := IntWalk.u64_in _ (by omega)
  have wfo : IntKind.u64.wrap (fo : Int) = (fo : Int) := IntWalk.u64_in _ (by omega)
  have v8 : IntKind.i64.wrap (fo : Int) = (fo : Int) := IntWalk.i64_in _ (by omega)
  have v9 : IntKind.i64.wrap (ln : Int) = (ln : Int) := IntWalk.i64_in _ (by omega)
  have va : IntKind.u16.wrap (id : Int) = (id : Int) := IntWalk.u16_in _ (by omega)
  have vb : IntKind.u16.wrap (sm : Int) = (sm : Int) := IntWalk.u16_in _ (by omega)
  clear hza hzb hzc hzd hfo hst hmo
  clear hm hsz hb1
  have hZ : Bk (w.alloc (.cells #[.int .u8 0, .int .i64 0, .int .u16 0, .bool false, .bool false, .int .i64 0, .int .u8 0, .int .u8 0, .int .u16 0, .bool false, .int .u64 0, .int .u64 0, .bool false, .int .u64 0, .int .u64 0, .slice none 0 0] 184)) w.heap.size 184 (h4C 0 0 0 false false 0 0 0 0 false 0 0 false 0 0 none 0 0) := Bk.new w 184 #[.int .u8 0, .int .i64 0, .int .u16 0, .bool false, .bool false, .int .i64 0, .int .u8 0, .int .u8 0, .int .u16 0, .bool false, .int .u64 0, .int .u64 0, .bool false, .int .u64 0, .int .u64 0, .slice none 0 0]
  have be : Below w.heap.size w (w.alloc (.cells #[.int .u8 0, .int .i64 0, .int .u16 0, .bool false, .bool false, .int .i64 0, .int .u8 0, .int .u8 0, .int .u16 0, .bool false, .int .u64 0, .int .u64 0, .bool false, .int .u64 0, .int .u64 0, .slice none 0 0] 184)) := Below.allocS (Below.refl _ _) _
  go_enter Try.func78, Try.ntmps78
  go_wp2_with fail
  refine (refGetV _ n c l _ _ 6 2 pl _ (h.alloc _) rfl rfl x4.out (by omega) (by omega) (by omega)).mono ?_
  rintro e w1 ⟨rfl, rfl⟩
  go_upto_region 7 with (fail)
  go_wp2
  refine wp_relE 31 103 [0, 3, 5, 6, 8, 9, 10, 11, 12, 13, 14, 15, 16, 17, 18, 19, 20, 23, 26, 28] rfl (by kernel_rfl) (by kernel_rfl) (fun i => match i with | 0 => MP.eq (.slice (some ⟨b, off, none⟩) n c) | 1 => MP.eq (.pointer (some ⟨b, off + 1, none⟩)) | 2 => MP.eq (.int .u8 (ts : Int)) | 3 => MP.eq (.slice (some ⟨b, off, none⟩) n c) | 4 => MP.eq (.int .u64 (ln : Int)) | 5 => MP.eq (.int .i64 (ln : Int)) | 6 => MP.eq (.slice (some ⟨b, off, none⟩) n c) | 7 => MP.eq (.int .u64 (id : Int)) | 8 => MP.eq (.int .u16 (id : Int)) | 9 => MP.eq (.int .u64 (pl : Int)) | 10 => MP.eq (.int .u64 (za : Int)) | 11 => MP.eq (.int .u64 (zb : Int)) | 12 => MP.eq (.bool st) | 13 => MP.eq (.int .u64 (pl : Int)) | 14 => MP.eq (.int .u64 (zc : Int)) | 15 => MP.eq (.int .u64 (zd : Int)) | 16 => MP.eq (.bool mo) | 17 => MP.eq (.int .u64 (pl : Int)) | 18 => MP.eq (.int .u64 (fo : Int)) | 19 => MP.eq (.int .i64 (fo : Int)) | 20 => MP.eq (.slice (some ⟨b, off, none⟩) n c) | 21 => MP.eq (.pointer (some ⟨b, off + 8, none⟩)) | 22 => MP.eq (.int .u8 (tl : Int)) | 23 => MP.eq (.slice (some ⟨b, off, none⟩) n c) | 24 => MP.eq (.pointer (some ⟨b, off + 9, none⟩)) | 25 => MP.eq (.int .u8 (pr : Int)) | 26 => MP.eq (.slice (some ⟨b, off, none⟩) n c) | 27 => MP.eq (.int .u64 (sm : Int)) | 28 => MP.eq (.int .u16 (sm : Int)) | 29 => MP.eq (.agg #[.int .u8 (ts : Int), .int .i64 (ln : Int), .int .u16 (id : Int), .bool st, .bool mo, .int .i64 (fo : Int), .int .u8 (tl : Int), .int .u8 (pr : Int), .int .u16 (sm : Int), .bool false, .int .u64 0, .int .u64 0, .bool false, .int .u64 0, .int .u64 0, .slice none 0 0]) | 30 => MP.blk (w.heap.size + 1) 184 (h4C 0 0 0 false false 0 0 0 0 false 0 0 false 0 0 none 0 0) | _ => MP.any) ?_ ?_
  · intro i hi o ho FA x hO hD
    match i, hi, ho, hO, hD with
    | 0, _, ho, hO, hD => 
      obtain rfl := Option.some.inj ho.symm
      clear ho
      have ev0 : FA.eval (.tmp 0) = .slice (some ⟨b, off, none⟩) n c := hO 0 (by kernel_rfl)
      have e0 : FA.tmps[0]?.getD undef = .slice (some ⟨b, off, none⟩) n c := by simpa [Act.eval] using ev0
      replace ev0 := Lib.hid ev0
      clear hO hD
      rw [if_pos (by decide)]
      refine ⟨.slice (some ⟨b, off, none⟩) n c, .inl ⟨by simp [Region.wanted], fun w => ?_⟩, rfl⟩
      go_simp
    | 1, _, ho, hO, hD => 
      obtain rfl := Option.some.inj ho.symm
      clear ho
      have ev30 : FA.eval (.tmp 30) = .slice (some ⟨b, off, none⟩) n c := hD 0 30 (by kernel_rfl)
      have e30 : FA.tmps[30]?.getD undef = .slice (some ⟨b, off, none⟩) n c := by simpa [Act.eval] using ev30
      replace ev30 := Lib.hid ev30
      clear hO hD
      rw [if_neg (by decide)]
      intro K hK
      go_simp
      exact hK.out _ _ (Ex.refl _) rfl
    | 2, _, ho, hO, hD => 
      obtain rfl := Option.some.inj ho.symm
      clear ho
      have ev31 : FA.eval (.tmp 31) = .pointer (some ⟨b, off + 1, none⟩) := hD 1 31 (by kernel_rfl)
      have e31 : FA.tmps[31]?.getD undef = .pointer (some ⟨b, off + 1, none⟩) := by simpa [Act.eval] using ev31
      replace ev31 := Lib.hid ev31
      clear hO hD
      rw [if_neg (by decide)]
      intro K hK
      go_simp
      exact hK.out _ _ (Ex.refl _) rfl
    | 3, _, ho, hO, hD => 
      obtain rfl := Option.some.inj ho.symm
      clear ho
      have ev0 : FA.eval (.tmp 0) = .slice (some ⟨b, off, none⟩) n c := hO 0 (by kernel_rfl)
      have e0 : FA.tmps[0]?.getD undef = .slice (some ⟨b, off, none⟩) n c := by simpa [Act.eval] using ev0
      replace ev0 := Lib.hid ev0
      clear hO hD
      rw [if_pos (by decide)]
      refine ⟨.slice (some ⟨b, off, none⟩) n c, .inl ⟨by simp [Region.wanted], fun w => ?_⟩, rfl⟩
      go_simp
    | 4, _, ho, hO, hD => 
      obtain rfl := Option.some.inj ho.symm
      clear ho
      have ev33 : FA.eval (.tmp 33) = .slice (some ⟨b, off, none⟩) n c := hD 3 33 (by kernel_rfl)
      have e33 : FA.tmps[33]?.getD undef = .slice (some ⟨b, off, none⟩) n c := by simpa [Act.eval] using ev33
      replace ev33 := Lib.hid ev33
      clear hO hD
      rw [if_neg (by decide)]
      intro K hK
      go_simp
      refine (refGetV _ n c l _ _ 2 2 ln _ ((h.alloc _).plus_ _ _) rfl rfl x2.out (by omega) (by omega) (by omega)).mono ?_
      rintro e w1 ⟨rfl, rfl⟩
      exact hK.out _ _ (Ex.refl _) rfl
    | 5, _, ho, hO, hD => 
      obtain rfl := Option.some.inj ho.symm
      clear ho
      have ev34 : FA.eval (.tmp 34) = .int .u64 (ln : Int) := hD 4 34 (by kernel_rfl)
      have e34 : FA.tmps[34]?.getD undef = .int .u64 (ln : Int) := by simpa [Act.eval] using ev34
      replace ev34 := Lib.hid ev34
      clear hO hD
      rw [if_pos (by decide)]
      refine ⟨.int .i64 (ln : Int), .inl ⟨by simp [Region.wanted], fun w => ?_⟩, rfl⟩
      go_simp
    | 6, _, ho, hO, hD => 
      obtain rfl := Option.some.inj ho.symm
      clear ho
      have ev0 : FA.eval (.tmp 0) = .slice (some ⟨b, off, none⟩) n c := hO 0 (by kernel_rfl)
      have e0 : FA.tmps[0]?.getD undef = .slice (some ⟨b, off, none⟩) n c := by simpa [Act.eval] using ev0
      replace ev0 := Lib.hid ev0
      clear hO hD
      rw [if_pos (by decide)]
      refine ⟨.slice (some ⟨b, off, none⟩) n c, .inl ⟨by simp [Region.wanted], fun w => ?_⟩, rfl⟩
      go_simp
    | 7, _, ho, hO, hD => 
      obtain rfl := Option.some.inj ho.symm
      clear ho
      have ev36 : FA.eval (.tmp 36) = .slice (some ⟨b, off, none⟩) n c := hD 6 36 (by kernel_rfl)
      have e36 : FA.tmps[36]?.getD undef = .slice (some ⟨b, off, none⟩) n c := by simpa [Act.eval] using ev36
      replace ev36 := Lib.hid ev36
      clear hO hD
      rw [if_neg (by decide)]
      intro K hK
      go_simp
      refine (refGetV _ n c l _ _ 4 2 id _ ((h.alloc _).plus_ _ _) rfl rfl x3.out (by omega) (by omega) (by omega)).mono ?_
      rintro e w1 ⟨rfl, rfl⟩
      exact hK.out _ _ (Ex.refl _) rfl
    | 8, _, ho, hO, hD => 
      obtain rfl := Option.some.inj ho.symm
      clear ho
      have ev37 : FA.eval (.tmp 37) = .int .u64 (id : Int) := hD 7 37 (by kernel_rfl)
      have e37 : FA.tmps[37]?.getD undef = .int .u64 (id : Int) := by simpa [Act.eval] using ev37
      replace ev37 := Lib.hid ev37
      clear hO hD
      rw [if_pos (by decide)]
      refine ⟨.int .u16 (id : Int), .inl ⟨by simp [Region.wanted], fun w => ?_⟩, rfl⟩
      go_simp
    | 9, _, ho, hO, hD => 
      obtain rfl := Option.some.inj ho.symm
      clear ho
      have ev6 : FA.eval (.tmp 6) = .int .u64 (pl : Int) := hO 6 (by kernel_rfl)
      have e6 : FA.tmps[6]?.getD undef = .int .u64 (pl : Int) := by simpa [Act.eval] using ev6
      replace ev6 := Lib.hid ev6
      clear hO hD
      rw [if_pos (by decide)]
      refine ⟨.int .u64 (pl : Int), .inl ⟨by simp [Region.wanted], fun w => ?_⟩, rfl⟩
      go_simp
    | 10, _, ho, hO, hD => 
      obtain rfl := Option.some.inj ho.symm
      clear ho
      have ev39 : FA.eval (.tmp 39) = .int .u64 (pl : Int) := hD 9 39 (by kernel_rfl)
      have e39 : FA.tmps[39]?.getD undef = .int .u64 (pl : Int) := by simpa [Act.eval] using ev39
      replace ev39 := Lib.hid ev39
      clear hO hD
      rw [if_pos (by decide)]
      refine ⟨.int .u64 (za : Int), .inl ⟨by simp [Region.wanted], fun w => ?_⟩, rfl⟩
      go_simp
    | 11, _, ho, hO, hD => 
      obtain rfl := Option.some.inj ho.symm
      clear ho
      have ev40 : FA.eval (.tmp 40) = .int .u64 (za : Int) := hD 10 40 (by kernel_rfl)
      have e40 : FA.tmps[40]?.getD undef = .int .u64 (za : Int) := by simpa [Act.eval] using ev40
      replace ev40 := Lib.hid ev40
      clear hO hD
      rw [if_pos (by decide)]
      refine ⟨.int .u64 (zb : Int), .inl ⟨by simp [Region.wanted], fun w => ?_⟩, rfl⟩
      go_simp
    | 12, _, ho, hO, hD => 
      obtain rfl := Option.some.inj ho.symm
      clear ho
      have ev41 : FA.eval (.tmp 41) = .int .u64 (zb : Int) := hD 11 41 (by kernel_rfl)
      have e41 : FA.tmps[41]?.getD undef = .int .u64 (zb : Int) := by simpa [Act.eval] using ev41
      replace ev41 := Lib.hid ev41
      clear hO hD
      rw [if_pos (by decide)]
      refine ⟨.bool st, .inl ⟨by simp [Region.wanted], fun w => ?_⟩, rfl⟩
      go_simp
    | 13, _, ho, hO, hD => 
      obtain rfl := Option.some.inj ho.symm
      clear ho
      have ev6 : FA.eval (.tmp 6) = .int .u64 (pl : Int) := hO 6 (by kernel_rfl)
      have e6 : FA.tmps[6]?.getD undef = .int .u64 (pl : Int) := by simpa [Act.eval] using ev6
      replace ev6 := Lib.hid ev6
      clear hO hD
      rw [if_pos (by decide)]
      refine ⟨.int .u64 (pl : Int), .inl ⟨by simp [Region.wanted], fun w => ?_⟩, rfl⟩
      go_simp
    | 14, _, ho, hO, hD => 
      obtain rfl := Option.some.inj ho.symm
      clear ho
      have ev43 : FA.eval (.tmp 43) = .int .u64 (pl : Int) := hD 13 43 (by kernel_rfl)
      have e43 : FA.tmps[43]?.getD undef = .int .u64 (pl : Int) := by simpa [Act.eval] using ev43
      replace ev43 := Lib.hid ev43
      clear hO hD
      rw [if_pos (by decide)]
      refine ⟨.int .u64 (zc : Int), .inl ⟨by simp [Region.wanted], fun w => ?_⟩, rfl⟩
      go_simp
    | 15, _, ho, hO, hD => 
      obtain rfl := Option.some.inj ho.symm
      clear ho
      have ev44 : FA.eval (.tmp 44) = .int .u64 (zc : Int) := hD 14 44 (by kernel_rfl)
      have e44 : FA.tmps[44]?.getD undef = .int .u64 (zc : Int) := by simpa [Act.eval] using ev44
      replace ev44 := Lib.hid ev44
      clear hO hD
      rw [if_pos (by decide)]
      refine ⟨.int .u64 (zd : Int), .inl ⟨by simp [Region.wanted], fun w => ?_⟩, rfl⟩
      go_simp
    | 16, _, ho, hO, hD => 
      obtain rfl := Option.some.inj ho.symm
      clear ho
      have ev45 : FA.eval (.tmp 45) = .int .u64 (zd : Int) := hD 15 45 (by kernel_rfl)
      have e45 : FA.tmps[45]?.getD undef = .int .u64 (zd : Int) := by simpa [Act.eval] using ev45
      replace ev45 := Lib.hid ev45
      clear hO hD
      rw [if_pos (by decide)]
      refine ⟨.bool mo, .inl ⟨by simp [Region.wanted], fun w => ?_⟩, rfl⟩
      go_simp
    | 17, _, ho, hO, hD => 
      obtain rfl := Option.some.inj ho.symm
      clear ho
      have ev6 : FA.eval (.tmp 6) = .int .u64 (pl : Int) := hO 6 (by kernel_rfl)
      have e6 : FA.tmps[6]?.getD undef = .int .u64 (pl : Int) := by simpa [Act.eval] using ev6
      replace ev6 := Lib.hid ev6
      clear hO hD
      rw [if_pos (by decide)]
      refine ⟨.int .u64 (pl : Int), .inl ⟨by simp [Region.wanted], fun w => ?_⟩, rfl⟩
      go_simp
    | 18, _, ho, hO, hD => 
      obtain rfl := Option.some.inj ho.symm
      clear ho
      have ev47 : FA.eval (.tmp 47) = .int .u64 (pl : Int) := hD 17 47 (by kernel_rfl)
      have e47 : FA.tmps[47]?.getD undef = .int .u64 (pl : Int) := by simpa [Act.eval] using ev47
      replace ev47 := Lib.hid ev47
      clear hO hD
      rw [if_pos (by decide)]
      refine ⟨.int .u64 (fo : Int), .inl ⟨by simp [Region.wanted], fun w => ?_⟩, rfl⟩
      go_simp
    | 19, _, ho, hO, hD => 
      obtain rfl := Option.some.inj ho.symm
      clear ho
      have ev48 : FA.eval (.tmp 48) = .int .u64 (fo : Int) := hD 18 48 (by kernel_rfl)
      have e48 : FA.tmps[48]?.getD undef = .int .u64 (fo : Int) := by simpa [Act.eval] using ev48
      replace ev48 := Lib.hid ev48
      clear hO hD
      rw [if_pos (by decide)]
      refine ⟨.int .i64 (fo : Int), .inl ⟨by simp [Region.wanted], fun w => ?_⟩, rfl⟩
      go_simp
    | 20, _, ho, hO, hD => 
      obtain rfl := Option.some.inj ho.symm
      clear ho
      have ev0 : FA.eval (.tmp 0) = .slice (some ⟨b, off, none⟩) n c := hO 0 (by kernel_rfl)
      have e0 : FA.tmps[0]?.getD undef = .slice (some ⟨b, off, none⟩) n c := by simpa [Act.eval] using ev0
      replace ev0 := Lib.hid ev0
      clear hO hD
      rw [if_pos (by decide)]
      refine ⟨.slice (some ⟨b, off, none⟩) n c, .inl ⟨by simp [Region.wanted], fun w => ?_⟩, rfl⟩
      go_simp
    | 21, _, ho, hO, hD => 
      obtain rfl := Option.some.inj ho.symm
      clear ho
      have ev50 : FA.eval (.tmp 50) = .slice (some ⟨b, off, none⟩) n c := hD 20 50 (by kernel_rfl)
      have e50 : FA.tmps[50]?.getD undef = .slice (some ⟨b, off, none⟩) n c := by simpa [Act.eval] using ev50
      replace ev50 := Lib.hid ev50
      clear hO hD
      rw [if_neg (by decide)]
      intro K hK
      go_simp
      exact hK.out _ _ (Ex.refl _) rfl
    | 22, _, ho, hO, hD => 
      obtain rfl := Option.some.inj ho.symm
      clear ho
      have ev51 : FA.eval (.tmp 51) = .pointer (some ⟨b, off + 8, none⟩) := hD 21 51 (by kernel_rfl)
      have e51 : FA.tmps[51]?.getD undef = .pointer (some ⟨b, off + 8, none⟩) := by simpa [Act.eval] using ev51
      replace ev51 := Lib.hid ev51
      clear hO hD
      rw [if_neg (by decide)]
      intro K hK
      go_simp
      exact hK.out _ _ (Ex.refl _) rfl
    | 23, _, ho, hO, hD => 
      obtain rfl := Option.some.inj ho.symm
      clear ho
      have ev0 : FA.eval (.tmp 0) = .slice (some ⟨b, off, none⟩) n c := hO 0 (by kernel_rfl)
      have e0 : FA.tmps[0]?.getD undef = .slice (some ⟨b, off, none⟩) n c := by simpa [Act.eval] using ev0
      replace ev0 := Lib.hid ev0
      clear hO hD
      rw [if_pos (by decide)]
      refine ⟨.slice (some ⟨b, off, none⟩) n c, .inl ⟨by simp [Region.wanted], fun w => ?_⟩, rfl⟩
      go_simp
    | 24, _, ho, hO, hD => 
      obtain rfl := Option.some.inj ho.symm
      clear ho
      have ev53 : FA.eval (.tmp 53) = .slice (some ⟨b, off, none⟩) n c := hD 23 53 (by kernel_rfl)
      have e53 : FA.tmps[53]?.getD undef = .slice (some ⟨b, off, none⟩) n c := by simpa [Act.eval] using ev53
      replace ev53 := Lib.hid ev53
      clear hO hD
      rw [if_neg (by decide)]
      intro K hK
      go_simp
      exact hK.out _ _ (Ex.refl _) rfl
    | 25, _, ho, hO, hD => 
      obtain rfl := Option.some.inj ho.symm
      clear ho
      have ev54 : FA.eval (.tmp 54) = .pointer (some ⟨b, off + 9, none⟩) := hD 24 54 (by kernel_rfl)
      have e54 : FA.tmps[54]?.getD undef = .pointer (some ⟨b, off + 9, none⟩) := by simpa [Act.eval] using ev54
      replace ev54 := Lib.hid ev54
      clear hO hD
      rw [if_neg (by decide)]
      intro K hK
      go_simp
      exact hK.out _ _ (Ex.refl _) rfl
    | 26, _, ho, hO, hD => 
      obtain rfl := Option.some.inj ho.symm
      clear ho
      have ev0 : FA.eval (.tmp 0) = .slice (some ⟨b, off, none⟩) n c := hO 0 (by kernel_rfl)
      have e0 : FA.tmps[0]?.getD undef = .slice (some ⟨b, off, none⟩) n c := by simpa [Act.eval] using ev0
      replace ev0 := Lib.hid ev0
      clear hO hD
      rw [if_pos (by decide)]
      refine ⟨.slice (some ⟨b, off, none⟩) n c, .inl ⟨by simp [Region.wanted], fun w => ?_⟩, rfl⟩
      go_simp
    | 27, _, ho, hO, hD => 
      obtain rfl := Option.some.inj ho.symm
      clear ho
      have ev56 : FA.eval (.tmp 56) = .slice (some ⟨b, off, none⟩) n c := hD 26 56 (by kernel_rfl)
      have e56 : FA.tmps[56]?.getD undef = .slice (some ⟨b, off, none⟩) n c := by simpa [Act.eval] using ev56
      replace ev56 := Lib.hid ev56
      clear hO hD
      rw [if_neg (by decide)]
      intro K hK
      go_simp
      refine (refGetV _ n c l _ _ 10 2 sm _ ((h.alloc _).plus_ _ _) rfl rfl x7.out (by omega) (by omega) (by omega)).mono ?_
      rintro e w1 ⟨rfl, rfl⟩
      exact hK.out _ _ (Ex.refl _) rfl
    | 28, _, ho, hO, hD => 
      obtain rfl := Option.some.inj ho.symm
      clear ho
      have ev57 : FA.eval (.tmp 57) = .int .u64 (sm : Int) := hD 27 57 (by kernel_rfl)
      have e57 : FA.tmps[57]?.getD undef = .int .u64 (sm : Int) := by simpa [Act.eval] using ev57
      replace ev57 := Lib.hid ev57
      clear hO hD
      rw [if_pos (by decide)]
      refine ⟨.int .u16 (sm : Int), .inl ⟨by simp [Region.wanted], fun w => ?_⟩, rfl⟩
      go_simp
    | 29, _, ho, hO, hD => 
      obtain rfl := Option.some.inj ho.symm
      clear ho
      have ev32 : FA.eval (.tmp 32) = .int .u8 (ts : Int) := hD 2 32 (by kernel_rfl)
      have e32 : FA.tmps[32]?.getD undef = .int .u8 (ts : Int) := by simpa [Act.eval] using ev32
      replace ev32 := Lib.hid ev32
      have ev35 : FA.eval (.tmp 35) = .int .i64 (ln : Int) := hD 5 35 (by kernel_rfl)
      have e35 : FA.tmps[35]?.getD undef = .int .i64 (ln : Int) := by simpa [Act.eval] using ev35
      replace ev35 := Lib.hid ev35
      have ev38 : FA.eval (.tmp 38) = .int .u16 (id : Int) := hD 8 38 (by kernel_rfl)
      have e38 : FA.tmps[38]?.getD undef = .int .u16 (id : Int) := by simpa [Act.eval] using ev38
      replace ev38 := Lib.hid ev38
      have ev42 : FA.eval (.tmp 42) = .bool st := hD 12 42 (by kernel_rfl)
      have e42 : FA.tmps[42]?.getD undef = .bool st := by simpa [Act.eval] using ev42
      replace ev42 := Lib.hid ev42
      have ev46 : FA.eval (.tmp 46) = .bool mo := hD 16 46 (by kernel_rfl)
      have e46 : FA.tmps[46]?.getD undef = .bool mo := by simpa [Act.eval] using ev46
      replace ev46 := Lib.hid ev46
      have ev49 : FA.eval (.tmp 49) = .int .i64 (fo : Int) := hD 19 49 (by kernel_rfl)
      have e49 : FA.tmps[49]?.getD undef = .int .i64 (fo : Int) := by simpa [Act.eval] using ev49
      replace ev49 := Lib.hid ev49
      have ev52 : FA.eval (.tmp 52) = .int .u8 (tl : Int) := hD 22 52 (by kernel_rfl)
      have e52 : FA.tmps[52]?.getD undef = .int .u8 (tl : Int) := by simpa [Act.eval] using ev52
      replace ev52 := Lib.hid ev52
      have ev55 : FA.eval (.tmp 55) = .int .u8 (pr : Int) := hD 25 55 (by kernel_rfl)
      have e55 : FA.tmps[55]?.getD undef = .int .u8 (pr : Int) := by simpa [Act.eval] using ev55
      replace ev55 := Lib.hid ev55
      have ev58 : FA.eval (.tmp 58) = .int .u16 (sm : Int) := hD 28 58 (by kernel_rfl)
      have e58 : FA.tmps[58]?.getD undef = .int .u16 (sm : Int) := by simpa [Act.eval] using ev58
      replace ev58 := Lib.hid ev58
      clear hO hD
      rw [if_neg (by decide)]
      intro K hK
      go_simp
      exact hK.out _ _ (Ex.refl _) rfl
    | 30, _, ho, hO, hD => 
      obtain rfl := Option.some.inj ho.symm
      clear ho
      clear hO hD
      rw [if_neg (by decide)]
      intro K hK
      go_simp
      refine hK.out _ _ (Ex.alloc _ _) ⟨_, rfl, ?_, ?_⟩
      · simp [size_plus]
      · refine Bk.newK _ _ _ ?_ rfl
        simp [size_plus]
    | (k + 31), hi, _, _, _ => exact absurd hi (by omega)
  intro vs x hp
  have p0 : vs 0 = .slice (some ⟨b, off, none⟩) n c := hp 0 (by omega)
  have p1 : vs 1 = .pointer (some ⟨b, off + 1, none⟩) := hp 1 (by omega)
  have p2 : vs 2 = .int .u8 (ts : Int) := hp 2 (by omega)
  have p3 : vs 3 = .slice (some ⟨b, off, none⟩) n c := hp 3 (by omega)
  have p4 : vs 4 = .int .u64 (ln : Int) := hp 4 (by omega)
  have p5 : vs 5 = .int .i64 (ln : Int) := hp 5 (by omega)
  have p6 : vs 6 = .slice (some ⟨b, off, none⟩) n c := hp 6 (by omega)
  have p7 : vs 7 = .int .u64 (id : Int) := hp 7 (by omega)
  have p8 : vs 8 = .int .u16 (id : Int) := hp 8 (by omega)
  have p9 : vs 9 = .int .u64 (pl : Int) := hp 9 (by omega)
  have p10 : vs 10 = .int .u64 (za : Int) := hp 10 (by omega)
  have p11 : vs 11 = .int .u64 (zb : Int) := hp 11 (by omega)
  have p12 : vs 12 = .bool st := hp 12 (by omega)
  have p13 : vs 13 = .int .u64 (pl : Int) := hp 13 (by omega)
  have p14 : vs 14 = .int .u64 (zc : Int) := hp 14 (by omega)
  have p15 : vs 15 = .int .u64 (zd : Int) := hp 15 (by omega)
  have p16 : vs 16 = .bool mo := hp 16 (by omega)
  have p17 : vs 17 = .int .u64 (pl : Int) := hp 17 (by omega)
  have p18 : vs 18 = .int .u64 (fo : Int) := hp 18 (by omega)
  have p19 : vs 19 = .int .i64 (fo : Int) := hp 19 (by omega)
  have p20 : vs 20 = .slice (some ⟨b, off, none⟩) n c := hp 20 (by omega)
  have p21 : vs 21 = .pointer (some ⟨b, off + 8, none⟩) := hp 21 (by omega)
  have p22 : vs 22 = .int .u8 (tl : Int) := hp 22 (by omega)
  have p23 : vs 23 = .slice (some ⟨b, off, none⟩) n c := hp 23 (by omega)
  have p24 : vs 24 = .pointer (some ⟨b, off + 9, none⟩) := hp 24 (by omega)
  have p25 : vs 25 = .int .u8 (pr : Int) := hp 25 (by omega)
  have p26 : vs 26 = .slice (some ⟨b, off, none⟩) n c := hp 26 (by omega)
  have p27 : vs 27 = .int .u64 (sm : Int) := hp 27 (by omega)
  have p28 : vs 28 = .int .u16 (sm : Int) := hp 28 (by omega)
  have p29 : vs 29 = .agg #[.int .u8 (ts : Int), .int .i64 (ln : Int), .int .u16 (id : Int), .bool st, .bool mo, .int .i64 (fo : Int), .int .u8 (tl : Int), .int .u8 (pr : Int), .int .u16 (sm : Int), .bool false, .int .u64 0, .int .u64 0, .bool false, .int .u64 0, .int .u64 0, .slice none 0 0] := hp 29 (by omega)
  have p30 := hp 30 (by omega)
  clear hp
  simp only [List.take_succ_cons, List.take_zero, List.drop_succ_cons, List.drop_zero, putAll, Nat.zero_add, Nat.reduceAdd, Act.put, List.setIfInBounds_toArray, List.set_cons_zero, List.set_cons_succ, p0, p1, p2, p3, p4, p5, p6, p7, p8, p9, p10, p11, p12, p13, p14, p15, p16, p17, p18, p19, p20, p21, p22, p23, p24, p25, p26, p27, p28, p29]
  clear p0 p1 p2 p3 p4 p5 p6 p7 p8 p9 p10 p11 p12 p13 p14 p15 p16 p17 p18 p19 p20 p21 p22 p23 p24 p25 p26 p27 p28 p29
  generalize vs 30 = y30 at *
  clear vs
  obtain ⟨g, rfl, hgw, hb⟩ := p30
  go_upto_region 8 with (refine at_op (.store 184 (.tmp 7) (.tmp 59)) rfl ?_; refine wpList_stA (t := 184) 184 (.tmp 7) (.tmp 59) rfl rfl ([.int .u8 (ts : Int), .int .i64 (ln : Int), .int .u16 (id : Int), .bool st, .bool mo, .int .i64 (fo : Int), .int .u8 (tl : Int), .int .u8 (pr : Int), .int .u16 (sm : Int), .bool false, .int .u64 0, .int .u64 0, .bool false, .int .u64 0, .int .u64 0, .slice none 0 0]) (h4C 0 0 0 false false 0 0 0 0 false 0 0 false 0 0 none 0 0) rfl (by simp [Value.oneCell']) rfl rfl hb (by kernel_rfl) ?_; intro w3 hX hg3)
  replace hZ := (hZ.later (below_plus _ x.bs x.d)).grown hg3 (by simp; omega)
  replace be := below_grown (belowP be x.bs x.d) hg3 (by omega)
  clear hg3 hb
  refine NoPanic.normal ?_
  go_wp2_with fail
  refine (refGetV _ n c l _ _ 12 4 sa _ (h.later be) rfl rfl x8.out (by omega) (by omega) (by omega)).mono ?_
  rintro e w1 ⟨rfl, rfl⟩
  have zx := hX.lt
  go_upto_region 9 with (refine at_op (.store 26 (.tmp 63) (.tmp 62)) rfl ?_; refine wpList_stM (t := 184) 26 (.tmp 63) (.tmp 62) rfl rfl (adC false 0 sa) _ (by simp [adC]) (adC_one _ _ _) rfl rfl hX (szAd _ _ _) ?_; intro w4 hX2 hg)
  simp only [splice, adC, List.take_succ_cons, List.take_zero, List.drop_succ_cons, List.drop_zero, List.length_cons, List.length_nil, Nat.zero_add, Nat.reduceAdd, List.cons_append, List.nil_append] at hX2
  replace hZ := hZ.grown hg (by simp; omega)
  replace be := below_grown be hg (by omega)
  clear hX hg zx
  have hX := hX2
  clear hX2
  go_wp2_with fail
  refine (refGetV _ n c l _ _ 16 4 da _ (h.later be) rfl rfl x9.out (by omega) (by omega) (by omega)).mono ?_
  rintro e w1 ⟨rfl, rfl⟩
  have zx := hX.lt
  go_upto_region 10 with (refine at_op (.store 26 (.tmp 67) (.tmp 66)) rfl ?_; refine wpList_stM (t := 184) 26 (.tmp 67) (.tmp 66) rfl rfl (adC false 0 da) _ (by simp [adC]) (adC_one _ _ _) rfl rfl hX (szAd _ _ _) ?_; intro w5 hX2 hg)
  simp only [splice, adC, List.take_succ_cons, List.take_zero, List.drop_succ_cons, List.drop_zero, List.length_cons, List.length_nil, Nat.zero_add, Nat.reduceAdd, List.cons_append, List.nil_append] at hX2
  replace hZ := hZ.grown hg (by simp; omega)
  replace be := below_grown be hg (by omega)
  clear hX hg zx
  have hX := hX2
  clear hX2
  have yl : w5.cell? ⟨g, 1, none⟩ = some (.int .i64 (ln : Int)) := hX.cell 1
  have zx := hX.lt
  go_wp2_with (refine at_op (.store 184 (.tmp 2) (.tmp 82)) rfl ?_; refine wpList_stA (t := 184) 184 (.tmp 2) (.tmp 82) rfl rfl (h4C 0 0 0 false false 0 0 0 0 false 0 0 false 0 0 none 0 0) (h4C 0 0 0 false false 0 0 0 0 false 0 0 false 0 0 none 0 0) rfl (h4C_one _ _ _ _ _ _ _ _ _ _ _ _ _ _ _ _ _ _) rfl rfl hZ (szR4 _ _ _ _ _ _ _ _ _ _ _ _ _ _ _ _ _ _) ?_; intro W9 h9 g9)
  refine bodyPost_agg3 Try.results78 rfl rfl rfl h9.range u1 u2 (szR4 _ _ _ _ _ _ _ _ _ _ _ _ _ _ _ _ _ _) rfl (RetV.mk ?_)
  exact below_grown be g9 (by omega)
end Go.Proofs.Ytfmkndemkpecpaa

/- The reference's Parse of a header of IPv4: the checksum, the header. -/
namespace Go.Proofs.Ytfmkndemkpecpaa
open Go.RowKit
set_option linter.unusedVariables false
set_option linter.unusedSimpArgs false
attribute [local go_sem ↓] sliced_cut

attribute [local go_sem] cutA_zero

set_option maxHeartbeats 4000000 in
set_option maxRecDepth 100000 in
theorem refP4_sum (A : Option Addr) (n c : Nat) (l : List UInt8) (w : World) (h : Rb w A n c l) (hm9 : n ≤ 1000000) (f ts ln id pl tl pr sm sa da : Nat) (st mo : Bool) (x0 : num ((l.drop 0).take 1) = f) (x1 : num ((l.drop 1).take 1) = ts) (x2 : num ((l.drop 2).take 2) = ln) (x3 : num ((l.drop 4).take 2) = id) (x4 : num ((l.drop 6).take 2) = pl) (x5 : num ((l.drop 8).take 1) = tl) (x6 : num ((l.drop 9).take 1) = pr) (x7 : num ((l.drop 10).take 2) = sm) (x8 : num ((l.drop 12).take 4) = sa) (x9 : num ((l.drop 16).take 4) = da) (hst : (pl / 16384 % 2 == 1) = st) (hmo : (pl / 8192 % 2 == 1) = mo) (hn : 20 ≤ n) (hb : f / 16 = 4) (hs : 20 ≤ 4 * (f % 16)) (hp9 : pl < 32768) (hl9 : 4 * (f % 16) ≤ ln) (hq : ln ≤ n) (hck : 65535 - fd (tot false (l.take (4 * (f % 16)))) ≠ 0) : Calls Try.prog 78 #[.slice A n c] w (RetV w (.tuple #[.agg (h4C 0 0 0 false false 0 0 0 0 false 0 0 false 0 0 none 0 0).toArray, .slice none 0 0, .int .i64 22])) := by
  obtain ⟨du, u1, u2⟩ := rowR4
  have hc := h.2.1
  have hl := h.1
  have d20 : decide ((n : Int) < 20) = false := by simp only [decide_eq_false_iff_not]; omega
  have hf8 : f < 256 := by rw [← x0]; exact num_lt' l 0 1 256 (by decide)
  have hpl : pl < 65536 := by rw [← x4]; exact num_lt' l 6 2 65536 (by decide)
  have hln : ln < 65536 := by rw [← x2]; exact num_lt' l 2 2 65536 (by decide)
  have hid : id < 65536 := by rw [← x3]; exact num_lt' l 4 2 65536 (by decide)
  have hsm : sm < 65536 := by rw [← x7]; exact num_lt' l 10 2 65536 (by decide)
  obtain ⟨b, off, rfl, hbl, hcell⟩ := h.2.2.at_ (by rw [bcs_length, h.1]; omega)
  have y0 := num_cell hcell 0 (by rw [h.1]; omega)
  have y1 := num_cell hcell 1 (by rw [h.1]; omega)
  have y8 := num_cell hcell 8 (by rw [h.1]; omega)
  have y9 := num_cell hcell 9 (by rw [h.1]; omega)
  rw [x0] at y0
  rw [x1] at y1
  rw [x5] at y8
  rw [x6] at y9
  have i0 : (0 : Int) < (n : Int) := by omega
  have i1 : (1 : Int) < (n : Int) := by omega
  have i8 : (8 : Int) < (n : Int) := by omega
  have i9 : (9 : Int) < (n : Int) := by omega
  rw [Nat.add_zero] at y0
  clear hcell x0 x1 x5 x6
  obtain ⟨m, hm⟩ : ∃ m : Nat, m = f % 16 := ⟨_, rfl⟩
  have e1 : (f : Int) % 16 = (m : Int) := by omega
  obtain ⟨sz, hsz⟩ : ∃ s : Nat, s = 4 * m := ⟨_, rfl⟩
  have e2 : IntKind.i64.wrap ((m : Int) * 4) = (sz : Int) := by rw [IntWalk.i64_in _ (by omega)]; omega
  have e3 : IntKind.i64.wrap (m : Int) = (m : Int) := IntWalk.i64_in _ (by omega)
  replace x2 := Lib.hid x2
  replace x3 := Lib.hid x3
  replace x4 := Lib.hid x4
  replace x7 := Lib.hid x7
  replace x8 := Lib.hid x8
  replace x9 := Lib.hid x9
  have hb1 : (f : Int) / 16 = 4 := by omega
  have hb1n : ((f : Int) / 16 != 4) = false := by rw [hb1]; rfl
  have qd2 : decide ((sz : Int) < 20) = false := by simp only [decide_eq_false_iff_not]; omega
  have qd3 : decide (sz < 20) = false := by simp only [decide_eq_false_iff_not]; omega
  have qd16 : decide (32767 < (pl : Int)) = false := by simp only [decide_eq_false_iff_not]; omega
  have qd17 : decide (32767 < pl) = false := by simp only [decide_eq_false_iff_not]; omega
  have qd18 : decide ((ln : Int) < (sz : Int)) = false := by simp only [decide_eq_false_iff_not]; omega
  have qd19 : decide (ln < sz) = false := by simp only [decide_eq_false_iff_not]; omega
  have qd20 : decide ((n : Int) < (ln : Int)) = false := by simp only [decide_eq_false_iff_not]; omega
  have qd21 : decide (n < ln) = false := by simp only [decide_eq_false_iff_not]; omega
  obtain ⟨za, hza⟩ : ∃ p : Nat, p = pl / 16384 := ⟨_, rfl⟩
  obtain ⟨zb, hzb⟩ : ∃ p : Nat, p = za % 2 := ⟨_, rfl⟩
  obtain ⟨zc, hzc⟩ : ∃ p : Nat, p = pl / 8192 := ⟨_, rfl⟩
  obtain ⟨zd, hzd⟩ : ∃ p : Nat, p = zc % 2 := ⟨_, rfl⟩
  obtain ⟨fo, hfo⟩ : ∃ p : Nat, p = pl % 8192 := ⟨_, rfl⟩
  have v1 : (pl : Int) / 16384 = (za : Int) := by omega
  have v2 : (za : Int) % 2 = (zb : Int) := by omega
  have v3 : ((zb : Int) == 1) = st := by rw [← hst, ← hza, ← hzb, Bool.eq_iff_iff, beq_iff_eq, beq_iff_eq]; omega
  have v4 : (pl : Int) / 8192 = (zc : Int) := by omega
  have v5 : (zc : Int) % 2 = (zd : Int) := by omega
  have v6 : ((zd : Int) == 1) = mo := by rw [← hmo, ← hzc, ← hzd, Bool.eq_iff_iff, beq_iff_eq, beq_iff_eq]; omega
  have v7 : (pl : Int) % 8192 = (fo : Int) := by omega
  have hfo2 : fo < 8192 := by omega
  have m1 : (za : Int).tmod 2 = (zb : Int) := by rw [Int.tmod_eq_emod_of_nonneg (by omega)]; omega
  have m2 : (zc : Int).tmod 2 = (zd : Int) := by rw [Int.tmod_eq_emod_of_nonneg (by omega)]; omega
  have m3 : (pl : Int).tmod 8192 = (fo : Int) := by rw [Int.tmod_eq_emod_of_nonneg (by omega)]; omega
  have wp1 : IntKind.u64.wrap (za : Int) = (za : Int) := IntWalk.u64_in _ (by omega)
  have wp2 : IntKind.u64.wrap (zb : Int) = (zb : Int) := IntWalk.u64_in _ (by omega)
  have wp3 : IntKind.u64.wrap (zc : Int) = (zc : Int) := IntWalk.u64_in _ (by omega)
  have wp4 : IntKind.u64.wrap (zd : Int) = (zd : Int) := IntWalk.u64_in _ (by omega)
  have wfo : IntKind.u64.wrap (fo : Int) = (fo : Int) := IntWalk.u64_in _ (by omega)
  have v8 : IntKind.i64.wrap (fo : Int) = (fo : Int) := IntWalk.i64_in _ (by omega)
  have v9 : IntKind.i64.wrap (ln : Int) = (ln : Int) := IntWalk.i64_in _ (by omega)
  have va : IntKind.u16.wrap (id : Int) = (id : Int) := IntWalk.u16_in _ (by omega)
  have vb : IntKind.u16.wrap (sm : Int) = (sm : Int) := IntWalk.u16_in _ (by omega)
  clear hza hzb hzc hzd hfo hst hmo
  have hszn : sz ≤ n := by omega
  have hszc : ((sz : Nat) : Int) ≤ (c : Int) := by omega
  have hsz0 : (0 : Int) ≤ (sz : Int) := by omega
  have hts : Rb w (some ⟨b, off, none⟩) sz c (l.take sz) := h.take hszn
  have hs4 : 4 * (f % 16) = sz := by omega
  have HO := Lib.hid (fun w (h : Rb w (some ⟨b, off, none⟩) sz c (l.take sz)) => refSumOf _ _ _ _ w h (by omega))
  rw [hs4] at hck
  have hs1 : 65535 - fd (tot false (l.take sz)) ≤ 65535 := Nat.sub_le _ _
  generalize 65535 - fd (tot false (l.take sz)) = s at *
  have hck2 : ((s : Int) != 0) = true := by rw [bne_iff_ne]; omega
  clear hm hsz hb1 hs4 hck
  have hZ : Bk (w.alloc (.cells #[.int .u8 0, .int .i64 0, .int .u16 0, .bool false, .bool false, .int .i64 0, .int .u8 0, .int .u8 0, .int .u16 0, .bool false, .int .u64 0, .int .u64 0, .bool false, .int .u64 0, .int .u64 0, .slice none 0 0] 184)) w.heap.size 184 (h4C 0 0 0 false false 0 0 0 0 false 0 0 false 0 0 none 0 0) := Bk.new w 184 #[.int .u8 0, .int .i64 0, .int .u16 0, .bool false, .bool false, .int .i64 0, .int .u8 0, .int .u8 0, .int .u16 0, .bool false, .int .u64 0, .int .u64 0, .bool false, .int .u64 0, .int .u64 0, .slice none 0 0]
  have be : Below w.heap.size w (w.alloc (.cells #[.int .u8 0, .int .i64 0, .int .u16 0, .bool false, .bool false, .int .i64 0, .int .u8 0, .int .u8 0, .int .u16 0, .bool false, .int .u64 0, .int .u64 0, .bool false, .int .u64 0, .int .u64 0, .slice none 0 0] 184)) := Below.allocS (Below.refl _ _) _
  go_enter Try.func78, Try.ntmps78
  go_wp2_with fail
  refine (refGetV _ n c l _ _ 6 2 pl _ (h.alloc _) rfl rfl x4.out (by omega) (by omega) (by omega)).mono ?_
  rintro e w1 ⟨rfl, rfl⟩
  go_upto_region 7 with (fail)
  go_wp2
  refine wp_relE 31 103 [0, 3, 5, 6, 8, 9, 10, 11, 12, 13, 14, 15, 16, 17, 18, 19, 20, 23, 26, 28] rfl (by kernel_rfl) (by kernel_rfl) (fun i => match i with | 0 => MP.eq (.slice (some ⟨b, off, none⟩) n c) | 1 => MP.eq (.pointer (some ⟨b, off + 1, none⟩)) | 2 => MP.eq (.int .u8 (ts : Int)) | 3 => MP.eq (.slice (some ⟨b, off, none⟩) n c) | 4 => MP.eq (.int .u64 (ln : Int)) | 5 => MP.eq (.int .i64 (ln : Int)) | 6 => MP.eq (.slice (some ⟨b, off, none⟩) n c) | 7 => MP.eq (.int .u64 (id : Int)) | 8 => MP.eq (.int .u16 (id : Int)) | 9 => MP.eq (.int .u64 (pl : Int)) | 10 => MP.eq (.int .u64 (za : Int)) | 11 => MP.eq (.int .u64 (zb : Int)) | 12 => MP.eq (.bool st) | 13 => MP.eq (.int .u64 (pl : Int)) | 14 => MP.eq (.int .u64 (zc : Int)) | 15 => MP.eq (.int .u64 (zd : Int)) | 16 => MP.eq (.bool mo) | 17 => MP.eq (.int .u64 (pl : Int)) | 18 => MP.eq (.int .u64 (fo : Int)) | 19 => MP.eq (.int .i64 (fo : Int)) | 20 => MP.eq (.slice (some ⟨b, off, none⟩) n c) | 21 => MP.eq (.pointer (some ⟨b, off + 8, none⟩)) | 22 => MP.eq (.int .u8 (tl : Int)) | 23 => MP.eq (.slice (some ⟨b, off, none⟩) n c) | 24 => MP.eq (.pointer (some ⟨b, off + 9, none⟩)) | 25 => MP.eq (.int .u8 (pr : Int)) | 26 => MP.eq (.slice (some ⟨b, off, none⟩) n c) | 27 => MP.eq (.int .u64 (sm : Int)) | 28 => MP.eq (.int .u16 (sm : Int)) | 29 => MP.eq (.agg #[.int .u8 (ts : Int), .int .i64 (ln : Int), .int .u16 (id : Int), .bool st, .bool mo, .int .i64 (fo : Int), .int .u8 (tl : Int), .int .u8 (pr : Int), .int .u16 (sm : Int), .bool false, .int .u64 0, .int .u64 0, .bool false, .int .u64 0, .int .u64 0, .slice none 0 0]) | 30 => MP.blk (w.heap.size + 1) 184 (h4C 0 0 0 false false 0 0 0 0 false 0 0 false 0 0 none 0 0) | _ => MP.any) ?_ ?_
  · intro i hi o ho FA x hO hD
    match i, hi, ho, hO, hD with
    | 0, _, ho, hO, hD => 
      obtain rfl := Option.some.inj ho.symm
      clear ho
      have ev0 : FA.eval (.tmp 0) = .slice (some ⟨b, off, none⟩) n c := hO 0 (by kernel_rfl)
      have e0 : FA.tmps[0]?.getD undef = .slice (some ⟨b, off, none⟩) n c := by simpa [Act.eval] using ev0
      replace ev0 := Lib.hid ev0
      clear hO hD
      rw [if_pos (by decide)]
      refine ⟨.slice (some ⟨b, off, none⟩) n c, .inl ⟨by simp [Region.wanted], fun w => ?_⟩, rfl⟩
      go_simp
    | 1, _, ho, hO, hD => 
      obtain rfl := Option.some.inj ho.symm
      clear ho
      have ev30 : FA.eval (.tmp 30) = .slice (some ⟨b, off, none⟩) n c := hD 0 30 (by kernel_rfl)
      have e30 : FA.tmps[30]?.getD undef = .slice (some ⟨b, off, none⟩) n c := by simpa [Act.eval] using ev30
      replace ev30 := Lib.hid ev30
      clear hO hD
      rw [if_neg (by decide)]
      intro K hK
      go_simp
      exact hK.out _ _ (Ex.refl _) rfl
    | 2, _, ho, hO, hD => 
      obtain rfl := Option.some.inj ho.symm
      clear ho
      have ev31 : FA.eval (.tmp 31) = .pointer (some ⟨b, off + 1, none⟩) := hD 1 31 (by kernel_rfl)
      have e31 : FA.tmps[31]?.getD undef = .pointer (some ⟨b, off + 1, none⟩) := by simpa [Act.eval] using ev31
      replace ev31 := Lib.hid ev31
      clear hO hD
      rw [if_neg (by decide)]
      intro K hK
      go_simp
      exact hK.out _ _ (Ex.refl _) rfl
    | 3, _, ho, hO, hD => 
      obtain rfl := Option.some.inj ho.symm
      clear ho
      have ev0 : FA.eval (.tmp 0) = .slice (some ⟨b, off, none⟩) n c := hO 0 (by kernel_rfl)
      have e0 : FA.tmps[0]?.getD undef = .slice (some ⟨b, off, none⟩) n c := by simpa [Act.eval] using ev0
      replace ev0 := Lib.hid ev0
      clear hO hD
      rw [if_pos (by decide)]
      refine ⟨.slice (some ⟨b, off, none⟩) n c, .inl ⟨by simp [Region.wanted], fun w => ?_⟩, rfl⟩
      go_simp
    | 4, _, ho, hO, hD => 
      obtain rfl := Option.some.inj ho.symm
      clear ho
      have ev33 : FA.eval (.tmp 33) = .slice (some ⟨b, off, none⟩) n c := hD 3 33 (by kernel_rfl)
      have e33 : FA.tmps[33]?.getD undef = .slice (some ⟨b, off, none⟩) n c := by simpa [Act.eval] using ev33
      replace ev33 := Lib.hid ev33
      clear hO hD
      rw [if_neg (by decide)]
      intro K hK
      go_simp
      refine (refGetV _ n c l _ _ 2 2 ln _ ((h.alloc _).plus_ _ _) rfl rfl x2.out (by omega) (by omega) (by omega)).mono ?_
      rintro e w1 ⟨rfl, rfl⟩
      exact hK.out _ _ (Ex.refl _) rfl
    | 5, _, ho, hO, hD => 
      obtain rfl := Option.some.inj ho.symm
      clear ho
      have ev34 : FA.eval (.tmp 34) = .int .u64 (ln : Int) := hD 4 34 (by kernel_rfl)
      have e34 : FA.tmps[34]?.getD undef = .int .u64 (ln : Int) := by simpa [Act.eval] using ev34
      replace ev34 := Lib.hid ev34
      clear hO hD
      rw [if_pos (by decide)]
      refine ⟨.int .i64 (ln : Int), .inl ⟨by simp [Region.wanted], fun w => ?_⟩, rfl⟩
      go_simp
    | 6, _, ho, hO, hD => 
      obtain rfl := Option.some.inj ho.symm
      clear ho
      have ev0 : FA.eval (.tmp 0) = .slice (some ⟨b, off, none⟩) n c := hO 0 (by kernel_rfl)
      have e0 : FA.tmps[0]?.getD undef = .slice (some ⟨b, off, none⟩) n c := by simpa [Act.eval] using ev0
      replace ev0 := Lib.hid ev0
      clear hO hD
      rw [if_pos (by decide)]
      refine ⟨.slice (some ⟨b, off, none⟩) n c, .inl ⟨by simp [Region.wanted], fun w => ?_⟩, rfl⟩
      go_simp
    | 7, _, ho, hO, hD => 
      obtain rfl := Option.some.inj ho.symm
      clear ho
      have ev36 : FA.eval (.tmp 36) = .slice (some ⟨b, off, none⟩) n c := hD 6 36 (by kernel_rfl)
      have e36 : FA.tmps[36]?.getD undef = .slice (some ⟨b, off, none⟩) n c := by simpa [Act.eval] using ev36
      replace ev36 := Lib.hid ev36
      clear hO hD
      rw [if_neg (by decide)]
      intro K hK
      go_simp
      refine (refGetV _ n c l _ _ 4 2 id _ ((h.alloc _).plus_ _ _) rfl rfl x3.out (by omega) (by omega) (by omega)).mono ?_
      rintro e w1 ⟨rfl, rfl⟩
      exact hK.out _ _ (Ex.refl _) rfl
    | 8, _, ho, hO, hD => 
      obtain rfl := Option.some.inj ho.symm
      clear ho
      have ev37 : FA.eval (.tmp 37) = .int .u64 (id : Int) := hD 7 37 (by kernel_rfl)
      have e37 : FA.tmps[37]?.getD undef = .int .u64 (id : Int) := by simpa [Act.eval] using ev37
      replace ev37 := Lib.hid ev37
      clear hO hD
      rw [if_pos (by decide)]
      refine ⟨.int .u16 (id : Int), .inl ⟨by simp [Region.wanted], fun w => ?_⟩, rfl⟩
      go_simp
    | 9, _, ho, hO, hD => 
      obtain rfl := Option.some.inj ho.symm
      clear ho
      have ev6 : FA.eval (.tmp 6) = .int .u64 (pl : Int) := hO 6 (by kernel_rfl)
      have e6 : FA.tmps[6]?.getD undef = .int .u64 (pl : Int) := by simpa [Act.eval] using ev6
      replace ev6 := Lib.hid ev6
      clear hO hD
      rw [if_pos (by decide)]
      refine ⟨.int .u64 (pl : Int), .inl ⟨by simp [Region.wanted], fun w => ?_⟩, rfl⟩
      go_simp
    | 10, _, ho, hO, hD => 
      obtain rfl := Option.some.inj ho.symm
      clear ho
      have ev39 : FA.eval (.tmp 39) = .int .u64 (pl : Int) := hD 9 39 (by kernel_rfl)
      have e39 : FA.tmps[39]?.getD undef = .int .u64 (pl : Int) := by simpa [Act.eval] using ev39
      replace ev39 := Lib.hid ev39
      clear hO hD
      rw [if_pos (by decide)]
      refine ⟨.int .u64 (za : Int), .inl ⟨by simp [Region.wanted], fun w => ?_⟩, rfl⟩
      go_simp
    | 11, _, ho, hO, hD => 
      obtain rfl := Option.some.inj ho.symm
      clear ho
      have ev40 : FA.eval (.tmp 40) = .int .u64 (za : Int) := hD 10 40 (by kernel_rfl)
      have e40 : FA.tmps[40]?.getD undef = .int .u64 (za : Int) := by simpa [Act.eval] using ev40
      replace ev40 := Lib.hid ev40
      clear hO hD
      rw [if_pos (by decide)]
      refine ⟨.int .u64 (zb : Int), .inl ⟨by simp [Region.wanted], fun w => ?_⟩, rfl⟩
      go_simp
    | 12, _, ho, hO, hD => 
      obtain rfl := Option.some.inj ho.symm
      clear ho
      have ev41 : FA.eval (.tmp 41) = .int .u64 (zb : Int) := hD 11 41 (by kernel_rfl)
      have e41 : FA.tmps[41]?.getD undef = .int .u64 (zb : Int) := by simpa [Act.eval] using ev41
      replace ev41 := Lib.hid ev41
      clear hO hD
      rw [if_pos (by decide)]
      refine ⟨.bool st, .inl ⟨by simp [Region.wanted], fun w => ?_⟩, rfl⟩
      go_simp
    | 13, _, ho, hO, hD => 
      obtain rfl := Option.some.inj ho.symm
      clear ho
      have ev6 : FA.eval (.tmp 6) = .int .u64 (pl : Int) := hO 6 (by kernel_rfl)
      have e6 : FA.tmps[6]?.getD undef = .int .u64 (pl : Int) := by simpa [Act.eval] using ev6
      replace ev6 := Lib.hid ev6
      clear hO hD
      rw [if_pos (by decide)]
      refine ⟨.int .u64 (pl : Int), .inl ⟨by simp [Region.wanted], fun w => ?_⟩, rfl⟩
      go_simp
    | 14, _, ho, hO, hD => 
      obtain rfl := Option.some.inj ho.symm
      clear ho
      have ev43 : FA.eval (.tmp 43) = .int .u64 (pl : Int) := hD 13 43 (by kernel_rfl)
      have e43 : FA.tmps[43]?.getD undef = .int .u64 (pl : Int) := by simpa [Act.eval] using ev43
      replace ev43 := Lib.hid ev43
      clear hO hD
      rw [if_pos (by decide)]
      refine ⟨.int .u64 (zc : Int), .inl ⟨by simp [Region.wanted], fun w => ?_⟩, rfl⟩
      go_simp
    | 15, _, ho, hO, hD => 
      obtain rfl := Option.some.inj ho.symm
      clear ho
      have ev44 : FA.eval (.tmp 44) = .int .u64 (zc : Int) := hD 14 44 (by kernel_rfl)
      have e44 : FA.tmps[44]?.getD undef = .int .u64 (zc : Int) := by simpa [Act.eval] using ev44
      replace ev44 := Lib.hid ev44
      clear hO hD
      rw [if_pos (by decide)]
      refine ⟨.int .u64 (zd : Int), .inl ⟨by simp [Region.wanted], fun w => ?_⟩, rfl⟩
      go_simp
    | 16, _, ho, hO, hD => 
      obtain rfl := Option.some.inj ho.symm
      clear ho
      have ev45 : FA.eval (.tmp 45) = .int .u64 (zd : Int) := hD 15 45 (by kernel_rfl)
      have e45 : FA.tmps[45]?.getD undef = .int .u64 (zd : Int) := by simpa [Act.eval] using ev45
      replace ev45 := Lib.hid ev45
      clear hO hD
      rw [if_pos (by decide)]
      refine ⟨.bool mo, .inl ⟨by simp [Region.wanted], fun w => ?_⟩, rfl⟩
      go_simp
    | 17, _, ho, hO, hD => 
      obtain rfl := Option.some.inj ho.symm
      clear ho
      have ev6 : FA.eval (.tmp 6) = .int .u64 (pl : Int) := hO 6 (by kernel_rfl)
      have e6 : FA.tmps[6]?.getD undef = .int .u64 (pl : Int) := by simpa [Act.eval] using ev6
      replace ev6 := Lib.hid ev6
      clear hO hD
      rw [if_pos (by decide)]
      refine ⟨.int .u64 (pl : Int), .inl ⟨by simp [Region.wanted], fun w => ?_⟩, rfl⟩
      go_simp
    | 18, _, ho, hO, hD => 
      obtain rfl := Option.some.inj ho.symm
      clear ho
      have ev47 : FA.eval (.tmp 47) = .int .u64 (pl : Int) := hD 17 47 (by kernel_rfl)
      have e47 : FA.tmps[47]?.getD undef = .int .u64 (pl : Int) := by simpa [Act.eval] using ev47
      replace ev47 := Lib.hid ev47
      clear hO hD
      rw [if_pos (by decide)]
      refine ⟨.int .u64 (fo : Int), .inl ⟨by simp [Region.wanted], fun w => ?_⟩, rfl⟩
      go_simp
    | 19, _, ho, hO, hD => 
      obtain rfl := Option.some.inj ho.symm
      clear ho
      have ev48 : FA.eval (.tmp 48) = .int .u64 (fo : Int) := hD 18 48 (by kernel_rfl)
      have e48 : FA.tmps[48]?.getD undef = .int .u64 (fo : Int) := by simpa [Act.eval] using ev48
      replace ev48 := Lib.hid ev48
      clear hO hD
      rw [if_pos (by decide)]
      refine ⟨.int .i64 (fo : Int), .inl ⟨by simp [Region.wanted], fun w => ?_⟩, rfl⟩
      go_simp
    | 20, _, ho, hO, hD => 
      obtain rfl := Option.some.inj ho.symm
      clear ho
      have ev0 : FA.eval (.tmp 0) = .slice (some ⟨b, off, none⟩) n c := hO 0 (by kernel_rfl)
      have e0 : FA.tmps[0]?.getD undef = .slice (some ⟨b, off, none⟩) n c := by simpa [Act.eval] using ev0
      replace ev0 := Lib.hid ev0
      clear hO hD
      rw [if_pos (by decide)]
      refine ⟨.slice (some ⟨b, off, none⟩) n c, .inl ⟨by simp [Region.wanted], fun w => ?_⟩, rfl⟩
      go_simp
    | 21, _, ho, hO, hD => 
      obtain rfl := Option.some.inj ho.symm
      clear ho
      have ev50 : FA.eval (.tmp 50) = .slice (some ⟨b, off, none⟩) n c := hD 20 50 (by kernel_rfl)
      have e50 : FA.tmps[50]?.getD undef = .slice (some ⟨b, off, none⟩) n c := by simpa [Act.eval] using ev50
      replace ev50 := Lib.hid ev50
      clear hO hD
      rw [if_neg (by decide)]
      intro K hK
      go_simp
      exact hK.out _ _ (Ex.refl _) rfl
    | 22, _, ho, hO, hD => 
      obtain rfl := Option.some.inj ho.symm
      clear ho
      have ev51 : FA.eval (.tmp 51) = .pointer (some ⟨b, off + 8, none⟩) := hD 21 51 (by kernel_rfl)
      have e51 : FA.tmps[51]?.getD undef = .pointer (some ⟨b, off + 8, none⟩) := by simpa [Act.eval] using ev51
      replace ev51 := Lib.hid ev51
      clear hO hD
      rw [if_neg (by decide)]
      intro K hK
      go_simp
      exact hK.out _ _ (Ex.refl _) rfl
    | 23, _, ho, hO, hD => 
      obtain rfl := Option.some.inj ho.symm
      clear ho
      have ev0 : FA.eval (.tmp 0) = .slice (some ⟨b, off, none⟩) n c := hO 0 (by kernel_rfl)
      have e0 : FA.tmps[0]?.getD undef = .slice (some ⟨b, off, none⟩) n c := by simpa [Act.eval] using ev0
      replace ev0 := Lib.hid ev0
      clear hO hD
      rw [if_pos (by decide)]
      refine ⟨.slice (some ⟨b, off, none⟩) n c, .inl ⟨by simp [Region.wanted], fun w => ?_⟩, rfl⟩
      go_simp
    | 24, _, ho, hO, hD => 
      obtain rfl := Option.some.inj ho.symm
      clear ho
      have ev53 : FA.eval (.tmp 53) = .slice (some ⟨b, off, none⟩) n c := hD 23 53 (by kernel_rfl)
      have e53 : FA.tmps[53]?.getD undef = .slice (some ⟨b, off, none⟩) n c := by simpa [Act.eval] using ev53
      replace ev53 := Lib.hid ev53
      clear hO hD
      rw [if_neg (by decide)]
      intro K hK
      go_simp
      exact hK.out _ _ (Ex.refl _) rfl
    | 25, _, ho, hO, hD => 
      obtain rfl := Option.some.inj ho.symm
      clear ho
      have ev54 : FA.eval (.tmp 54) = .pointer (some ⟨b, off + 9, none⟩) := hD 24 54 (by kernel_rfl)
      have e54 : FA.tmps[54]?.getD undef = .pointer (some ⟨b, off + 9, none⟩) := by simpa [Act.eval] using ev54
      replace ev54 := Lib.hid ev54
      clear hO hD
      rw [if_neg (by decide)]
      intro K hK
      go_simp
      exact hK.out _ _ (Ex.refl _) rfl
    | 26, _, ho, hO, hD => 
      obtain rfl := Option.some.inj ho.symm
      clear ho
      have ev0 : FA.eval (.tmp 0) = .slice (some ⟨b, off, none⟩) n c := hO 0 (by kernel_rfl)
      have e0 : FA.tmps[0]?.getD undef = .slice (some ⟨b, off, none⟩) n c := by simpa [Act.eval] using ev0
      replace ev0 := Lib.hid ev0
      clear hO hD
      rw [if_pos (by decide)]
      refine ⟨.slice (some ⟨b, off, none⟩) n c, .inl ⟨by simp [Region.wanted], fun w => ?_⟩, rfl⟩
      go_simp
    | 27, _, ho, hO, hD => 
      obtain rfl := Option.some.inj ho.symm
      clear ho
      have ev56 : FA.eval (.tmp 56) = .slice (some ⟨b, off, none⟩) n c := hD 26 56 (by kernel_rfl)
      have e56 : FA.tmps[56]?.getD undef = .slice (some ⟨b, off, none⟩) n c := by simpa [Act.eval] using ev56
      replace ev56 := Lib.hid ev56
      clear hO hD
      rw [if_neg (by decide)]
      intro K hK
      go_simp
      refine (refGetV _ n c l _ _ 10 2 sm _ ((h.alloc _).plus_ _ _) rfl rfl x7.out (by omega) (by omega) (by omega)).mono ?_
      rintro e w1 ⟨rfl, rfl⟩
      exact hK.out _ _ (Ex.refl _) rfl
    | 28, _, ho, hO, hD => 
      obtain rfl := Option.some.inj ho.symm
      clear ho
      have ev57 : FA.eval (.tmp 57) = .int .u64 (sm : Int) := hD 27 57 (by kernel_rfl)
      have e57 : FA.tmps[57]?.getD undef = .int .u64 (sm : Int) := by simpa [Act.eval] using ev57
      replace ev57 := Lib.hid ev57
      clear hO hD
      rw [if_pos (by decide)]
      refine ⟨.int .u16 (sm : Int), .inl ⟨by simp [Region.wanted], fun w => ?_⟩, rfl⟩
      go_simp
    | 29, _, ho, hO, hD => 
      obtain rfl := Option.some.inj ho.symm
      clear ho
      have ev32 : FA.eval (.tmp 32) = .int .u8 (ts : Int) := hD 2 32 (by kernel_rfl)
      have e32 : FA.tmps[32]?.getD undef = .int .u8 (ts : Int) := by simpa [Act.eval] using ev32
      replace ev32 := Lib.hid ev32
      have ev35 : FA.eval (.tmp 35) = .int .i64 (ln : Int) := hD 5 35 (by kernel_rfl)
      have e35 : FA.tmps[35]?.getD undef = .int .i64 (ln : Int) := by simpa [Act.eval] using ev35
      replace ev35 := Lib.hid ev35
      have ev38 : FA.eval (.tmp 38) = .int .u16 (id : Int) := hD 8 38 (by kernel_rfl)
      have e38 : FA.tmps[38]?.getD undef = .int .u16 (id : Int) := by simpa [Act.eval] using ev38
      replace ev38 := Lib.hid ev38
      have ev42 : FA.eval (.tmp 42) = .bool st := hD 12 42 (by kernel_rfl)
      have e42 : FA.tmps[42]?.getD undef = .bool st := by simpa [Act.eval] using ev42
      replace ev42 := Lib.hid ev42
      have ev46 : FA.eval (.tmp 46) = .bool mo := hD 16 46 (by kernel_rfl)
      have e46 : FA.tmps[46]?.getD undef = .bool mo := by simpa [Act.eval] using ev46
      replace ev46 := Lib.hid ev46
      have ev49 : FA.eval (.tmp 49) = .int .i64 (fo : Int) := hD 19 49 (by kernel_rfl)
      have e49 : FA.tmps[49]?.getD undef = .int .i64 (fo : Int) := by simpa [Act.eval] using ev49
      replace ev49 := Lib.hid ev49
      have ev52 : FA.eval (.tmp 52) = .int .u8 (tl : Int) := hD 22 52 (by kernel_rfl)
      have e52 : FA.tmps[52]?.getD undef = .int .u8 (tl : Int) := by simpa [Act.eval] using ev52
      replace ev52 := Lib.hid ev52
      have ev55 : FA.eval (.tmp 55) = .int .u8 (pr : Int) := hD 25 55 (by kernel_rfl)
      have e55 : FA.tmps[55]?.getD undef = .int .u8 (pr : Int) := by simpa [Act.eval] using ev55
      replace ev55 := Lib.hid ev55
      have ev58 : FA.eval (.tmp 58) = .int .u16 (sm : Int) := hD 28 58 (by kernel_rfl)
      have e58 : FA.tmps[58]?.getD undef = .int .u16 (sm : Int) := by simpa [Act.eval] using ev58
      replace ev58 := Lib.hid ev58
      clear hO hD
      rw [if_neg (by decide)]
      intro K hK
      go_simp
      exact hK.out _ _ (Ex.refl _) rfl
    | 30, _, ho, hO, hD => 
      obtain rfl := Option.some.inj ho.symm
      clear ho
      clear hO hD
      rw [if_neg (by decide)]
      intro K hK
      go_simp
      refine hK.out _ _ (Ex.alloc _ _) ⟨_, rfl, ?_, ?_⟩
      · simp [size_plus]
      · refine Bk.newK _ _ _ ?_ rfl
        simp [size_plus]
    | (k + 31), hi, _, _, _ => exact absurd hi (by omega)
  intro vs x hp
  have p0 : vs 0 = .slice (some ⟨b, off, none⟩) n c := hp 0 (by omega)
  have p1 : vs 1 = .pointer (some ⟨b, off + 1, none⟩) := hp 1 (by omega)
  have p2 : vs 2 = .int .u8 (ts : Int) := hp 2 (by omega)
  have p3 : vs 3 = .slice (some ⟨b, off, none⟩) n c := hp 3 (by omega)
  have p4 : vs 4 = .int .u64 (ln : Int) := hp 4 (by omega)
  have p5 : vs 5 = .int .i64 (ln : Int) := hp 5 (by omega)
  have p6 : vs 6 = .slice (some ⟨b, off, none⟩) n c := hp 6 (by omega)
  have p7 : vs 7 = .int .u64 (id : Int) := hp 7 (by omega)
  have p8 : vs 8 = .int .u16 (id : Int) := hp 8 (by omega)
  have p9 : vs 9 = .int .u64 (pl : Int) := hp 9 (by omega)
  have p10 : vs 10 = .int .u64 (za : Int) := hp 10 (by omega)
  have p11 : vs 11 = .int .u64 (zb : Int) := hp 11 (by omega)
  have p12 : vs 12 = .bool st := hp 12 (by omega)
  have p13 : vs 13 = .int .u64 (pl : Int) := hp 13 (by omega)
  have p14 : vs 14 = .int .u64 (zc : Int) := hp 14 (by omega)
  have p15 : vs 15 = .int .u64 (zd : Int) := hp 15 (by omega)
  have p16 : vs 16 = .bool mo := hp 16 (by omega)
  have p17 : vs 17 = .int .u64 (pl : Int) := hp 17 (by omega)
  have p18 : vs 18 = .int .u64 (fo : Int) := hp 18 (by omega)
  have p19 : vs 19 = .int .i64 (fo : Int) := hp 19 (by omega)
  have p20 : vs 20 = .slice (some ⟨b, off, none⟩) n c := hp 20 (by omega)
  have p21 : vs 21 = .pointer (some ⟨b, off + 8, none⟩) := hp 21 (by omega)
  have p22 : vs 22 = .int .u8 (tl : Int) := hp 22 (by omega)
  have p23 : vs 23 = .slice (some ⟨b, off, none⟩) n c := hp 23 (by omega)
  have p24 : vs 24 = .pointer (some ⟨b, off + 9, none⟩) := hp 24 (by omega)
  have p25 : vs 25 = .int .u8 (pr : Int) := hp 25 (by omega)
  have p26 : vs 26 = .slice (some ⟨b, off, none⟩) n c := hp 26 (by omega)
  have p27 : vs 27 = .int .u64 (sm : Int) := hp 27 (by omega)
  have p28 : vs 28 = .int .u16 (sm : Int) := hp 28 (by omega)
  have p29 : vs 29 = .agg #[.int .u8 (ts : Int), .int .i64 (ln : Int), .int .u16 (id : Int), .bool st, .bool mo, .int .i64 (fo : Int), .int .u8 (tl : Int), .int .u8 (pr : Int), .int .u16 (sm : Int), .bool false, .int .u64 0, .int .u64 0, .bool false, .int .u64 0, .int .u64 0, .slice none 0 0] := hp 29 (by omega)
  have p30 := hp 30 (by omega)
  clear hp
  simp only [List.take_succ_cons, List.take_zero, List.drop_succ_cons, List.drop_zero, putAll, Nat.zero_add, Nat.reduceAdd, Act.put, List.setIfInBounds_toArray, List.set_cons_zero, List.set_cons_succ, p0, p1, p2, p3, p4, p5, p6, p7, p8, p9, p10, p11, p12, p13, p14, p15, p16, p17, p18, p19, p20, p21, p22, p23, p24, p25, p26, p27, p28, p29]
  clear p0 p1 p2 p3 p4 p5 p6 p7 p8 p9 p10 p11 p12 p13 p14 p15 p16 p17 p18 p19 p20 p21 p22 p23 p24 p25 p26 p27 p28 p29
  generalize vs 30 = y30 at *
  clear vs
  obtain ⟨g, rfl, hgw, hb⟩ := p30
  go_upto_region 8 with (refine at_op (.store 184 (.tmp 7) (.tmp 59)) rfl ?_; refine wpList_stA (t := 184) 184 (.tmp 7) (.tmp 59) rfl rfl ([.int .u8 (ts : Int), .int .i64 (ln : Int), .int .u16 (id : Int), .bool st, .bool mo, .int .i64 (fo : Int), .int .u8 (tl : Int), .int .u8 (pr : Int), .int .u16 (sm : Int), .bool false, .int .u64 0, .int .u64 0, .bool false, .int .u64 0, .int .u64 0, .slice none 0 0]) (h4C 0 0 0 false false 0 0 0 0 false 0 0 false 0 0 none 0 0) rfl (by simp [Value.oneCell']) rfl rfl hb (by kernel_rfl) ?_; intro w3 hX hg3)
  replace hZ := (hZ.later (below_plus _ x.bs x.d)).grown hg3 (by simp; omega)
  replace be := below_grown (belowP be x.bs x.d) hg3 (by omega)
  clear hg3 hb
  refine NoPanic.normal ?_
  go_wp2_with fail
  refine (refGetV _ n c l _ _ 12 4 sa _ (h.later be) rfl rfl x8.out (by omega) (by omega) (by omega)).mono ?_
  rintro e w1 ⟨rfl, rfl⟩
  have zx := hX.lt
  go_upto_region 9 with (refine at_op (.store 26 (.tmp 63) (.tmp 62)) rfl ?_; refine wpList_stM (t := 184) 26 (.tmp 63) (.tmp 62) rfl rfl (adC false 0 sa) _ (by simp [adC]) (adC_one _ _ _) rfl rfl hX (szAd _ _ _) ?_; intro w4 hX2 hg)
  simp only [splice, adC, List.take_succ_cons, List.take_zero, List.drop_succ_cons, List.drop_zero, List.length_cons, List.length_nil, Nat.zero_add, Nat.reduceAdd, List.cons_append, List.nil_append] at hX2
  replace hZ := hZ.grown hg (by simp; omega)
  replace be := below_grown be hg (by omega)
  clear hX hg zx
  have hX := hX2
  clear hX2
  go_wp2_with fail
  refine (refGetV _ n c l _ _ 16 4 da _ (h.later be) rfl rfl x9.out (by omega) (by omega) (by omega)).mono ?_
  rintro e w1 ⟨rfl, rfl⟩
  have zx := hX.lt
  go_upto_region 10 with (refine at_op (.store 26 (.tmp 67) (.tmp 66)) rfl ?_; refine wpList_stM (t := 184) 26 (.tmp 67) (.tmp 66) rfl rfl (adC false 0 da) _ (by simp [adC]) (adC_one _ _ _) rfl rfl hX (szAd _ _ _) ?_; intro w5 hX2 hg)
  simp only [splice, adC, List.take_succ_cons, List.take_zero, List.drop_succ_cons, List.drop_zero, List.length_cons, List.length_nil, Nat.zero_add, Nat.reduceAdd, List.cons_append, List.nil_append] at hX2
  replace hZ := hZ.grown hg (by simp; omega)
  replace be := below_grown be hg (by omega)
  clear hX hg zx
  have hX := hX2
  clear hX2
  have yl : w5.cell? ⟨g, 1, none⟩ = some (.int .i64 (ln : Int)) := hX.cell 1
  have zx := hX.lt
  go_wp2_with fail
  refine (HO.out _ (hts.later be)).mono ?_
  rintro e w1 ⟨rfl, rfl⟩
  go_wp2_with (refine at_op (.store 184 (.tmp 2) (.tmp 88)) rfl ?_; refine wpList_stA (t := 184) 184 (.tmp 2) (.tmp 88) rfl rfl (h4C 0 0 0 false false 0 0 0 0 false 0 0 false 0 0 none 0 0) (h4C 0 0 0 false false 0 0 0 0 false 0 0 false 0 0 none 0 0) rfl (h4C_one _ _ _ _ _ _ _ _ _ _ _ _ _ _ _ _ _ _) rfl rfl hZ (szR4 _ _ _ _ _ _ _ _ _ _ _ _ _ _ _ _ _ _) ?_; intro W9 h9 g9)
  refine bodyPost_agg3 Try.results78 rfl rfl rfl h9.range u1 u2 (szR4 _ _ _ _ _ _ _ _ _ _ _ _ _ _ _ _ _ _) rfl (RetV.mk ?_)
  exact below_grown be g9 (by omega)
set_option maxHeartbeats 4000000 in
set_option maxRecDepth 100000 in
theorem refP4_ok (A : Option Addr) (n c : Nat) (l : List UInt8) (w : World) (h : Rb w A n c l) (hm9 : n ≤ 1000000) (f ts ln id pl tl pr sm sa da : Nat) (st mo : Bool) (x0 : num ((l.drop 0).take 1) = f) (x1 : num ((l.drop 1).take 1) = ts) (x2 : num ((l.drop 2).take 2) = ln) (x3 : num ((l.drop 4).take 2) = id) (x4 : num ((l.drop 6).take 2) = pl) (x5 : num ((l.drop 8).take 1) = tl) (x6 : num ((l.drop 9).take 1) = pr) (x7 : num ((l.drop 10).take 2) = sm) (x8 : num ((l.drop 12).take 4) = sa) (x9 : num ((l.drop 16).take 4) = da) (hst : (pl / 16384 % 2 == 1) = st) (hmo : (pl / 8192 % 2 == 1) = mo) (hn : 20 ≤ n) (hb : f / 16 = 4) (hs : 20 ≤ 4 * (f % 16)) (hp9 : pl < 32768) (hl9 : 4 * (f % 16) ≤ ln) (hq : ln ≤ n) (hck : 65535 - fd (tot false (l.take (4 * (f % 16)))) = 0) : Calls Try.prog 78 #[.slice A n c] w (RetP4 w ts ln id st mo (pl % 8192) tl pr sm sa da ((l.drop 20).take (4 * (f % 16) - 20)) ((l.drop (4 * (f % 16))).take (ln - 4 * (f % 16)))) := by
  obtain ⟨du, u1, u2⟩ := rowR4
  have hc := h.2.1
  have hl := h.1
  have d20 : decide ((n : Int) < 20) = false := by simp only [decide_eq_false_iff_not]; omega
  have hf8 : f < 256 := by rw [← x0]; exact num_lt' l 0 1 256 (by decide)
  have hpl : pl < 65536 := by rw [← x4]; exact num_lt' l 6 2 65536 (by decide)
  have hln : ln < 65536 := by rw [← x2]; exact num_lt' l 2 2 65536 (by decide)
  have hid : id < 65536 := by rw [← x3]; exact num_lt' l 4 2 65536 (by decide)
  have hsm : sm < 65536 := by rw [← x7]; exact num_lt' l 10 2 65536 (by decide)
  obtain ⟨b, off, rfl, hbl, hcell⟩ := h.2.2.at_ (by rw [bcs_length, h.1]; omega)
  have y0 := num_cell hcell 0 (by rw [h.1]; omega)
  have y1 := num_cell hcell 1 (by rw [h.1]; omega)
  have y8 := num_cell hcell 8 (by rw [h.1]; omega)
  have y9 := num_cell hcell 9 (by rw [h.1]; omega)
  rw [x0] at y0
  rw [x1] at y1
  rw [x5] at y8
  rw [x6] at y9
  have i0 : (0 : Int) < (n : Int) := by omega
  have i1 : (1 : Int) < (n : Int) := by omega
  have i8 : (8 : Int) < (n : Int) := by omega
  have i9 : (9 : Int) < (n : Int) := by omega
  rw [Nat.add_zero] at y0
  clear hcell x0 x1 x5 x6
  obtain ⟨m, hm⟩ : ∃ m : Nat, m = f % 16 := ⟨_, rfl⟩
  have e1 : (f : Int) % 16 = (m : Int) := by omega
  obtain ⟨sz, hsz⟩ : ∃ s : Nat, s = 4 * m := ⟨_, rfl⟩
  have e2 : IntKind.i64.wrap ((m : Int) * 4) = (sz : Int) := by rw [IntWalk.i64_in _ (by omega)]; omega
  have e3 : IntKind.i64.wrap (m : Int) = (m : Int) := IntWalk.i64_in _ (by omega)
  replace x2 := Lib.hid x2
  replace x3 := Lib.hid x3
  replace x4 := Lib.hid x4
  replace x7 := Lib.hid x7
  replace x8 := Lib.hid x8
  replace x9 := Lib.hid x9
  have hb1 : (f : Int) / 16 = 4 := by omega
  have hb1n : ((f : Int) / 16 != 4) = false := by rw [hb1]; rfl
  have qd2 : decide ((sz : Int) < 20) = false := by simp only [decide_eq_false_iff_not]; omega
  have qd3 : decide (sz < 20) = false := by simp only [decide_eq_false_iff_not]; omega
  have qd16 : decide (32767 < (pl : Int)) = false := by simp only [decide_eq_false_iff_not]; omega
  have qd17 : decide (32767 < pl) = false := by simp only [decide_eq_false_iff_not]; omega
  have qd18 : decide ((ln : Int) < (sz : Int)) = false := by simp only [decide_eq_false_iff_not]; omega
  have qd19 : decide (ln < sz) = false := by simp only [decide_eq_false_iff_not]; omega
  have qd20 : decide ((n : Int) < (ln : Int)) = false := by simp only [decide_eq_false_iff_not]; omega
  have qd21 : decide (n < ln) = false := by simp only [decide_eq_false_iff_not]; omega
  obtain ⟨za, hza⟩ : ∃ p : Nat, p = pl / 16384 := ⟨_, rfl⟩
  obtain ⟨zb, hzb⟩ : ∃ p : Nat, p = za % 2 := ⟨_, rfl⟩
  obtain ⟨zc, hzc⟩ : ∃ p : Nat, p = pl / 8192 := ⟨_, rfl⟩
  obtain ⟨zd, hzd⟩ : ∃ p : Nat, p = zc % 2 := ⟨_, rfl⟩
  obtain ⟨fo, hfo⟩ : ∃ p : Nat, p = pl % 8192 := ⟨_, rfl⟩
  have v1 : (pl : Int) / 16384 = (za : Int) := by omega
  have v2 : (za : Int) % 2 = (zb : Int) := by omega
  have v3 : ((zb : Int) == 1) = st := by rw [← hst, ← hza, ← hzb, Bool.eq_iff_iff, beq_iff_eq, beq_iff_eq]; omega
  have v4 : (pl : Int) / 8192 = (zc : Int) := by omega
  have v5 : (zc : Int) % 2 = (zd : Int) := by omega
  have v6 : ((zd : Int) == 1) = mo := by rw [← hmo, ← hzc, ← hzd, Bool.eq_iff_iff, beq_iff_eq, beq_iff_eq]; omega
  have v7 : (pl : Int) % 8192 = (fo : Int) := by omega
  have hfo2 : fo < 8192 := by omega
  have m1 : (za : Int).tmod 2 = (zb : Int) := by rw [Int.tmod_eq_emod_of_nonneg (by omega)]; omega
  have m2 : (zc : Int).tmod 2 = (zd : Int) := by rw [Int.tmod_eq_emod_of_nonneg (by omega)]; omega
  have m3 : (pl : Int).tmod 8192 = (fo : Int) := by rw [Int.tmod_eq_emod_of_nonneg (by omega)]; omega
  have wp1 : IntKind.u64.wrap (za : Int) = (za : Int) := IntWalk.u64_in _ (by omega)
  have wp2 : IntKind.u64.wrap (zb : Int) = (zb : Int) := IntWalk.u64_in _ (by omega)
  have wp3 : IntKind.u64.wrap (zc : Int) = (zc : Int) := IntWalk.u64_in _ (by omega)
  have wp4 : IntKind.u64.wrap (zd : Int) = (zd : Int) := IntWalk.u64_in _ (by omega)
  have wfo : IntKind.u64.wrap (fo : Int) = (fo : Int) := IntWalk.u64_in _ (by omega)
  have v8 : IntKind.i64.wrap (fo : Int) = (fo : Int) := IntWalk.i64_in _ (by omega)
  have v9 : IntKind.i64.wrap (ln : Int) = (ln : Int) := IntWalk.i64_in _ (by omega)
  have va : IntKind.u16.wrap (id : Int) = (id : Int) := IntWalk.u16_in _ (by omega)
  have vb : IntKind.u16.wrap (sm : Int) = (sm : Int) := IntWalk.u16_in _ (by omega)
  rw [← hfo]
  clear hza hzb hzc hzd hfo hst hmo
  have hszn : sz ≤ n := by omega
  have hszc : ((sz : Nat) : Int) ≤ (c : Int) := by omega
  have hsz0 : (0 : Int) ≤ (sz : Int) := by omega
  have hts : Rb w (some ⟨b, off, none⟩) sz c (l.take sz) := h.take hszn
  have hs4 : 4 * (f % 16) = sz := by omega
  have HO := Lib.hid (fun w (h : Rb w (some ⟨b, off, none⟩) sz c (l.take sz)) => refSumOf _ _ _ _ w h (by omega))
  rw [hs4] at hck
  have hs1 : 65535 - fd (tot false (l.take sz)) ≤ 65535 := Nat.sub_le _ _
  generalize 65535 - fd (tot false (l.take sz)) = s at *
  have hck2 : ((s : Int) != 0) = false := by rw [bne_eq_false_iff_eq]; omega
  have hopt : Rb w (cutA (some ⟨b, off, none⟩) c 20 1) (sz - 20) (c - 20) ((l.drop 20).take (sz - 20)) := (h.cut (k := 20) (by omega)).take (by omega)
  have hload : Rb w (cutA (some ⟨b, off, none⟩) c sz 1) (ln - sz) (c - sz) ((l.drop sz).take (ln - sz)) := (h.cut (k := sz) (by omega)).take (by omega)
  have j1 : (20 : Int) ≤ (sz : Int) := by omega
  have j2 : (sz : Int) ≤ (ln : Int) := by omega
  have j3 : (ln : Int) ≤ (c : Int) := by omega
  rw [hs4]
  generalize (l.drop sz).take (ln - sz) = load at *
  clear hm hsz hb1 hs4 hck
  have hZ : Bk (w.alloc (.cells #[.int .u8 0, .int .i64 0, .int .u16 0, .bool false, .bool false, .int .i64 0, .int .u8 0, .int .u8 0, .int .u16 0, .bool false, .int .u64 0, .int .u64 0, .bool false, .int .u64 0, .int .u64 0, .slice none 0 0] 184)) w.heap.size 184 (h4C 0 0 0 false false 0 0 0 0 false 0 0 false 0 0 none 0 0) := Bk.new w 184 #[.int .u8 0, .int .i64 0, .int .u16 0, .bool false, .bool false, .int .i64 0, .int .u8 0, .int .u8 0, .int .u16 0, .bool false, .int .u64 0, .int .u64 0, .bool false, .int .u64 0, .int .u64 0, .slice none 0 0]
  have be : Below w.heap.size w (w.alloc (.cells #[.int .u8 0, .int .i64 0, .int .u16 0, .bool false, .bool false, .int .i64 0, .int .u8 0, .int .u8 0, .int .u16 0, .bool false, .int .u64 0, .int .u64 0, .bool false, .int .u64 0, .int .u64 0, .slice none 0 0] 184)) := Below.allocS (Below.refl _ _) _
  go_enter Try.func78, Try.ntmps78
  go_wp2_with fail
  refine (refGetV _ n c l _ _ 6 2 pl _ (h.alloc _) rfl rfl x4.out (by omega) (by omega) (by omega)).mono ?_
  rintro e w1 ⟨rfl, rfl⟩
  go_upto_region 7 with (fail)
  go_wp2
  refine wp_relE 31 103 [0, 3, 5, 6, 8, 9, 10, 11, 12, 13, 14, 15, 16, 17, 18, 19, 20, 23, 26, 28] rfl (by kernel_rfl) (by kernel_rfl) (fun i => match i with | 0 => MP.eq (.slice (some ⟨b, off, none⟩) n c) | 1 => MP.eq (.pointer (some ⟨b, off + 1, none⟩)) | 2 => MP.eq (.int .u8 (ts : Int)) | 3 => MP.eq (.slice (some ⟨b, off, none⟩) n c) | 4 => MP.eq (.int .u64 (ln : Int)) | 5 => MP.eq (.int .i64 (ln : Int)) | 6 => MP.eq (.slice (some ⟨b, off, none⟩) n c) | 7 => MP.eq (.int .u64 (id : Int)) | 8 => MP.eq (.int .u16 (id : Int)) | 9 => MP.eq (.int .u64 (pl : Int)) | 10 => MP.eq (.int .u64 (za : Int)) | 11 => MP.eq (.int .u64 (zb : Int)) | 12 => MP.eq (.bool st) | 13 => MP.eq (.int .u64 (pl : Int)) | 14 => MP.eq (.int .u64 (zc : Int)) | 15 => MP.eq (.int .u64 (zd : Int)) | 16 => MP.eq (.bool mo) | 17 => MP.eq (.int .u64 (pl : Int)) | 18 => MP.eq (.int .u64 (fo : Int)) | 19 => MP.eq (.int .i64 (fo : Int)) | 20 => MP.eq (.slice (some ⟨b, off, none⟩) n c) | 21 => MP.eq (.pointer (some ⟨b, off + 8, none⟩)) | 22 => MP.eq (.int .u8 (tl : Int)) | 23 => MP.eq (.slice (some ⟨b, off, none⟩) n c) | 24 => MP.eq (.pointer (some ⟨b, off + 9, none⟩)) | 25 => MP.eq (.int .u8 (pr : Int)) | 26 => MP.eq (.slice (some ⟨b, off, none⟩) n c) | 27 => MP.eq (.int .u64 (sm : Int)) | 28 => MP.eq (.int .u16 (sm : Int)) | 29 => MP.eq (.agg #[.int .u8 (ts : Int), .int .i64 (ln : Int), .int .u16 (id : Int), .bool st, .bool mo, .int .i64 (fo : Int), .int .u8 (tl : Int), .int .u8 (pr : Int), .int .u16 (sm : Int), .bool false, .int .u64 0, .int .u64 0, .bool false, .int .u64 0, .int .u64 0, .slice none 0 0]) | 30 => MP.blk (w.heap.size + 1) 184 (h4C 0 0 0 false false 0 0 0 0 false 0 0 false 0 0 none 0 0) | _ => MP.any) ?_ ?_
  · intro i hi o ho FA x hO hD
    match i, hi, ho, hO, hD with
    | 0, _, ho, hO, hD => 
      obtain rfl := Option.some.inj ho.symm
      clear ho
      have ev0 : FA.eval (.tmp 0) = .slice (some ⟨b, off, none⟩) n c := hO 0 (by kernel_rfl)
      have e0 : FA.tmps[0]?.getD undef = .slice (some ⟨b, off, none⟩) n c := by simpa [Act.eval] using ev0
      replace ev0 := Lib.hid ev0
      clear hO hD
      rw [if_pos (by decide)]
      refine ⟨.slice (some ⟨b, off, none⟩) n c, .inl ⟨by simp [Region.wanted], fun w => ?_⟩, rfl⟩
      go_simp
    | 1, _, ho, hO, hD => 
      obtain rfl := Option.some.inj ho.symm
      clear ho
      have ev30 : FA.eval (.tmp 30) = .slice (some ⟨b, off, none⟩) n c := hD 0 30 (by kernel_rfl)
      have e30 : FA.tmps[30]?.getD undef = .slice (some ⟨b, off, none⟩) n c := by simpa [Act.eval] using ev30
      replace ev30 := Lib.hid ev30
      clear hO hD
      rw [if_neg (by decide)]
      intro K hK
      go_simp
      exact hK.out _ _ (Ex.refl _) rfl
    | 2, _, ho, hO, hD => 
      obtain rfl := Option.some.inj ho.symm
      clear ho
      have ev31 : FA.eval (.tmp 31) = .pointer (some ⟨b, off + 1, none⟩) := hD 1 31 (by kernel_rfl)
      have e31 : FA.tmps[31]?.getD undef = .pointer (some ⟨b, off + 1, none⟩) := by simpa [Act.eval] using ev31
      replace ev31 := Lib.hid ev31
      clear hO hD
      rw [if_neg (by decide)]
      intro K hK
      go_simp
      exact hK.out _ _ (Ex.refl _) rfl
    | 3, _, ho, hO, hD => 
      obtain rfl := Option.some.inj ho.symm
      clear ho
      have ev0 : FA.eval (.tmp 0) = .slice (some ⟨b, off, none⟩) n c := hO 0 (by kernel_rfl)
      have e0 : FA.tmps[0]?.getD undef = .slice (some ⟨b, off, none⟩) n c := by simpa [Act.eval] using ev0
      replace ev0 := Lib.hid ev0
      clear hO hD
      rw [if_pos (by decide)]
      refine ⟨.slice (some ⟨b, off, none⟩) n c, .inl ⟨by simp [Region.wanted], fun w => ?_⟩, rfl⟩
      go_simp
    | 4, _, ho, hO, hD => 
      obtain rfl := Option.some.inj ho.symm
      clear ho
      have ev33 : FA.eval (.tmp 33) = .slice (some ⟨b, off, none⟩) n c := hD 3 33 (by kernel_rfl)
      have e33 : FA.tmps[33]?.getD undef = .slice (some ⟨b, off, none⟩) n c := by simpa [Act.eval] using ev33
      replace ev33 := Lib.hid ev33
      clear hO hD
      rw [if_neg (by decide)]
      intro K hK
      go_simp
      refine (refGetV _ n c l _ _ 2 2 ln _ ((h.alloc _).plus_ _ _) rfl rfl x2.out (by omega) (by omega) (by omega)).mono ?_
      rintro e w1 ⟨rfl, rfl⟩
      exact hK.out _ _ (Ex.refl _) rfl
    | 5, _, ho, hO, hD => 
      obtain rfl := Option.some.inj ho.symm
      clear ho
      have ev34 : FA.eval (.tmp 34) = .int .u64 (ln : Int) := hD 4 34 (by kernel_rfl)
      have e34 : FA.tmps[34]?.getD undef = .int .u64 (ln : Int) := by simpa [Act.eval] using ev34
      replace ev34 := Lib.hid ev34
      clear hO hD
      rw [if_pos (by decide)]
      refine ⟨.int .i64 (ln : Int), .inl ⟨by simp [Region.wanted], fun w => ?_⟩, rfl⟩
      go_simp
    | 6, _, ho, hO, hD => 
      obtain rfl := Option.some.inj ho.symm
      clear ho
      have ev0 : FA.eval (.tmp 0) = .slice (some ⟨b, off, none⟩) n c := hO 0 (by kernel_rfl)
      have e0 : FA.tmps[0]?.getD undef = .slice (some ⟨b, off, none⟩) n c := by simpa [Act.eval] using ev0
      replace ev0 := Lib.hid ev0
      clear hO hD
      rw [if_pos (by decide)]
      refine ⟨.slice (some ⟨b, off, none⟩) n c, .inl ⟨by simp [Region.wanted], fun w => ?_⟩, rfl⟩
      go_simp
    | 7, _, ho, hO, hD => 
      obtain rfl := Option.some.inj ho.symm
      clear ho
      have ev36 : FA.eval (.tmp 36) = .slice (some ⟨b, off, none⟩) n c := hD 6 36 (by kernel_rfl)
      have e36 : FA.tmps[36]?.getD undef = .slice (some ⟨b, off, none⟩) n c := by simpa [Act.eval] using ev36
      replace ev36 := Lib.hid ev36
      clear hO hD
      rw [if_neg (by decide)]
      intro K hK
      go_simp
      refine (refGetV _ n c l _ _ 4 2 id _ ((h.alloc _).plus_ _ _) rfl rfl x3.out (by omega) (by omega) (by omega)).mono ?_
      rintro e w1 ⟨rfl, rfl⟩
      exact hK.out _ _ (Ex.refl _) rfl
    | 8, _, ho, hO, hD => 
      obtain rfl := Option.some.inj ho.symm
      clear ho
      have ev37 : FA.eval (.tmp 37) = .int .u64 (id : Int) := hD 7 37 (by kernel_rfl)
      have e37 : FA.tmps[37]?.getD undef = .int .u64 (id : Int) := by simpa [Act.eval] using ev37
      replace ev37 := Lib.hid ev37
      clear hO hD
      rw [if_pos (by decide)]
      refine ⟨.int .u16 (id : Int), .inl ⟨by simp [Region.wanted], fun w => ?_⟩, rfl⟩
      go_simp
    | 9, _, ho, hO, hD => 
      obtain rfl := Option.some.inj ho.symm
      clear ho
      have ev6 : FA.eval (.tmp 6) = .int .u64 (pl : Int) := hO 6 (by kernel_rfl)
      have e6 : FA.tmps[6]?.getD undef = .int .u64 (pl : Int) := by simpa [Act.eval] using ev6
      replace ev6 := Lib.hid ev6
      clear hO hD
      rw [if_pos (by decide)]
      refine ⟨.int .u64 (pl : Int), .inl ⟨by simp [Region.wanted], fun w => ?_⟩, rfl⟩
      go_simp
    | 10, _, ho, hO, hD => 
      obtain rfl := Option.some.inj ho.symm
      clear ho
      have ev39 : FA.eval (.tmp 39) = .int .u64 (pl : Int) := hD 9 39 (by kernel_rfl)
      have e39 : FA.tmps[39]?.getD undef = .int .u64 (pl : Int) := by simpa [Act.eval] using ev39
      replace ev39 := Lib.hid ev39
      clear hO hD
      rw [if_pos (by decide)]
      refine ⟨.int .u64 (za : Int), .inl ⟨by simp [Region.wanted], fun w => ?_⟩, rfl⟩
      go_simp
    | 11, _, ho, hO, hD => 
      obtain rfl := Option.some.inj ho.symm
      clear ho
      have ev40 : FA.eval (.tmp 40) = .int .u64 (za : Int) := hD 10 40 (by kernel_rfl)
      have e40 : FA.tmps[40]?.getD undef = .int .u64 (za : Int) := by simpa [Act.eval] using ev40
      replace ev40 := Lib.hid ev40
      clear hO hD
      rw [if_pos (by decide)]
      refine ⟨.int .u64 (zb : Int), .inl ⟨by simp [Region.wanted], fun w => ?_⟩, rfl⟩
      go_simp
    | 12, _, ho, hO, hD => 
      obtain rfl := Option.some.inj ho.symm
      clear ho
      have ev41 : FA.eval (.tmp 41) = .int .u64 (zb : Int) := hD 11 41 (by kernel_rfl)
      have e41 : FA.tmps[41]?.getD undef = .int .u64 (zb : Int) := by simpa [Act.eval] using ev41
      replace ev41 := Lib.hid ev41
      clear hO hD
      rw [if_pos (by decide)]
      refine ⟨.bool st, .inl ⟨by simp [Region.wanted], fun w => ?_⟩, rfl⟩
      go_simp
    | 13, _, ho, hO, hD => 
      obtain rfl := Option.some.inj ho.symm
      clear ho
      have ev6 : FA.eval (.tmp 6) = .int .u64 (pl : Int) := hO 6 (by kernel_rfl)
      have e6 : FA.tmps[6]?.getD undef = .int .u64 (pl : Int) := by simpa [Act.eval] using ev6
      replace ev6 := Lib.hid ev6
      clear hO hD
      rw [if_pos (by decide)]
      refine ⟨.int .u64 (pl : Int), .inl ⟨by simp [Region.wanted], fun w => ?_⟩, rfl⟩
      go_simp
    | 14, _, ho, hO, hD => 
      obtain rfl := Option.some.inj ho.symm
      clear ho
      have ev43 : FA.eval (.tmp 43) = .int .u64 (pl : Int) := hD 13 43 (by kernel_rfl)
      have e43 : FA.tmps[43]?.getD undef = .int .u64 (pl : Int) := by simpa [Act.eval] using ev43
      replace ev43 := Lib.hid ev43
      clear hO hD
      rw [if_pos (by decide)]
      refine ⟨.int .u64 (zc : Int), .inl ⟨by simp [Region.wanted], fun w => ?_⟩, rfl⟩
      go_simp
    | 15, _, ho, hO, hD => 
      obtain rfl := Option.some.inj ho.symm
      clear ho
      have ev44 : FA.eval (.tmp 44) = .int .u64 (zc : Int) := hD 14 44 (by kernel_rfl)
      have e44 : FA.tmps[44]?.getD undef = .int .u64 (zc : Int) := by simpa [Act.eval] using ev44
      replace ev44 := Lib.hid ev44
      clear hO hD
      rw [if_pos (by decide)]
      refine ⟨.int .u64 (zd : Int), .inl ⟨by simp [Region.wanted], fun w => ?_⟩, rfl⟩
      go_simp
    | 16, _, ho, hO, hD => 
      obtain rfl := Option.some.inj ho.symm
      clear ho
      have ev45 : FA.eval (.tmp 45) = .int .u64 (zd : Int) := hD 15 45 (by kernel_rfl)
      have e45 : FA.tmps[45]?.getD undef = .int .u64 (zd : Int) := by simpa [Act.eval] using ev45
      replace ev45 := Lib.hid ev45
      clear hO hD
      rw [if_pos (by decide)]
      refine ⟨.bool mo, .inl ⟨by simp [Region.wanted], fun w => ?_⟩, rfl⟩
      go_simp
    | 17, _, ho, hO, hD => 
      obtain rfl := Option.some.inj ho.symm
      clear ho
      have ev6 : FA.eval (.tmp 6) = .int .u64 (pl : Int) := hO 6 (by kernel_rfl)
      have e6 : FA.tmps[6]?.getD undef = .int .u64 (pl : Int) := by simpa [Act.eval] using ev6
      replace ev6 := Lib.hid ev6
      clear hO hD
      rw [if_pos (by decide)]
      refine ⟨.int .u64 (pl : Int), .inl ⟨by simp [Region.wanted], fun w => ?_⟩, rfl⟩
      go_simp
    | 18, _, ho, hO, hD => 
      obtain rfl := Option.some.inj ho.symm
      clear ho
      have ev47 : FA.eval (.tmp 47) = .int .u64 (pl : Int) := hD 17 47 (by kernel_rfl)
      have e47 : FA.tmps[47]?.getD undef = .int .u64 (pl : Int) := by simpa [Act.eval] using ev47
      replace ev47 := Lib.hid ev47
      clear hO hD
      rw [if_pos (by decide)]
      refine ⟨.int .u64 (fo : Int), .inl ⟨by simp [Region.wanted], fun w => ?_⟩, rfl⟩
      go_simp
    | 19, _, ho, hO, hD => 
      obtain rfl := Option.some.inj ho.symm
      clear ho
      have ev48 : FA.eval (.tmp 48) = .int .u64 (fo : Int) := hD 18 48 (by kernel_rfl)
      have e48 : FA.tmps[48]?.getD undef = .int .u64 (fo : Int) := by simpa [Act.eval] using ev48
      replace ev48 := Lib.hid ev48
      clear hO hD
      rw [if_pos (by decide)]
      refine ⟨.int .i64 (fo : Int), .inl ⟨by simp [Region.wanted], fun w => ?_⟩, rfl⟩
      go_simp
    | 20, _, ho, hO, hD => 
      obtain rfl := Option.some.inj ho.symm
      clear ho
      have ev0 : FA.eval (.tmp 0) = .slice (some ⟨b, off, none⟩) n c := hO 0 (by kernel_rfl)
      have e0 : FA.tmps[0]?.getD undef = .slice (some ⟨b, off, none⟩) n c := by simpa [Act.eval] using ev0
      replace ev0 := Lib.hid ev0
      clear hO hD
      rw [if_pos (by decide)]
      refine ⟨.slice (some ⟨b, off, none⟩) n c, .inl ⟨by simp [Region.wanted], fun w => ?_⟩, rfl⟩
      go_simp
    | 21, _, ho, hO, hD => 
      obtain rfl := Option.some.inj ho.symm
      clear ho
      have ev50 : FA.eval (.tmp 50) = .slice (some ⟨b, off, none⟩) n c := hD 20 50 (by kernel_rfl)
      have e50 : FA.tmps[50]?.getD undef = .slice (some ⟨b, off, none⟩) n c := by simpa [Act.eval] using ev50
      replace ev50 := Lib.hid ev50
      clear hO hD
      rw [if_neg (by decide)]
      intro K hK
      go_simp
      exact hK.out _ _ (Ex.refl _) rfl
    | 22, _, ho, hO, hD => 
      obtain rfl := Option.some.inj ho.symm
      clear ho
      have ev51 : FA.eval (.tmp 51) = .pointer (some ⟨b, off + 8, none⟩) := hD 21 51 (by kernel_rfl)
      have e51 : FA.tmps[51]?.getD undef = .pointer (some ⟨b, off + 8, none⟩) := by simpa [Act.eval] using ev51
      replace ev51 := Lib.hid ev51
      clear hO hD
      rw [if_neg (by decide)]
      intro K hK
      go_simp
      exact hK.out _ _ (Ex.refl _) rfl
    | 23, _, ho, hO, hD => 
      obtain rfl := Option.some.inj ho.symm
      clear ho
      have ev0 : FA.eval (.tmp 0) = .slice (some ⟨b, off, none⟩) n c := hO 0 (by kernel_rfl)
      have e0 : FA.tmps[0]?.getD undef = .slice (some ⟨b, off, none⟩) n c := by simpa [Act.eval] using ev0
      replace ev0 := Lib.hid ev0
      clear hO hD
      rw [if_pos (by decide)]
      refine ⟨.slice (some ⟨b, off, none⟩) n c, .inl ⟨by simp [Region.wanted], fun w => ?_⟩, rfl⟩
      go_simp
    | 24, _, ho, hO, hD => 
      obtain rfl := Option.some.inj ho.symm
      clear ho
      have ev53 : FA.eval (.tmp 53) = .slice (some ⟨b, off, none⟩) n c := hD 23 53 (by kernel_rfl)
      have e53 : FA.tmps[53]?.getD undef = .slice (some ⟨b, off, none⟩) n c := by simpa [Act.eval] using ev53
      replace ev53 := Lib.hid ev53
      clear hO hD
      rw [if_neg (by decide)]
      intro K hK
      go_simp
      exact hK.out _ _ (Ex.refl _) rfl
    | 25, _, ho, hO, hD => 
      obtain rfl := Option.some.inj ho.symm
      clear ho
      have ev54 : FA.eval (.tmp 54) = .pointer (some ⟨b, off + 9, none⟩) := hD 24 54 (by kernel_rfl)
      have e54 : FA.tmps[54]?.getD undef = .pointer (some ⟨b, off + 9, none⟩) := by simpa [Act.eval] using ev54
      replace ev54 := Lib.hid ev54
      clear hO hD
      rw [if_neg (by decide)]
      intro K hK
      go_simp
      exact hK.out _ _ (Ex.refl _) rfl
    | 26, _, ho, hO, hD => 
      obtain rfl := Option.some.inj ho.symm
      clear ho
      have ev0 : FA.eval (.tmp 0) = .slice (some ⟨b, off, none⟩) n c := hO 0 (by kernel_rfl)
      have e0 : FA.tmps[0]?.getD undef = .slice (some ⟨b, off, none⟩) n c := by simpa [Act.eval] using ev0
      replace ev0 := Lib.hid ev0
      clear hO hD
      rw [if_pos (by decide)]
      refine ⟨.slice (some ⟨b, off, none⟩) n c, .inl ⟨by simp [Region.wanted], fun w => ?_⟩, rfl⟩
      go_simp
    | 27, _, ho, hO, hD => 
      obtain rfl := Option.some.inj ho.symm
      clear ho
      have ev56 : FA.eval (.tmp 56) = .slice (some ⟨b, off, none⟩) n c := hD 26 56 (by kernel_rfl)
      have e56 : FA.tmps[56]?.getD undef = .slice (some ⟨b, off, none⟩) n c := by simpa [Act.eval] using ev56
      replace ev56 := Lib.hid ev56
      clear hO hD
      rw [if_neg (by decide)]
      intro K hK
      go_simp
      refine (refGetV _ n c l _ _ 10 2 sm _ ((h.alloc _).plus_ _ _) rfl rfl x7.out (by omega) (by omega) (by omega)).mono ?_
      rintro e w1 ⟨rfl, rfl⟩
      exact hK.out _ _ (Ex.refl _) rfl
    | 28, _, ho, hO, hD => 
      obtain rfl := Option.some.inj ho.symm
      clear ho
      have ev57 : FA.eval (.tmp 57) = .int .u64 (sm : Int) := hD 27 57 (by kernel_rfl)
      have e57 : FA.tmps[57]?.getD undef = .int .u64 (sm : Int) := by simpa [Act.eval] using ev57
      replace ev57 := Lib.hid ev57
      clear hO hD
      rw [if_pos (by decide)]
      refine ⟨.int .u16 (sm : Int), .inl ⟨by simp [Region.wanted], fun w => ?_⟩, rfl⟩
      go_simp
    | 29, _, ho, hO, hD => 
      obtain rfl := Option.some.inj ho.symm
      clear ho
      have ev32 : FA.eval (.tmp 32) = .int .u8 (ts : Int) := hD 2 32 (by kernel_rfl)
      have e32 : FA.tmps[32]?.getD undef = .int .u8 (ts : Int) := by simpa [Act.eval] using ev32
      replace ev32 := Lib.hid ev32
      have ev35 : FA.eval (.tmp 35) = .int .i64 (ln : Int) := hD 5 35 (by kernel_rfl)
      have e35 : FA.tmps[35]?.getD undef = .int .i64 (ln : Int) := by simpa [Act.eval] using ev35
      replace ev35 := Lib.hid ev35
      have ev38 : FA.eval (.tmp 38) = .int .u16 (id : Int) := hD 8 38 (by kernel_rfl)
      have e38 : FA.tmps[38]?.getD undef = .int .u16 (id : Int) := by simpa [Act.eval] using ev38
      replace ev38 := Lib.hid ev38
      have ev42 : FA.eval (.tmp 42) = .bool st := hD 12 42 (by kernel_rfl)
      have e42 : FA.tmps[42]?.getD undef = .bool st := by simpa [Act.eval] using ev42
      replace ev42 := Lib.hid ev42
      have ev46 : FA.eval (.tmp 46) = .bool mo := hD 16 46 (by kernel_rfl)
      have e46 : FA.tmps[46]?.getD undef = .bool mo := by simpa [Act.eval] using ev46
      replace ev46 := Lib.hid ev46
      have ev49 : FA.eval (.tmp 49) = .int .i64 (fo : Int) := hD 19 49 (by kernel_rfl)
      have e49 : FA.tmps[49]?.getD undef = .int .i64 (fo : Int) := by simpa [Act.eval] using ev49
      replace ev49 := Lib.hid ev49
      have ev52 : FA.eval (.tmp 52) = .int .u8 (tl : Int) := hD 22 52 (by kernel_rfl)
      have e52 : FA.tmps[52]?.getD undef = .int .u8 (tl : Int) := by simpa [Act.eval] using ev52
      replace ev52 := Lib.hid ev52
      have ev55 : FA.eval (.tmp 55) = .int .u8 (pr : Int) := hD 25 55 (by kernel_rfl)
      have e55 : FA.tmps[55]?.getD undef = .int .u8 (pr : Int) := by simpa [Act.eval] using ev55
      replace ev55 := Lib.hid ev55
      have ev58 : FA.eval (.tmp 58) = .int .u16 (sm : Int) := hD 28 58 (by kernel_rfl)
      have e58 : FA.tmps[58]?.getD undef = .int .u16 (sm : Int) := by simpa [Act.eval] using ev58
      replace ev58 := Lib.hid ev58
      clear hO hD
      rw [if_neg (by decide)]
      intro K hK
      go_simp
      exact hK.out _ _ (Ex.refl _) rfl
    | 30, _, ho, hO, hD => 
      obtain rfl := Option.some.inj ho.symm
      clear ho
      clear hO hD
      rw [if_neg (by decide)]
      intro K hK
      go_simp
      refine hK.out _ _ (Ex.alloc _ _) ⟨_, rfl, ?_, ?_⟩
      · simp [size_plus]
      · refine Bk.newK _ _ _ ?_ rfl
        simp [size_plus]
    | (k + 31), hi, _, _, _ => exact absurd hi (by omega)
  intro vs x hp
  have p0 : vs 0 = .slice (some ⟨b, off, none⟩) n c := hp 0 (by omega)
  have p1 : vs 1 = .pointer (some ⟨b, off + 1, none⟩) := hp 1 (by omega)
  have p2 : vs 2 = .int .u8 (ts : Int) := hp 2 (by omega)
  have p3 : vs 3 = .slice (some ⟨b, off, none⟩) n c := hp 3 (by omega)
  have p4 : vs 4 = .int .u64 (ln : Int) := hp 4 (by omega)
  have p5 : vs 5 = .int .i64 (ln : Int) := hp 5 (by omega)
  have p6 : vs 6 = .slice (some ⟨b, off, none⟩) n c := hp 6 (by omega)
  have p7 : vs 7 = .int .u64 (id : Int) := hp 7 (by omega)
  have p8 : vs 8 = .int .u16 (id : Int) := hp 8 (by omega)
  have p9 : vs 9 = .int .u64 (pl : Int) := hp 9 (by omega)
  have p10 : vs 10 = .int .u64 (za : Int) := hp 10 (by omega)
  have p11 : vs 11 = .int .u64 (zb : Int) := hp 11 (by omega)
  have p12 : vs 12 = .bool st := hp 12 (by omega)
  have p13 : vs 13 = .int .u64 (pl : Int) := hp 13 (by omega)
  have p14 : vs 14 = .int .u64 (zc : Int) := hp 14 (by omega)
  have p15 : vs 15 = .int .u64 (zd : Int) := hp 15 (by omega)
  have p16 : vs 16 = .bool mo := hp 16 (by omega)
  have p17 : vs 17 = .int .u64 (pl : Int) := hp 17 (by omega)
  have p18 : vs 18 = .int .u64 (fo : Int) := hp 18 (by omega)
  have p19 : vs 19 = .int .i64 (fo : Int) := hp 19 (by omega)
  have p20 : vs 20 = .slice (some ⟨b, off, none⟩) n c := hp 20 (by omega)
  have p21 : vs 21 = .pointer (some ⟨b, off + 8, none⟩) := hp 21 (by omega)
  have p22 : vs 22 = .int .u8 (tl : Int) := hp 22 (by omega)
  have p23 : vs 23 = .slice (some ⟨b, off, none⟩) n c := hp 23 (by omega)
  have p24 : vs 24 = .pointer (some ⟨b, off + 9, none⟩) := hp 24 (by omega)
  have p25 : vs 25 = .int .u8 (pr : Int) := hp 25 (by omega)
  have p26 : vs 26 = .slice (some ⟨b, off, none⟩) n c := hp 26 (by omega)
  have p27 : vs 27 = .int .u64 (sm : Int) := hp 27 (by omega)
  have p28 : vs 28 = .int .u16 (sm : Int) := hp 28 (by omega)
  have p29 : vs 29 = .agg #[.int .u8 (ts : Int), .int .i64 (ln : Int), .int .u16 (id : Int), .bool st, .bool mo, .int .i64 (fo : Int), .int .u8 (tl : Int), .int .u8 (pr : Int), .int .u16 (sm : Int), .bool false, .int .u64 0, .int .u64 0, .bool false, .int .u64 0, .int .u64 0, .slice none 0 0] := hp 29 (by omega)
  have p30 := hp 30 (by omega)
  clear hp
  simp only [List.take_succ_cons, List.take_zero, List.drop_succ_cons, List.drop_zero, putAll, Nat.zero_add, Nat.reduceAdd, Act.put, List.setIfInBounds_toArray, List.set_cons_zero, List.set_cons_succ, p0, p1, p2, p3, p4, p5, p6, p7, p8, p9, p10, p11, p12, p13, p14, p15, p16, p17, p18, p19, p20, p21, p22, p23, p24, p25, p26, p27, p28, p29]
  clear p0 p1 p2 p3 p4 p5 p6 p7 p8 p9 p10 p11 p12 p13 p14 p15 p16 p17 p18 p19 p20 p21 p22 p23 p24 p25 p26 p27 p28 p29
  generalize vs 30 = y30 at *
  clear vs
  obtain ⟨g, rfl, hgw, hb⟩ := p30
  go_upto_region 8 with (refine at_op (.store 184 (.tmp 7) (.tmp 59)) rfl ?_; refine wpList_stA (t := 184) 184 (.tmp 7) (.tmp 59) rfl rfl ([.int .u8 (ts : Int), .int .i64 (ln : Int), .int .u16 (id : Int), .bool st, .bool mo, .int .i64 (fo : Int), .int .u8 (tl : Int), .int .u8 (pr : Int), .int .u16 (sm : Int), .bool false, .int .u64 0, .int .u64 0, .bool false, .int .u64 0, .int .u64 0, .slice none 0 0]) (h4C 0 0 0 false false 0 0 0 0 false 0 0 false 0 0 none 0 0) rfl (by simp [Value.oneCell']) rfl rfl hb (by kernel_rfl) ?_; intro w3 hX hg3)
  replace hZ := (hZ.later (below_plus _ x.bs x.d)).grown hg3 (by simp; omega)
  replace be := below_grown (belowP be x.bs x.d) hg3 (by omega)
  clear hg3 hb
  refine NoPanic.normal ?_
  go_wp2_with fail
  refine (refGetV _ n c l _ _ 12 4 sa _ (h.later be) rfl rfl x8.out (by omega) (by omega) (by omega)).mono ?_
  rintro e w1 ⟨rfl, rfl⟩
  have zx := hX.lt
  go_upto_region 9 with (refine at_op (.store 26 (.tmp 63) (.tmp 62)) rfl ?_; refine wpList_stM (t := 184) 26 (.tmp 63) (.tmp 62) rfl rfl (adC false 0 sa) _ (by simp [adC]) (adC_one _ _ _) rfl rfl hX (szAd _ _ _) ?_; intro w4 hX2 hg)
  simp only [splice, adC, List.take_succ_cons, List.take_zero, List.drop_succ_cons, List.drop_zero, List.length_cons, List.length_nil, Nat.zero_add, Nat.reduceAdd, List.cons_append, List.nil_append] at hX2
  replace hZ := hZ.grown hg (by simp; omega)
  replace be := below_grown be hg (by omega)
  clear hX hg zx
  have hX := hX2
  clear hX2
  go_wp2_with fail
  refine (refGetV _ n c l _ _ 16 4 da _ (h.later be) rfl rfl x9.out (by omega) (by omega) (by omega)).mono ?_
  rintro e w1 ⟨rfl, rfl⟩
  have zx := hX.lt
  go_upto_region 10 with (refine at_op (.store 26 (.tmp 67) (.tmp 66)) rfl ?_; refine wpList_stM (t := 184) 26 (.tmp 67) (.tmp 66) rfl rfl (adC false 0 da) _ (by simp [adC]) (adC_one _ _ _) rfl rfl hX (szAd _ _ _) ?_; intro w5 hX2 hg)
  simp only [splice, adC, List.take_succ_cons, List.take_zero, List.drop_succ_cons, List.drop_zero, List.length_cons, List.length_nil, Nat.zero_add, Nat.reduceAdd, List.cons_append, List.nil_append] at hX2
  replace hZ := hZ.grown hg (by simp; omega)
  replace be := below_grown be hg (by omega)
  clear hX hg zx
  have hX := hX2
  clear hX2
  have yl : w5.cell? ⟨g, 1, none⟩ = some (.int .i64 (ln : Int)) := hX.cell 1
  have zx := hX.lt
  go_wp2_with fail
  refine (HO.out _ (hts.later be)).mono ?_
  rintro e w1 ⟨rfl, rfl⟩
  have q : w5.cell? ⟨g, 15, none⟩ = some (.slice none 0 0) := hX.cell 15
  have fr := hX.frozen 15
  go_upto_region 17 with (at_builtin; refine wpList_app0 (l2 := (l.drop 20).take (sz - 20)) bt rfl (.tmp 89) (.tmp 92) rfl rfl rfl rfl (hopt.later be) (by omega) ?_; intro Ao no ko bso dso hoo)
  replace hoo := hoo.swap (W' := w5.setCell ⟨g, 15, none⟩ (.slice Ao no ko)) (d' := dso) (Nat.le_refl _) (by simp)
  have zo : ∀ a, Ao = some a → a.block ≠ w.heap.size ∧ a.block < (plus (w5.setCell ⟨g, 15, none⟩ (.slice Ao no ko)) bso dso).heap.size := fun a ha => by
    subst ha
    have h1 := hoo.blk a.block rfl
    have h2 := be.size
    have h3 := hZ.lt
    exact ⟨by omega, h1.2⟩
  replace hX := (hX.set_ 15 (.slice Ao no ko)).later (below_plus _ bso dso)
  replace hZ := (hZ.far (p := ⟨g, 15, none⟩) (by simp; omega) (.slice Ao no ko)).later (below_plus _ bso dso)
  replace be := belowP (be.setCell (p := ⟨g, 15, none⟩) (by simp; omega) (.slice Ao no ko)) bso dso
  simp only [List.set_cons_succ, List.set_cons_zero] at hX
  clear q fr yl zx
  generalize plus (w5.setCell ⟨g, 15, none⟩ (.slice Ao no ko)) bso dso = W6 at *
  have hr := hload.later be
  have zX := hX.lt
  have zZ := hZ.lt
  have hgP : g ≠ w.heap.size ∧ g < W6.heap.size := ⟨by omega, zX⟩
  have zbe := be.size
  have hrP : ∀ a, cutA (some ⟨b, off, none⟩) c sz 1 = some a → a.block < W6.heap.size → (fun b => b ≠ w.heap.size ∧ b < W6.heap.size) a.block := fun a ha hb => by
    have : a.block = b := by
      unfold cutA at ha
      split at ha
      · injection ha with ha; subst ha; rfl
      · simp [add_plain] at ha; subst ha; rfl
    exact ⟨by omega, hb⟩
  go_wp2
  refine wp_own (fun b => b ≠ w.heap.size ∧ b < W6.heap.size) 11 1 103 2 (fun i => match i with | 8 => 11 | i => i) (fun i => match i with | 7 => [1] | 8 => [11] | 9 => [7] | _ => []) (fun i => match i with | 11 => .pointer (some ⟨w.heap.size, 0, none⟩) | _ => undef) rfl (by kernel_rfl) (by kernel_rfl) (fun i => match i with | 0 => Own.eq (.agg (h4C ts (ln : Int) id st mo (fo : Int) tl pr sm false 0 sa false 0 da Ao no ko).toArray) | 1 => Own.ob W6.heap.size [] | 2 => Own.eq (.slice (some ⟨b, off, none⟩) n c) | 3 => Own.eq (.int .i64 (sz : Int)) | 4 => Own.eq (.pointer (some ⟨g, 1, none⟩)) | 5 => Own.eq (.int .i64 (ln : Int)) | 6 => Own.eq (.slice (cutA (some ⟨b, off, none⟩) c sz 1) (ln - sz) (c - sz)) | 7 => Own.ob W6.heap.size load | 8 => Own.into 184 (fun cs _ => cs = h4C ts (ln : Int) id st mo (fo : Int) tl pr sm false 0 sa false 0 da Ao no ko) (fun _ _ _ h _ => h) | 9 => Own.ob W6.heap.size load | 10 => Own.eq (.int .i64 0) | 11 => Own.blk 184 (h4C 0 0 0 false false 0 0 0 0 false 0 0 false 0 0 none 0 0) | _ => Own.any) (fun b h => h.2) ?_ ?_ ?_ ?_ ?_
  · exact fun t ht => by obtain rfl : t = 0 := (by omega); exact ⟨_, rfl, hZ⟩
  · exact fun t t' h1 h2 hne => absurd (show t = t' by omega) hne
  · exact fun t ht b hb hp => by obtain rfl : t = 0 := (by omega); exact hp.1 (own_ptr hb).symm
  · intro i hi o ho FA w' vs H K hK
    match i, hi, ho, H, hK with
    | 0, _, ho, H, hK => 
      obtain rfl := Option.some.inj ho.symm
      clear ho
      have ev7 : FA.eval (.tmp 7) = .pointer (some ⟨g, 0, none⟩) := H.out 7 (by kernel_rfl)
      have e7 : FA.tmps[7]?.getD undef = .pointer (some ⟨g, 0, none⟩) := by simpa [Act.eval] using ev7
      replace ev7 := Lib.hid ev7
      refine wanted_if rfl ?_
      refine wp_load_mid 184 (.tmp 7) rfl g 0 ev7.out (h4C ts (ln : Int) id st mo (fo : Int) tl pr sm false 0 sa false 0 da Ao no ko) _ (Bk.range (hX.kept H.kept hgP)) u1 u2 (szR4 _ _ _ _ _ _ _ _ _ _ _ _ _ _ _ _ _ _) ?_
      exact hK.out _ _ (chgX (Ex.refl _)) rfl (fun _ h => h.elim)
    | 1, _, ho, H, hK => 
      obtain rfl := Option.some.inj ho.symm
      clear ho
      go_simp
      have ho1 := Ob.lit w' (Nat.le_refl _) #[] [] 0 rfl (Nat.zero_le _) rfl
      exact hK.out _ _ (chgX (Ex.alloc _ _)) ⟨_, _, _, rfl, ho1.mono H.kept.size⟩ (fun b hb => .inr (ho1.blk b hb).1)
    | 2, _, ho, H, hK => 
      obtain rfl := Option.some.inj ho.symm
      clear ho
      have ev0 : FA.eval (.tmp 0) = .slice (some ⟨b, off, none⟩) n c := H.out 0 (by kernel_rfl)
      have e0 : FA.tmps[0]?.getD undef = .slice (some ⟨b, off, none⟩) n c := by simpa [Act.eval] using ev0
      replace ev0 := Lib.hid ev0
      go_simp
      exact hK.out _ _ (chgX (Ex.refl _)) rfl (fun _ h => h.elim)
    | 3, _, ho, H, hK => 
      obtain rfl := Option.some.inj ho.symm
      clear ho
      have ev5 : FA.eval (.tmp 5) = .int .i64 (sz : Int) := H.out 5 (by kernel_rfl)
      have e5 : FA.tmps[5]?.getD undef = .int .i64 (sz : Int) := by simpa [Act.eval] using ev5
      replace ev5 := Lib.hid ev5
      go_simp
      exact hK.out _ _ (chgX (Ex.refl _)) rfl (fun _ h => h.elim)
    | 4, _, ho, H, hK => 
      obtain rfl := Option.some.inj ho.symm
      clear ho
      have ev7 : FA.eval (.tmp 7) = .pointer (some ⟨g, 0, none⟩) := H.out 7 (by kernel_rfl)
      have e7 : FA.tmps[7]?.getD undef = .pointer (some ⟨g, 0, none⟩) := by simpa [Act.eval] using ev7
      replace ev7 := Lib.hid ev7
      go_simp
      exact hK.out _ _ (chgX (Ex.refl _)) rfl (fun _ h => h.elim)
    | 5, _, ho, H, hK => 
      obtain rfl := Option.some.inj ho.symm
      clear ho
      have ev99 : FA.eval (.tmp 99) = .pointer (some ⟨g, 1, none⟩) := (H.dep 4 99 (by kernel_rfl)).trans (H.word 4 (by omega) (by kernel_rfl))
      have e99 : FA.tmps[99]?.getD undef = .pointer (some ⟨g, 1, none⟩) := by simpa [Act.eval] using ev99
      replace ev99 := Lib.hid ev99
      have cc : w'.cell? ⟨g, 1, none⟩ = some (.int .i64 (ln : Int)) := (hX.kept H.kept hgP).cell 1
      go_simp
      exact hK.out _ _ (chgX (Ex.refl _)) rfl (fun _ h => h.elim)
    | 6, _, ho, H, hK => 
      obtain rfl := Option.some.inj ho.symm
      clear ho
      have ev97 : FA.eval (.tmp 97) = .slice (some ⟨b, off, none⟩) n c := (H.dep 2 97 (by kernel_rfl)).trans (H.word 2 (by omega) (by kernel_rfl))
      have e97 : FA.tmps[97]?.getD undef = .slice (some ⟨b, off, none⟩) n c := by simpa [Act.eval] using ev97
      replace ev97 := Lib.hid ev97
      have ev98 : FA.eval (.tmp 98) = .int .i64 (sz : Int) := (H.dep 3 98 (by kernel_rfl)).trans (H.word 3 (by omega) (by kernel_rfl))
      have e98 : FA.tmps[98]?.getD undef = .int .i64 (sz : Int) := by simpa [Act.eval] using ev98
      replace ev98 := Lib.hid ev98
      have ev100 : FA.eval (.tmp 100) = .int .i64 (ln : Int) := (H.dep 5 100 (by kernel_rfl)).trans (H.word 5 (by omega) (by kernel_rfl))
      have e100 : FA.tmps[100]?.getD undef = .int .i64 (ln : Int) := by simpa [Act.eval] using ev100
      replace ev100 := Lib.hid ev100
      go_simp
      exact hK.out _ _ (chgX (Ex.refl _)) rfl (fun _ h => h.elim)
    | 7, _, ho, H, hK => 
      obtain rfl := Option.some.inj ho.symm
      clear ho
      have ev96 := H.dep 1 96 (by kernel_rfl)
      have e96 : FA.tmps[96]?.getD undef = vs 1 := by simpa [Act.eval] using ev96
      replace ev96 := Lib.hid ev96
      have ev101 : FA.eval (.tmp 101) = .slice (cutA (some ⟨b, off, none⟩) c sz 1) (ln - sz) (c - sz) := (H.dep 6 101 (by kernel_rfl)).trans (H.word 6 (by omega) (by kernel_rfl))
      have e101 : FA.tmps[101]?.getD undef = .slice (cutA (some ⟨b, off, none⟩) c sz 1) (ln - sz) (c - sz) := by simpa [Act.eval] using ev101
      replace ev101 := Lib.hid ev101
      obtain ⟨A1, n1, c1, hv1, h1⟩ := H.word 1 (by omega) (by kernel_rfl)
      have hn1 : n1 ≤ 0 := by rw [← h1.1]; exact Nat.le_refl _
      refine wanted_if rfl ?_
      refine own_app bt (.tmp 96) (.tmp 101) rfl (ev96.out.trans hv1) h1 ev101.out (hr.kept H.kept hrP) (by omega) H.kept.size ?_
      intro A3 n3 c3 w3 ho3 hg3 hf3
      refine hK.out _ _ (Chg.grown hg3 (fun k hk => ⟨1, rfl, by show (vs 1).ownBlock = some k; rw [hv1]; exact hk⟩)) ⟨_, _, _, rfl, ho3⟩ (fun b hb => ?_)
      rcases hf3 b hb with h | h
      · exact .inl ⟨1, rfl, by show (vs 1).ownBlock = some b; rw [hv1]; exact h⟩
      · exact .inr h
    | 8, _, ho, H, hK => 
      obtain rfl := Option.some.inj ho.symm
      clear ho
      have ev2 : FA.eval (.tmp 2) = .pointer (some ⟨w.heap.size, 0, none⟩) := H.out 2 (by kernel_rfl)
      have e2 : FA.tmps[2]?.getD undef = .pointer (some ⟨w.heap.size, 0, none⟩) := by simpa [Act.eval] using ev2
      replace ev2 := Lib.hid ev2
      have ev95 : FA.eval (.tmp 95) = .agg (h4C ts (ln : Int) id st mo (fo : Int) tl pr sm false 0 sa false 0 da Ao no ko).toArray := (H.dep 0 95 (by kernel_rfl)).trans (H.word 0 (by omega) (by kernel_rfl))
      have e95 : FA.tmps[95]?.getD undef = .agg (h4C ts (ln : Int) id st mo (fo : Int) tl pr sm false 0 sa false 0 da Ao no ko).toArray := by simpa [Act.eval] using ev95
      replace ev95 := Lib.hid ev95
      obtain ⟨g0, hg0, hb0⟩ := H.word 11 (by omega) (by kernel_rfl)
      have hv0 : vs 11 = .pointer (some ⟨w.heap.size, 0, none⟩) := H.virt 11 (by omega)
      obtain rfl := own_ptr (hv0.symm.trans hg0)
      refine wanted_if rfl ?_
      refine wp_stA 184 (.tmp 2) (.tmp 95) rfl (h4C ts (ln : Int) id st mo (fo : Int) tl pr sm false 0 sa false 0 da Ao no ko) (h4C 0 0 0 false false 0 0 0 0 false 0 0 false 0 0 none 0 0) rfl (h4C_one _ _ _ _ _ _ _ _ _ _ _ _ _ _ _ _ _ _) ev2.out ev95.out hb0 (szR4 _ _ _ _ _ _ _ _ _ _ _ _ _ _ _ _ _ _) ?_
      intro w'' hn hgr
      exact hK.out undef _ (Chg.one hgr ⟨11, rfl, hv0⟩) ⟨_, _, hv0, hn, rfl⟩ (fun b hb => .inl ⟨11, rfl, hb⟩)
    | 9, _, ho, H, hK => 
      obtain rfl := Option.some.inj ho.symm
      clear ho
      have ev102 := H.dep 7 102 (by kernel_rfl)
      have e102 : FA.tmps[102]?.getD undef = vs 7 := by simpa [Act.eval] using ev102
      replace ev102 := Lib.hid ev102
      have hw := H.word 7 (by omega) (by kernel_rfl)
      go_simp
      exact hK.out _ _ (chgX (Ex.refl _)) hw (fun b hb => .inl ⟨7, rfl, hb⟩)
    | 10, _, ho, H, hK => 
      obtain rfl := Option.some.inj ho.symm
      clear ho
      go_simp
      exact hK.out _ _ (chgX (Ex.refl _)) rfl (fun _ h => h.elim)
    | (k + 11), hi, _, _, _ => exact absurd hi (by omega)
  intro vs w' hC hV hW hDis hFr
  have p0 : vs 0 = .agg (h4C ts (ln : Int) id st mo (fo : Int) tl pr sm false 0 sa false 0 da Ao no ko).toArray := hW 0 (by omega) (by kernel_rfl)
  have p2 : vs 2 = .slice (some ⟨b, off, none⟩) n c := hW 2 (by omega) (by kernel_rfl)
  have p3 : vs 3 = .int .i64 (sz : Int) := hW 3 (by omega) (by kernel_rfl)
  have p4 : vs 4 = .pointer (some ⟨g, 1, none⟩) := hW 4 (by omega) (by kernel_rfl)
  have p5 : vs 5 = .int .i64 (ln : Int) := hW 5 (by omega) (by kernel_rfl)
  have p6 : vs 6 = .slice (cutA (some ⟨b, off, none⟩) c sz 1) (ln - sz) (c - sz) := hW 6 (by omega) (by kernel_rfl)
  have p8 := hW 8 (by omega) (by kernel_rfl)
  have p9 := hW 9 (by omega) (by kernel_rfl)
  have p10 : vs 10 = .int .i64 0 := hW 10 (by omega) (by kernel_rfl)
  clear hW
  simp only [List.take_succ_cons, List.take_zero, List.drop_succ_cons, List.drop_zero, putAll, Nat.zero_add, Nat.reduceAdd, Act.put, List.setIfInBounds_toArray, List.set_cons_zero, List.set_cons_succ, p0, p2, p3, p4, p5, p6, p10]
  obtain ⟨A9, n9, c9, hv9, h9⟩ := p9
  obtain ⟨g1, cs1, hg1, hb1, rfl⟩ := p8
  have hv0 : vs 11 = .pointer (some ⟨w.heap.size, 0, none⟩) := hV 11 (by omega)
  obtain rfl := own_ptr (hv0.symm.trans hg1)
  rw [hv9]
  go_wp2
  refine bodyPost_agg3 Try.results78 rfl rfl rfl (Bk.range hb1) u1 u2 (szR4 _ _ _ _ _ _ _ _ _ _ _ _ _ _ _ _ _ _) rfl (RetP4.mk (hoo.rb.kept hC (fun a ha _ => zo a ha)) h9.rb (h9.fresh zbe) ?_)
  exact be.trans (hC.below (B := w.heap.size) zbe (fun b hb => ⟨by omega, by omega⟩))
end Go.Proofs.Ytfmkndemkpecpaa

/- Parse of any bytes, both sides (chapter 4). -/
namespace Go.Proofs.Ytfmkndemkpecpaa
open Go.RowKit
set_option linter.unusedVariables false
set_option linter.unusedSimpArgs false
attribute [local go_sem ↓] sliced_cut

attribute [local go_sem] cutA_zero

/-- a header, bytes, an error -/
def RetPE (w : World) (ts ln id : Nat) (st mo : Bool) (fo tl pr sm sa da : Nat) (o load : List UInt8) (E : Int) (e : Ending) (w' : World) : Prop := ∃ A n k A2 n2 k2 bs d, e = .returned (.tuple #[.agg (h4C ts (ln : Int) id st mo (fo : Int) tl pr sm false 0 sa false 0 da A n k).toArray, .slice A2 n2 k2, .int .i64 E]) ∧ w' = plus w bs d ∧ Rb (plus w bs d) A n k o ∧ Rb (plus w bs d) A2 n2 k2 load ∧ ∀ a, A2 = some a → w.heap.size ≤ a.block
theorem RetPE.err {w : World} {E : Int} {e : Ending} {w' : World} (h : RetV w (.tuple #[.agg (h4C 0 0 0 false false 0 0 0 0 false 0 0 false 0 0 none 0 0).toArray, .slice none 0 0, .int .i64 E]) e w') : RetPE w 0 0 0 false false 0 0 0 0 0 0 [] [] E e w' := by
  obtain ⟨bs, d, rfl, rfl⟩ := h
  exact ⟨none, 0, 0, none, 0, 0, bs, d, rfl, rfl, Rb.nil_, Rb.nil_, fun a ha => by cases ha⟩
theorem RetPE.ok {w : World} {ts ln id : Nat} {st mo : Bool} {fo tl pr sm sa da : Nat} {o load : List UInt8} {e : Ending} {w' : World} (h : RetP4 w ts ln id st mo fo tl pr sm sa da o load e w') : RetPE w ts ln id st mo fo tl pr sm sa da o load 0 e w' := h
set_option maxHeartbeats 4000000 in
set_option maxRecDepth 100000 in
/-- what is known of a header that was read -/
structure Facts4 (l : List UInt8) (n ts ln id : Nat) (st mo : Bool) (fo tl pr sm sa da : Nat) (o load : List UInt8) (E : Int) : Prop where
  b : ts < 256 ∧ id < 65536 ∧ fo < 8192 ∧ tl < 256 ∧ pr < 256 ∧ sm < 65536 ∧ sa < 4294967296 ∧ da < 4294967296 ∧ o.length ≤ 40 ∧ o.length % 4 = 0 ∧ load.length ≤ n
  c : E = 0 → 20 ≤ n ∧ num ((l.drop 0).take 1) / 16 = 4 ∧ 20 ≤ 4 * (num ((l.drop 0).take 1) % 16) ∧ 4 * (num ((l.drop 0).take 1) % 16) ≤ ln ∧ ln ≤ n ∧ pr = num ((l.drop 9).take 1) ∧ sa = num ((l.drop 12).take 4) ∧ da = num ((l.drop 16).take 4) ∧ fo = num ((l.drop 6).take 2) % 8192 ∧ mo = (num ((l.drop 6).take 2) / 8192 % 2 == 1) ∧ load = (l.drop (4 * (num ((l.drop 0).take 1) % 16))).take (ln - 4 * (num ((l.drop 0).take 1) % 16)) ∧ o.length = 4 * (num ((l.drop 0).take 1) % 16) - 20
theorem Facts4.zero (l : List UInt8) (n : Nat) (E : Int) (hE : E ≠ 0) : Facts4 l n 0 0 0 false false 0 0 0 0 0 0 [] [] E := ⟨by simp, fun h => absurd h hE⟩
set_option maxHeartbeats 4000000 in
set_option maxRecDepth 100000 in
theorem reads4F (A : Option Addr) (n c : Nat) (l : List UInt8) (w : World) (h : Rb w A n c l) (hm : n ≤ 1000000) : ∃ (ts ln id : Nat) (st mo : Bool) (fo tl pr sm sa da : Nat) (o load : List UInt8) (E : Int), Facts4 l n ts ln id st mo fo tl pr sm sa da o load E ∧
    (∀ w', Below w.heap.size w w' → Calls Try.prog 72 #[.slice A n c] w' (RetPE w' ts ln id st mo fo tl pr sm sa da o load E)) ∧ (∀ w', Below w.heap.size w w' → Calls Try.prog 78 #[.slice A n c] w' (RetPE w' ts ln id st mo fo tl pr sm sa da o load E)) := by
  have bad : ∀ E : Int, (E != 0) = true → (∀ w', Below w.heap.size w w' → Calls Try.prog 128 #[.slice A n c] w' (RetV w' (.tuple #[.agg (h4C 0 0 0 false false 0 0 0 0 false 0 0 false 0 0 none 0 0).toArray, .int .i64 0, .int .i64 E]))) → (∀ w', Below w.heap.size w w' → Calls Try.prog 78 #[.slice A n c] w' (RetV w' (.tuple #[.agg (h4C 0 0 0 false false 0 0 0 0 false 0 0 false 0 0 none 0 0).toArray, .slice none 0 0, .int .i64 E]))) → ∃ (ts ln id : Nat) (st mo : Bool) (fo tl pr sm sa da : Nat) (o load : List UInt8) (E : Int), Facts4 l n ts ln id st mo fo tl pr sm sa da o load E ∧
    (∀ w', Below w.heap.size w w' → Calls Try.prog 72 #[.slice A n c] w' (RetPE w' ts ln id st mo fo tl pr sm sa da o load E)) ∧ (∀ w', Below w.heap.size w w' → Calls Try.prog 78 #[.slice A n c] w' (RetPE w' ts ln id st mo fo tl pr sm sa da o load E)) := fun E hE h1 h2 =>
    ⟨0, 0, 0, false, false, 0, 0, 0, 0, 0, 0, [], [], E, Facts4.zero l n E (by rw [bne_iff_ne] at hE; exact hE), fun w' hb => (parse4_err A n c E w' hE (fun w2 hb2 => h1 w2 (hb.trans (hb2.mono hb.size)))).mono fun _ _ => RetPE.err, fun w' hb => (h2 w' hb).mono fun _ _ => RetPE.err⟩
  by_cases g0 : n < 20
  · exact bad 20 rfl (fun w' hb => hdr4_short A n c l w' (h.later hb) hm g0) (fun w' hb => refP4_short A n c l w' (h.later hb) hm g0)
  have hn : 20 ≤ n := by omega
  obtain ⟨f, x0⟩ : ∃ f, num ((l.drop 0).take 1) = f := ⟨_, rfl⟩
  obtain ⟨ts, x1⟩ : ∃ f, num ((l.drop 1).take 1) = f := ⟨_, rfl⟩
  obtain ⟨ln, x2⟩ : ∃ f, num ((l.drop 2).take 2) = f := ⟨_, rfl⟩
  obtain ⟨id, x3⟩ : ∃ f, num ((l.drop 4).take 2) = f := ⟨_, rfl⟩
  obtain ⟨pl, x4⟩ : ∃ f, num ((l.drop 6).take 2) = f := ⟨_, rfl⟩
  obtain ⟨tl, x5⟩ : ∃ f, num ((l.drop 8).take 1) = f := ⟨_, rfl⟩
  obtain ⟨pr, x6⟩ : ∃ f, num ((l.drop 9).take 1) = f := ⟨_, rfl⟩
  obtain ⟨sm, x7⟩ : ∃ f, num ((l.drop 10).take 2) = f := ⟨_, rfl⟩
  obtain ⟨sa, x8⟩ : ∃ f, num ((l.drop 12).take 4) = f := ⟨_, rfl⟩
  obtain ⟨da, x9⟩ : ∃ f, num ((l.drop 16).take 4) = f := ⟨_, rfl⟩
  by_cases g1 : f / 16 = 4
  case neg => exact bad 21 rfl (fun w' hb => hdr4_f1 A n c l w' (h.later hb) hm f ts ln id pl x0 x1 x2 x3 x4 hn g1) (fun w' hb => refP4_f1 A n c l w' (h.later hb) hm f ts ln id pl tl pr sm sa da x0 x1 x2 x3 x4 x5 x6 x7 x8 x9 hn g1)
  by_cases g2 : 4 * (f % 16) < 20
  · exact bad 21 rfl (fun w' hb => hdr4_f2 A n c l w' (h.later hb) hm f ts ln id pl x0 x1 x2 x3 x4 hn g1 g2) (fun w' hb => refP4_f2 A n c l w' (h.later hb) hm f ts ln id pl tl pr sm sa da x0 x1 x2 x3 x4 x5 x6 x7 x8 x9 hn g1 g2)
  have g2' : 20 ≤ 4 * (f % 16) := by omega
  obtain ⟨st, hst⟩ : ∃ b, (pl / 16384 % 2 == 1) = b := ⟨_, rfl⟩
  obtain ⟨mo, hmo⟩ : ∃ b, (pl / 8192 % 2 == 1) = b := ⟨_, rfl⟩
  by_cases g3 : 32768 ≤ pl
  · exact bad 21 rfl (fun w' hb => hdr4_f3 A n c l w' (h.later hb) hm f ts ln id pl x0 x1 x2 x3 x4 hn g1 g2' g3) (fun w' hb => refP4_f3 A n c l w' (h.later hb) hm f ts ln id pl tl pr sm sa da st mo x0 x1 x2 x3 x4 x5 x6 x7 x8 x9 hst hmo hn g1 g2' g3)
  have g3' : pl < 32768 := by omega
  by_cases g4 : ln < 4 * (f % 16)
  · exact bad 21 rfl (fun w' hb => hdr4_f4 A n c l w' (h.later hb) hm f ts ln id pl x0 x1 x2 x3 x4 hn g1 g2' g3' g4) (fun w' hb => refP4_f4 A n c l w' (h.later hb) hm f ts ln id pl tl pr sm sa da st mo x0 x1 x2 x3 x4 x5 x6 x7 x8 x9 hst hmo hn g1 g2' g3' g4)
  have g4' : 4 * (f % 16) ≤ ln := by omega
  by_cases g5 : n < ln
  · refine bad 20 rfl (fun w' hb => ?_) (fun w' hb => refP4_l A n c l w' (h.later hb) hm f ts ln id pl tl pr sm sa da st mo x0 x1 x2 x3 x4 x5 x6 x7 x8 x9 hst hmo hn g1 g2' g3' g4' g5)
    by_cases g6 : n < 4 * (f % 16)
    · exact hdr4_l1 A n c l w' (h.later hb) hm f ts ln id pl x0 x1 x2 x3 x4 hn g1 g2' g3' g4' g6
    · exact hdr4_l2 A n c l w' (h.later hb) hm f ts ln id pl x0 x1 x2 x3 x4 hn g1 g2' g3' g4' (by omega) g5
  have g5' : ln ≤ n := by omega
  by_cases g7 : 65535 - fd (tot false (l.take (4 * (f % 16)))) = 0
  case neg => exact bad 22 rfl (fun w' hb => hdr4_sum A n c l w' (h.later hb) hm f ts ln id pl x0 x1 x2 x3 x4 hn g1 g2' g3' g4' (by omega) g5' g7) (fun w' hb => refP4_sum A n c l w' (h.later hb) hm f ts ln id pl tl pr sm sa da st mo x0 x1 x2 x3 x4 x5 x6 x7 x8 x9 hst hmo hn g1 g2' g3' g4' g5' g7)
  have hl := h.1
  have kf : f < 256 := by rw [← x0]; exact num_lt' l 0 1 256 (by decide)
  refine ⟨ts, ln, id, st, mo, pl % 8192, tl, pr, sm, sa, da, (l.drop 20).take (4 * (f % 16) - 20), (l.drop (4 * (f % 16))).take (ln - 4 * (f % 16)), 0, ⟨⟨?_, ?_, ?_, ?_, ?_, ?_, ?_, ?_, ?_, ?_, ?_⟩, fun _ => ?_⟩, fun w' hb => ?_, fun w' hb => ?_⟩
  · rw [← x1]; exact num_lt' l 1 1 256 (by decide)
  · rw [← x3]; exact num_lt' l 4 2 65536 (by decide)
  · omega
  · rw [← x5]; exact num_lt' l 8 1 256 (by decide)
  · rw [← x6]; exact num_lt' l 9 1 256 (by decide)
  · rw [← x7]; exact num_lt' l 10 2 65536 (by decide)
  · rw [← x8]; exact num_lt' l 12 4 4294967296 (by decide)
  · rw [← x9]; exact num_lt' l 16 4 4294967296 (by decide)
  · rw [List.length_take, List.length_drop]; omega
  · rw [List.length_take, List.length_drop]; omega
  · rw [List.length_take, List.length_drop]; omega
  · rw [x0, x4, x6, x8, x9]
    exact ⟨hn, g1, g2', g4', g5', rfl, rfl, rfl, rfl, hmo.symm, rfl, by rw [List.length_take, List.length_drop]; omega⟩
  · exact (parse4_ok A n c l ts ln id st mo (pl % 8192) tl pr sm sa da (4 * (f % 16)) _ w' (h.later hb) hm g2' g4' g5' (fun w2 hb2 => hdr4_ok A n c l w2 ((h.later hb).later hb2) hm f ts ln id pl tl pr sm sa da st mo x0 x1 x2 x3 x4 x5 x6 x7 x8 x9 hst hmo hn g1 g2' g3' g4' (by omega) g5' g7)).mono fun _ _ => RetPE.ok
  · exact (refP4_ok A n c l w' (h.later hb) hm f ts ln id pl tl pr sm sa da st mo x0 x1 x2 x3 x4 x5 x6 x7 x8 x9 hst hmo hn g1 g2' g3' g4' g5' g7).mono fun _ _ => RetPE.ok
end Go.Proofs.Ytfmkndemkpecpaa

/- Fragment of a header of IPv4. -/
namespace Go.Proofs.Ytfmkndemkpecpaa
open Go.RowKit
set_option linter.unusedVariables false
set_option linter.unusedSimpArgs false
attribute [local go_sem ↓] sliced_cut

attribute [local go_sem] cutA_zero

set_option maxRecDepth 100000 in
theorem fragment4 (ts : Nat) (ln : Int) (id : Nat) (st mo : Bool) (fo : Int) (tl pr sm : Nat) (s6 : Bool) (sh sl : Nat) (d6 : Bool) (dh dl : Nat) (A : Option Addr) (n k : Nat) (w : World) : Calls Try.prog 156 #[.agg (h4C ts ln id st mo fo tl pr sm s6 sh sl d6 dh dl A n k).toArray] w (RetV w (.bool (mo || decide (0 < fo)))) := by
  unfold h4C
  go_enter Try.func156, Try.ntmps156
  cases mo <;> go_wp2 <;> go_ret <;> exact RetV.is_ (by first | rfl | simp) (by first | exact Below.allocS (Below.refl _ _) _ | exact Below.refl _ _)
end Go.Proofs.Ytfmkndemkpecpaa

/- ref03.Bytes, addr.Of, headers of IPv6: Right, Bytes. -/
namespace Go.Proofs.Ytfmkndemkpecpaa
open Go.RowKit
set_option linter.unusedVariables false
set_option linter.unusedSimpArgs false
attribute [local go_sem ↓] sliced_cut

attribute [local go_sem] cutA_zero

/-- the bytes of a header -/
def ip6B (cl lb ln nx ht : Nat) (sh sl dh dl : Nat) : List UInt8 := dig (1610612736 + cl * 1048576 + lb) 4 ++ dig ln 2 ++ dig nx 1 ++ dig ht 1 ++ (dig sh 8 ++ dig sl 8) ++ (dig dh 8 ++ dig dl 8)
theorem ip6B_length (cl lb ln nx ht : Nat) (sh sl dh dl : Nat) : (ip6B cl lb ln nx ht sh sl dh dl).length = 40 := by simp [ip6B, dig_length]
end Go.Proofs.Ytfmkndemkpecpaa

/- addr.Of; headers of IPv6: header, Parse, Packet, Older. -/
namespace Go.Proofs.Ytfmkndemkpecpaa
open Go.RowKit
set_option linter.unusedVariables false
set_option linter.unusedSimpArgs false
attribute [local go_sem ↓] sliced_cut

attribute [local go_sem] cutA_zero

def h6C (cl lb : Nat) (ln : Int) (nx ht : Nat) (s6 : Bool) (sh sl : Nat) (d6 : Bool) (dh dl : Nat) : List Value := [.int .u8 (cl : Int), .int .u32 (lb : Int), .int .i64 ln, .int .u8 (nx : Int), .int .u8 (ht : Int), .bool s6, .int .u64 (sh : Int), .int .u64 (sl : Int), .bool d6, .int .u64 (dh : Int), .int .u64 (dl : Int)]
theorem h6C_one (cl lb : Nat) (ln : Int) (nx ht : Nat) (s6 : Bool) (sh sl : Nat) (d6 : Bool) (dh dl : Nat) : ∀ u ∈ h6C cl lb ln nx ht s6 sh sl d6 dh dl, u.oneCell' = true := by
  intro u hu
  simp only [h6C, List.mem_cons, List.not_mem_nil, or_false] at hu
  rcases hu with rfl | rfl | rfl | rfl | rfl | rfl | rfl | rfl | rfl | rfl | rfl <;> rfl
theorem szH6 (cl lb : Nat) (ln : Int) (nx ht : Nat) (s6 : Bool) (sh sl : Nat) (d6 : Bool) (dh dl : Nat) : (Try.prog.info? 171).map (·.size) = some (h6C cl lb ln nx ht s6 sh sl d6 dh dl).length := by kernel_rfl
theorem rowH6 : ∃ d, Try.prog.underlying 171 = some d ∧ d.isRow = true := ⟨_, Try.underlying171, rfl⟩
theorem u32_mask20 (x : Nat) (h : x < 4294967296) : bits .and .u32 (x : Int) 1048575 = ((x % 1048576 : Nat) : Int) := by
  have := u32_and_nat x 1048575 h (by decide)
  rw [show (1048575 : Nat) = 2 ^ 20 - 1 from rfl, Nat.and_two_pow_sub_one_eq_mod] at this
  exact this
set_option maxHeartbeats 4000000 in
set_option maxRecDepth 100000 in
/-- ip6.header of what was written -/
theorem ip6Header (cl lb ln nx ht sh sl dh dl : Nat) (A : Option Addr) (n c : Nat) (load : List UInt8) (w : World) (h1 : cl < 256) (h2 : lb < 1048576) (h3 : ln < 65536) (h4 : nx < 256) (h5 : ht < 256) (k1 : sh < 18446744073709551616) (k2 : sl < 18446744073709551616) (k3 : dh < 18446744073709551616) (k4 : dl < 18446744073709551616) (h : Rb w A n c (ip6B cl lb ln nx ht sh sl dh dl ++ load)) (hn : ln ≤ load.length) (hm : n ≤ 1000000) :
    Calls Try.prog 124 #[.slice A n c] w (RetV w (.tuple #[.agg (h6C cl lb (ln : Int) nx ht true sh sl true dh dl).toArray, .int .i64 0])) := by
  obtain ⟨dk, u1, u2⟩ := rowH6
  have hlen : n = 40 + load.length := by rw [← h.1, List.length_append, ip6B_length]
  have hc := h.2.1
  have h40 : (40 : Int) ≤ (n : Int) := by omega
  have h40c : (40 : Int) ≤ (c : Int) := by omega
  have hln : ((n : Int) - 40 < (ln : Int)) = False := eq_false (by omega)
  have hdl : decide ((n : Int) - 40 < (ln : Int)) = false := by simp; omega
  have ht40 : Rb w A 40 c (ip6B cl lb ln nx ht sh sl dh dl) := by
    have := h.take (k := 40) (by omega)
    rwa [List.take_left' (ip6B_length _ _ _ _ _ _ _ _ _)] at this
  have x0 : num (((ip6B cl lb ln nx ht sh sl dh dl).drop 0).take 4) = (1610612736 + cl * 1048576 + lb) := by unfold ip6B; have := num_mid ([]) (dig ln 2 ++ dig nx 1 ++ dig ht 1 ++ (dig sh 8 ++ dig sl 8) ++ (dig dh 8 ++ dig dl 8)) (1610612736 + cl * 1048576 + lb) 4 0 (by simp [dig_length]) (by omega); simpa [List.append_assoc] using this
  have x1 : num (((ip6B cl lb ln nx ht sh sl dh dl).drop 4).take 2) = ln := by unfold ip6B; have := num_mid (dig (1610612736 + cl * 1048576 + lb) 4) (dig nx 1 ++ dig ht 1 ++ (dig sh 8 ++ dig sl 8) ++ (dig dh 8 ++ dig dl 8)) ln 2 4 (by simp [dig_length]) (by omega); simpa [List.append_assoc] using this
  have x2 : num (((ip6B cl lb ln nx ht sh sl dh dl).drop 6).take 1) = nx := by unfold ip6B; have := num_mid (dig (1610612736 + cl * 1048576 + lb) 4 ++ dig ln 2) (dig ht 1 ++ (dig sh 8 ++ dig sl 8) ++ (dig dh 8 ++ dig dl 8)) nx 1 6 (by simp [dig_length]) (by omega); simpa [List.append_assoc] using this
  have x3 : num (((ip6B cl lb ln nx ht sh sl dh dl).drop 7).take 1) = ht := by unfold ip6B; have := num_mid (dig (1610612736 + cl * 1048576 + lb) 4 ++ dig ln 2 ++ dig nx 1) ((dig sh 8 ++ dig sl 8) ++ (dig dh 8 ++ dig dl 8)) ht 1 7 (by simp [dig_length]) (by omega); simpa [List.append_assoc] using this
  have y0 : ((ip6B cl lb ln nx ht sh sl dh dl).drop 8).take 16 = dig sh 8 ++ dig sl 8 := by
    unfold ip6B
    rw [List.append_assoc, List.drop_left' (by simp [dig_length]), List.take_left' (by simp [dig_length])]
  have y1 : ((ip6B cl lb ln nx ht sh sl dh dl).drop 24).take 16 = dig dh 8 ++ dig dl 8 := by
    unfold ip6B
    rw [List.drop_left' (by simp [dig_length]), List.take_of_length_le (by simp [dig_length])]
  have hXl : 1610612736 + cl * 1048576 + lb < 4294967296 := by omega
  have hand := u32_mask20 (1610612736 + cl * 1048576 + lb) hXl
  have e1 : (1610612736 + cl * 1048576 + lb) % 1048576 = lb := by omega
  rw [e1] at hand
  have e2 : ((1610612736 + cl * 1048576 + lb : Nat) : Int) / 268435456 = 6 := by omega
  have e3 : ((1610612736 + cl * 1048576 + lb : Nat) : Int) / 1048576 % 256 = (cl : Int) := by omega
  have hBl : (ip6B cl lb ln nx ht sh sl dh dl).length = 40 := ip6B_length _ _ _ _ _ _ _ _ _
  have HR := Lib.hid (fun W (h : Rb W A 40 c (ip6B cl lb ln nx ht sh sl dh dl)) => readK A 40 c (ip6B cl lb ln nx ht sh sl dh dl) W h (by omega))
  clear h e1 hlen
  generalize 1610612736 + cl * 1048576 + lb = X at *
  generalize ip6B cl lb ln nx ht sh sl dh dl = B at *
  replace x0 := Lib.hid x0
  replace x1 := Lib.hid x1
  replace x2 := Lib.hid x2
  replace x3 := Lib.hid x3
  replace y0 := Lib.hid y0
  replace y1 := Lib.hid y1
  have hB1 : B.length ≤ 40 := by omega
  have hB2 : 40 ≤ B.length := by omega
  clear hBl
  have b2 : Bk (w.alloc (.cells #[.int .u8 0, .int .u32 0, .int .i64 0, .int .u8 0, .int .u8 0, .bool false, .int .u64 0, .int .u64 0, .bool false, .int .u64 0, .int .u64 0] 171)) w.heap.size 171 (h6C 0 0 0 0 0 false 0 0 false 0 0) := Bk.new w 171 #[.int .u8 0, .int .u32 0, .int .i64 0, .int .u8 0, .int .u8 0, .bool false, .int .u64 0, .int .u64 0, .bool false, .int .u64 0, .int .u64 0]
  have be : Below w.heap.size w (w.alloc (.cells #[.int .u8 0, .int .u32 0, .int .i64 0, .int .u8 0, .int .u8 0, .bool false, .int .u64 0, .int .u64 0, .bool false, .int .u64 0, .int .u64 0] 171)) := Below.allocS (Below.refl _ _) _
  go_enter Try.func124, Try.ntmps124
  go_wp2_with fail
  refine (HR.out _ (ht40.alloc _)).mono ?_
  rintro e w1 ⟨r, bs1, d1, rfl, rfl, hr1, hR⟩
  replace b2 := b2.later (below_plus _ bs1 d1)
  replace be := belowP be bs1 d1
  have hr2 : w.heap.size < r := by simp at hr1; omega
  generalize plus (w.alloc (.cells #[.int .u8 0, .int .u32 0, .int .i64 0, .int .u8 0, .int .u8 0, .bool false, .int .u64 0, .int .u64 0, .bool false, .int .u64 0, .int .u64 0] 171)) bs1 d1 = W at *
  clear hr1
  go_wp2_with fail
  refine (longG W r B 0 X hR (by omega) (by omega) x0.out).mono ?_
  rintro e W1 ⟨rfl, hR1, hg1⟩
  replace b2 := b2.grown hg1 (by simp; omega)
  replace be := below_grown be hg1 (by omega)
  clear hg1 hR
  have zr := hR1.lt
  go_wp2_with fail
  have b6 : Bk (W1.alloc (.cells #[.int .u8 (cl : Int), .int .u32 (lb : Int), .int .i64 0, .int .u8 0, .int .u8 0, .bool false, .int .u64 0, .int .u64 0, .bool false, .int .u64 0, .int .u64 0] 171)) W1.heap.size 171 [.int .u8 (cl : Int), .int .u32 (lb : Int), .int .i64 0, .int .u8 0, .int .u8 0, .bool false, .int .u64 0, .int .u64 0, .bool false, .int .u64 0, .int .u64 0] := Bk.new W1 171 _
  replace b2 := b2.alloc (.cells #[.int .u8 (cl : Int), .int .u32 (lb : Int), .int .i64 0, .int .u8 0, .int .u8 0, .bool false, .int .u64 0, .int .u64 0, .bool false, .int .u64 0, .int .u64 0] 171)
  replace be := Below.allocS be (.cells #[.int .u8 (cl : Int), .int .u32 (lb : Int), .int .i64 0, .int .u8 0, .int .u8 0, .bool false, .int .u64 0, .int .u64 0, .bool false, .int .u64 0, .int .u64 0] 171)
  replace hR1 := hR1.later ((Below.refl _ _).alloc (Nat.le_refl _) (.cells #[.int .u8 (cl : Int), .int .u32 (lb : Int), .int .i64 0, .int .u8 0, .int .u8 0, .bool false, .int .u64 0, .int .u64 0, .bool false, .int .u64 0, .int .u64 0] 171))
  generalize W1.alloc (.cells #[.int .u8 (cl : Int), .int .u32 (lb : Int), .int .i64 0, .int .u8 0, .int .u8 0, .bool false, .int .u64 0, .int .u64 0, .bool false, .int .u64 0, .int .u64 0] 171) = W2 at *
  have zg : w.heap.size < W1.heap.size := by omega
  generalize W1.heap.size = g6 at *
  clear e2 e3 hand hXl x0 W
  refine (wordG W2 r B 4 ln hR1 (by omega) (by omega) x1.out).mono ?_
  clear x1
  rintro e W3 ⟨rfl, hR2, hg2⟩
  replace b2 := b2.grown hg2 (by simp; omega)
  replace b6 := b6.grown hg2 (by simp; omega)
  replace be := below_grown be hg2 (by omega)
  clear hg2 hR1
  have q := b6.cell 2
  have fr := b6.frozen 2
  have z6 := b6.lt
  simp only [List.getElem?_cons_succ, List.getElem?_cons_zero] at q
  go_wp2_with fail
  replace b6 := b6.set_ 2 (.int .i64 (ln : Int))
  replace b2 := b2.far (p := ⟨g6, 2, none⟩) (by simp; omega) (.int .i64 (ln : Int))
  have hR1 := hR2.far (p := ⟨g6, 2, none⟩) (by simp; omega) (.int .i64 (ln : Int))
  replace be := be.setCell (p := ⟨g6, 2, none⟩) (by simp; omega) (.int .i64 (ln : Int))
  simp only [List.set_cons_succ, List.set_cons_zero] at b6
  clear q fr z6 hR2
  generalize W3.setCell ⟨g6, 2, none⟩ (.int .i64 (ln : Int)) = W3s at *
  clear hdl
  refine (byteG W3s r B 6 nx hR1 (by omega) (by omega) x2.out).mono ?_
  clear x2
  rintro e W4 ⟨rfl, hR2, hg2⟩
  replace b2 := b2.grown hg2 (by simp; omega)
  replace b6 := b6.grown hg2 (by simp; omega)
  replace be := below_grown be hg2 (by omega)
  clear hg2 hR1
  have q := b6.cell 3
  have fr := b6.frozen 3
  have z6 := b6.lt
  simp only [List.getElem?_cons_succ, List.getElem?_cons_zero] at q
  go_wp2_with fail
  replace b6 := b6.set_ 3 (.int .u8 (nx : Int))
  replace b2 := b2.far (p := ⟨g6, 3, none⟩) (by simp; omega) (.int .u8 (nx : Int))
  have hR1 := hR2.far (p := ⟨g6, 3, none⟩) (by simp; omega) (.int .u8 (nx : Int))
  replace be := be.setCell (p := ⟨g6, 3, none⟩) (by simp; omega) (.int .u8 (nx : Int))
  simp only [List.set_cons_succ, List.set_cons_zero] at b6
  clear q fr z6 hR2
  generalize W4.setCell ⟨g6, 3, none⟩ (.int .u8 (nx : Int)) = W4s at *
  refine (byteG W4s r B 7 ht hR1 (by omega) (by omega) x3.out).mono ?_
  clear x3
  rintro e W5 ⟨rfl, hR2, hg2⟩
  replace b2 := b2.grown hg2 (by simp; omega)
  replace b6 := b6.grown hg2 (by simp; omega)
  replace be := below_grown be hg2 (by omega)
  clear hg2 hR1
  have q := b6.cell 4
  have fr := b6.frozen 4
  have z6 := b6.lt
  simp only [List.getElem?_cons_succ, List.getElem?_cons_zero] at q
  go_wp2_with fail
  replace b6 := b6.set_ 4 (.int .u8 (ht : Int))
  replace b2 := b2.far (p := ⟨g6, 4, none⟩) (by simp; omega) (.int .u8 (ht : Int))
  have hR1 := hR2.far (p := ⟨g6, 4, none⟩) (by simp; omega) (.int .u8 (ht : Int))
  replace be := be.setCell (p := ⟨g6, 4, none⟩) (by simp; omega) (.int .u8 (ht : Int))
  simp only [List.set_cons_succ, List.set_cons_zero] at b6
  clear q fr z6 hR2
  generalize W5.setCell ⟨g6, 4, none⟩ (.int .u8 (ht : Int)) = W5s at *
  refine (bytesG W5s r B 8 16 hR1 (by omega) (by omega)).mono ?_
  rintro e W6 ⟨Aa, na, ca, rfl, hoa, hR2, hg2⟩
  rw [y0.out] at hoa
  obtain rfl : na = 16 := by rw [← hoa.1]; simp [dig_length]
  replace b2 := b2.grown hg2 (by simp; omega)
  replace b6 := b6.grown hg2 (by simp; omega)
  replace be := below_grown be hg2 (by omega)
  clear hg2 hR1
  have z6 := b6.lt
  have zr := hR2.lt
  go_wp2_with fail
  refine (adrOf16 sh sl _ _ _ k1 k2 hoa.rb).mono ?_
  rintro e w1 ⟨bsa, da, rfl, rfl⟩
  replace b6 := b6.later (below_plus _ bsa da)
  replace b2 := b2.later (below_plus _ bsa da)
  replace be := belowP be bsa da
  replace hR2 := hR2.later (below_plus _ bsa da)
  clear hoa
  generalize plus W6 bsa da = W6p at *
  go_upto_region 14 with (refine at_op (.store 26 (.tmp 49) (.tmp 47)) rfl ?_; refine wpList_stM (t := 171) 26 (.tmp 49) (.tmp 47) rfl rfl (adC true sh sl) _ (by simp [adC]) (adC_one _ _ _) rfl rfl b6 (szAd _ _ _) ?_; intro W6s b6' hg3)
  simp only [splice, adC, List.take_succ_cons, List.take_zero, List.drop_succ_cons, List.drop_zero, List.length_cons, List.length_nil, Nat.zero_add, Nat.reduceAdd, List.cons_append, List.nil_append] at b6'
  replace b2 := b2.grown hg3 (by simp; omega)
  have hR1 := hR2.far_ hg3 (by omega)
  replace be := below_grown be hg3 (by omega)
  clear b6 hR2 hg3 z6 zr
  have b6 := b6'
  clear b6'
  go_wp2_with fail
  refine (bytesG W6s r B 24 16 hR1 (by omega) (by omega)).mono ?_
  rintro e W7 ⟨Aa, na, ca, rfl, hoa, hR2, hg2⟩
  rw [y1.out] at hoa
  obtain rfl : na = 16 := by rw [← hoa.1]; simp [dig_length]
  replace b2 := b2.grown hg2 (by simp; omega)
  replace b6 := b6.grown hg2 (by simp; omega)
  replace be := below_grown be hg2 (by omega)
  clear hg2 hR1
  have z6 := b6.lt
  have zr := hR2.lt
  go_wp2_with fail
  refine (adrOf16 dh dl _ _ _ k3 k4 hoa.rb).mono ?_
  rintro e w1 ⟨bsa, da, rfl, rfl⟩
  replace b6 := b6.later (below_plus _ bsa da)
  replace b2 := b2.later (below_plus _ bsa da)
  replace be := belowP be bsa da
  replace hR2 := hR2.later (below_plus _ bsa da)
  clear hoa
  generalize plus W7 bsa da = W7p at *
  go_upto_region 15 with (refine at_op (.store 26 (.tmp 56) (.tmp 54)) rfl ?_; refine wpList_stM (t := 171) 26 (.tmp 56) (.tmp 54) rfl rfl (adC true dh dl) _ (by simp [adC]) (adC_one _ _ _) rfl rfl b6 (szAd _ _ _) ?_; intro W7s b6' hg3)
  simp only [splice, adC, List.take_succ_cons, List.take_zero, List.drop_succ_cons, List.drop_zero, List.length_cons, List.length_nil, Nat.zero_add, Nat.reduceAdd, List.cons_append, List.nil_append] at b6'
  replace b2 := b2.grown hg3 (by simp; omega)
  have hR1 := hR2.far_ hg3 (by omega)
  replace be := below_grown be hg3 (by omega)
  clear b6 hR2 hg3 z6 zr
  have b6 := b6'
  clear b6'
  go_wp2_with (first
    | (refine at_op (.load 171 (.tmp 6)) rfl ?_; refine wpList_ldA (t := 171) 171 (.tmp 6) rfl rfl (h6C cl lb (ln : Int) nx ht true sh sl true dh dl) rfl b6 (whole_ _) u1 u2 (szH6 _ _ _ _ _ _ _ _ _ _ _) ?_)
    | (refine at_op (.store 171 (.tmp 2) (.tmp 57)) rfl ?_; refine wpList_stA (t := 171) 171 (.tmp 2) (.tmp 57) rfl rfl (h6C cl lb (ln : Int) nx ht true sh sl true dh dl) (h6C 0 0 0 0 0 false 0 0 false 0 0) rfl (h6C_one _ _ _ _ _ _ _ _ _ _ _) rfl rfl b2 (szH6 _ _ _ _ _ _ _ _ _ _ _) ?_; intro W9 h9 g9))
  refine bodyPost_agg2 Try.results124 rfl rfl h9.range u1 u2 (szH6 _ _ _ _ _ _ _ _ _ _ _) rfl (RetV.mk ?_)
  exact below_grown be g9 (by omega)
end Go.Proofs.Ytfmkndemkpecpaa

/- Packets of IPv6: Parse, Packet, Older. -/
namespace Go.Proofs.Ytfmkndemkpecpaa
open Go.RowKit
set_option linter.unusedVariables false
set_option linter.unusedSimpArgs false
attribute [local go_sem ↓] sliced_cut

attribute [local go_sem] cutA_zero

/-- a header and bytes, and an error -/
def RetH (w : World) (cs : List Value) (l : List UInt8) (e : Ending) (w' : World) : Prop := ∃ A n c bs d, e = .returned (.tuple #[.agg cs.toArray, .slice A n c, .int .i64 0]) ∧ w' = plus w bs d ∧ Ob (plus w bs d) w.heap.size A n c l
theorem RetH.mk {w w' : World} {cs : List Value} {l : List UInt8} {A : Option Addr} {n c : Nat} (h : Ob w' w.heap.size A n c l) (hb : Below w.heap.size w w') : RetH w cs l (.returned (.tuple #[.agg cs.toArray, .slice A n c, .int .i64 0])) w' := by
  obtain ⟨bs, d, rfl⟩ := plus_of hb
  exact ⟨A, n, c, bs, d, rfl, rfl, h⟩
end Go.Proofs.Ytfmkndemkpecpaa

/- IPv6 packets of any bytes: ip6.Parse, the reference's Parse. -/
namespace Go.Proofs.Ytfmkndemkpecpaa
open Go.RowKit
set_option linter.unusedVariables false
set_option linter.unusedSimpArgs false
attribute [local go_sem ↓] sliced_cut

attribute [local go_sem] cutA_zero

set_option maxHeartbeats 4000000 in
set_option maxRecDepth 100000 in
theorem hdr6_short (A : Option Addr) (n c : Nat) (l : List UInt8) (w : World) (h : Rb w A n c l) (hm : n ≤ 1000000) (hn : n < 40) : Calls Try.prog 124 #[.slice A n c] w (RetV w (.tuple #[.agg (h6C 0 0 0 0 0 false 0 0 false 0 0).toArray, .int .i64 20])) := by
  obtain ⟨du, u1, u2⟩ := rowH6
  have d40 : decide ((n : Int) < 40) = true := by simp only [decide_eq_true_eq]; omega
  have b2 : Bk (w.alloc (.cells #[.int .u8 0, .int .u32 0, .int .i64 0, .int .u8 0, .int .u8 0, .bool false, .int .u64 0, .int .u64 0, .bool false, .int .u64 0, .int .u64 0] 171)) w.heap.size 171 (h6C 0 0 0 0 0 false 0 0 false 0 0) := Bk.new w 171 #[.int .u8 0, .int .u32 0, .int .i64 0, .int .u8 0, .int .u8 0, .bool false, .int .u64 0, .int .u64 0, .bool false, .int .u64 0, .int .u64 0]
  have be : Below w.heap.size w (w.alloc (.cells #[.int .u8 0, .int .u32 0, .int .i64 0, .int .u8 0, .int .u8 0, .bool false, .int .u64 0, .int .u64 0, .bool false, .int .u64 0, .int .u64 0] 171)) := Below.allocS (Below.refl _ _) _
  go_enter Try.func124, Try.ntmps124
  go_wp2_with (refine at_op (.store 171 (.tmp 2) (.tmp 10)) rfl ?_; refine wpList_stA (t := 171) 171 (.tmp 2) (.tmp 10) rfl rfl (h6C 0 0 0 0 0 false 0 0 false 0 0) (h6C 0 0 0 0 0 false 0 0 false 0 0) rfl (h6C_one _ _ _ _ _ _ _ _ _ _ _) rfl rfl b2 (szH6 _ _ _ _ _ _ _ _ _ _ _) ?_; intro W9 h9 g9)
  refine bodyPost_agg2 Try.results124 rfl rfl h9.range u1 u2 (szH6 _ _ _ _ _ _ _ _ _ _ _) rfl (RetV.mk ?_)
  exact below_grown be g9 (by omega)
set_option maxHeartbeats 4000000 in
set_option maxRecDepth 100000 in
theorem hdr6_form (A : Option Addr) (n c : Nat) (l : List UInt8) (w : World) (h : Rb w A n c l) (hm : n ≤ 1000000) (X : Nat) (x0 : num ((l.drop 0).take 4) = X) (hn : 40 ≤ n) (hf : X / 268435456 ≠ 6) : Calls Try.prog 124 #[.slice A n c] w (RetV w (.tuple #[.agg (h6C 0 0 0 0 0 false 0 0 false 0 0).toArray, .int .i64 21])) := by
  obtain ⟨du, u1, u2⟩ := rowH6
  have hc := h.2.1
  have h40 : (40 : Int) ≤ (n : Int) := by omega
  have h40c : (40 : Int) ≤ (c : Int) := by omega
  have d40 : decide ((n : Int) < 40) = false := by simp only [decide_eq_false_iff_not]; omega
  have ht40 : Rb w A 40 c (l.take 40) := h.take (by omega)
  have hX : X < 4294967296 := by rw [← x0]; exact num_lt' l 0 4 4294967296 (by decide)
  replace x0 : Hid (num (((l.take 40).drop 0).take 4) = X) := Lib.hid (by rw [num_in l 40 0 4 (by decide)]; exact x0)
  have e2 : ((X : Int) / 268435456 != 6) = true := by rw [bne_iff_ne]; omega
  have hB : (l.take 40).length = 40 := by rw [List.length_take, h.1]; omega
  have HR := Lib.hid (fun W (h : Rb W A 40 c (l.take 40)) => readK A 40 c (l.take 40) W h (by decide))
  generalize l.take 40 = B at *
  clear h
  have b2 : Bk (w.alloc (.cells #[.int .u8 0, .int .u32 0, .int .i64 0, .int .u8 0, .int .u8 0, .bool false, .int .u64 0, .int .u64 0, .bool false, .int .u64 0, .int .u64 0] 171)) w.heap.size 171 (h6C 0 0 0 0 0 false 0 0 false 0 0) := Bk.new w 171 #[.int .u8 0, .int .u32 0, .int .i64 0, .int .u8 0, .int .u8 0, .bool false, .int .u64 0, .int .u64 0, .bool false, .int .u64 0, .int .u64 0]
  have be : Below w.heap.size w (w.alloc (.cells #[.int .u8 0, .int .u32 0, .int .i64 0, .int .u8 0, .int .u8 0, .bool false, .int .u64 0, .int .u64 0, .bool false, .int .u64 0, .int .u64 0] 171)) := Below.allocS (Below.refl _ _) _
  go_enter Try.func124, Try.ntmps124
  go_wp2_with fail
  refine (HR.out _ (ht40.alloc _)).mono ?_
  rintro e w1 ⟨r, bs1, d1, rfl, rfl, hr1, hR⟩
  replace b2 := b2.later (below_plus _ bs1 d1)
  replace be := belowP be bs1 d1
  have hr2 : w.heap.size < r := by simp at hr1; omega
  generalize plus (w.alloc (.cells #[.int .u8 0, .int .u32 0, .int .i64 0, .int .u8 0, .int .u8 0, .bool false, .int .u64 0, .int .u64 0, .bool false, .int .u64 0, .int .u64 0] 171)) bs1 d1 = W at *
  clear hr1
  go_wp2_with fail
  refine (longG W r B 0 X hR (by omega) (by omega) x0.out).mono ?_
  rintro e W1 ⟨rfl, hR1, hg1⟩
  replace b2 := b2.grown hg1 (by simp; omega)
  replace be := below_grown be hg1 (by omega)
  clear hg1 hR
  have zr := hR1.lt
  go_wp2_with (refine at_op (.store 171 (.tmp 2) (.tmp 19)) rfl ?_; refine wpList_stA (t := 171) 171 (.tmp 2) (.tmp 19) rfl rfl (h6C 0 0 0 0 0 false 0 0 false 0 0) (h6C 0 0 0 0 0 false 0 0 false 0 0) rfl (h6C_one _ _ _ _ _ _ _ _ _ _ _) rfl rfl b2 (szH6 _ _ _ _ _ _ _ _ _ _ _) ?_; intro W9 h9 g9)
  refine bodyPost_agg2 Try.results124 rfl rfl h9.range u1 u2 (szH6 _ _ _ _ _ _ _ _ _ _ _) rfl (RetV.mk ?_)
  exact below_grown be g9 (by omega)
set_option maxHeartbeats 4000000 in
set_option maxRecDepth 100000 in
theorem hdr6_long (A : Option Addr) (n c : Nat) (l : List UInt8) (w : World) (h : Rb w A n c l) (hm : n ≤ 1000000) (X ln : Nat) (x0 : num ((l.drop 0).take 4) = X) (x1 : num ((l.drop 4).take 2) = ln) (hn : 40 ≤ n) (hf : X / 268435456 = 6) (hq : n - 40 < ln) : Calls Try.prog 124 #[.slice A n c] w (RetV w (.tuple #[.agg (h6C 0 0 0 0 0 false 0 0 false 0 0).toArray, .int .i64 20])) := by
  obtain ⟨du, u1, u2⟩ := rowH6
  have hc := h.2.1
  have h40 : (40 : Int) ≤ (n : Int) := by omega
  have h40c : (40 : Int) ≤ (c : Int) := by omega
  have d40 : decide ((n : Int) < 40) = false := by simp only [decide_eq_false_iff_not]; omega
  have ht40 : Rb w A 40 c (l.take 40) := h.take (by omega)
  have hX : X < 4294967296 := by rw [← x0]; exact num_lt' l 0 4 4294967296 (by decide)
  replace x0 : Hid (num (((l.take 40).drop 0).take 4) = X) := Lib.hid (by rw [num_in l 40 0 4 (by decide)]; exact x0)
  have hln : ln < 65536 := by rw [← x1]; exact num_lt' l 4 2 65536 (by decide)
  replace x1 : Hid (num (((l.take 40).drop 4).take 2) = ln) := Lib.hid (by rw [num_in l 40 4 2 (by decide)]; exact x1)
  have e2 : (X : Int) / 268435456 = 6 := by omega
  obtain ⟨cl, hcl⟩ : ∃ cl : Nat, (X : Int) / 1048576 % 256 = (cl : Int) := ⟨X / 1048576 % 256, by omega⟩
  obtain ⟨lb, hlb⟩ : ∃ lb : Nat, X % 1048576 = lb := ⟨_, rfl⟩
  have hand := u32_mask20 X hX
  rw [hlb] at hand
  have hdl : decide ((n : Int) - 40 < (ln : Int)) = true := by simp only [decide_eq_true_eq]; omega
  have hdn : IntKind.i64.wrap ((n : Int) - 40) = (n : Int) - 40 := IntWalk.i64_in _ (by omega)
  clear hlb
  have hB : (l.take 40).length = 40 := by rw [List.length_take, h.1]; omega
  have HR := Lib.hid (fun W (h : Rb W A 40 c (l.take 40)) => readK A 40 c (l.take 40) W h (by decide))
  generalize l.take 40 = B at *
  clear h
  have b2 : Bk (w.alloc (.cells #[.int .u8 0, .int .u32 0, .int .i64 0, .int .u8 0, .int .u8 0, .bool false, .int .u64 0, .int .u64 0, .bool false, .int .u64 0, .int .u64 0] 171)) w.heap.size 171 (h6C 0 0 0 0 0 false 0 0 false 0 0) := Bk.new w 171 #[.int .u8 0, .int .u32 0, .int .i64 0, .int .u8 0, .int .u8 0, .bool false, .int .u64 0, .int .u64 0, .bool false, .int .u64 0, .int .u64 0]
  have be : Below w.heap.size w (w.alloc (.cells #[.int .u8 0, .int .u32 0, .int .i64 0, .int .u8 0, .int .u8 0, .bool false, .int .u64 0, .int .u64 0, .bool false, .int .u64 0, .int .u64 0] 171)) := Below.allocS (Below.refl _ _) _
  go_enter Try.func124, Try.ntmps124
  go_wp2_with fail
  refine (HR.out _ (ht40.alloc _)).mono ?_
  rintro e w1 ⟨r, bs1, d1, rfl, rfl, hr1, hR⟩
  replace b2 := b2.later (below_plus _ bs1 d1)
  replace be := belowP be bs1 d1
  have hr2 : w.heap.size < r := by simp at hr1; omega
  generalize plus (w.alloc (.cells #[.int .u8 0, .int .u32 0, .int .i64 0, .int .u8 0, .int .u8 0, .bool false, .int .u64 0, .int .u64 0, .bool false, .int .u64 0, .int .u64 0] 171)) bs1 d1 = W at *
  clear hr1
  go_wp2_with fail
  refine (longG W r B 0 X hR (by omega) (by omega) x0.out).mono ?_
  rintro e W1 ⟨rfl, hR1, hg1⟩
  replace b2 := b2.grown hg1 (by simp; omega)
  replace be := below_grown be hg1 (by omega)
  clear hg1 hR
  have zr := hR1.lt
  go_wp2_with fail
  have b6 : Bk (W1.alloc (.cells #[.int .u8 (cl : Int), .int .u32 (lb : Int), .int .i64 0, .int .u8 0, .int .u8 0, .bool false, .int .u64 0, .int .u64 0, .bool false, .int .u64 0, .int .u64 0] 171)) W1.heap.size 171 [.int .u8 (cl : Int), .int .u32 (lb : Int), .int .i64 0, .int .u8 0, .int .u8 0, .bool false, .int .u64 0, .int .u64 0, .bool false, .int .u64 0, .int .u64 0] := Bk.new W1 171 _
  replace b2 := b2.alloc (.cells #[.int .u8 (cl : Int), .int .u32 (lb : Int), .int .i64 0, .int .u8 0, .int .u8 0, .bool false, .int .u64 0, .int .u64 0, .bool false, .int .u64 0, .int .u64 0] 171)
  replace be := Below.allocS be (.cells #[.int .u8 (cl : Int), .int .u32 (lb : Int), .int .i64 0, .int .u8 0, .int .u8 0, .bool false, .int .u64 0, .int .u64 0, .bool false, .int .u64 0, .int .u64 0] 171)
  replace hR1 := hR1.later ((Below.refl _ _).alloc (Nat.le_refl _) (.cells #[.int .u8 (cl : Int), .int .u32 (lb : Int), .int .i64 0, .int .u8 0, .int .u8 0, .bool false, .int .u64 0, .int .u64 0, .bool false, .int .u64 0, .int .u64 0] 171))
  generalize W1.alloc (.cells #[.int .u8 (cl : Int), .int .u32 (lb : Int), .int .i64 0, .int .u8 0, .int .u8 0, .bool false, .int .u64 0, .int .u64 0, .bool false, .int .u64 0, .int .u64 0] 171) = W2 at *
  have zg : w.heap.size < W1.heap.size := by omega
  generalize W1.heap.size = g6 at *
  clear e2 hcl hand hX x0 W
  refine (wordG W2 r B 4 ln hR1 (by omega) (by omega) x1.out).mono ?_
  clear x1
  rintro e W3 ⟨rfl, hR2, hg2⟩
  replace b2 := b2.grown hg2 (by simp; omega)
  replace b6 := b6.grown hg2 (by simp; omega)
  replace be := below_grown be hg2 (by omega)
  clear hg2 hR1
  have q := b6.cell 2
  have fr := b6.frozen 2
  have z6 := b6.lt
  simp only [List.getElem?_cons_succ, List.getElem?_cons_zero] at q
  go_upto_region 9 with (fail)
  replace b6 := b6.set_ 2 (.int .i64 (ln : Int))
  replace b2 := b2.far (p := ⟨g6, 2, none⟩) (by simp; omega) (.int .i64 (ln : Int))
  replace be := be.setCell (p := ⟨g6, 2, none⟩) (by simp; omega) (.int .i64 (ln : Int))
  simp only [List.set_cons_succ, List.set_cons_zero] at b6
  clear q fr z6 hR2
  generalize W3.setCell ⟨g6, 2, none⟩ (.int .i64 (ln : Int)) = W3s at *
  have q := b6.cell 2
  simp only [List.getElem?_cons_succ, List.getElem?_cons_zero] at q
  go_wp2_with (refine at_op (.store 171 (.tmp 2) (.tmp 36)) rfl ?_; refine wpList_stA (t := 171) 171 (.tmp 2) (.tmp 36) rfl rfl (h6C 0 0 0 0 0 false 0 0 false 0 0) (h6C 0 0 0 0 0 false 0 0 false 0 0) rfl (h6C_one _ _ _ _ _ _ _ _ _ _ _) rfl rfl b2 (szH6 _ _ _ _ _ _ _ _ _ _ _) ?_; intro W9 h9 g9)
  refine bodyPost_agg2 Try.results124 rfl rfl h9.range u1 u2 (szH6 _ _ _ _ _ _ _ _ _ _ _) rfl (RetV.mk ?_)
  exact below_grown be g9 (by omega)

/-- forty bytes that say 6 are a written header -/
theorem as_ip6B (l : List UInt8) (h : 40 ≤ l.length) (hv : num ((l.drop 0).take 4) / 268435456 = 6) : l = ip6B (num ((l.drop 0).take 4) / 1048576 % 256) (num ((l.drop 0).take 4) % 1048576) (num ((l.drop 4).take 2)) (num ((l.drop 6).take 1)) (num ((l.drop 7).take 1)) (num ((l.drop 8).take 8)) (num ((l.drop 16).take 8)) (num ((l.drop 24).take 8)) (num ((l.drop 32).take 8)) ++ l.drop 40 := by
  have part : ∀ (k s : Nat), k + s ≤ l.length → dig (num ((l.drop k).take s)) s = (l.drop k).take s := fun k s hk => digNum s _ (by rw [List.length_take, List.length_drop]; omega)
  have hX : num ((l.drop 0).take 4) < 4294967296 := num_lt' l 0 4 _ (by decide)
  have e0 : 1610612736 + num ((l.drop 0).take 4) / 1048576 % 256 * 1048576 + num ((l.drop 0).take 4) % 1048576 = num ((l.drop 0).take 4) := by omega
  unfold ip6B
  rw [e0, part 0 4 (by omega), part 4 2 (by omega), part 6 1 (by omega), part 7 1 (by omega), part 8 8 (by omega), part 16 8 (by omega), part 24 8 (by omega), part 32 8 (by omega)]
  have cut : ∀ (k s : Nat), l.drop k = (l.drop k).take s ++ l.drop (k + s) := fun k s => by rw [← List.drop_drop, List.take_append_drop]
  have c0 := cut 0 4
  rw [cut 4 2, cut 6 1, cut 7 1, cut 8 8, cut 16 8, cut 24 8, cut 32 8] at c0
  rw [List.drop_zero] at c0 ⊢
  conv => lhs; rw [c0]
  simp only [List.append_assoc]
theorem num_app : ∀ (b a : List UInt8), num (a ++ b) = num a * 256 ^ b.length + num b := by
  intro b
  induction b with
  | nil => intro a; simp [num]
  | cons x b ih =>
    intro a
    have h1 := ih [x]
    rw [show a ++ x :: b = (a ++ [x]) ++ b by simp, ih, num_snoc, show x :: b = [x] ++ b from rfl, h1, show num [x] = x.toNat from by simp [num], List.length_append, List.length_singleton, Nat.add_comm 1 b.length, Nat.pow_succ, Nat.add_mul, Nat.mul_assoc, Nat.mul_comm 256]
    omega
theorem first_ip6 (l : List UInt8) (h : 4 ≤ l.length) : num ((l.drop 0).take 4) = num ((l.drop 0).take 1) * 16777216 + num ((l.drop 1).take 1) * 65536 + num ((l.drop 2).take 2) := by
  have e : (l.drop 0).take 4 = (l.drop 0).take 1 ++ ((l.drop 1).take 1 ++ (l.drop 2).take 2) := by
    match l, h with
    | a :: b :: c :: d :: r, _ => simp
  rw [e, num_app, num_app]
  have h1 : ((l.drop 1).take 1).length = 1 := by rw [List.length_take, List.length_drop]; omega
  have h2 : ((l.drop 2).take 2).length = 2 := by rw [List.length_take, List.length_drop]; omega
  rw [List.length_append, h1, h2]
  omega
end Go.Proofs.Ytfmkndemkpecpaa

/- The law Ip6Writes (chapter 5). -/
namespace Go.Proofs.Ytfmkndemkpecpaa
open Go.RowKit
set_option linter.unusedVariables false
set_option linter.unusedSimpArgs false
attribute [local go_sem ↓] sliced_cut

attribute [local go_sem] cutA_zero

theorem szR6 (cl lb : Nat) (ln : Int) (nx ht : Nat) (s6 : Bool) (sh sl : Nat) (d6 : Bool) (dh dl : Nat) : (Try.prog.info? 180).map (·.size) = some (h6C cl lb ln nx ht s6 sh sl d6 dh dl).length := by kernel_rfl
theorem rowR6 : ∃ d, Try.prog.underlying 180 = some d ∧ d.isRow = true := ⟨_, Try.underlying180, rfl⟩
set_option maxRecDepth 100000 in
theorem eq_h6 (w : World) (cl lb : Nat) (ln : Int) (nx ht : Nat) (s6 : Bool) (sh sl : Nat) (d6 : Bool) (dh dl : Nat) : (binOp .eql 171 (.agg (h6C cl lb ln nx ht s6 sh sl d6 dh dl).toArray) (.agg (h6C cl lb ln nx ht s6 sh sl d6 dh dl).toArray)).run Try.prog w = .ok (.bool true) w := by
  unfold h6C
  go_simp
attribute [local go_sem ↓] eq_h6

end Go.Proofs.Ytfmkndemkpecpaa

