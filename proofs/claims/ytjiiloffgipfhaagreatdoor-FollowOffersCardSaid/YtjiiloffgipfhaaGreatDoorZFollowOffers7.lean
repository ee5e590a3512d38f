/- Texts of the law FollowOffers, part 7. -/
import Derived.Test.YtjiiloffgipfhaaGreatDoorZFollowOffers6
set_option linter.unusedVariables false
set_option linter.unusedSimpArgs false
set_option maxHeartbeats 4000000
set_option maxRecDepth 100000
namespace Go.Proofs.YtjiiloffgipfhaaGreatDoor
section
attribute [local go_sem ↓] sliced_cut
attribute [local go_sem] cutA_zero
open Go.RowKit
theorem bdFw (w : World) : (Instr.build 49 #[]).run Tryz.prog w = .ok (.agg #[.pointer none]) w := by kernel_rfl
theorem bdM1 (A : Option Addr) (n c : Nat) (w : World) : (Instr.build 38 #[(0, .int .i64 1), (2, .slice A n c)]).run Tryz.prog w = .ok (.agg (msC 1 0 A n c).toArray) w := by kernel_rfl
theorem oneL (w : World) : RL ((w.alloc (.cells #[.int .u8 1] 5)).alloc (.cells #[.slice (some ⟨w.heap.size, 0, none⟩) 1 1] 28)) (some ⟨w.heap.size + 1, 0, none⟩) 1 1 [[1]] := by
 refine ⟨[(some ⟨w.heap.size, 0, none⟩, 1, 1)], ⟨rfl, fun i h1 h2 => ?_⟩, Rs.of_bk (n := 1) (c := 1) (Bk.newK _ _ _ (by simp) rfl) rfl (Nat.le_refl _)⟩
 have hi : i = 0 := by simp at h1; omega
 subst hi
 exact (Rb.litW (W := w) #[.int .u8 1] [1] rfl rfl (by decide) rfl).alloc _
theorem awake27 (w : World) : Calls Tryz.prog 4 #[] w (RetV w (.bool true)) := by
 go_enter Tryz.func4, Tryz.ntmps4
 go_upto_region 1 with (fail)
 refine wp_region_lit ?_
 refine wpList_build 49 [] rfl rfl (.agg #[.pointer none]) ?_ ?_
 ·exact bdFw _
 iterate 2 (refine qw ?_)
 have bf : Bk (w.alloc (.cells #[.pointer none] 49)) w.heap.size 49 [.pointer none] := Bk.new w 49 #[.pointer none]
 have be : Below w.heap.size w (w.alloc (.cells #[.pointer none] 49)) := Below.allocS (Below.refl _ _) _
 generalize w.alloc (.cells #[.pointer none] 49) = V at *
 have hL := oneL V
 have bl : Below V.heap.size V ((V.alloc (.cells #[.int .u8 1] 5)).alloc (.cells #[.slice (some ⟨V.heap.size, 0, none⟩) 1 1] 28)) := Below.allocS (Below.allocS (Below.refl _ _) _) _
 have bf2 := bf.later bl
 have be2 := be.trans (bl.mono be.size)
 clear bf be bl
 go_upto_region 2 with (fail)
 refine wp_region_lit ?_
 iterate 3 (refine qw ?_)
 generalize (V.alloc (.cells #[.int .u8 1] 5)).alloc (.cells #[.slice (some ⟨V.heap.size, 0, none⟩) 1 1] 28) = W at *
 refine wpList_build 38 [(0, .const (.int .i64 1)), (2, .tmp 6)] rfl rfl (.agg (msC 1 0 (some ⟨V.heap.size + 1, 0, none⟩) 1 1).toArray) ?_ ?_
 ·exact bdM1 _ _ _ _
 refine wpq fun K hK => ?_
 go_simp
 refine (recNone w.heap.size 0 [[1]] _ 1 1 _ bf2 hL (by decide) rfl).mono ?_
 rintro e V1 ⟨bs1, d1, rfl, rfl⟩
 with_reducible refine hK _ _ ?_
 clear hK K
 iterate 2 (refine qw ?_)
 iterate 2 (refine wpList_step (fun K hK => ?_); go_simp; with_reducible refine hK _ _ ?_; clear hK K)
 refine wpList_step (fun K hK => ?_)
 go_simp
 refine (recAck w.heap.size _).mono ?_
 rintro e V2 ⟨bs2, d2, rfl, rfl⟩
 with_reducible refine hK _ _ ?_
 clear hK K
 refine wpList_step (fun K hK => ?_); go_simp; with_reducible refine hK _ _ ?_; clear hK K
 iterate 2 (refine qw ?_)
 go_wp2
 go_ret
 exact RetV.is_ rfl (belowP (belowP be2 _ _) _ _)
theorem run_buildTo (k v b e : Int) (six : Bool) (ah al pt pr : Nat) (wy : Int) (w : World) : (Instr.build 67 #[(0, .int .i64 k), (1, .int .i64 v), (2, .int .i64 b), (3, .int .i64 e), (4, .agg (adC six ah al).toArray), (5, .int .u16 (pt : Int)), (6, .int .u8 (pr : Int)), (7, .int .i64 wy)]).run Tryz.prog w = .ok (.agg (opC k v b e six ah al pt pr wy none 0 0).toArray) w := by kernel_rfl
theorem to27_own (k v b e : Int) (six : Bool) (ah al pt pr : Nat) (wy : Int) (ms : List (Int × Int)) (A : Option Addr) (n c : Nat) (w : World) (hr : Rs 2 w A n c (prs .i64 ms)) (hn : n ≤ 1000000) : Calls Tryz.prog 15 #[.agg (opC k v b e six ah al pt pr wy A n c).toArray] w fun en w' => ∃ B d bs d0, en = .returned (.agg (opC k v b e six ah al pt pr wy B n d).toArray) ∧ w' = plus w bs d0 ∧ Os 128 2 (plus w bs d0) w.heap.size B n d (prs .i64 ms) := by
 obtain ⟨da, a1, a2⟩ : ∃ d, Tryz.prog.underlying 53 = some d ∧ d.isRow = true := ⟨_, Tryz.underlying53, rfl⟩
 have hml : ms.length = n := by have := hr.1; rw [prs_length] at this; omega
 have hr0 := hr
 obtain ⟨dv1, v1, v2⟩ := rowRo
 obtain ⟨dw1, w1, w2⟩ := rowOpC
 have b1 : Bk ((w.alloc (.cells (opC k v b e six ah al pt pr wy A n c).toArray 57)).alloc (.cells #[.int .i64 0, .int .i64 0, .int .i64 0, .int .i64 0, .bool false, .int .u64 0, .int .u64 0, .int .u16 0, .int .u8 0, .int .i64 0, .slice none 0 0] 67)) w.heap.size 57 (opC k v b e six ah al pt pr wy A n c) := (Bk.new w 57 (opC k v b e six ah al pt pr wy A n c).toArray).alloc _
 have b2 : Bk ((w.alloc (.cells (opC k v b e six ah al pt pr wy A n c).toArray 57)).alloc (.cells #[.int .i64 0, .int .i64 0, .int .i64 0, .int .i64 0, .bool false, .int .u64 0, .int .u64 0, .int .u16 0, .int .u8 0, .int .i64 0, .slice none 0 0] 67)) (w.heap.size + 1) 67 (opC 0 0 0 0 false 0 0 0 0 0 none 0 0) := Bk.newK _ _ _ (by simp) rfl
 have be : Below w.heap.size w ((w.alloc (.cells (opC k v b e six ah al pt pr wy A n c).toArray 57)).alloc (.cells #[.int .i64 0, .int .i64 0, .int .i64 0, .int .i64 0, .bool false, .int .u64 0, .int .u64 0, .int .u16 0, .int .u8 0, .int .i64 0, .slice none 0 0] 67)) := Below.allocS (Below.allocS (Below.refl _ _) _) _
 have zV : w.heap.size + 2 ≤ ((w.alloc (.cells (opC k v b e six ah al pt pr wy A n c).toArray 57)).alloc (.cells #[.int .i64 0, .int .i64 0, .int .i64 0, .int .i64 0, .bool false, .int .u64 0, .int .u64 0, .int .u16 0, .int .u8 0, .int .i64 0, .slice none 0 0] 67)).heap.size := by simp
 go_enter Tryz.func15, Tryz.ntmps15
 go_upto_region 1 with (fail)
 generalize (w.alloc (.cells (opC k v b e six ah al pt pr wy A n c).toArray 57)).alloc (.cells #[.int .i64 0, .int .i64 0, .int .i64 0, .int .i64 0, .bool false, .int .u64 0, .int .u64 0, .int .u16 0, .int .u8 0, .int .i64 0, .slice none 0 0] 67) = V at *
 refine wp_region_lit ?_
 refine qw ?_
 refine qL 3 (.tmp 5) b1 Tryz.underlying3 ?_
 refine qw ?_
 refine qL 3 (.tmp 7) b1 Tryz.underlying3 ?_
 refine qw ?_
 refine qL 3 (.tmp 9) b1 Tryz.underlying3 ?_
 refine qw ?_
 refine qL 3 (.tmp 11) b1 Tryz.underlying3 ?_
 refine qw ?_
 refine wpList_ldA (t := 57) (cs := opC k v b e six ah al pt pr wy A n c) 53 (.tmp 13) rfl rfl (adC six ah al) rfl (b1) rfl a1 a2 (szAd _ _ _) ?_
 refine qw ?_
 refine qL 54 (.tmp 15) b1 Tryz.underlying54 ?_
 refine qw ?_
 refine qL 5 (.tmp 17) b1 Tryz.underlying5 ?_
 refine qw ?_
 refine qL 3 (.tmp 19) b1 Tryz.underlying3 ?_
 simp only [Act.put, qsT, qsZ, qsS]
 refine wpList_build 67 [(0, .tmp 6), (1, .tmp 8), (2, .tmp 10), (3, .tmp 12), (4, .tmp 14), (5, .tmp 16), (6, .tmp 18), (7, .tmp 20)] rfl rfl (.agg (opC k v b e six ah al pt pr wy none 0 0).toArray) ?_ ?_
 ·exact run_buildTo k v b e six ah al pt pr wy _
 refine qw ?_
 refine wpList_stA (t := 67) 67 (.tmp 3) (.tmp 21) rfl rfl (opC k v b e six ah al pt pr wy none 0 0) (opC 0 0 0 0 false 0 0 0 0 0 none 0 0) rfl (opC_one _ _ _ _ _ _ _ _ _ _ _ _ _) rfl rfl (Bk.new V 67 #[.int .i64 0, .int .i64 0, .int .i64 0, .int .i64 0, .bool false, .int .u64 0, .int .u64 0, .int .u16 0, .int .u8 0, .int .i64 0, .slice none 0 0]) (szOp _ _ _ _ _ _ _ _ _ _ _ _ _) ?_; intro W4 h4 g4
 simp only [Act.put, qsT, qsZ, qsS]
 have be4 : Below V.heap.size V W4 := below_grown (Below.allocS (Below.refl _ _) _) g4 (Nat.le_refl _)
 have b3 : Bk W4 V.heap.size 67 (opC k v b e six ah al pt pr wy none 0 0) := h4
 have z3 : w.heap.size + 2 ≤ V.heap.size := zV
 replace b1 := b1.later be4
 replace b2 := b2.later be4
 replace be := be.trans (be4.mono be.size)
 have zW := b3.lt
 have hO0 : Os 128 2 W4 (V.heap.size + 1) none 0 0 (prs .i64 (ms.take 0)) := Os.nil_
 clear be4 h4 g4
 generalize V.heap.size = g3 at *
 go_upto_region 3 with (fail)
 go_loopw [4] (fun I wr => ∃ i : Nat, I = .int .i64 (i : Int) ∧ i ≤ n ∧ ∃ B d, Bk wr g3 67 (opC k v b e six ah al pt pr wy B i d) ∧ Os 128 2 wr (g3 + 1) B i d (prs .i64 (ms.take i)) ∧ Bk wr w.heap.size 57 (opC k v b e six ah al pt pr wy A n c) ∧ Bk wr (w.heap.size + 1) 67 (opC 0 0 0 0 false 0 0 0 0 0 none 0 0) ∧ Below w.heap.size w wr) (fun I _ => n - (intOf I).toNat)
 case atStart => exact ⟨0, rfl, Nat.zero_le _, none, 0, b3, hO0, b1, b2, be⟩
 case round =>
  clear b1 b2 b3 be hO0 zW
  obtain ⟨i, rfl, hi, B, d, b3, hO, b1, b2, be⟩ := hrel
  have q10 : wr.cell? ⟨w.heap.size, 10, none⟩ = some (.slice A n c) := b1.cell 10
  have zW := b3.lt
  by_cases hlt : i < n
  ·have ii : (i : Int) < (n : Int) := by omega
   have hjL : i < ms.length := by omega
   obtain ⟨bl, ol, rfl, hbl, -⟩ := (hr0.later be).at_ (by omega) (by decide)
   have HC := qy (fun (W : World) (h : Below wr.heap.size wr W) => (hr0.later (be.trans (h.mono be.size))).range2 i hjL)
   have HT := qy (show ms.take (i + 1) = ms.take i ++ [ms[i]] from (List.take_succ_eq_append_getElem hjL))
   generalize ms[i] = p at *
   obtain ⟨px, py⟩ := p
   simp only [] at HC
   go_upto_region 5 with (fail)
   refine wp_relS 16 48 rfl (by kernel_rfl) (by kernel_rfl) ?_
   refine qb 3 1 ?_
   refine ql 0 29 2 65 b3 Tryz.underlying65 ?_
   refine qb 1 3 ?_
   refine ql 2 31 4 55 b1 Tryz.underlying55 ?_
   refine qb 4 5 ?_
   refine qc 3 32 4 33 6 ?_
   refine qa 5 34 7 ?_
   apply qm 8 rfl rfl
   ·intro FA x hO hD K hK
    have e35 := qe (hD 6 35)
    clear hO hD
    have q9 := (HC.out (plus wr x.bs x.d) bpl).1
    go_simp
    exact qk hK rfl
   refine qb 1 9 ?_
   refine ql 8 37 10 55 b1 Tryz.underlying55 ?_
   refine qb 4 11 ?_
   refine qc 9 38 10 39 12 ?_
   refine qa 11 40 13 ?_
   apply qm 14 rfl rfl
   ·intro FA x hO hD K hK
    have e41 := qe (hD 12 41)
    clear hO hD
    have q9 := (HC.out (plus wr x.bs x.d) bpl).2
    go_simp
    exact qk hK rfl
   refine qc 7 36 13 42 15 ?_
   apply qo (φ := (MP.rs 2 [.int .i64 px, .int .i64 py])) 16 rfl rfl
   ·intro FA x hO hD K hK
    have e43 := qe (hD 14 43)
    clear hO hD
    go_simp
    refine hK.out _ _ (Ex.alloc _ _) ⟨_, _, _, rfl, ?_⟩
    exact Rs.of_bk (n := 1) (c := 1) (Bk.newK _ _ _ (by simp [size_plus]) rfl) rfl (Nat.le_refl _)
   refine Steps.fin_ (fun vs x hp => ?_)
   have p15 := hp 15 qd
   simp only [qta, qtb, qda, qdb, putAll, Nat.zero_add, Nat.reduceAdd, Act.put, qsT, qsZ, qsS, qi (hp 0 qd), qi (hp 1 qd), qi (hp 2 qd), qi (hp 3 qd), qi (hp 4 qd), qi (hp 5 qd), qi (hp 6 qd), qi (hp 7 qd), qi (hp 8 qd), qi (hp 9 qd), qi (hp 10 qd), qi (hp 11 qd), qi (hp 12 qd), qi (hp 13 qd), qi (hp 14 qd)]
   clear hp
   generalize vs 15 = y15 at *
   clear vs
   obtain ⟨A5, n5, c5, rfl, h5⟩ := p15
   obtain rfl : n5 = 1 := by have := h5.1; simp at this; omega
   have b4 := below_plus wr x.bs x.d
   replace hO := hO.later b4
   replace b1 := b1.later b4
   replace b2 := b2.later b4
   replace b3 := b3.later b4
   replace be := be.trans (b4.mono be.size)
   clear b4 HC q10
   generalize plus wr x.bs x.d = W at *
   have zW2 := b3.lt
   refine wpList_appS etCm rfl (.tmp 30) (.tmp 44) rfl rfl hO rfl h5 (by simp [Value.oneCell']) (by omega) (by omega) ?_
   intro A2 n2 c2 w4 hn2 hO4 hb4 hg4
   subst hn2
   simp only [Act.put, qsT, qsZ, qsS]
   have hbl3 : ∀ k, (Value.slice B i d).ownBlock = some k → g3 + 1 ≤ k := fun k hk => (hO.blk k hk).1
   have b4 : Below (g3 + 1) W w4 := hb4
   have b1' := b1.below b4 (by omega)
   have b2' := b2.below b4 (by omega)
   have b3' := b3.below b4 (by omega)
   have be' := be.trans (b4.mono (by omega))
   clear b1 b2 b3 be b4 hO h5 zW zW2
   refine qw ?_
   refine wpList_st1 65 (.tmp 46) (.tmp 45) rfl rfl (by rfl) (by rfl) b3' (by simp [opC]) rfl (by kernel_rfl) ?_
   intro W5 h5s g5s
   simp only [Act.put, qsT, qsZ, qsS]
   have q5 : Bk W5 g3 67 (opC k v b e six ah al pt pr wy A2 (i + 1) c2) := h5s
   have hO5 : Os 128 2 W5 (g3 + 1) A2 (i + 1) c2 (prs .i64 (ms.take (i + 1))) := by
    rw [HT.out, prs_append]
    exact hO4.grown g5s (fun k hk e => by have := (hO4.blk k hk).1; injection e with e; omega)
   have b1'' := b1'.grown g5s (fun e => by injection e with e; omega)
   have b2'' := b2'.grown g5s (fun e => by injection e with e; omega)
   have be'' : Below w.heap.size w W5 := below_grown be' g5s (by omega)
   clear h5s g5s b1' b2' b3' be' hO4 HT hb4 hg4
   go_wp2
   exact ⟨⟨i + 1, by go_num, by omega, A2, c2, q5, hO5, b1'', b2'', be''⟩, by simp [intOf]; omega⟩
  ·obtain rfl : i = n := by omega
   have ii : ¬ (i : Int) < (i : Int) := by omega
   have hrs := hO.rs
   rw [List.take_of_length_le (by omega)] at hrs
   go_upto_region 6 with (fail)
   refine wp_region_lit ?_
   refine qA 67 (.tmp 3) b3 w1 w2 (szOp _ _ _ _ _ _ _ _ _ _ _ _ _) ?_
   simp only [Act.put, qsT, qsZ, qsS]
   refine wpList_stA (t := 67) 67 (.tmp 2) (.tmp 47) rfl rfl (opC k v b e six ah al pt pr wy B i d) (opC 0 0 0 0 false 0 0 0 0 0 none 0 0) rfl (opC_one _ _ _ _ _ _ _ _ _ _ _ _ _) rfl rfl b2 (szOp _ _ _ _ _ _ _ _ _ _ _ _ _) ?_
   intro W6 h6 g6
   simp only [Act.put, qsT, qsZ, qsS]
   go_wp2
   refine bodyPost_agg Tryz.results15 rfl h6.range w1 w2 (szOp _ _ _ _ _ _ _ _ _ _ _ _ _) rfl ?_
   have hrs' : Os 128 2 W6 w.heap.size B i d (prs .i64 ms) := by
    rw [List.take_of_length_le (by omega)] at hO
    exact (hO.grown g6 (fun k hk e => by have := (hO.blk k hk).1; injection e with e; omega)).mono (by omega)
   obtain ⟨bs, d0, rfl⟩ := plus_of (below_grown be g6 (by omega))
   exact ⟨B, d, rfl, bs, d0, rfl, hrs'⟩
end

section
attribute [local go_sem ↓] sliced_cut
attribute [local go_sem] cutA_zero
open Go.Lib
open Go.RowKit
theorem bodyPost_aggL {P : Program} {fn : Func} {R : Ending → World → Prop} {a : Act} {w : World} {slot slot2 ty g : Nat} {d : TypeDesc} {cs : List Value} {u : Value} (hfr : fn.results = #[.tmp slot2, .cell slot ty]) (hs : a.tmps.getD slot undef = .pointer (some ⟨g, 0, none⟩)) (hs2 : a.tmps.getD slot2 undef = u)
  (hb : w.rangeAt g 0 cs) (hu : P.underlying ty = some d) (hd : d.isRow = true) (hi : (P.info? ty).map (·.size) = some cs.length) (hdf : a.defers = []) (hR : R (.returned (.tuple #[u, .agg cs.toArray])) w) : bodyPost P fn R .ret a w := by
 refine bodyPost_ret (v := .tuple #[u, .agg cs.toArray]) ?_ hdf hR
 have h1 := run_loadVar_mid (P := P) w g 0 ty cs d hb hu hd hi
 have hs' : a.tmps[slot]?.getD undef = .pointer (some ⟨g, 0, none⟩) := by simpa using hs
 have hs2' : a.tmps[slot2]?.getD undef = u := by simpa using hs2
 simp [results, hfr, hs', hs2', asAddr, h1]
def RetFw (L : List OpX) (n : Nat) (w : World) (en : Ending) (w' : World) : Prop := ∃ b, en = .returned (.bool b) ∧ w = w' ∧ (b = true → n ≤ 40 ∧ ∀ x ∈ L, x.n ≤ 70)
theorem few_any (L : List OpX) (A : Option Addr) (n c : Nat) (w : World) (hr : Rs 11 w A n c (L.flatMap OpX.cs)) (hn : n ≤ 9223372036854775807) : Calls Tryz.prog 5 #[.slice A n c] w (RetFw L n w) := by
 have hL : L.length = n := by have := hr.1; rw [flat_len OpX.cs 11 OpX.cs_len] at this; omega
 go_enter Tryz.func5, Tryz.ntmps5
 go_upto_region 2 with (fail)
 go_loop [3] (fun I => ∃ i : Nat, I = .int .i64 (i : Int) ∧ i ≤ n ∧ i ≤ 40 ∧ (L.take i).all (fun x => decide (x.n ≤ 70)) = true) (fun I => n - (intOf I).toNat)
 case atStart => exact ⟨0, rfl, by omega, by omega, by simp⟩
 case round =>
  obtain ⟨i, rfl, hi, h40, hp⟩ := hrel
  by_cases h1 : i < n
  ·have i1 : (i : Int) < (n : Int) := by omega
   by_cases h2 : i < 40
   ·have i2 : (i : Int) < 40 := by omega
    obtain ⟨b, off, rfl, hbl, -⟩ := hr.at_ (by omega) (by decide)
    have q : w.cell? ⟨b, off + i * 11 + 10, none⟩ = some (.slice (L[i]'(by omega)).A (L[i]'(by omega)).n (L[i]'(by omega)).c) := (hr.rangeE OpX.cs_len i (by omega)) 10 _ rfl
    have hsn : L.take (i + 1) = L.take i ++ [L[i]'(by omega)] := by simp
    have HS := qy hsn
    clear hsn
    generalize (L[i]'(by omega)) = x at *
    by_cases h3 : x.n ≤ 70
    ·have i3 : ¬ (70 : Int) < (x.n : Int) := by omega
     have hp2 : (L.take (i + 1)).all (fun x => decide (x.n ≤ 70)) = true := by
      rw [HS.out, List.all_append, hp]
      simp [h3]
     have HP := qy hp2
     clear hp hp2
     go_wp2
     go_round
     case rel => exact ⟨i + 1, by go_num, by omega, by omega, HP.out⟩
     case measure => simp [intOf]; omega
    ·have i3 : (70 : Int) < (x.n : Int) := by omega
     clear hp
     go_wp2
     go_ret
     exact ⟨false, rfl, rfl, fun h => by cases h⟩
   ·have i2 : ¬ (i : Int) < 40 := by omega
    obtain rfl : i = 40 := by omega
    have HP := qy (show n ≤ 40 → ∀ x ∈ L, x.n ≤ 70 from fun h x hx => by
     rw [List.take_of_length_le (by omega)] at hp
     simpa using List.all_eq_true.1 hp x hx)
    clear hp
    go_wp2
    go_ret
    exact ⟨decide (n ≤ 40), by simp; omega, rfl, fun h => ⟨by simpa using h, HP.out (by simpa using h)⟩⟩
  ·have i1 : ¬ (i : Int) < (n : Int) := by omega
   obtain rfl : i = n := by omega
   have HP := qy (show ∀ x ∈ L, x.n ≤ 70 from fun x hx => by
    rw [List.take_of_length_le (by omega)] at hp
    simpa using List.all_eq_true.1 hp x hx)
   have i4 : (i : Int) ≤ 40 := by omega
   clear hp
   go_wp2
   go_ret
   exact ⟨true, rfl, rfl, fun _ => ⟨h40, HP.out⟩⟩
theorem RkX.grow {X X' : Nat → Prop} {w w' : World} {L : List OpX} {s : Nat} {As : Option Addr} {ns cs : Nat} {Al : Option Addr} {nl cl : Nat} {Ao : Option Addr} {co : Nat} {Ak : Option Addr} {ca : Nat} (h : RkX X w L s As ns cs Al nl cl Ao co Ak ca) (hc : Chg X w w') (hX : ∀ b, X' b → X b ∨ w.heap.size ≤ b) : RkX X' w' L s As ns cs Al nl cl Ao co Ak ca := by
 refine ⟨h.ops.chg hc (fun a ha => (h.oo a ha).2), fun x hx => ⟨?_, (h.el x hx).2⟩, h.ok, h.sl, h.ll, ?_, ?_, h.dn, h.ak.chg hc (fun a ha => (h.oa a ha).2), (h.oo.more hX).size hc.size, (h.os.more hX).size hc.size, (h.ol.more hX).size hc.size, (h.oa.more hX).size hc.size, fun x hx hm => ((h.oe x hx hm).more hX).size hc.size⟩
 ·obtain ⟨h1, h2, h3, h4, h5, h6, h7⟩ := (h.el x hx).1
  refine ⟨h1, h2, h3, h4, h5, ?_, h7⟩
  by_cases hm : x.ms = []
  ·rw [hm] at h6 ⊢
   exact ⟨h6.1, h6.2.1, .inl rfl⟩
  ·exact h6.chg hc (fun a ha => (h.oe x hx hm a ha).2)
 ·obtain ⟨l, h1⟩ := h.ds
  exact ⟨l, h1.chg hc (fun a ha => (h.os a ha).2)⟩
 ·obtain ⟨l, h1⟩ := h.dl
  exact ⟨l, h1.chg hc (fun a ha => (h.ol a ha).2)⟩
theorem CnX.stR {X : Nat → Prop} {B : Nat} {w w' : World} {gc : Nat} {key : List UInt8} {L : List OpR} {s : Nat} {k : Int} {gl gd gst gsu gm : Nat} {An : Option Addr} {R : List MvE} {gr : Nat} {c0 : List Value} (h : CnX X B w gc key L s k gl gd gst gsu gm An R) (hX : X gr) (hb : Bk w gr 33 c0) (hg : w.grownBy w' (some gr)) : CnX X B w' gc key L s k gl gd gst gsu gm An R := by
 have c1 : Chg (fun b => b = gr) w w' := Chg.one (D := fun b => b = gr) hg rfl
 have cX : Chg X w w' := Chg.one hg hX
 have hgc : gc ≠ gr := fun e => h.bc.apart hb (by decide) e
 have hgm := h.mp.ne_bk hb
 refine ⟨h.bc.grown hg (fun e => by injection e with e; exact hgc e.symm), h.jn.chgD c1 (fun b hb9 t cs hbk => ?_) (fun b hb9 => by rw [show b = gr from hb9]; exact hX), h.st.chg cX, h.su.chg cX, h.mp.grown hg (fun e => by injection e with e; exact hgm e.symm), h.rm, h.nd.chg cX (fun a ha => (h.no a ha).2), h.no.size cX.size, h.xc, h.xm, h.ok, h.sl, fun b hx => ⟨(h.lt b hx).1, Nat.lt_of_lt_of_le (h.lt b hx).2 cX.size⟩, h.ll⟩
 rw [show b = gr from hb9] at hbk
 have ht : t = 33 := Classical.byContradiction (fun hne => hbk.apart hb hne rfl)
 rw [ht]
 decide
theorem CnX.add {X : Nat → Prop} {B : Nat} {w w' : World} {gc : Nat} {key : List UInt8} {L : List OpR} {s : Nat} {k : Int} {gl gd gst gsu gm : Nat} {An : Option Addr} {R : List MvE} {gr : Nat} (h : CnX X B w gc key L s k gl gd gst gsu gm An R) (hb : Below w.heap.size w w') (h1 : w.heap.size ≤ gr) (h2 : gr < w'.heap.size) (hB : B ≤ w.heap.size) : CnX (fun b => X b ∨ b = gr) B w' gc key L s k gl gd gst gsu gm An R := by
 have hg : GrX w w' X (fun b => X b ∨ b = gr) := ⟨fun b hb => .inl hb, fun b hb => hb.imp id (fun e => by omega), fun b hx => hx.elim (fun hx => Nat.lt_of_lt_of_le (h.lt b hx).2 hb.size) (fun e => by omega)⟩
 have cX : Chg X w w' := Chg.of_below hb
 have h9 := h.later hb
 refine ⟨h9.bc, ?_, h.st.grow cX hg, h.su.grow cX hg, h9.mp, h.rm, h9.nd, (h.no.more hg.2.1).size hb.size, .inl h.xc, .inl h.xm, h.ok, h.sl, fun b hx => ⟨hx.elim (fun hx => (h.lt b hx).1) (fun e => by omega), hg.2.2 b hx⟩, h.ll⟩
 obtain ⟨Ar, cr, S, Ad, cd, ld, s9, hj⟩ := h.jn
 have hj9 := hj.later hb
 exact ⟨Ar, cr, S, Ad, cd, ld, s9, hj9.bl, hj9.bd, hj9.od, hj9.os, hj9.pt, fun x hx => ((hj.of_ x hx).more hg.2.1).size hb.size, .inl hj.xl, .inl hj.xd, fun b hb => .inl (hj.xa b hb), fun b hb => .inl (hj.xr b hb)⟩
def MP.rk (X : Nat → Prop) (L : List OpX) (s : Nat) (sy : Int) (F : Value → Value) : MP := ⟨fun v w => ∃ As ns cs Al nl cl Ao co Ak ca At ct, v = F (.agg (rkC As ns cs Al nl cl sy Ao L.length co (s : Int) Ak ca At ct).toArray) ∧ RkX X w L s As ns cs Al nl cl Ao co Ak ca,
 fun _ _ _ ⟨As, ns, cs, Al, nl, cl, Ao, co, Ak, ca, At, ct, h1, h2⟩ h => ⟨As, ns, cs, Al, nl, cl, Ao, co, Ak, ca, At, ct, h1, h2.later h.below⟩⟩
theorem isX_map (L : List OpX) (x : OpX) : (isX L x).map OpX.o = isL k27 (L.map OpX.o) x.o := by
 unfold isX isL
 split
 ·rw [List.map_append]; rfl
 ·rfl
theorem isX_len (L : List OpX) (x : OpX) : (isX L x).length ≤ L.length + 1 := by
 unfold isX
 split
 ·simp
 ·omega
def RetMd (w : World) (e : Ending) (w' : World) : Prop := ∃ (gc : Nat) (X : Nat → Prop) (gl gd gst gsu gm : Nat) (An : Option Addr) (R : List MvE) (Lx : List OpX) (s : Nat) (k : Int) (As : Option Addr) (ns cs : Nat) (Al : Option Addr) (nl cl : Nat) (sy : Int) (Ao : Option Addr) (co : Nat) (Ak : Option Addr) (ca : Nat) (At : Option Addr) (ct : Nat), e = .returned (.tuple #[.pointer (some ⟨gc, 0, none⟩), .agg (rkC As ns cs Al nl cl sy Ao Lx.length co (s : Int) Ak ca At ct).toArray]) ∧ CnX X w.heap.size w' gc k27 (Lx.map OpX.o) s k gl gd gst gsu gm An R ∧ RkX X w' Lx s As ns cs Al nl cl Ao co Ak ca ∧ Below w.heap.size w w'
theorem made27 (L : List OpX) (A : Option Addr) (n c : Nat) (sf : Nat) (hsf : sf < 256) (w : World) (hl : Rs 11 w A n c (L.flatMap OpX.cs)) (hL : ∀ x ∈ L, x.ok w) (hLn : ∀ x ∈ L, x.n ≤ 70) (hn : n ≤ 40) : Calls Tryz.prog 6 #[.slice A n c, .int .u8 (sf : Int)] w (RetMd w) := by
 obtain ⟨dvc, vc1, vc2⟩ := rowRk
 obtain ⟨dvo, vo1, vo2⟩ := rowRo
 have hLl : L.length = n := by have := hl.1; rw [flat_len OpX.cs 11 OpX.cs_len] at this; omega
 have HLL := qy hLl
 have HL := qy hL
 have HLN := qy hLn
 have HRS := qy hl
 have hwsf : IntKind.i64.wrap (sf : Int) = (sf : Int) := IntWalk.i64_in _ (by omega)
 clear hLl hL hLn hl
 obtain ⟨bz, be, zV⟩ := box1 w 33 (zk0)
 go_enter Tryz.func6, Tryz.ntmps6
 go_upto_region 1 with (fail)
 generalize hVz : w.alloc (.cells ([.int .u8 0, .int .u8 0, .int .u8 0, .int .u8 0, .int .u8 0, .int .u8 0, .int .u8 0, .int .u8 0, .int .u8 0, .int .u8 0, .int .u8 0, .int .u8 0, .int .u8 0, .int .u8 0, .int .u8 0, .int .u8 0, .slice none 0 0, .slice none 0 0, .int .i64 0, .int .i64 0, .slice none 0 0, .int .i64 0, .slice none 0 0, .slice none 0 0] : List Value).toArray 33) = V
 rw [show w.alloc (.cells (zk0).toArray 33) = V from hVz] at bz be zV
 clear hVz
 refine wp_region_lit ?_
 refine wpq fun K hK => ?_
 go_simp
 refine (diskNew _).mono ?_
 rintro e w1 ⟨gd, rfl, hgd, hb1, hD⟩
 with_reducible refine hK _ _ ?_
 clear hK K
 have bz1 := bz.later hb1
 have be1 := be.trans (hb1.mono be.size)
 generalize hWW : w1 = W1 at *
 clear hWW
 refine wpList_build 27 [(0, .const (.int .u8 8))] rfl rfl (.agg (bcs k27).toArray) (by kernel_rfl) ?_
 refine wpq fun K hK => ?_
 go_simp
 refine (cOpen (fun b => b = w.heap.size) w.heap.size gd k27 rfl W1 hD (by omega) (fun b hb => by rw [show b = w.heap.size from hb]; exact ⟨Nat.le_refl _, bz1.lt⟩) (fun h => by have h : gd = w.heap.size := h; omega)).mono ?_
 rintro e w1 ⟨gc, rfl, ⟨X, gl, gd2, gst, gsu, gm, An, R, hC, hZX⟩, hc2⟩
 with_reducible refine hK _ _ ?_
 clear hK K
 have bz2 := bz1.chg hc2 (fun e => by have e : w.heap.size = gd := e; omega)
 have be2 : Below w.heap.size w w1 := be1.trans (hc2.below (fun b hb => by rw [show b = gd from hb]; omega) be1.size)
 generalize hWW : w1 = W2 at *
 clear hWW
 iterate 5 (refine qw ?_)
 go_upto_region 2 with (fail)
 refine wp_region_lit ?_
 refine wpList_build 30 [(2, .const (.int .i64 100000))] rfl rfl (.agg (rdC none 0 0 none 0 0 100000 0).toArray) (by kernel_rfl) ?_
 simp only [Act.put, qsT, qsZ, qsS]
 refine wpList_build 27 [(0, .const (.int .u8 8))] rfl rfl (.agg (bcs k27).toArray) (by kernel_rfl) ?_
 refine wpq fun K hK => ?_
 go_simp
 refine (refOpen26 (G := X) W2 (fun b hb => (hC.lt b hb).2)).mono ?_
 rintro e w1 ⟨As, ns, cs, Al, nl, cl, Ao, co, Ak, ca, At, ct, rfl, hR, hb3⟩
 with_reducible refine hK _ _ ?_
 clear hK K
 have hC3 := hC.later hb3
 have bz3 := bz2.later hb3
 have be3 := be2.trans (hb3.mono be2.size)
 generalize hWW : w1 = W3 at *
 clear hWW
 iterate 4 (refine qw ?_)
 have hr0 : Bk (W3.alloc (.cells zk0.toArray 33)) W3.heap.size 33 zk0 := Bk.new _ _ _
 have b4 := Below.allocS (Below.refl W3.heap.size W3) (.cells zk0.toArray 33)
 change wpList _ _ _ _ _ (W3.alloc (.cells zk0.toArray 33))
 generalize W3.alloc (.cells zk0.toArray 33) = W4 at *
 refine wpList_stA (t := 33) 33 (.tmp 8) (.tmp 21) rfl rfl (rkC As ns cs Al nl cl 0 Ao 0 co 0 Ak ca At ct) zk0 rfl (rkC_one _ _ _ _ _ _ _ _ _ _ _ _ _ _ _) rfl rfl hr0 (szRk _ _ _ _ _ _ _ _ _ _ _ _ _ _ _) ?_
 intro W5 h5 g5
 refine qw ?_
 have hgr : W3.heap.size < W4.heap.size := hr0.lt
 have hB3 := be3.size
 have hC4 := hC3.add b4 (Nat.le_refl _) hgr hB3
 have hR4 := hR.grow (Chg.of_below b4) (X' := fun b => X b ∨ b = W3.heap.size) (fun b hb => hb.imp id (fun e => by omega))
 have bz4 := bz3.later b4
 have be4 := be3.trans (b4.mono be3.size)
 have hC5 := hC4.stR (.inr rfl) hr0 g5
 have hR5 := hR4.grow (Chg.one (D := fun b => X b ∨ b = W3.heap.size) g5 (.inr rfl)) (fun b hb => .inl hb)
 have bz5 := bz4.grown g5 (fun e => by injection e with e; have := bz3.lt; omega)
 have be5 := below_grown be4 g5 (by omega)
 obtain ⟨X0, hX0⟩ : ∃ X0 : Nat → Prop, X0 = fun b => X b ∨ b = W3.heap.size := ⟨_, rfl⟩
 rw [← hX0] at hC5 hR5
 have hXz5 : X0 w.heap.size := by rw [hX0]; exact .inl (hZX _ rfl)
 have hXr5 : X0 W3.heap.size := by rw [hX0]; exact .inr rfl
 clear hX0
 have hgrz : w.heap.size ≠ W3.heap.size := by have := bz3.lt; omega
 generalize W3.heap.size = gr at *
 clear hC hC3 hC4 hR4 bz bz1 bz2 bz3 bz4 be be1 be2 be3 be4 hR g5 b4 hZX hr0 hD hc2
 go_upto_region 4 with (fail)
 go_loopw [10] (fun I wr => ∃ (i : Nat) (X : Nat → Prop) (Lx : List OpX) (s kk gl gd gst gsu gm : Nat) (An : Option Addr) (R : List MvE) (As : Option Addr) (ns cs : Nat) (Al : Option Addr) (nl cl : Nat) (Ao : Option Addr) (co : Nat) (Ak : Option Addr) (ca : Nat) (At : Option Addr) (ct : Nat), I = .int .i64 (i : Int) ∧ i ≤ n ∧ Lx.length ≤ i ∧ kk ≤ i ∧ CnX X w.heap.size wr gc k27 (Lx.map OpX.o) s (kk : Int) gl gd gst gsu gm An R ∧ RkX X wr Lx s As ns cs Al nl cl Ao co Ak ca ∧ Bk wr gr 33 (rkC As ns cs Al nl cl (kk : Int) Ao Lx.length co (s : Int) Ak ca At ct) ∧ X gr ∧ X w.heap.size ∧ Bk wr w.heap.size 33 zk0 ∧ Below w.heap.size w wr) (fun I _ => n - (intOf I).toNat)
 case atStart => exact ⟨0, X0, [], 0, 0, gl, gd2, gst, gsu, gm, An, R, As, ns, cs, Al, nl, cl, Ao, co, Ak, ca, At, ct, rfl, Nat.zero_le _, Nat.le_refl _, Nat.le_refl _, hC5, hR5, h5, hXr5, hXz5, bz5, be5⟩
 case round =>
  clear hC5 hR5 h5 hXr5 hXz5 bz5 be5
  obtain ⟨i, X, Lx, s, kk, gl, gd, gst, gsu, gm, An, R, As, ns, cs, Al, nl, cl, Ao, co, Ak, ca, At, ct, rfl, hi, hlx, hkk, hC, hR, hr, hXr, hXz, bz9, beW⟩ := hrel
  obtain ⟨no, hno⟩ : ∃ no, Lx.length = no := ⟨_, rfl⟩
  rw [hno] at hr
  have hno40 : no ≤ i := by omega
  have HNO := qy hno
  clear hno hlx
  by_cases hin : i < n
  ·have i1 : (i : Int) < (n : Int) := by omega
   have i2 : (i : Int) < 40 := by omega
   obtain ⟨bl, ol, rfl, hbl, -⟩ := HRS.out.at_ (by omega) (by decide)
   have hiL : i < L.length := by have := HLL.out; omega
   have HRGB := qy (fun W (hb : Below w.heap.size w W) => (HRS.out.later hb).rangeE OpX.cs_len i hiL)
   have hy := HL.out (L[i]) (List.getElem_mem _)
   have hyn := HLN.out (L[i]) (List.getElem_mem _)
   generalize L[i] = y at *
   have hsz : (Tryz.prog.info? 57).map (·.size) = some y.cs.length := by rw [OpX.cs_len]; kernel_rfl
   have HTO := qy (fun W (hb : Below w.heap.size w W) => show Calls Tryz.prog 15 #[.agg y.cs.toArray] W (fun e w2 => ∃ B d bs d0, e = .returned (.agg (opC y.k y.v y.b y.e y.six y.ah y.al y.pt y.pr y.wy B y.n d).toArray) ∧ w2 = plus W bs d0 ∧ Os 128 2 (plus W bs d0) W.heap.size B y.n d (prs .i64 y.ms)) from to27_own y.k y.v y.b y.e y.six y.ah y.al y.pt y.pr y.wy y.ms y.A y.n y.c W ((OpX.rs hy).later hb) (by omega))
   have hL60 : (Lx.map OpX.o).length ≤ 60 := by rw [List.length_map]; have := HNO.out; omega
   go_upto_region 6 with (fail)
   refine wp_region_lit ?_
   iterate 4 (refine qw ?_)
   refine wpList_load_mid rfl 57 (.tmp 36) rfl bl (ol + i * 11) rfl y.cs _ (HRGB.out _ beW) vo1 vo2 hsz ?_
   refine wpq fun K hK => ?_
   go_simp
   refine (HTO.out _ beW).mono ?_
   rintro e w1 ⟨B1, d1, bs1, d01, rfl, rfl, hO1⟩
   with_reducible refine hK _ _ ?_
   clear hK K
   have b6 := below_plus wr bs1 d01
   have hC6 := hC.later b6
   have hR6 := hR.later b6
   have hr6 := hr.later b6
   have beW6 := beW.trans (b6.mono beW.size)
   have z6 := b6.size
   generalize plus wr bs1 d01 = W6 at *
   refine wpq fun K hK => ?_
   go_simp
   refine (issue_any gc k27 rfl (Lx.map OpX.o) s (kk : Int) gl gd gst gsu gm An R y.k y.v y.b y.e y.six y.ah y.al y.pt y.pr y.wy y.ms B1 y.n d1 W6 hC6 hL60 beW6.size (OpX.ok_o hy) hO1.rs (Off.own hO1 (fun b hb => (hC.lt b hb).2)) (by omega)).mono ?_
   rintro e w1 ⟨⟨xx, rfl⟩, ⟨X2, gl2, gd2, gst2, gsu2, gm2, An2, R2, hC7, hX2, hXs⟩, hc7, hk7⟩
   with_reducible refine hK _ _ ?_
   clear hK K
   have hr7 := hk7 _ _ _ hr6 (by decide) (by decide) (by decide) (by decide) (by decide)
   have hR7 := hR6.grow hc7 hX2
   have hXr7 : X2 gr := hXs gr hXr
   have hXz7 : X2 w.heap.size := hXs _ hXz
   have bz7 := hk7 _ _ _ (bz9.later b6) (by decide) (by decide) (by decide) (by decide) (by decide)
   have beW7 : Below w.heap.size w w1 := beW6.trans (hc7.below (fun b hb => (hC6.lt b hb).1) beW6.size)
   generalize hWW : w1 = W7 at *
   clear hWW
   have hC7 : CnX X2 w.heap.size W7 gc k27 ((isX Lx y).map OpX.o) s (kk : Int) gl2 gd2 gst2 gsu2 gm2 An2 R2 := by rw [isX_map]; exact hC7
   have hAo7 := hR7.oo
   have hyO : y.ms ≠ [] → Off X2 W7 y.A := fun hm => by
    have h1 := OpX.rs hy
    obtain ⟨b9, o9, hA9, hb9, -⟩ := h1.2.2.at_ (by rw [prs_length]; have : 0 < y.ms.length := List.length_pos_iff.2 hm; omega)
    intro a ha
    rw [hA9] at ha
    injection ha with ha
    subst ha
    exact ⟨Nat.lt_of_lt_of_le hb9 beW7.size, fun hx => by have h3 : w.heap.size ≤ b9 := (hC7.lt _ hx).1; omega⟩
   have HRI := qy (fun W (hb : Below W7.heap.size W7 W) => show Calls Tryz.prog 16 #[.agg (rkC As ns cs Al nl cl (kk : Int) Ao no co (s : Int) Ak ca At ct).toArray, .agg y.cs.toArray] W (RetRi X2 W Lx s (kk : Int) (s : Int) y) by
    rw [← HNO.out]
    exact refIssue26 Lx s As ns cs Al nl cl (kk : Int) Ao co (s : Int) Ak ca At ct y.k y.v y.b y.e y.six y.ah y.al y.pt y.pr y.wy y.ms y.A y.n y.c W (hR7.later hb) (fun a ha => Nat.lt_of_lt_of_le (hAo7 a ha).1 hb.size) (OpX.later hy (beW7.trans (hb.mono beW7.size))) (by omega) (by have := HNO.out; omega) (fun b hb9 => Nat.lt_of_lt_of_le (hC7.lt b hb9).2 hb.size) (fun hm => (hyO hm).size hb.size))
   clear hC hR hr hc7 hk7 hX2 hXs hC6 hR6 hr6 b6 bz9 beW beW6 hO1 hL60
   go_upto_region 7 with (fail)
   refine wp_relES 9 59 [8] rfl (by kernel_rfl) (by kernel_rfl) ?_
   apply Steps.oneE (MP.eq _) 1 rfl (by decide)
   ·intro o ho FA x hO hD K hK
    obtain rfl := qoi ho
    have e8 := hO 8 (by kernel_rfl)
    simp only [eval_tmp, qgT, qgS, qgZ, qoS] at e8
    have ev8 := qy ((eval_tmp FA 8).trans e8)
    clear hO hD ho
    refine wanted_if rfl ?_
    refine wp_ldA 33 (.tmp 8) rfl (rkC As ns cs Al nl cl (kk : Int) Ao no co (s : Int) Ak ca At ct) ev8.out (hr7.later bpl) (whole_ _) vc1 vc2 (szRk _ _ _ _ _ _ _ _ _ _ _ _ _ _ _) ?_
    exact qk hK rfl
   apply Steps.oneE (MP.eq _) 2 rfl (by decide)
   ·intro o ho FA x hO hD K hK
    obtain rfl := qoi ho
    have e0 := hO 0 (by kernel_rfl)
    simp only [eval_tmp, qgT, qgS, qgZ, qoS] at e0
    have ev0 := qy ((eval_tmp FA 0).trans e0)
    clear hO hD ho
    go_simp
    exact qk hK rfl
   apply Steps.oneE (MP.eq _) 3 rfl (by decide)
   ·intro o ho FA x hO hD K hK
    obtain rfl := qoi ho
    have e10 := hO 10 (by kernel_rfl)
    simp only [eval_tmp, qgT, qgS, qgZ, qoS] at e10
    have ev10 := qy ((eval_tmp FA 10).trans e10)
    clear hO hD ho
    go_simp
    exact qk hK rfl
   apply Steps.oneE (MP.eq _) 4 rfl (by decide)
   ·intro o ho FA x hO hD K hK
    obtain rfl := qoi ho
    obtain ⟨e42, ev42⟩ := qE (hD 1 42 (by kernel_rfl))
    obtain ⟨e43, ev43⟩ := qE (hD 2 43 (by kernel_rfl))
    clear hO hD ho
    go_simp
    exact qk hK rfl
   apply Steps.oneE (MP.eq _) 5 rfl (by decide)
   ·intro o ho FA x hO hD K hK
    obtain rfl := qoi ho
    obtain ⟨e44, ev44⟩ := qE (hD 3 44 (by kernel_rfl))
    clear hO hD ho
    refine wanted_if rfl ?_
    refine wp_load_mid 57 (.tmp 44) rfl bl (ol + i * 11) ev44.out y.cs _ (HRGB.out _ (beW7.trans ((below_plus W7 x.bs x.d).mono beW7.size))) vo1 vo2 hsz ?_
    exact qk hK rfl
   apply Steps.oneE (MP.rk X2 (isX Lx y) s (kk : Int) (fun v => .tuple #[v, .int .i64 ((isE k27 (Lx.map OpX.o) y.o : Nat) : Int)])) 6 rfl (by decide)
   ·intro o ho FA x hO hD K hK
    obtain rfl := qoi ho
    obtain ⟨e41, ev41⟩ := qE (hD 0 41 (by kernel_rfl))
    obtain ⟨e45, ev45⟩ := qE (hD 4 45 (by kernel_rfl))
    clear hO hD ho
    go_simp
    refine (HRI.out _ (below_plus W7 x.bs x.d)).mono ?_
    rintro e9 w9 ⟨As9, ns9, cs9, Al9, nl9, cl9, Ao9, co9, Ak9, ca9, At9, ct9, rfl, hR9, hb9⟩
    exact hK.out _ _ (Ex.of hb9) ⟨As9, ns9, cs9, Al9, nl9, cl9, Ao9, co9, Ak9, ca9, At9, ct9, rfl, hR9⟩
   apply Steps.oneE (MP.rk X2 (isX Lx y) s (kk : Int) (fun v => .tuple #[v, .int .i64 ((isE k27 (Lx.map OpX.o) y.o : Nat) : Int)])) 7 rfl (by decide)
   ·intro o ho FA x hO hD K hK
    obtain rfl := qoi ho
    obtain ⟨u46, f46, e46, ev46⟩ := qG (hD 5 46 (by kernel_rfl))
    clear hO hD ho
    go_simp
    exact qk hK f46
   apply Steps.oneE (MP.rk X2 (isX Lx y) s (kk : Int) (fun v => v)) 8 rfl (by decide)
   ·intro o ho FA x hO hD K hK
    obtain rfl := qoi ho
    obtain ⟨u40, f40, e40, ev40⟩ := qG (hD 6 40 (by kernel_rfl))
    clear hO hD ho
    obtain ⟨As9, ns9, cs9, Al9, nl9, cl9, Ao9, co9, Ak9, ca9, At9, ct9, rfl, hR9⟩ := f40
    go_simp
    exact qk hK ⟨_, _, _, _, _, _, _, _, _, _, _, _, rfl, hR9⟩
   apply Steps.oneP (.int .i64 ((isE k27 (Lx.map OpX.o) y.o : Nat) : Int)) 9 rfl (by decide)
   ·intro o ho FA x hO hD
    obtain rfl := qoi ho
    obtain ⟨u40, f40, e40, ev40⟩ := qG (hD 6 40 (by kernel_rfl))
    clear hO hD ho
    obtain ⟨As9, ns9, cs9, Al9, nl9, cl9, Ao9, co9, Ak9, ca9, At9, ct9, rfl, hR9⟩ := f40
    refine .inl ⟨by simp [Region.wanted], fun w => ?_⟩
    go_simp
   refine Steps.fin_ (fun vs x hp => ?_)
   have p5 := hp 5 qd
   have p6 := hp 6 qd
   have p7 := hp 7 qd
   simp only [qta, qtb, qda, qdb, putAll, Nat.zero_add, Nat.reduceAdd, Act.put, qsT, qsZ, qsS, qi (hp 0 qd), qi (hp 1 qd), qi (hp 2 qd), qi (hp 3 qd), qi (hp 4 qd), qi (hp 8 qd)]
   clear hp
   generalize vs 5 = y5 at *
   generalize vs 6 = y6 at *
   generalize vs 7 = y7 at *
   clear vs
   obtain ⟨As9, ns9, cs9, Al9, nl9, cl9, Ao9, co9, Ak9, ca9, At9, ct9, rfl, hR8⟩ := p7
   have b8 := below_plus W7 x.bs x.d
   have hC8 := hC7.later b8
   have hr8 := hr7.later b8
   have bz8 := bz7.later b8
   have beW8 := beW7.trans (b8.mono beW7.size)
   clear p5 p6 b8 hC7 hr7 bz7 beW7 hR7 hAo7 hyO
   generalize plus W7 x.bs x.d = W8 at *
   refine wpList_stA (t := 33) 33 (.tmp 8) (.tmp 47) rfl rfl (rkC As9 ns9 cs9 Al9 nl9 cl9 (kk : Int) Ao9 (isX Lx y).length co9 (s : Int) Ak9 ca9 At9 ct9) (rkC As ns cs Al nl cl (kk : Int) Ao no co (s : Int) Ak ca At ct) rfl (rkC_one _ _ _ _ _ _ _ _ _ _ _ _ _ _ _) rfl rfl hr8 (szRk _ _ _ _ _ _ _ _ _ _ _ _ _ _ _) ?_
   intro W9 h9 g9
   simp only [Act.put, qsT, qsZ, qsS]
   refine wpList_nil ?_
   refine NoPanic.normal ?_
   have hC9 := hC8.stR hXr7 hr8 g9
   have hR9 := hR8.grow (Chg.one (D := X2) g9 hXr7) (fun b hb => .inl hb)
   have bz9b := bz8.grown g9 (fun e => by injection e with e; exact hgrz e.symm)
   have hly := isX_len Lx y
   have beW9 : Below w.heap.size w W9 := beW8.trans ((Chg.one (D := X2) g9 hXr7).below (fun b hb => (hC8.lt b hb).1) beW8.size)
   have hly2 : (isX Lx y).length ≤ i + 1 := by have := HNO.out; omega
   obtain ⟨Ly, hLy⟩ : ∃ Ly, isX Lx y = Ly := ⟨_, rfl⟩
   rw [hLy] at hC9 hR9 h9 hly2
   have hui : IntKind.i64.wrap ((i : Int) + 1) = ((i + 1 : Nat) : Int) := by rw [IntWalk.i64_in _ (by omega)]; omega
   clear hC8 hR8 hr8 bz8 beW8 g9 HRI hLy hly
   by_cases hsfi : i < sf
   ·have i3 : (i : Int) < (sf : Int) := by omega
    go_upto_region 9 with (fail)
    refine wp_region_lit ?_
    refine qw ?_
    refine wpq fun K hK => ?_
    go_simp
    refine (commit_any gc k27 rfl (Ly.map OpX.o) s (kk : Int) gl2 gd2 gst2 gsu2 gm2 An2 R2 W9 hC9 (by omega) beW9.size).mono ?_
    rintro e w1 ⟨⟨xx, rfl⟩, ⟨X3, gl3, gd3, gst3, gsu3, gm3, An3, R3, hC10, hX3, hXs3⟩, hc10, hk10⟩
    with_reducible refine hK _ _ ?_
    clear hK K
    have hr10 := hk10 _ _ _ h9 (by decide) (by decide) (by decide) (by decide) (by decide)
    have hR10 := hR9.grow hc10 hX3
    have hXr10 : X3 gr := hXs3 gr hXr7
    have hXz10 : X3 w.heap.size := hXs3 _ hXz7
    have bz10 := hk10 _ _ _ bz9b (by decide) (by decide) (by decide) (by decide) (by decide)
    have beW10 : Below w.heap.size w w1 := beW9.trans (hc10.below (fun b hb => (hC9.lt b hb).1) beW9.size)
    generalize hWW : w1 = W10 at *
    clear hWW
    obtain ⟨ny, hny⟩ : ∃ ny, Ly.length = ny := ⟨_, rfl⟩
    rw [hny] at hr10
    have HRC := qy (show Calls Tryz.prog 18 #[.agg (rkC As9 ns9 cs9 Al9 nl9 cl9 (kk : Int) Ao9 ny co9 (s : Int) Ak9 ca9 At9 ct9).toArray] W10 (RetRm X3 W10 Ly (kk : Int)) by
     rw [← hny]
     exact refCommit26 Ly s As9 ns9 cs9 Al9 nl9 cl9 (kk : Int) Ao9 co9 (s : Int) Ak9 ca9 At9 ct9 W10 hR10 (by omega) (fun b hb => (hC10.lt b hb).2))
    clear hny
    go_upto_region 10 with (fail)
    refine wp_region_lit ?_
    refine qA 33 (.tmp 8) hr10 vc1 vc2 (szRk _ _ _ _ _ _ _ _ _ _ _ _ _ _ _) ?_
    refine wpq fun K hK => ?_
    go_simp
    refine (HRC.out).mono ?_
    rintro e w1 ⟨As4, ns4, cs4, Al4, nl4, cl4, Ao4, co4, Ak4, ca4, At4, ct4, rfl, hR11, hb11⟩
    with_reducible refine hK _ _ ?_
    clear hK K
    have hC11 := hC10.later hb11
    have hr11 := hr10.later hb11
    generalize hWW : w1 = W11 at *
    clear hWW
    refine wpList_stA (t := 33) 33 (.tmp 8) (.tmp 56) rfl rfl (rkC As4 ns4 cs4 Al4 nl4 cl4 ((kk : Int) + 1) Ao4 Ly.length co4 (Ly.length : Int) Ak4 ca4 At4 ct4) (rkC As9 ns9 cs9 Al9 nl9 cl9 (kk : Int) Ao9 ny co9 (s : Int) Ak9 ca9 At9 ct9) rfl (rkC_one _ _ _ _ _ _ _ _ _ _ _ _ _ _ _) rfl rfl hr11 (szRk _ _ _ _ _ _ _ _ _ _ _ _ _ _ _) ?_
    intro W12 h12 g12
    simp only [Act.put, qsT, qsZ, qsS]
    have bz11 := bz10.later hb11
    have beW11 := beW10.trans (hb11.mono beW10.size)
    have hC12 := hC11.stR hXr10 hr11 g12
    have hR12 := hR11.grow (Chg.one (D := X3) g12 hXr10) (fun b hb => .inl hb)
    have bz12 := bz11.grown g12 (fun e => by injection e with e; exact hgrz e.symm)
    have beW12 : Below w.heap.size w W12 := beW11.trans ((Chg.one (D := X3) g12 hXr10).below (fun b hb => (hC11.lt b hb).1) beW11.size)
    rw [List.length_map] at hC12
    have hk1 : (kk : Int) + 1 = ((kk + 1 : Nat) : Int) := by omega
    rw [hk1] at hC12 h12
    clear hC9 hR9 hC10 hR10 hC11 hR11 hr10 hr11 bz9b bz10 bz11 beW9 beW10 beW11 g12 hc10 hk10 hX3 hXs3 hb11 h9
    go_wp2
    exact ⟨⟨i + 1, X3, Ly, Ly.length, kk + 1, gl3, gd3, gst3, gsu3, gm3, An3, R3, As4, ns4, cs4, Al4, nl4, cl4, Ao4, co4, Ak4, ca4, At4, ct4, by first | rfl | go_num, by omega, hly2, by omega, hC12, hR12, h12, hXr10, hXz10, bz12, beW12⟩, by simp [intOf]; omega⟩
   ·have i3 : ¬ (i : Int) < (sf : Int) := by omega
    go_wp2
    exact ⟨⟨i + 1, X2, Ly, s, kk, gl2, gd2, gst2, gsu2, gm2, An2, R2, As9, ns9, cs9, Al9, nl9, cl9, Ao9, co9, Ak9, ca9, At9, ct9, by first | rfl | go_num, by omega, hly2, by omega, hC9, hR9, h9, hXr7, hXz7, bz9b, beW9⟩, by simp [intOf]; omega⟩
  ·have i1 : ¬ (i : Int) < (n : Int) := by omega
   obtain rfl : i = n := by omega
   go_upto_region 11 with (fail)
   refine wp_relS 3 59 rfl (by kernel_rfl) (by kernel_rfl) ?_
   refine qb 6 1 ?_
   apply qm 2 rfl rfl
   ·intro FA x hO hD K hK
    have e8 := hO 8
    simp only [eval_tmp, qgT, qgS, qgZ, qoS] at e8
    have ev8 := qy ((eval_tmp FA 8).trans e8)
    clear hO hD
    refine wanted_if rfl ?_
    refine wp_ldA 33 (.tmp 8) rfl (rkC As ns cs Al nl cl (kk : Int) Ao no co (s : Int) Ak ca At ct) ev8.out (hr.later bpl) (whole_ _) vc1 vc2 (szRk _ _ _ _ _ _ _ _ _ _ _ _ _ _ _) ?_
    exact qk hK rfl
   refine qa 0 57 3 ?_
   refine Steps.fin_ (fun vs x hp => ?_)
   simp only [qta, qtb, qda, qdb, putAll, Nat.zero_add, Nat.reduceAdd, Act.put, qsT, qsZ, qsS, qi (hp 0 qd), qi (hp 1 qd), qi (hp 2 qd)]
   clear hp
   clear vs
   have b8 := below_plus wr x.bs x.d
   have hC8 := hC.later b8
   have hR8 := hR.later b8
   have bz9 := bz9.later b8
   have beW8 := beW.trans (b8.mono beW.size)
   generalize plus wr x.bs x.d = W8 at *
   refine wpList_stA (t := 33) 33 (.tmp 5) (.tmp 58) rfl rfl (rkC As ns cs Al nl cl (kk : Int) Ao no co (s : Int) Ak ca At ct) zk0 rfl (rkC_one _ _ _ _ _ _ _ _ _ _ _ _ _ _ _) rfl rfl bz9 (szRk _ _ _ _ _ _ _ _ _ _ _ _ _ _ _) ?_
   intro W9 h9 g9
   simp only [Act.put, qsT, qsZ, qsS]
   have hC9 := hC8.stR hXz bz9 g9
   have hR9 := hR8.grow (Chg.one (D := X) g9 hXz) (fun b hb => .inl hb)
   have beW9 : Below w.heap.size w W9 := beW8.trans ((Chg.one (D := X) g9 hXz).below (fun b hb => (hC8.lt b hb).1) beW8.size)
   go_wp2
   refine bodyPost_aggL Tryz.results6 rfl rfl h9.range vc1 vc2 (szRk _ _ _ _ _ _ _ _ _ _ _ _ _ _ _) rfl ?_
   exact ⟨gc, X, gl, gd, gst, gsu, gm, An, R, Lx, s, (kk : Int), As, ns, cs, Al, nl, cl, (kk : Int), Ao, co, Ak, ca, At, ct, by rw [HNO.out]; rfl, hC9, hR9, beW9⟩
theorem offM_len (key : List UInt8) (L : List OpR) (s n : Nat) : (offM key L s n).2.2.1.length ≤ 16 := by
 unfold offM
 split
 ·simp
 ·split
  ·simp
  ·simp; omega
def RetOq (w : World) (q1 : Int) (q2 : Nat) (qLs : List (List UInt8)) (q3 : Bool) (e : Ending) (w' : World) : Prop := ∃ A n c, e = .returned (.tuple #[.agg (msC q1 q2 A n c).toArray, .bool q3]) ∧ RL w' A n c qLs ∧ Below w.heap.size w w'
theorem followOffers_walk (L : List OpX) (A : Option Addr) (n c sf nn : Nat) (w : World) (hl : Rs 11 w A n c (L.flatMap OpX.cs)) (hL : ∀ x ∈ L, x.ok w) (hsf : sf < 256) (hnn : nn < 18446744073709551616) (hn : n ≤ 9223372036854775807) (hT : TabB w) : Calls Tryz.prog 3 #[.slice A n c, .int .u8 (sf : Int), .int .u64 (nn : Int)] w fun e w' => e = .returned (.bool true) ∧ Below w.heap.size w w' := by
 obtain ⟨dvc, vc1, vc2⟩ := rowRk
 obtain ⟨dvm, vm1, vm2⟩ := rowRm27
 obtain ⟨dvf, vf1, vf2⟩ := rowFm
 have HRS := qy (fun W (hb : Below w.heap.size w W) => hl.later hb)
 have HL := qy hL
 have HT := qy (fun W (hb : Below w.heap.size w W) => hT.later hb)
 have be0 := Below.refl w.heap.size w
 clear hl hL hT
 go_enter Tryz.func3, Tryz.ntmps3
 go_upto_region 3 with (go_at_call 4; refine (awake27 _).mono ?_; rintro e w1 ⟨bs1, d1, rfl, rfl⟩)
 have be := belowP be0 bs1 d1
 generalize plus w bs1 d1 = V at *
 have HFW := qy (few_any L A n c V (HRS.out _ be) hn)
 refine wp_region_lit ?_
 refine qw ?_
 refine wpq fun K hK => ?_
 go_simp
 refine (HFW.out).mono ?_
 rintro e w1 ⟨bf, rfl, rfl, hfew⟩
 with_reducible refine hK _ _ ?_
 clear hK K
 refine qw ?_
 cases bf with
 | false =>
  go_wp2_with (go_at_call 4; refine (awake27 _).mono ?_; rintro e w1 ⟨bs1, d1, rfl, rfl⟩)
  go_ret
  exact ⟨rfl, belowP be bs1 d1⟩
 | true =>
 have hfew := hfew rfl
 go_upto_region 5 with (fail)
 refine wp_region_lit ?_
 iterate 2 (refine qw ?_)
 refine wpq fun K hK => ?_
 go_simp
 refine (made27 L A n c sf hsf _ (HRS.out _ be) (fun x hx => OpX.later (HL.out x hx) be) hfew.2 hfew.1).mono ?_
 rintro e w1 ⟨gc, X, gl, gd, gst, gsu, gm, An, R, Lx, s, k, As, ns, cs, Al, nl, cl, sy, Ao, co, Ak, ca, At, ct, rfl, hC, hR, hb3⟩
 with_reducible refine hK _ _ ?_
 clear hK K
 have be3 := be.trans (hb3.mono be.size)
 generalize hWW : w1 = W3 at *
 clear hWW
 iterate 4 (refine qw ?_)
 have hr0 : Bk (W3.alloc (.cells zk0.toArray 33)) W3.heap.size 33 zk0 := Bk.new _ _ _
 have b4 := Below.allocS (Below.refl W3.heap.size W3) (.cells zk0.toArray 33)
 change wpList _ _ _ _ _ (W3.alloc (.cells zk0.toArray 33))
 generalize W3.alloc (.cells zk0.toArray 33) = W4 at *
 refine qw ?_
 refine wpList_stA (t := 33) 33 (.tmp 8) (.tmp 26) rfl rfl (rkC As ns cs Al nl cl sy Ao Lx.length co (s : Int) Ak ca At ct) zk0 rfl (rkC_one _ _ _ _ _ _ _ _ _ _ _ _ _ _ _) rfl rfl hr0 (szRk _ _ _ _ _ _ _ _ _ _ _ _ _ _ _) ?_
 intro W5 h5 g5
 simp only [Act.put, qsT, qsZ, qsS]
 have hB3 := hb3.size
 have hC4 := hC.add b4 (Nat.le_refl _) hr0.lt hB3
 have hR4 := hR.grow (Chg.of_below b4) (X' := fun b => X b ∨ b = W3.heap.size) (fun b hb => hb.imp id (fun e => by omega))
 have hC5 := hC4.stR (.inr rfl) hr0 g5
 have hR5 := hR4.grow (Chg.one (D := fun b => X b ∨ b = W3.heap.size) g5 (.inr rfl)) (fun b hb => .inl hb)
 have be5 := below_grown (be3.trans (b4.mono be3.size)) g5 be3.size
 obtain ⟨X0, hX0⟩ : ∃ X0 : Nat → Prop, X0 = fun b => X b ∨ b = W3.heap.size := ⟨_, rfl⟩
 rw [← hX0] at hC5 hR5
 clear hX0 hC hR hC4 hR4 hr0 g5 b4 be be3 hB3 hb3
 generalize W3.heap.size = gr at *
 have hsl := hR5.sl
 have hll := hR5.ll
 have hws : IntKind.u64.wrap (s : Int) = (s : Int) := IntWalk.u64_in _ (by omega)
 obtain ⟨no, hno⟩ : ∃ no, Lx.length = no := ⟨_, rfl⟩
 have HNO := qy hno
 rw [hno] at h5 hsl hll
 clear hno
 have HRO0 := qy (fun W (v : Nat) (hv : v < 18446744073709551616) (hR : RkX X0 W Lx s As ns cs Al nl cl Ao co Ak ca) => show Calls Tryz.prog 8 #[.agg (rkC As ns cs Al nl cl sy Ao no co (s : Int) Ak ca At ct).toArray, .int .u64 (v : Int)] W (RetOf W (offM k27 (Lx.map OpX.o) s v)) by
  rw [← HNO.out]
  exact refOffer27 Lx s As ns cs Al nl cl sy Ao co Ak ca At ct v W hR hv)
 have hC := hC5
 have hR := hR5
 have hr := h5
 have be := be5
 clear hC5 hR5 h5 be5
 have q21 : W5.cell? ⟨gr, 21, none⟩ = some (.int .i64 (s : Int)) := hr.cell 21
 go_upto_region 8 with (fail)
 clear q21
 refine wp_region_lit ?_
 iterate 2 (refine qw ?_)
 refine qL 3 (.tmp 30) hr Tryz.underlying3 ?_
 iterate 2 (refine qw ?_)
 have bq : Bk (W5.alloc (.cells ([.int .u64 0, .int .u64 1, .int .u64 (nn : Int), .int .u64 (s : Int)] : List Value).toArray 23)) W5.heap.size 23 ([.int .u64 0, .int .u64 1, .int .u64 (nn : Int), .int .u64 (s : Int)]) := Bk.new _ _ _
 have b9 := Below.allocS (Below.refl W5.heap.size W5) (.cells ([.int .u64 0, .int .u64 1, .int .u64 (nn : Int), .int .u64 (s : Int)] : List Value).toArray 23)
 replace hC := hC.later b9
 replace hR := hR.later b9
 replace hr := hr.later b9
 replace be := be.trans (b9.mono be.size)
 change wpList _ _ _ _ _ (W5.alloc (.cells ([.int .u64 0, .int .u64 1, .int .u64 (nn : Int), .int .u64 (s : Int)] : List Value).toArray 23))
 generalize W5.alloc (.cells ([.int .u64 0, .int .u64 1, .int .u64 (nn : Int), .int .u64 (s : Int)] : List Value).toArray 23) = W6 at *
 generalize W5.heap.size = gq at *
 iterate 2 (refine qw ?_)
 go_upto_region 9 with (fail)
 go_loopw [35] (fun I wr => ∃ (j : Nat), I = .int .i64 (j : Int) ∧ j ≤ 4 ∧ CnX X0 V.heap.size wr gc k27 (Lx.map OpX.o) s k gl gd gst gsu gm An R ∧ RkX X0 wr Lx s As ns cs Al nl cl Ao co Ak ca ∧ Bk wr gr 33 (rkC As ns cs Al nl cl sy Ao no co (s : Int) Ak ca At ct) ∧ Bk wr gq 23 ([.int .u64 0, .int .u64 1, .int .u64 (nn : Int), .int .u64 (s : Int)]) ∧ Below w.heap.size w wr) (fun I _ => 4 - (intOf I).toNat)
 case atStart => exact ⟨0, rfl, Nat.zero_le _, hC, hR, hr, bq, be⟩
 case round =>
  clear hC hR hr bq be
  obtain ⟨j, rfl, hj, hC, hR, hr, bq, be⟩ := hrel
  by_cases hj4 : j < 4
  ·have ij : (j : Int) < 4 := by omega
   have hv0 : ∃ v : Nat, ([.int .u64 0, .int .u64 1, .int .u64 (nn : Int), .int .u64 (s : Int)] : List Value)[j]? = some (.int .u64 (v : Int)) ∧ v < 18446744073709551616 := by
    rcases (by omega : j = 0 ∨ j = 1 ∨ j = 2 ∨ j = 3) with rfl | rfl | rfl | rfl
    ·exact ⟨0, rfl, by decide⟩
    ·exact ⟨1, rfl, by decide⟩
    ·exact ⟨nn, rfl, hnn⟩
    ·exact ⟨s, rfl, by omega⟩
   obtain ⟨v, hv1, hv⟩ := hv0
   have qv : wr.cell? ⟨gq, j, none⟩ = some (.int .u64 (v : Int)) := (bq.cell j).trans hv1
   clear hv1
   obtain ⟨⟨q1, q2, qLs, q3⟩, hq⟩ : ∃ q, offM k27 (Lx.map OpX.o) s v = q := ⟨_, rfl⟩
   have hqL : qLs.length ≤ 16 := by have := offM_len k27 (Lx.map OpX.o) s v; rw [hq] at this; exact this
   have HOF := qy (fun W (hb : Below w.heap.size w W) (hC : CnX X0 V.heap.size W gc k27 (Lx.map OpX.o) s k gl gd gst gsu gm An R) => show Calls Tryz.prog 7 #[.pointer (some ⟨gc, 0, none⟩), .int .u64 (v : Int)] W (RetOq W q1 q2 qLs q3) by
    have := offer_any gc k27 rfl (Lx.map OpX.o) s k gl gd gst gsu gm An R v W hC (HT.out W hb) hv
    rw [hq] at this
    exact this)
   have HRO := qy (fun W (hR : RkX X0 W Lx s As ns cs Al nl cl Ao co Ak ca) => show Calls Tryz.prog 8 #[.agg (rkC As ns cs Al nl cl sy Ao no co (s : Int) Ak ca At ct).toArray, .int .u64 (v : Int)] W (RetOq W q1 q2 qLs q3) by
    have := HRO0.out W v hv hR
    rw [hq] at this
    exact this)
   clear hq
   go_upto_region 11 with (fail)
   clear qv
   refine wp_region_lit ?_
   iterate 2 (refine qw ?_)
   refine wpq fun K hK => ?_
   go_simp
   refine (HOF.out _ be hC).mono ?_
   rintro e w1 ⟨A1, n1, c1, rfl, hR1, hb1⟩
   with_reducible refine hK _ _ ?_
   clear hK K
   replace hC := hC.later hb1
   replace hR := hR.later hb1
   replace hr := hr.later hb1
   replace bq := bq.later hb1
   replace be := be.trans (hb1.mono be.size)
   generalize hWW : w1 = W1 at *
   clear hWW hb1
   iterate 4 (refine qw ?_)
   have hm0 : Bk (W1.alloc (.cells #[.int .i64 0, .int .u64 0, .slice none 0 0] 38)) W1.heap.size 38 (msC 0 0 none 0 0) := Bk.new _ _ _
   have b9 := Below.allocS (Below.refl W1.heap.size W1) (.cells #[.int .i64 0, .int .u64 0, .slice none 0 0] 38)
   generalize W1.alloc (.cells #[.int .i64 0, .int .u64 0, .slice none 0 0] 38) = W1b at *
   refine wpList_stA (t := 38) 38 (.tmp 11) (.tmp 43) rfl rfl (msC q1 q2 A1 n1 c1) (msC 0 0 none 0 0) rfl (msC_one _ _ _ _ _) rfl rfl hm0 (szFm _ _ _ _ _) ?_
   intro W2 h2 g2
   simp only [Act.put, qsT, qsZ, qsS]
   have b12 := below_grown b9 g2 (Nat.le_refl _)
   replace hR1 := hR1.later b12
   replace hC := hC.later b12
   replace hR := hR.later b12
   replace hr := hr.later b12
   replace bq := bq.later b12
   replace be := be.trans (b12.mono be.size)
   clear b9 g2 hm0 b12
   generalize W1.heap.size = gm1 at *
   refine qw ?_
   go_upto_region 12 with (fail)
   refine wp_region_lit ?_
   refine qA 33 (.tmp 8) hr vc1 vc2 (szRk _ _ _ _ _ _ _ _ _ _ _ _ _ _ _) ?_
   refine qw ?_
   refine wpq fun K hK => ?_
   go_simp
   refine (HRO.out _ hR).mono ?_
   rintro e w1 ⟨A3, n3, c3, rfl, hR3, hb3⟩
   with_reducible refine hK _ _ ?_
   clear hK K
   replace hR1 := hR1.later hb3
   replace h2 := h2.later hb3
   replace hC := hC.later hb3
   replace hR := hR.later hb3
   replace hr := hr.later hb3
   replace bq := bq.later hb3
   replace be := be.trans (hb3.mono be.size)
   generalize hWW : w1 = W3 at *
   clear hWW hb3
   iterate 4 (refine qw ?_)
   have hm0 : Bk (W3.alloc (.cells #[.int .i64 0, .int .u64 0, .slice none 0 0] 41)) W3.heap.size 41 (msC 0 0 none 0 0) := Bk.new _ _ _
   have b9 := Below.allocS (Below.refl W3.heap.size W3) (.cells #[.int .i64 0, .int .u64 0, .slice none 0 0] 41)
   generalize W3.alloc (.cells #[.int .i64 0, .int .u64 0, .slice none 0 0] 41) = W3b at *
   refine wpList_stA (t := 41) 41 (.tmp 13) (.tmp 49) rfl rfl (msC q1 q2 A3 n3 c3) (msC 0 0 none 0 0) rfl (msC_one _ _ _ _ _) rfl rfl hm0 (szRm27 _ _ _ _ _) ?_
   intro W4 h4 g4
   simp only [Act.put, qsT, qsZ, qsS]
   have b12 := below_grown b9 g4 (Nat.le_refl _)
   replace hR1 := hR1.later b12
   replace hR3 := hR3.later b12
   replace h2 := h2.later b12
   replace hC := hC.later b12
   replace hR := hR.later b12
   replace hr := hr.later b12
   replace bq := bq.later b12
   replace be := be.trans (b12.mono be.size)
   clear b9 g4 hm0 b12
   generalize W3.heap.size = gm0 at *
   refine qw ?_
   have hn3 := hR3.len
   have hn1 := hR1.len
   obtain rfl : n1 = n3 := by omega
   replace hn1 : n1 ≤ 1000000 := by omega
   clear hn3
   go_upto_region 13 with (fail)
   refine wp_region_lit ?_
   refine qA 38 (.tmp 11) h2 vf1 vf2 (szFm _ _ _ _ _) ?_
   simp only [Act.put, qsT, qsZ, qsS]
   refine qA 41 (.tmp 13) h4 vm1 vm2 (szRm27 _ _ _ _ _) ?_
   refine wpq fun K hK => ?_
   go_simp
   refine (is27 q1 q2 qLs A1 A3 n1 c1 c3 _ hR1 hR3 hn1).mono ?_
   rintro e w1 ⟨bs7, d7, rfl, rfl⟩
   with_reducible refine hK _ _ ?_
   clear hK K
   have b7 := below_plus W4 bs7 d7
   replace hC := hC.later b7
   replace hR := hR.later b7
   replace hr := hr.later b7
   replace bq := bq.later b7
   replace be := be.trans (b7.mono be.size)
   generalize plus W4 bs7 d7 = W7 at *
   clear b7
   iterate 2 (refine qw ?_)
   iterate 3 (refine wpList_step (fun K hK => ?_); go_simp; with_reducible refine hK _ _ ?_; clear hK K)
   refine qw ?_
   have huj : IntKind.i64.wrap ((j : Int) + 1) = ((j + 1 : Nat) : Int) := by rw [IntWalk.i64_in _ (by omega)]; omega
   clear hR1 hR3 h2 h4
   go_wp2
   exact ⟨⟨j + 1, by first | rfl | go_num, by omega, hC, hR, hr, bq, be⟩, by simp [intOf]; omega⟩
  ·have ij : ¬ (j : Int) < 4 := by omega
   clear hC hR hr bq
   go_wp2_with (go_at_call 4; refine (awake27 _).mono ?_; rintro e w1 ⟨bs1, d1, rfl, rfl⟩)
   go_ret
   exact ⟨rfl, belowP be bs1 d1⟩
end

section
open Go.ChangeShapes Go.WideShapes Go.ChangeAt Go.RowKit
theorem trodAll_below {H : Type} {enc : TypeId × Value → H} {P : Program} (hl : laidOutB P = true) {W W' : World} (hb : Below W.heap.size W W') :
  ∀ {ts : List TypeId} {vs : List Value} {ds : List (DataW H)} {ps : List MemPlace}, (ts.all fun t => P.readableRec t && decide (t < P.types.size)) = true →
   DataW.TrodAll enc P W 0 (fun _ => true) true ts vs ds ps → DataW.TrodAll enc P W' 0 (fun b => decide (b < W.heap.size)) true ts vs ds ps
 | [], vs, ds, ps, _, h => by
  obtain ⟨rfl, rfl, rfl⟩ := trodAll_nil h
  exact trodAll_mk0
 | t :: ts, vs, ds, ps, hr, h => by
  obtain ⟨v, vs', d, ds', p, q, rfl, rfl, rfl, h0, hs⟩ := trodAll_cons h
  simp only [List.all_cons, Bool.and_eq_true, decide_eq_true_eq] at hr
  have lt0 : ∀ x ∈ p, x.block < W.heap.size := by
   obtain ⟨m, hm⟩ := h0
   exact DataW.trod_lt m _ _ _ hm
  exact trodAll_cons_mk (Below.trod hl hr.1.1 hr.1.2 h0 hb lt0) (trodAll_below hl hb (by simpa using hr.2) hs)
theorem liftL {C : Checked} {os : Go.Os} {f : FuncId} {fn : Func} {s : ChangeSpec} {H : Type} {enc : TypeId × Value → H} {tb : TypeId} {X : World → Prop} (n : Nat) (hX : ∀ w w' : World, w.heap = w'.heap → X w → X w')
  (own : ownKnob C.prog.godebug = none) (started : os.Started) (noInit : C.prog.inits.idxOf? f = none) (hfn : C.prog.funcs[f]? = some fn)
  (witness : ∃ (w : World) (tape : Tape) (i : Input), w.os = os ∧ (w.forCall tape i).Shaped C.prog ∧ i.vars = [] ∧ Input.okWide C.prog (w.forCall tape i) .any w.heap.size f i ∧
   ((s.pre enc C.prog fn [] false (w.forCall tape i).memory i.args ∧ X (w.forCall tape i).memory) ∧ sizedMet enc C.prog fn (OpenSpec.ofChange s) false (w.forCall tape i).memory i.args) ∧ ({} : Assume).holds C.prog (lone (Frame.enter C.prog f i.args .normal) [] (w.forCall tape i)))
  (hl : laidOutB C.prog = true) (hrd : (fn.params.toList.all fun t => C.prog.readableRec t && decide (t < C.prog.types.size)) = true)
  (htb : C.prog.underlying tb = some .bool) (hres : fn.resultTypes = #[tb]) (hn : fn.params.toList.length = n) (hvars : s.vars = [])
  (hspec : ∀ ds : List (DataW H), ds.length = n → (s.fn H ds).results = [.lit (.bool true)] ∧ (s.fn H ds).args = ds ∧ (s.fn H ds).vars = [])
  (walk : ∀ (W : World) (base : Nat) (args : Array Value) (ds : List (DataW H)) (ps : List MemPlace),
   (∀ (j : Nat) t v, fn.params[j]? = some t → args[j]? = some v → Value.okWide C.prog W .any base t v) →
   DataW.TrodAll enc C.prog W 0 (fun _ => true) true fn.params.toList args.toList ds ps → X W →
   Calls C.prog f args W fun e W' => e = .returned (.bool true) ∧ Below W.heap.size W W') :
  ReturnsInHanded {} C os f .any (fun w args => (s.pre enc C.prog fn [] false w args ∧ X w) ∧ sizedMet enc C.prog fn (OpenSpec.ofChange s) false w args) (s.post enc C.prog fn false true false false) := by
 refine returnsInHanded_of_change_and (C := C) (X := fun w _ => X w) (fun w w' _ hh h => hX w w' hh h) own started noInit hfn witness ?_
 intro W base args ds gs before hval hW _ _ hXW _
 have hW' := hW
 obtain ⟨p, q, hA, hV, rfl, _, _⟩ := hW
 rw [hvars] at hV
 obtain ⟨rfl, rfl⟩ := trodVars_none hV
 have hlen : ds.length = n := by
  have aux : ∀ {ts : List TypeId} {vs : List Value} {ds : List (DataW H)} {ps : List MemPlace}, DataW.TrodAll enc C.prog W 0 (fun _ => true) true ts vs ds ps → ds.length = ts.length := by
   intro ts
   induction ts with
   | nil => intro vs ds ps h; obtain ⟨_, rfl, _⟩ := trodAll_nil h; rfl
   | cons t ts ih =>
    intro vs ds ps h
    obtain ⟨v, vs', d, ds', p, q, rfl, rfl, rfl, _, hs⟩ := trodAll_cons h
    simp [ih hs]
  rw [aux hA, hn]
 obtain ⟨r1, r2, r3⟩ := hspec ds hlen
 refine (walk W base args ds p hval hA hXW).mono fun e W' ⟨he, bel⟩ => ?_
 subst he
 refine ⟨_, rfl, ds, [], p ++ [], [], p, [], hW', ?_, ?_, ?_, bel.frame _, fun h => by cases h⟩
 ·simp only [List.append_nil, r1, hres]
  exact trodAll_mk1 (shut_bool htb _)
 ·simp only [List.append_nil, r2]
  exact trodAll_below hl bel hrd hA
 ·simp only [List.append_nil, r3, hvars]
  rfl
def laidTab : List (String × DataW Unit) := [("math/bits.deBruijn64tab", Rows.laid_math_bits_deBruijn64tab)]
theorem gTab : Tryz.prog.globalNamed "math/bits.deBruijn64tab" = some 0 := by kernel_rfl
theorem tTab : (Tryz.prog.globals[0]?).map (·.type) = some 266 := by kernel_rfl
theorem laid_list : (Rows.laid_math_bits_deBruijn64tab : DataW Unit) = .agg (deB.map fun b => .lit (.int .u8 (b.toNat : Int))) := by rfl
theorem of_laid {W : World} (h : laidMetH Tryz.prog laidTab W) : TabB W := by
 rw [MakeChecks.laidMetH_plain _ _ _ (by kernel_rfl)] at h
 obtain ⟨ps, ⟨g0, t0, cs0, f0, p0, q0, hg0, ht0, hv0, hd0, _, _⟩, _, hcell⟩ := h
 obtain rfl := Option.some.inj (gTab.symm.trans hg0)
 obtain rfl := Option.some.inj (tTab.symm.trans ht0)
 obtain ⟨xs, m1, rfl, hx1, hlen, hn3, hel⟩ := DataW.trod_array Tryz.underlying266 hd0
 have c1 : Tryz.prog.cellsOf 5 = 1 := by kernel_rfl
 have c64 : Tryz.prog.cellsOf 266 = 64 := by kernel_rfl
 rw [laid_list] at hx1
 have hx2 : (deB.map fun b => DataW.lit (Lit.int .u8 (b.toNat : Int))) = xs.map (·.1) := by
  have := congrArg Prod.fst hx1
  simpa using this
 have hc : ∀ j, j < 64 → W.cell? ⟨0, j, none⟩ = (bcs deB)[j]? := by
  intro j hj
  have h0 := hel j hj
  rw [c1, Nat.mul_one] at h0
  have hxj : xs[j]? = some (xs[j]'(by omega)) := List.getElem?_eq_getElem (by omega)
  rw [hxj] at h0
  obtain ⟨k, e1, e2, _⟩ := DataW.trod_int Tryz.underlying5 h0
  have hjc : j < cs0.toList.length := by rw [hlen, c64]; exact hj
  simp only [List.drop_eq_getElem_cons hjc, List.take_succ_cons, List.take_zero, List.cons.injEq, and_true] at e1
  rw [World.var?_cell hg0 hv0 j]
  have hja : j < cs0.size := by simpa using hjc
  rw [Array.getElem?_eq_getElem hja]
  have e3 : cs0[j] = .int .u8 k := by rw [← e1]; simp
  rw [e3, bcs_get deB j (by rw [deB_len]; exact hj)]
  have h4 := congrArg (fun L : List (DataW Unit) => L[j]?) hx2
  simp only [List.getElem?_map] at h4
  rw [hxj, List.getElem?_eq_getElem (show j < deB.length by rw [deB_len]; exact hj)] at h4
  simp only [Option.map_some, Option.some.injEq] at h4
  rw [e2] at h4
  simp only [DataW.lit.injEq, Lit.int.injEq, true_and] at h4
  rw [← h4]
 have hlt : 0 < W.heap.size := by
  have h1 := hc 0 (by decide)
  exact lt_of_cell (a := ⟨0, 0, none⟩) (h1.trans (bcs_get deB 0 (by decide)))
 refine ⟨deB_len, Nat.le_refl _, .inr ⟨0, 0, rfl, hlt, fun i u hu => ?_⟩⟩
 rw [Nat.zero_add]
 have hi : i < 64 := by
  rcases Nat.lt_or_ge i 64 with h' | h'
  ·exact h'
  ·rw [List.getElem?_eq_none (by rw [bcs_length, deB_len]; exact h')] at hu
   cases hu
 exact (hc i hi).trans hu
theorem door_met (os : Go.Os) (args : Array Value) : laidMetH Tryz.prog laidTab ((World.doorLaid Tryz.prog 2000 os).forCall (fun _ _ => 0) ⟨#[], args, []⟩).memory :=
 laidMetH_of_parts3 (fuel := 8) (laidMet_of_run' 8 (by kernel_rfl) (by kernel_rfl)) (by kernel_rfl) (by kernel_rfl)
end

section
open Go.RowKit
theorem followOffers_row (W : World) (A : Option Addr) (k : Nat) (L : List OpX) (h1 : L.length ≤ k) (h2 : k ≤ maxLen) (h3 : Rd W W.heap.size A (L.flatMap OpX.cs)) (h4 : ∀ x ∈ L, x.ok W) (a : Int) (ha : 0 ≤ a ∧ a ≤ 255) (b : Int) (hb : 0 ≤ b ∧ b ≤ 18446744073709551615) (hT : TabB W) :
  Calls Tryz.prog 3 #[.slice A L.length k, .int .u8 a, .int .u64 b] W fun e W' => e = .returned (.bool true) ∧ Below W.heap.size W W' := by
 have e : maxLen ≤ 9223372036854775807 := by decide
 obtain ⟨a, rfl⟩ := Int.eq_ofNat_of_zero_le ha.1
 obtain ⟨b, rfl⟩ := Int.eq_ofNat_of_zero_le hb.1
 exact followOffers_walk L A L.length k a b W ⟨flat_len OpX.cs 11 OpX.cs_len L, h1, h3⟩ h4 (by omega) (by omega) (by omega) hT
end

end Go.Proofs.YtjiiloffgipfhaaGreatDoor
