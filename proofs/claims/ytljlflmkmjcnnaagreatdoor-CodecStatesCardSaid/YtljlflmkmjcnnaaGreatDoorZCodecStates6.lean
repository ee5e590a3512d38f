/- Texts of the law CodecStates, part 6. -/
import Derived.Test.YtljlflmkmjcnnaaGreatDoorZCodecStates5
set_option linter.unusedVariables false
set_option linter.unusedSimpArgs false
namespace Go.Proofs.YtljlflmkmjcnnaaGreatDoor
section
open Go.Lib
open Go.RowKit
attribute [local go_sem ↓] sliced_cut
attribute [local go_sem] cutA_zero
theorem sgT_ab (s : Nat × Bool) : ab (sgT s) = (s.1 : Int) := ab_sg
set_option maxHeartbeats 4000000
set_option maxRecDepth 100000
theorem refTabBytes_any (t : Tab) (hok : TabOk t) (A : Option Addr) (m c : Nat) (w : World) (hr : Rs 1 w A m c (itK (refT t))) : Calls Tryz.prog 89 #[.slice A m c] w (RetB w (tabB t)) := by
 have ht := hok.len
 have hm : t.length = m := by have := hr.1; rw [itK_len] at this; simp [refT] at this; omega
 have hm64 : m ≤ 64 := by omega
 have e1 : (m : Int).tdiv 256 = 0 := by rw [Int.tdiv_eq_ediv_of_nonneg (by omega)]; omega
 have e2 : (m : Int).tmod 256 = (m : Int) := by rw [Int.tmod_eq_emod_of_nonneg (by omega)]; omega
 have e3 : IntKind.u8.wrap (m : Int) = (m : Int) := by rw [IntKind.wrap_u8]; omega
 have e4 : IntKind.i64.wrap (m : Int) = (m : Int) := IntWalk.i64_in _ (by omega)
 have HR := Lib.hid (fun W (h : Below w.heap.size w W) => hr.later h)
 have hdg := Lib.hid (show [Value.int .u8 0, .int .u8 (m : Int)] = bcs (dig m 2) by simp [bcs, dig]; omega)
 have HRG := Lib.hid hok.rg
 have be := Below.refl w.heap.size w
 go_enter Tryz.func89, Tryz.ntmps89
 go_upto_region 1 with (fail)
 go_upto_region 3 with (fail)
 have HST := Lib.hid (And.intro (Ob.lit (base := w.heap.size) w (Nat.le_refl _) #[.int .u8 0, .int .u8 (m : Int)] (dig m 2) 2 (by simp [dig_length]) (by decide) hdg.out) (Below.allocS (Below.refl w.heap.size w) (.cells #[.int .u8 0, .int .u8 (m : Int)] 5)))
 clear be
 go_loopw [3, 4] (fun OUT I wr => ∃ (j : Nat) (B : Option Addr) (k d : Nat), I = .int .i64 (j : Int) ∧ OUT = .slice B k d ∧ j ≤ m ∧ Ob wr w.heap.size B k d (dig m 2 ++ (t.take j).map slotB) ∧ Below w.heap.size w wr) (fun _ I _ => m - (intOf I).toNat)
 case atStart => exact ⟨0, _, 2, 2, rfl, rfl, Nat.zero_le _, by simpa using HST.out.1, HST.out.2⟩
 case round =>
  clear HST
  obtain ⟨j, B, k, d, rfl, rfl, hj, hO, be⟩ := hrel
  have hk := hO.len
  simp [dig_length] at hk
  by_cases hlt : j < m
  ·have ij : (j : Int) < (m : Int) := by omega
   have hjt : j < t.length := by omega
   obtain ⟨bm, om, hAe, hbm, -⟩ := hr.at_ (by omega) (by decide)
   have hrr := HR.out wr be
   have hcell : ∃ ad, A = some ad ∧ wr.cell? (ad.add j) = some (.int .i64 (sgT (t[j]'hjt))) := by
    rw [hAe] at hrr
    obtain ⟨b2, o2, h1, -, h2⟩ := hrr.at_ (by omega) (by decide)
    injection h1 with h1
    injection h1 with h3 h4
    subst h3 h4
    refine ⟨_, hAe, ?_⟩
    have := h2 j (.int .i64 (sgT (t[j]'hjt))) (by simp [itK, refT, hjt])
    rw [add_plain]
    exact this
   obtain ⟨ad0, hA0, hcell⟩ := hcell
   rw [hAe] at hA0
   obtain rfl := Option.some.inj hA0
   rw [add_plain] at hcell
   have HOW := Lib.hid (fun W (h : Rs 1 W A m c (itK (refT t))) => show Calls Tryz.prog 141 #[.slice A m c, .int .i64 (j : Int)] W (fun e w' => e = .returned (.int .i64 ((t[j]'hjt).1 : Int)) ∧ W = w') by
    have h1 := refOwner_any (refT t) j A m c W h (by omega) (by simp [refT]; omega) (by
     have h2 : (refT t)[j]'(by simp [refT]; omega) = sgT (t[j]'hjt) := by simp [refT]
     rw [h2]
     have := HRG.out t[j] (List.getElem_mem hjt)
     unfold sgT
     split <;> omega)
    have h2 : (refT t)[j]'(by simp [refT]; omega) = sgT (t[j]'hjt) := by simp [refT]
    rw [h2, sgT_ab] at h1
    exact h1)
   have hmem := HRG.out t[j] (List.getElem_mem hjt)
   have htk : (t.take (j + 1)).map slotB = (t.take j).map slotB ++ [slotB (t[j]'hjt)] := by rw [List.take_succ_eq_append_getElem hjt, List.map_append]; rfl
   generalize (t[j]'hjt) = s at *
   have HTK := Lib.hid htk
   have hsl := Lib.hid (bcs_slot hmem.2)
   obtain ⟨ow, aw⟩ := s
   have ho64 : ow ≤ 64 := hmem.2
   have ho1 : 1 ≤ ow := hmem.1
   have hk66 : k ≤ 66 := by omega
   rw [hAe] at HOW HR
   simp only [hAe] at *
   clear htk hk hmem hrr
   have ewo : IntKind.u8.wrap (ow : Int) = (ow : Int) := by rw [IntKind.wrap_u8]; omega
   have q0 : wr.cell? ⟨bm, om + j, none⟩ = some (.int .i64 (sgT (ow, aw))) := hcell
   clear hcell
   go_upto_region 5 with (fail)
   refine wp_region_lit ?_
   iterate 2 (refine wpList_plain rfl (fun K hK => ?_); go_simp; with_reducible refine hK _ _ ?_; clear hK K)
   refine wpList_plain rfl (fun K hK => ?_)
   go_simp
   refine (HOW.out _ (HR.out _ be)).mono ?_
   rintro e w1 ⟨rfl, rfl⟩
   with_reducible refine hK _ _ ?_
   clear hK K
   refine wpList_plain rfl (fun K hK => ?_); go_simp; with_reducible refine hK _ _ ?_; clear hK K
   cases aw
   ·have hs0 : ¬ sgT (ow, false) < 0 := by unfold sgT; simp
    replace q0 : wr.cell? ⟨bm, om + j, none⟩ = some (.int .i64 (ow : Int)) := q0
    have hs1 : ¬ (ow : Int) < 0 := by omega
    go_upto_region 8 with (fail)
    refine wp_region_lit ?_
    iterate 4 (refine wpList_plain rfl (fun K hK => ?_); go_simp; with_reducible refine hK _ _ ?_; clear hK K)
    refine wpList_app bt rfl (.tmp 31) (.tmp 34) rfl rfl (hO.later (Below.allocS (Below.refl _ _) _)) rfl (Ob.lit wr (Nat.le_refl _) _ [slotB (ow, false)] 1 rfl (by decide) ?_).rb (by omega) (by have := be.size; simp; omega) ?_
    ·exact hsl.out.symm
    intro A2 n2 c2 w4 hO4 hb4 hg4
    refine wpList_plain rfl (fun K hK => ?_); go_simp; with_reducible refine hK _ _ ?_; clear hK K
    have hE2 := (be.trans ((Below.allocS (Below.refl _ _) _).mono be.size)).trans hb4
    go_wp2
    exact ⟨⟨j + 1, A2, _, c2, by go_num, rfl, by omega, by rw [HTK.out, ← List.append_assoc]; exact hO4, hE2⟩, by simp [intOf]; omega⟩
   ·replace q0 : wr.cell? ⟨bm, om + j, none⟩ = some (.int .i64 (-(ow : Int))) := q0
    have hs1 : -(ow : Int) < 0 := by omega
    have hw2 : IntKind.i64.wrap ((ow : Int) + 128) = ((ow + 128 : Nat) : Int) := by rw [IntWalk.i64_in _ (by omega)]; omega
    have hw3 : IntKind.u8.wrap ((ow + 128 : Nat) : Int) = ((ow + 128 : Nat) : Int) := by rw [IntKind.wrap_u8]; omega
    have hw4 : IntKind.u8.wrap ((ow : Int) + 128) = (ow : Int) + 128 := by rw [IntKind.wrap_u8]; omega
    go_upto_region 8 with (fail)
    refine wp_region_lit ?_
    iterate 4 (refine wpList_plain rfl (fun K hK => ?_); go_simp; with_reducible refine hK _ _ ?_; clear hK K)
    refine wpList_app bt rfl (.tmp 31) (.tmp 34) rfl rfl (hO.later (Below.allocS (Below.refl _ _) _)) rfl (Ob.lit wr (Nat.le_refl _) _ [slotB (ow, true)] 1 rfl (by decide) ?_).rb (by omega) (by have := be.size; simp; omega) ?_
    ·exact hsl.out.symm
    intro A2 n2 c2 w4 hO4 hb4 hg4
    refine wpList_plain rfl (fun K hK => ?_); go_simp; with_reducible refine hK _ _ ?_; clear hK K
    have hE2 := (be.trans ((Below.allocS (Below.refl _ _) _).mono be.size)).trans hb4
    go_wp2
    exact ⟨⟨j + 1, A2, _, c2, by go_num, rfl, by omega, by rw [HTK.out, ← List.append_assoc]; exact hO4, hE2⟩, by simp [intOf]; omega⟩
  ·obtain rfl : j = m := by omega
   have ij : ¬ (j : Int) < (j : Int) := by omega
   rw [List.take_of_length_le (by omega)] at hO
   clear hj hk
   go_wp2
   go_ret
   have hd : tabB t = dig j 2 ++ t.map slotB := by unfold tabB; rw [hm]
   rw [hd]
   exact RetB.mk hO be
theorem wpList_appB {P : Program} {w : World} {ops : Array Oper} {rest : List Oper} {o : Oper} {a : Act} {Q : Exit → Act → World → Prop} {ts : TypeId} (bt : BT P ts 5) (hgd : o.guard = none) (s x : Operand)
  (ho : o.op = .call { callee := .builtin .append, args := #[s, x], argTypes := #[ts, ts] })
  {base : Nat} {A : Option Addr} {n c : Nat} {l : List UInt8} (hs : a.eval s = .slice A n c) (hown : Ob w base A n c l)
  {A2 : Option Addr} {n2 c2 : Nat} {l2 : List UInt8} (hx : a.eval x = .slice A2 n2 c2) (hr : Rb w A2 n2 c2 l2) (hm : n + n2 ≤ 1099511627776) (hbase : base ≤ w.heap.size)
  (h : ∀ A' n' c' w', Ob w' base A' n' c' (l ++ l2) → Below base w w' → w.grownBy w' (Value.slice A n c).ownBlock → (∀ k, (Value.slice A' n' c').ownBlock = some k → (Value.slice A n c).ownBlock = some k ∨ w.heap.size ≤ k) → wpList P ops Q rest (a.put o.dst (.slice A' n' c')) w') : wpList P ops Q (o :: rest) a w := by
 refine wpList_plain hgd fun _ hK => ?_
 obtain ⟨A', n', c', w', hrun, h2, h3, h4, h5⟩ := run_appB (P := P) w (ty := o.type) bt hown hr hm hbase
 unfold Oper.wp execOp
 simp only [ho, resolve, invoke, builtin, Sem.run_bind, Sem.run_pure, Result.andThen_ok, List.map_toArray, List.map_cons, List.map_nil, hs, hx, hrun]
 refine hK _ _ (h A' n' c' w' h2 h3 h4 (fun k hk => ?_))
 rcases h5 with h5 | h5
 ·exact .inl (by rw [← h5]; exact hk)
 ·rw [h5] at hk
  injection hk with hk
  exact .inr (by omega)
theorem apart_app {w : World} {A A' B : Option Addr} {n c n' c' m d base : Nat} {l : List UInt8} (h : ∀ k, (Value.slice A n c).ownBlock = some k → (Value.slice B m d).ownBlock ≠ some k) (hn : ∀ k, (Value.slice A' n' c').ownBlock = some k → (Value.slice A n c).ownBlock = some k ∨ w.heap.size ≤ k) (hb : Ob w base B m d l) : ∀ k, (Value.slice A' n' c').ownBlock = some k → (Value.slice B m d).ownBlock ≠ some k := by
 intro k hk e
 rcases hn k hk with h1 | h1
 ·exact h k h1 e
 ·have := (hb.blk k e).2; omega
def evI (S : Stk) (i : Nat) : List Nat := (List.range i).filter fun k : Nat => deadS S (k : Int)
def bzI (S : Stk) (i : Nat) : List Nat := (List.range (min i 8)).filter fun k => S.bz.testBit k
theorem evI_succ (S : Stk) (i : Nat) : evI S (i + 1) = if deadS S (i : Int) = true then evI S i ++ [i] else evI S i := by
 unfold evI
 rw [List.range_succ, List.filter_append]
 split <;> rename_i h <;> simp [h]
theorem bzI_succ (S : Stk) (i : Nat) (h : i < 8) : bzI S (i + 1) = if S.bz.testBit i = true then bzI S i ++ [i] else bzI S i := by
 unfold bzI
 rw [Nat.min_eq_left (by omega), Nat.min_eq_left (by omega), List.range_succ, List.filter_append]
 split <;> rename_i h <;> simp [h]
theorem bzI_big (S : Stk) (i : Nat) (h : ¬ i < 8) : bzI S (i + 1) = bzI S i := by
 unfold bzI
 rw [Nat.min_eq_right (by omega), Nat.min_eq_right (by omega)]
theorem evI_len (S : Stk) (i : Nat) : (evI S i).length ≤ i := by
 unfold evI
 exact Nat.le_trans (List.length_filter_le _ _) (by simp)
theorem bzI_len (S : Stk) (i : Nat) : (bzI S i).length ≤ 8 := by
 unfold bzI
 exact Nat.le_trans (List.length_filter_le _ _) (by simp; omega)
theorem evI_all (S : Stk) : evI S 65 = setL S.ev 1 := by
 unfold evI setL
 rw [List.range_succ_eq_map, List.filter_cons, if_neg (by unfold deadS hasB; simp), List.filter_map]
 have : ∀ i ∈ List.range 64, ((fun k : Nat => deadS S (k : Int)) ∘ Nat.succ) i = S.ev.testBit i := fun i hi => by
  have hi := List.mem_range.1 hi
  unfold deadS hasB
  simp only [Function.comp, Nat.succ_eq_add_one]
  rw [decide_eq_true (by omega), decide_eq_true (by omega)]
  simp
 rw [List.filter_congr this]
theorem bzI_all (S : Stk) (h : S.bz < 256) : bzI S 65 = setL S.bz 0 := by
 unfold bzI setL
 rw [show min 65 8 = 8 from rfl, filter_range_skip S.bz 8 64 (fun i h1 h2 => Nat.testBit_lt_two_pow (Nat.lt_of_lt_of_le h (by exact Nat.pow_le_pow_right (by decide) h1 : 2 ^ 8 ≤ 2 ^ i))) (by decide)]
 simp
theorem numsB_snoc (l : List Nat) (i : Nat) : numsB (l ++ [i]) = numsB l ++ dig i 1 := by simp [numsB]
theorem dig1_bcs (i : Nat) (h : i < 256) : [Value.int .u8 (i : Int)] = bcs (dig i 1) := by simp [bcs, dig]; omega
theorem cell_below {w w' : World} {p : Addr} {v : Value} (hb : Below w.heap.size w w') (h : w.cell? p = some v) : w'.cell? p = some v := by
 have hlt : p.block < w.heap.size := by
  refine Nat.lt_of_not_le (fun hge => ?_)
  have h0 : w.heap[p.block]? = none := Array.getElem?_eq_none hge
  unfold World.cell? at h
  simp [h0] at h
 obtain ⟨g, o, m⟩ := p
 exact (World.cell?_of_block (hb.block g hlt)).trans h
theorem refStkBytes_any (S : Stk) (hok : StkOk S) (A : Option Addr) (n c : Nat) (w : World) {D : Nat → Prop} (hR : RSt D w S.lv A n c) : Calls Tryz.prog 43 #[.agg (rstC A n c S).toArray] w (RetB w (stkB S)) := by
 have h8 := hok.len
 have hn := hR.len
 have hn8 : n ≤ 8 := by omega
 have HSV := Lib.hid (show stkB S = dig S.lv.length 1 ++ levsB S.lv ++ (dig (evI S 65).length 1 ++ numsB (evI S 65)) ++ (dig (bzI S 65).length 1 ++ numsB (bzI S 65)) by rw [evI_all, bzI_all S hok.bz]; rfl)
 have HRR := Lib.hid (fun W (h : Below w.heap.size w W) => hR.later h)
 have HRG := Lib.hid hok.rg
 have HNN := Lib.hid hn
 have e3 : IntKind.u8.wrap (n : Int) = (n : Int) := by rw [IntKind.wrap_u8]; omega
 have hdn := Lib.hid (dig1_bcs n (by omega))
 clear hR hn
 obtain ⟨dvr1, vr1, vr2⟩ := rowRst
 obtain ⟨bs, be, zV⟩ := box1 w 113 (rstC A n c S)
 go_enter Tryz.func43, Tryz.ntmps43
 go_upto_region 1 with (fail)
 generalize w.alloc (.cells (rstC A n c S).toArray 113) = V at *
 have hVs : V.heap.size = w.heap.size + 1 ∨ True := .inr trivial
 have q0 : V.cell? ⟨w.heap.size, 0, none⟩ = some (.slice A n c) := bs.cell 0
 go_upto_region 3 with (fail)
 have hst0 : Ob (V.alloc (.cells #[.int .u8 (n : Int)] 5)) V.heap.size (some ⟨V.heap.size, 0, none⟩) 1 1 (dig S.lv.length 1) := by rw [← HNN.out]; exact Ob.lit V (Nat.le_refl _) #[.int .u8 (n : Int)] (dig n 1) 1 (by simp [dig_length]) (by decide) hdn.out
 have HST := Lib.hid (And.intro hst0 (Below.allocS (Below.refl V.heap.size V) (.cells #[.int .u8 (n : Int)] 5)))
 have HBS := Lib.hid (And.intro bs be)
 have HQ00 := Lib.hid (fun W' (h : Below V.heap.size V W') => show W'.cell? ⟨w.heap.size, 0, none⟩ = some (.slice A n c) from (bs.later h).cell 0)
 have hbs := be.size
 clear hst0 q0 bs be hVs
 go_loopw [3, 4] (fun OUT I wr => ∃ (qi : Nat) (Bk : Option Addr) (kk dk : Nat), OUT = .slice Bk kk dk ∧ I = .int .i64 (qi : Int) ∧ qi ≤ n ∧ Ob wr V.heap.size Bk kk dk (dig S.lv.length 1 ++ levsB (S.lv.take qi)) ∧ Below V.heap.size V wr) (fun _ I _ => n - (intOf I).toNat)
 case atStart => exact ⟨0, _, 1, 1, rfl, rfl, Nat.zero_le _, by simpa [levsB] using HST.out.1, HST.out.2⟩
 case round =>
  clear HST
  obtain ⟨qi, Bk, kk, dk, rfl, rfl, hi, hO, hEV⟩ := hrel
  have q0 := HQ00.out wr hEV
  have hB0 : (dig S.lv.length 1 ++ levsB (S.lv.take qi)).length ≤ 1000 := by
   rw [List.length_append, dig_length]
   have h1 : (levsB (S.lv.take qi)).length ≤ 67 * (S.lv.take qi).length := levsB_len (fun e he => (HRG.out e (List.mem_of_mem_take he)).2)
   have h2 : (S.lv.take qi).length ≤ 8 := by simp; omega
   omega
  have hkk := hO.len
  by_cases hil : qi < n
  ·have hi1 : (qi : Int) < (n : Int) := by omega
   have hiL : qi < S.lv.length := by have := HNN.out; omega
   obtain ⟨bl, ol, At, nt, ct, hAe, hc1, hc2, hrt, -⟩ := (HRR.out V HBS.out.2).at_ qi hiL
   rw [hAe] at q0
   have htk : levsB (S.lv.take (qi + 1)) = levsB (S.lv.take qi) ++ (dig (S.lv[qi]'hiL).1 1 ++ tabB (S.lv[qi]'hiL).2) := by unfold levsB; rw [List.take_succ_eq_append_getElem hiL, List.flatMap_append]; simp [levB]
   have hmem := HRG.out _ (List.getElem_mem hiL)
   generalize S.lv[qi]'hiL = en at *
   obtain ⟨ver, tt⟩ := en
   have hv8 : ver < 8 := hmem.1
   have htt : TabOk tt := hmem.2
   have htt66 : (tabB tt).length ≤ 100 := by rw [tabB_len]; have := htt.len; omega
   have HTK := Lib.hid htk
   have HKB := Lib.hid (fun W (h : Kept (fun b => b < V.heap.size) wr W) => (h.below hEV.size (fun b hb => hb) : Below V.heap.size wr W))
   have HQ0 := Lib.hid (fun W (h : Below V.heap.size wr W) => show W.cell? ⟨w.heap.size, 0, none⟩ = some (.slice (some ⟨bl, ol, none⟩) n c) by rw [← hAe]; exact HQ00.out W (hEV.trans h))
   have HCC := Lib.hid (fun W (h : Below V.heap.size wr W) => show W.cell? ⟨bl, ol + qi * 2, none⟩ = some (.int .i64 (ver : Int)) ∧ W.cell? ⟨bl, ol + qi * 2 + 1, none⟩ = some (.slice At nt ct) ∧ Rs 1 W At nt ct (itK (refT tt)) from ⟨cell_below (hEV.trans h) hc1, cell_below (hEV.trans h) hc2, hrt.later (hEV.trans h)⟩)
   have HQ1 := Lib.hid (fun W h => (HCC.out W h).1)
   have HQ2 := Lib.hid (fun W h => (HCC.out W h).2.1)
   have HQ3 := Lib.hid (fun W h => (HCC.out W h).2.2)
   have HTB := Lib.hid (fun W (h : Rs 1 W At nt ct (itK (refT tt))) => refTabBytes_any tt htt At nt ct W h)
   have e5 : IntKind.u8.wrap (ver : Int) = (ver : Int) := by rw [IntKind.wrap_u8]; omega
   have hdv := Lib.hid (dig1_bcs ver (by omega))
   clear hc1 hc2 hrt hmem htk htt
   generalize hB0e : dig S.lv.length 1 ++ levsB (S.lv.take qi) = B0 at *
   have HB0 := Lib.hid hB0e
   clear hB0e
   go_upto_region 5 with (fail)
   refine wp_own (fun b => b < V.heap.size) 19 1 80 2 (fun i => match i with | i => i) (fun i => match i with | 0 => [19] | 9 => [0] | 17 => [9] | 18 => [17] | _ => []) (fun i => match i with | 19 => .slice Bk kk dk | _ => undef) rfl (by kernel_rfl) (by kernel_rfl) (fun i => match i with | 0 => Own.ob V.heap.size B0 | 1 => Own.eq (.pointer (some ⟨w.heap.size, 0, none⟩)) | 2 => Own.eq (.slice (some ⟨bl, ol, none⟩) n c) | 3 => Own.eq (.int .i64 (qi : Int)) | 4 => Own.eq (.pointer (some ⟨bl, ol + qi * 2, none⟩)) | 5 => Own.eq (.pointer (some ⟨bl, ol + qi * 2, none⟩)) | 6 => Own.eq (.int .i64 (ver : Int)) | 7 => Own.eq (.int .u8 (ver : Int)) | 8 => Own.ob V.heap.size (dig ver 1) | 9 => Own.ob V.heap.size (B0 ++ dig ver 1) | 10 => Own.eq (.pointer (some ⟨w.heap.size, 0, none⟩)) | 11 => Own.eq (.slice (some ⟨bl, ol, none⟩) n c) | 12 => Own.eq (.int .i64 (qi : Int)) | 13 => Own.eq (.pointer (some ⟨bl, ol + qi * 2, none⟩)) | 14 => Own.eq (.pointer (some ⟨bl, ol + qi * 2 + 1, none⟩)) | 15 => Own.eq (.slice At nt ct) | 16 => Own.ob V.heap.size (tabB tt) | 17 => Own.ob V.heap.size ((B0 ++ dig ver 1) ++ tabB tt) | 18 => Own.ob V.heap.size ((B0 ++ dig ver 1) ++ tabB tt) | 19 => Own.ob V.heap.size (B0) | _ => Own.any) (fun b h => Nat.lt_of_lt_of_le h hEV.size) ?_ ?_ ?_ ?_ ?_
   ·exact fun t ht => by obtain rfl : t = 0 := (by omega); exact ⟨_, _, _, rfl, hO⟩
   ·exact fun t t' h1 h2 hne => absurd (show t = t' by omega) hne
   ·exact fun t ht b hb hp => by obtain rfl : t = 0 := (by omega); have h1 := (hO.blk b hb).1; have h2 : b < V.heap.size := hp; omega
   ·intro i hi o ho FA w' vs H K hK
    match i, hi, ho, H, hK with
    | 0, _, ho, H, hK => 
     obtain rfl := qoi ho
     have ev3 : FA.eval (.tmp 3) = .slice Bk kk dk := H.out 3 (by kernel_rfl)
     have e3 : FA.tmps[3]?.getD undef = .slice Bk kk dk := by simpa [Act.eval] using ev3
     replace ev3 := Lib.hid ev3
     have hv0 : vs 19 = .slice Bk kk dk := H.virt 19 (by omega)
     have hw := H.word 19 (by omega) (by kernel_rfl)
     rw [hv0] at hw
     go_simp
     exact hK.out _ _ (chgX (Ex.refl _)) hw (fun b hb => .inl ⟨19, rfl, by show (vs 19).ownBlock = some b; rw [hv0]; exact hb⟩)
    | 1, _, ho, H, hK => 
     obtain rfl := qoi ho
     have ev1 : FA.eval (.tmp 1) = .pointer (some ⟨w.heap.size, 0, none⟩) := H.out 1 (by kernel_rfl)
     have e1 : FA.tmps[1]?.getD undef = .pointer (some ⟨w.heap.size, 0, none⟩) := by simpa [Act.eval] using ev1
     replace ev1 := Lib.hid ev1
     go_simp
     exact hK.out _ _ (chgX (Ex.refl _)) rfl (fun _ h => h.elim)
    | 2, _, ho, H, hK => 
     obtain rfl := qoi ho
     have ev21 : FA.eval (.tmp 21) = .pointer (some ⟨w.heap.size, 0, none⟩) := (H.dep 1 21 (by kernel_rfl)).trans (H.word 1 (by omega) (by kernel_rfl))
     have e21 : FA.tmps[21]?.getD undef = .pointer (some ⟨w.heap.size, 0, none⟩) := by simpa [Act.eval] using ev21
     replace ev21 := Lib.hid ev21
     have q0 := HQ0.out w' (HKB.out _ H.kept)
     go_simp
     exact hK.out _ _ (chgX (Ex.refl _)) rfl (fun _ h => h.elim)
    | 3, _, ho, H, hK => 
     obtain rfl := qoi ho
     have ev4 : FA.eval (.tmp 4) = .int .i64 (qi : Int) := H.out 4 (by kernel_rfl)
     have e4 : FA.tmps[4]?.getD undef = .int .i64 (qi : Int) := by simpa [Act.eval] using ev4
     replace ev4 := Lib.hid ev4
     go_simp
     exact hK.out _ _ (chgX (Ex.refl _)) rfl (fun _ h => h.elim)
    | 4, _, ho, H, hK => 
     obtain rfl := qoi ho
     have ev22 : FA.eval (.tmp 22) = .slice (some ⟨bl, ol, none⟩) n c := (H.dep 2 22 (by kernel_rfl)).trans (H.word 2 (by omega) (by kernel_rfl))
     have e22 : FA.tmps[22]?.getD undef = .slice (some ⟨bl, ol, none⟩) n c := by simpa [Act.eval] using ev22
     replace ev22 := Lib.hid ev22
     have ev23 : FA.eval (.tmp 23) = .int .i64 (qi : Int) := (H.dep 3 23 (by kernel_rfl)).trans (H.word 3 (by omega) (by kernel_rfl))
     have e23 : FA.tmps[23]?.getD undef = .int .i64 (qi : Int) := by simpa [Act.eval] using ev23
     replace ev23 := Lib.hid ev23
     go_simp
     exact hK.out _ _ (chgX (Ex.refl _)) rfl (fun _ h => h.elim)
    | 5, _, ho, H, hK => 
     obtain rfl := qoi ho
     have ev24 : FA.eval (.tmp 24) = .pointer (some ⟨bl, ol + qi * 2, none⟩) := (H.dep 4 24 (by kernel_rfl)).trans (H.word 4 (by omega) (by kernel_rfl))
     have e24 : FA.tmps[24]?.getD undef = .pointer (some ⟨bl, ol + qi * 2, none⟩) := by simpa [Act.eval] using ev24
     replace ev24 := Lib.hid ev24
     go_simp
     exact hK.out _ _ (chgX (Ex.refl _)) rfl (fun _ h => h.elim)
    | 6, _, ho, H, hK => 
     obtain rfl := qoi ho
     have ev25 : FA.eval (.tmp 25) = .pointer (some ⟨bl, ol + qi * 2, none⟩) := (H.dep 5 25 (by kernel_rfl)).trans (H.word 5 (by omega) (by kernel_rfl))
     have e25 : FA.tmps[25]?.getD undef = .pointer (some ⟨bl, ol + qi * 2, none⟩) := by simpa [Act.eval] using ev25
     replace ev25 := Lib.hid ev25
     have q1 := HQ1.out w' (HKB.out _ H.kept)
     go_simp
     exact hK.out _ _ (chgX (Ex.refl _)) rfl (fun _ h => h.elim)
    | 7, _, ho, H, hK => 
     obtain rfl := qoi ho
     have ev26 : FA.eval (.tmp 26) = .int .i64 (ver : Int) := (H.dep 6 26 (by kernel_rfl)).trans (H.word 6 (by omega) (by kernel_rfl))
     have e26 : FA.tmps[26]?.getD undef = .int .i64 (ver : Int) := by simpa [Act.eval] using ev26
     replace ev26 := Lib.hid ev26
     go_simp
     exact hK.out _ _ (chgX (Ex.refl _)) rfl (fun _ h => h.elim)
    | 8, _, ho, H, hK => 
     obtain rfl := qoi ho
     have ev27 : FA.eval (.tmp 27) = .int .u8 (ver : Int) := (H.dep 7 27 (by kernel_rfl)).trans (H.word 7 (by omega) (by kernel_rfl))
     have e27 : FA.tmps[27]?.getD undef = .int .u8 (ver : Int) := by simpa [Act.eval] using ev27
     replace ev27 := Lib.hid ev27
     go_simp
     have ho1 := Ob.lit w' (Nat.le_refl _) #[.int .u8 (ver : Int)] (dig ver 1) 1 (by simp [dig_length]) (by decide) hdv.out
     exact hK.out _ _ (chgX (Ex.alloc _ _)) ⟨_, _, _, rfl, ho1.mono (Nat.le_trans hEV.size H.kept.size)⟩ (fun b hb => .inr (ho1.blk b hb).1)
    | 9, _, ho, H, hK => 
     obtain rfl := qoi ho
     clear ho
     have ev20 := H.dep 0 20 (by kernel_rfl)
     have e20 : FA.tmps[20]?.getD undef = vs 0 := by simpa [Act.eval] using ev20
     replace ev20 := Lib.hid ev20
     have ev28 := H.dep 8 28 (by kernel_rfl)
     have e28 : FA.tmps[28]?.getD undef = vs 8 := by simpa [Act.eval] using ev28
     replace ev28 := Lib.hid ev28
     obtain ⟨A1, n1, c1, hv1, h1⟩ := H.word 0 (by omega) (by kernel_rfl)
     obtain ⟨A2, n2, c2, hv2, h2⟩ := H.word 8 (by omega) (by kernel_rfl)
     have hn1 : n1 ≤ 1000 := by rw [← h1.1]; exact hB0
     have hn2 : n2 ≤ 100 := by rw [← h2.1]; simp [dig_length]
     refine wanted_if rfl ?_
     refine own_app bt (.tmp 20) (.tmp 28) rfl (ev20.out.trans hv1) h1 (ev28.out.trans hv2) h2.rb (by omega) (Nat.le_trans hEV.size H.kept.size) ?_
     intro A3 n3 c3 w3 ho3 hg3 hf3
     refine hK.out _ _ (Chg.grown hg3 (fun k hk => ⟨0, rfl, by show (vs 0).ownBlock = some k; rw [hv1]; exact hk⟩)) ⟨_, _, _, rfl, ho3⟩ (fun b hb => ?_)
     rcases hf3 b hb with h | h
     ·exact .inl ⟨0, rfl, by show (vs 0).ownBlock = some b; rw [hv1]; exact h⟩
     ·exact .inr h
    | 10, _, ho, H, hK => 
     obtain rfl := qoi ho
     have ev1 : FA.eval (.tmp 1) = .pointer (some ⟨w.heap.size, 0, none⟩) := H.out 1 (by kernel_rfl)
     have e1 : FA.tmps[1]?.getD undef = .pointer (some ⟨w.heap.size, 0, none⟩) := by simpa [Act.eval] using ev1
     replace ev1 := Lib.hid ev1
     go_simp
     exact hK.out _ _ (chgX (Ex.refl _)) rfl (fun _ h => h.elim)
    | 11, _, ho, H, hK => 
     obtain rfl := qoi ho
     have ev30 : FA.eval (.tmp 30) = .pointer (some ⟨w.heap.size, 0, none⟩) := (H.dep 10 30 (by kernel_rfl)).trans (H.word 10 (by omega) (by kernel_rfl))
     have e30 : FA.tmps[30]?.getD undef = .pointer (some ⟨w.heap.size, 0, none⟩) := by simpa [Act.eval] using ev30
     replace ev30 := Lib.hid ev30
     have q0 := HQ0.out w' (HKB.out _ H.kept)
     go_simp
     exact hK.out _ _ (chgX (Ex.refl _)) rfl (fun _ h => h.elim)
    | 12, _, ho, H, hK => 
     obtain rfl := qoi ho
     have ev4 : FA.eval (.tmp 4) = .int .i64 (qi : Int) := H.out 4 (by kernel_rfl)
     have e4 : FA.tmps[4]?.getD undef = .int .i64 (qi : Int) := by simpa [Act.eval] using ev4
     replace ev4 := Lib.hid ev4
     go_simp
     exact hK.out _ _ (chgX (Ex.refl _)) rfl (fun _ h => h.elim)
    | 13, _, ho, H, hK => 
     obtain rfl := qoi ho
     have ev31 : FA.eval (.tmp 31) = .slice (some ⟨bl, ol, none⟩) n c := (H.dep 11 31 (by kernel_rfl)).trans (H.word 11 (by omega) (by kernel_rfl))
     have e31 : FA.tmps[31]?.getD undef = .slice (some ⟨bl, ol, none⟩) n c := by simpa [Act.eval] using ev31
     replace ev31 := Lib.hid ev31
     have ev32 : FA.eval (.tmp 32) = .int .i64 (qi : Int) := (H.dep 12 32 (by kernel_rfl)).trans (H.word 12 (by omega) (by kernel_rfl))
     have e32 : FA.tmps[32]?.getD undef = .int .i64 (qi : Int) := by simpa [Act.eval] using ev32
     replace ev32 := Lib.hid ev32
     go_simp
     exact hK.out _ _ (chgX (Ex.refl _)) rfl (fun _ h => h.elim)
    | 14, _, ho, H, hK => 
     obtain rfl := qoi ho
     have ev33 : FA.eval (.tmp 33) = .pointer (some ⟨bl, ol + qi * 2, none⟩) := (H.dep 13 33 (by kernel_rfl)).trans (H.word 13 (by omega) (by kernel_rfl))
     have e33 : FA.tmps[33]?.getD undef = .pointer (some ⟨bl, ol + qi * 2, none⟩) := by simpa [Act.eval] using ev33
     replace ev33 := Lib.hid ev33
     go_simp
     exact hK.out _ _ (chgX (Ex.refl _)) rfl (fun _ h => h.elim)
    | 15, _, ho, H, hK => 
     obtain rfl := qoi ho
     have ev34 : FA.eval (.tmp 34) = .pointer (some ⟨bl, ol + qi * 2 + 1, none⟩) := (H.dep 14 34 (by kernel_rfl)).trans (H.word 14 (by omega) (by kernel_rfl))
     have e34 : FA.tmps[34]?.getD undef = .pointer (some ⟨bl, ol + qi * 2 + 1, none⟩) := by simpa [Act.eval] using ev34
     replace ev34 := Lib.hid ev34
     have q2 := HQ2.out w' (HKB.out _ H.kept)
     go_simp
     exact hK.out _ _ (chgX (Ex.refl _)) rfl (fun _ h => h.elim)
    | 16, _, ho, H, hK => 
     obtain rfl := qoi ho
     have ev35 : FA.eval (.tmp 35) = .slice At nt ct := (H.dep 15 35 (by kernel_rfl)).trans (H.word 15 (by omega) (by kernel_rfl))
     have e35 : FA.tmps[35]?.getD undef = .slice At nt ct := by simpa [Act.eval] using ev35
     replace ev35 := Lib.hid ev35
     go_simp
     refine (HTB.out w' (HQ3.out w' (HKB.out _ H.kept))).mono ?_
     rintro e w1 ⟨A1, n1, c1, bs2, d2, rfl, rfl, ho1⟩
     exact hK.out _ _ (chgX (Ex.plus_ _ _ _)) ⟨_, _, _, rfl, ho1.mono (Nat.le_trans hEV.size H.kept.size)⟩ (fun b hb => .inr (ho1.blk b hb).1)
    | 17, _, ho, H, hK => 
     obtain rfl := qoi ho
     clear ho
     have ev29 := H.dep 9 29 (by kernel_rfl)
     have e29 : FA.tmps[29]?.getD undef = vs 9 := by simpa [Act.eval] using ev29
     replace ev29 := Lib.hid ev29
     have ev36 := H.dep 16 36 (by kernel_rfl)
     have e36 : FA.tmps[36]?.getD undef = vs 16 := by simpa [Act.eval] using ev36
     replace ev36 := Lib.hid ev36
     obtain ⟨A1, n1, c1, hv1, h1⟩ := H.word 9 (by omega) (by kernel_rfl)
     obtain ⟨A2, n2, c2, hv2, h2⟩ := H.word 16 (by omega) (by kernel_rfl)
     have hn1 : n1 ≤ 1001 := by rw [← h1.1, List.length_append, dig_length]; omega
     have hn2 : n2 ≤ 100 := by rw [← h2.1]; exact htt66
     refine wanted_if rfl ?_
     refine own_app bt (.tmp 29) (.tmp 36) rfl (ev29.out.trans hv1) h1 (ev36.out.trans hv2) h2.rb (by omega) (Nat.le_trans hEV.size H.kept.size) ?_
     intro A3 n3 c3 w3 ho3 hg3 hf3
     refine hK.out _ _ (Chg.grown hg3 (fun k hk => ⟨9, rfl, by show (vs 9).ownBlock = some k; rw [hv1]; exact hk⟩)) ⟨_, _, _, rfl, ho3⟩ (fun b hb => ?_)
     rcases hf3 b hb with h | h
     ·exact .inl ⟨9, rfl, by show (vs 9).ownBlock = some b; rw [hv1]; exact h⟩
     ·exact .inr h
    | 18, _, ho, H, hK => 
     obtain rfl := qoi ho
     clear ho
     have ev37 := H.dep 17 37 (by kernel_rfl)
     have e37 : FA.tmps[37]?.getD undef = vs 17 := by simpa [Act.eval] using ev37
     replace ev37 := Lib.hid ev37
     have hw := H.word 17 (by omega) (by kernel_rfl)
     go_simp
     exact hK.out _ _ (chgX (Ex.refl _)) hw (fun b hb => .inl ⟨17, rfl, hb⟩)
    | (k + 19), hi, _, _, _ => exact absurd hi (by omega)
   intro vs w' hC hV hW hDis hFr
   have p1 : vs 1 = .pointer (some ⟨w.heap.size, 0, none⟩) := hW 1 (by omega) (by kernel_rfl)
   have p2 : vs 2 = .slice (some ⟨bl, ol, none⟩) n c := hW 2 (by omega) (by kernel_rfl)
   have p3 : vs 3 = .int .i64 (qi : Int) := hW 3 (by omega) (by kernel_rfl)
   have p4 : vs 4 = .pointer (some ⟨bl, ol + qi * 2, none⟩) := hW 4 (by omega) (by kernel_rfl)
   have p5 : vs 5 = .pointer (some ⟨bl, ol + qi * 2, none⟩) := hW 5 (by omega) (by kernel_rfl)
   have p6 : vs 6 = .int .i64 (ver : Int) := hW 6 (by omega) (by kernel_rfl)
   have p7 : vs 7 = .int .u8 (ver : Int) := hW 7 (by omega) (by kernel_rfl)
   have p8 := hW 8 (by omega) (by kernel_rfl)
   have p10 : vs 10 = .pointer (some ⟨w.heap.size, 0, none⟩) := hW 10 (by omega) (by kernel_rfl)
   have p11 : vs 11 = .slice (some ⟨bl, ol, none⟩) n c := hW 11 (by omega) (by kernel_rfl)
   have p12 : vs 12 = .int .i64 (qi : Int) := hW 12 (by omega) (by kernel_rfl)
   have p13 : vs 13 = .pointer (some ⟨bl, ol + qi * 2, none⟩) := hW 13 (by omega) (by kernel_rfl)
   have p14 : vs 14 = .pointer (some ⟨bl, ol + qi * 2 + 1, none⟩) := hW 14 (by omega) (by kernel_rfl)
   have p15 : vs 15 = .slice At nt ct := hW 15 (by omega) (by kernel_rfl)
   have p16 := hW 16 (by omega) (by kernel_rfl)
   have p18 := hW 18 (by omega) (by kernel_rfl)
   clear hW
   simp only [List.take_succ_cons, List.take_zero, List.drop_succ_cons, List.drop_zero, putAll, Nat.zero_add, Nat.reduceAdd, Act.put, qsT, qsZ, qsS, p1, p2, p3, p4, p5, p6, p7, p10, p11, p12, p13, p14, p15]
   obtain ⟨A5, n5, c5, hA5, ho5⟩ := p18
   replace hA5 : vs 18 = .slice A5 n5 c5 := hA5
   clear p16 p8 hDis hFr hV
   rw [hA5]
   have hE5 := hEV.trans (hC.below hEV.size (fun b hb => hb) : Below V.heap.size wr w')
   rw [List.append_assoc, ← HB0.out, List.append_assoc, ← HTK.out] at ho5
   go_wp2
   exact ⟨⟨qi + 1, A5, n5, c5, rfl, by go_num, by omega, ho5, hE5⟩, by simp [intOf]; omega⟩
  ·have hi1 : ¬ (qi : Int) < (n : Int) := by omega
   rw [List.take_of_length_le (by have := HNN.out; omega)] at hO hB0
   clear hi hil
   generalize hB1e : dig S.lv.length 1 ++ levsB S.lv = B1 at *
   clear hB1e
   have HBW := Lib.hid (fun W (h : Below wr.heap.size wr W) => (HBS.out.1.later hEV).later h)
   go_upto_region 8 with (fail)
   clear q0
   have HF := Lib.hid (And.intro hO hEV)
   clear hO hEV
   generalize wr = W0 at *
   have hKS := HF.out.2.size
   go_loopw [5, 6, 7] (fun AA BB I wr => ∃ (q : Nat) (A1 : Option Addr) (n1 c1 : Nat) (A2 : Option Addr) (n2 c2 : Nat), AA = .slice A1 n1 c1 ∧ BB = .slice A2 n2 c2 ∧ I = .int .i64 (q : Int) ∧ q ≤ 65 ∧ Ob wr W0.heap.size A1 n1 c1 (numsB (evI S q)) ∧ Ob wr W0.heap.size A2 n2 c2 (numsB (bzI S q)) ∧ (∀ k, (Value.slice A1 n1 c1).ownBlock = some k → (Value.slice A2 n2 c2).ownBlock ≠ some k) ∧ Below W0.heap.size W0 wr) (fun _ _ I _ => 65 - (intOf I).toNat)
   case atStart => exact ⟨0, none, 0, 0, none, 0, 0, rfl, rfl, rfl, by omega, Ob.nil_, Ob.nil_, (fun k hk => by cases hk), Below.refl _ _⟩
   case round =>
    obtain ⟨q, A1, n1, c1, A2, n2, c2, rfl, rfl, rfl, hq, h1, h2, hab, hE⟩ := hrel
    have hl1 := h1.len
    have hl2 := h2.len
    rw [numsB_len] at hl1 hl2
    have hl1b := evI_len S q
    have hl2b := bzI_len S q
    by_cases hq65 : q < 65
    ·have hq1 : (q : Int) < 65 := by omega
     have hwq : IntKind.u8.wrap (q : Int) = (q : Int) := by rw [IntKind.wrap_u8]; omega
     have hdq := Lib.hid (dig1_bcs q (by omega))
     have qe : wr.cell? ⟨w.heap.size, 1 + q, none⟩ = some (.bool (deadS S (q : Int))) := ((HBW.out wr hE).cell _).trans (rstC_ev A n c S q hq65)
     have hes := evI_succ S q
     cases hd : deadS S (q : Int)
     focus
      rw [hd] at qe hes
      have HES := Lib.hid (show evI S (q + 1) = evI S q from hes)
      clear hes hd
      rw [← HES.out] at h1
      go_upto_region 12 with (fail)
      clear qe
     rotate_left
     focus
      rw [hd] at qe hes
      have HES := Lib.hid (show evI S (q + 1) = evI S q ++ [q] from hes)
      clear hes hd
      go_upto_region 11 with (fail)
      clear qe
      have hr2 := h2.later (Below.allocS (Below.refl wr.heap.size wr) (.cells #[.int .u8 (q : Int)] 5))
      have hE6 := hE.trans ((Below.allocS (Below.refl wr.heap.size wr) (.cells #[.int .u8 (q : Int)] 5)).mono hE.size)
      refine wp_region_lit ?_
      iterate 4 (refine wpList_plain rfl (fun K hK => ?_); go_simp; with_reducible refine hK _ _ ?_; clear hK K)
      refine wpList_appB bt rfl (.tmp 46) (.tmp 49) rfl rfl (h1.later (Below.allocS (Below.refl _ _) _)) rfl (Ob.lit wr (Nat.le_refl _) _ (dig q 1) 1 (by simp [dig_length]) (by decide) hdq.out).rb (by omega) (by have := hE.size; simp; omega) ?_
      intro A1 n1 c1 wr hO7 hb7 hg7 hn7
      refine wpList_plain rfl (fun K hK => ?_); go_simp; with_reducible refine hK _ _ ?_; clear hK K
      have h17 : Ob wr W0.heap.size A1 n1 c1 (numsB (evI S (q + 1))) := by rw [HES.out, numsB_snoc]; exact hO7
      have h27 := hr2.grown hg7 (fun k hk e => hab k e hk)
      have hab7 := apart_app hab hn7 hr2
      have hE7 : Below W0.heap.size W0 wr := hE6.trans hb7
      have hl3 := h17.len
      rw [numsB_len] at hl3
      have hl3b := evI_len S (q + 1)
      clear h1 h2 hab hE hO7 hb7 hg7 hn7 hr2 hE6
      have h1 := h17
      have h2 := h27
      have hab := hab7
      have hE := hE7
      clear h17 h27 hab7 hE7
      go_upto_region 12 with (fail)
     iterate 2
      focus
       by_cases hq8 : q < 8
       ·have hq8i : (q : Int) < 8 := by omega
        have hbs := bzI_succ S q hq8
        cases hb : S.bz.testBit q
        ·rw [hb] at hbs
         have HBS2 := Lib.hid (show bzI S (q + 1) = bzI S q from hbs)
         have HTB := Lib.hid hb
         clear hbs hb
         refine wp_region_lit ?_
         iterate 3 (refine wpList_plain rfl (fun K hK => ?_); go_simp; with_reducible refine hK _ _ ?_; clear hK K)
         iterate 3 (refine wpList_step (fun K hK => ?_); go_simp; with_reducible refine hK _ _ ?_; clear hK K)
         refine wpList_ld1 (t := 113) (cs := rstC A n c S) 4 (.tmp 56) rfl (by go_simp) rfl (HBW.out _ hE) ((rstC_bz A n c S q hq8).trans (by rw [HTB.out])) Tryz.underlying4 rfl ?_
         refine wpList_plain rfl (fun K hK => ?_); go_simp; with_reducible refine hK _ _ ?_; clear hK K
         rw [← HBS2.out] at h2
         go_wp2
         exact ⟨⟨q + 1, A1, n1, c1, A2, n2, c2, rfl, rfl, by go_num, by omega, h1, h2, hab, hE⟩, by simp [intOf]; omega⟩
        ·rw [hb] at hbs
         have HBS2 := Lib.hid (show bzI S (q + 1) = bzI S q ++ [q] from hbs)
         have HTB := Lib.hid hb
         clear hbs hb
         refine wp_region_lit ?_
         iterate 3 (refine wpList_plain rfl (fun K hK => ?_); go_simp; with_reducible refine hK _ _ ?_; clear hK K)
         iterate 3 (refine wpList_step (fun K hK => ?_); go_simp; with_reducible refine hK _ _ ?_; clear hK K)
         refine wpList_ld1 (t := 113) (cs := rstC A n c S) 4 (.tmp 56) rfl (by go_simp) rfl (HBW.out _ hE) ((rstC_bz A n c S q hq8).trans (by rw [HTB.out])) Tryz.underlying4 rfl ?_
         refine wpList_plain rfl (fun K hK => ?_); go_simp; with_reducible refine hK _ _ ?_; clear hK K
         go_upto_region 13 with (fail)
         refine wp_region_lit ?_
         iterate 4 (refine wpList_plain rfl (fun K hK => ?_); go_simp; with_reducible refine hK _ _ ?_; clear hK K)
         refine wpList_appB bt rfl (.tmp 59) (.tmp 62) rfl rfl (h2.later (Below.allocS (Below.refl _ _) _)) rfl (Ob.lit wr (Nat.le_refl _) _ (dig q 1) 1 (by simp [dig_length]) (by decide) hdq.out).rb (by omega) (by have := hE.size; simp; omega) ?_
         intro A4 n4 c4 w8 hO7 hb7 hg7 hn7
         refine wpList_plain rfl (fun K hK => ?_); go_simp; with_reducible refine hK _ _ ?_; clear hK K
         have h28 : Ob w8 W0.heap.size A4 n4 c4 (numsB (bzI S (q + 1))) := by rw [HBS2.out, numsB_snoc]; exact hO7
         have hba : ∀ k, (Value.slice A2 n2 c2).ownBlock = some k → (Value.slice A1 n1 c1).ownBlock ≠ some k := fun k hk e => hab k e hk
         have h18 := (h1.later (Below.allocS (Below.refl wr.heap.size wr) (.cells #[.int .u8 (q : Int)] 5))).grown hg7 (fun k hk e => hba k e hk)
         have hba8 := apart_app hba hn7 (h1.later (Below.allocS (Below.refl wr.heap.size wr) (.cells #[.int .u8 (q : Int)] 5)))
         have hE8 : Below W0.heap.size W0 w8 := (hE.trans ((Below.allocS (Below.refl _ _) _).mono hE.size)).trans hb7
         go_wp2
         exact ⟨⟨q + 1, A1, n1, c1, A4, n4, c4, rfl, rfl, by go_num, by omega, h18, h28, fun k hk e => hba8 k e hk, hE8⟩, by simp [intOf]; omega⟩
       ·have hq8i : ¬ (q : Int) < 8 := by omega
        have HBS2 := Lib.hid (bzI_big S q hq8)
        refine wp_region_lit ?_
        iterate 3 (refine wpList_plain rfl (fun K hK => ?_); go_simp; with_reducible refine hK _ _ ?_; clear hK K)
        iterate 4 ((with_reducible refine wpList_skip ?_ ?_); (· first | (go_simp; done) | (go_simp; intro h; cases h)); simp only [Act.put, qsT, qsZ, qsS])
        refine wpList_plain rfl (fun K hK => ?_); go_simp; with_reducible refine hK _ _ ?_; clear hK K
        rw [← HBS2.out] at h2
        go_wp2
        exact ⟨⟨q + 1, A1, n1, c1, A2, n2, c2, rfl, rfl, by go_num, by omega, h1, h2, hab, hE⟩, by simp [intOf]; omega⟩
    ·have hq1 : ¬ (q : Int) < 65 := by omega
     have hq65' : q = 65 := by omega
     rw [hq65'] at h1 h2 hl1 hl2
     have hla : (evI S 65).length ≤ 65 := evI_len S 65
     have hlb : (bzI S 65).length ≤ 8 := bzI_len S 65
     clear hq hl1b hl2b hq65' hq65
     obtain ⟨hO0, hEV⟩ := HF.out
     have hOb := hO0.blk
     have hO := hO0.later hE
     have hkO := hO.len
     have hoa : ∀ k, (Value.slice Bk kk dk).ownBlock = some k → (Value.slice A1 n1 c1).ownBlock ≠ some k := fun k hk e => by have := (hOb k hk).2; have := (h1.blk k e).1; omega
     have hob : ∀ k, (Value.slice Bk kk dk).ownBlock = some k → (Value.slice A2 n2 c2).ownBlock ≠ some k := fun k hk e => by have := (hOb k hk).2; have := (h2.blk k e).1; omega
     have hE2 : Below V.heap.size V wr := hEV.trans (hE.mono hKS)
     have hwa : IntKind.u8.wrap (n1 : Int) = (n1 : Int) := by rw [IntKind.wrap_u8]; omega
     have hwb : IntKind.u8.wrap (n2 : Int) = (n2 : Int) := by rw [IntKind.wrap_u8]; omega
     have hda := Lib.hid (dig1_bcs n1 (by omega))
     have hdb := Lib.hid (dig1_bcs n2 (by omega))
     have HL1 := Lib.hid hl1
     have HL2 := Lib.hid hl2
     clear hO0 hOb hEV hE hl1 hl2 hab
     go_upto_region 14 with (fail)
     refine wp_region_lit ?_
     iterate 5 (refine wpList_plain rfl (fun K hK => ?_); go_simp; with_reducible refine hK _ _ ?_; clear hK K)
     refine wpList_appB bt rfl (.tmp 64) (.tmp 68) rfl rfl (hO.later (Below.allocS (Below.refl _ _) _)) rfl (Ob.lit wr (Nat.le_refl _) _ (dig n1 1) 1 (by simp [dig_length]) (by decide) hda.out).rb (by omega) (by have := hE2.size; simp; omega) ?_
     intro A5 m5 d5 w5 hOx hbx hgx hnx
     have hE3 : Below V.heap.size V w5 := (hE2.trans ((Below.allocS (Below.refl _ _) _).mono hE2.size)).trans hbx
     have hax := (h1.later (Below.allocS (Below.refl wr.heap.size wr) (.cells #[.int .u8 (n1 : Int)] 5))).grown hgx (fun k hk e => hoa k e hk)
     have hapx := apart_app hoa hnx (h1.later (Below.allocS (Below.refl wr.heap.size wr) (.cells #[.int .u8 (n1 : Int)] 5)))
     have h2x := (h2.later (Below.allocS (Below.refl wr.heap.size wr) (.cells #[.int .u8 (n1 : Int)] 5))).grown hgx (fun k hk e => hob k e hk)
     have hobx := apart_app hob hnx (h2.later (Below.allocS (Below.refl wr.heap.size wr) (.cells #[.int .u8 (n1 : Int)] 5)))
     have hlx : m5 ≤ kk + 1 := by have h1 := hOx.len; have h2 := hO.len; rw [List.length_append, dig_length] at h1; omega
     have hnn := HL1.out
     refine wpList_plain rfl (fun K hK => ?_); go_simp; with_reducible refine hK _ _ ?_; clear hK K
     refine wpList_appB bt rfl (.tmp 69) (.tmp 70) rfl rfl hOx rfl hax.rb (by omega) (by have := hE3.size; omega) ?_
     intro A6 m6 d6 w6 hOy hby hgy hny
     have h26 := h2x.grown hgy (fun k hk e => hobx k e hk)
     have hob6 := apart_app hobx hny h2x
     have hE4 : Below V.heap.size V w6 := hE3.trans hby
     refine wpList_plain rfl (fun K hK => ?_); go_simp; with_reducible refine hK _ _ ?_; clear hK K
     have hO6 := hOy
     have hly : m6 ≤ kk + 100 := by have h1 := hOy.len; have h2 := hOx.len; rw [List.length_append, numsB_len] at h1; omega
     clear hOx hbx hgx hnx hax hapx hlx hnn hOy hby hgy hny hE3 hE2 h2x hobx h2 hob hO
     have hE2 := hE4
     clear hE4
     have h2 := h26
     clear h1 hoa
     go_upto_region 15 with (fail)
     refine wp_region_lit ?_
     iterate 5 (refine wpList_plain rfl (fun K hK => ?_); go_simp; with_reducible refine hK _ _ ?_; clear hK K)
     refine wpList_appB bt rfl (.tmp 72) (.tmp 76) rfl rfl (hO6.later (Below.allocS (Below.refl _ _) _)) rfl (Ob.lit w6 (Nat.le_refl _) _ (dig n2 1) 1 (by simp [dig_length]) (by decide) hdb.out).rb (by omega) (by have := hE2.size; simp; omega) ?_
     intro A7 m7 d7 w7 hOx hbx hgx hnx
     have hE3 : Below V.heap.size V w7 := (hE2.trans ((Below.allocS (Below.refl _ _) _).mono hE2.size)).trans hbx
     have hax := (h2.later (Below.allocS (Below.refl w6.heap.size w6) (.cells #[.int .u8 (n2 : Int)] 5))).grown hgx (fun k hk e => hob6 k e hk)
     have hapx := apart_app hob6 hnx (h2.later (Below.allocS (Below.refl w6.heap.size w6) (.cells #[.int .u8 (n2 : Int)] 5)))
     have hlx : m7 ≤ m6 + 1 := by have h1 := hOx.len; have h2 := hO6.len; rw [List.length_append, dig_length] at h1; omega
     have hnn := HL2.out
     refine wpList_plain rfl (fun K hK => ?_); go_simp; with_reducible refine hK _ _ ?_; clear hK K
     refine wpList_appB bt rfl (.tmp 77) (.tmp 78) rfl rfl hOx rfl hax.rb (by omega) (by have := hE3.size; omega) ?_
     intro A8 m8 d8 w8 hOy hby hgy hny
     have hE4 : Below V.heap.size V w8 := hE3.trans hby
     refine wpList_plain rfl (fun K hK => ?_); go_simp; with_reducible refine hK _ _ ?_; clear hK K
     have hO8 := hOy
     have hly : m8 ≤ m6 + 100 := by have h1 := hOy.len; have h2 := hOx.len; rw [List.length_append, numsB_len] at h1; omega
     clear hOx hbx hgx hnx hax hapx hlx hnn hOy hby hgy hny hE3 hE2 hO6
     have hE2 := hE4
     clear hE4
     go_wp2
     go_ret
     rw [HSV.out, HL1.out, HL2.out]
     refine RetB.mk (A := A8) (n := m8) (c := d8) ?_ (HBS.out.2.trans (hE2.mono hbs))
     have h9 := hO8.mono hbs
     simpa only [List.append_assoc] using h9
end

section
open Go.RowKit Go.Lib
def adF (a : Adr) : List Value := adC a.1 a.2.1 a.2.2
theorem adF_len (a : Adr) : (adF a).length = 3 := rfl
def adZ (o : Option Adr) : Adr := o.getD (false, 0, 0)
def rcL (num : Nat) (key : List UInt8) (now : Nat) (al : List Adr) (bs : List Bool) (A : Option Addr) (n c : Nat) : List Value := .int .u64 (num : Int) :: (ringC key now ++ (al.flatMap adF ++ (bs.map Value.bool ++ [.slice A n c])))
def rcC (C : Cf) (A : Option Addr) (n c : Nat) : List Value := rcL C.num C.key C.now (C.bk.map adZ) (C.bk.map Option.isSome) A n c
section
variable (num : Nat) (key : List UInt8) (now : Nat) (al : List Adr) (bs : List Bool) (A : Option Addr) (n c : Nat)
theorem rcL_len (hk : key.length = 16) (ha : al.length = 65) (hb : bs.length = 65) : (rcL num key now al bs A n c).length = 279 := by
 simp [rcL, ringC, bcs_length, hk, flat_len adF 3 adF_len, ha, hb]
theorem rcL_one : ∀ u ∈ rcL num key now al bs A n c, u.oneCell' = true := by
 intro u hu
 unfold rcL at hu
 rcases List.mem_cons.1 hu with rfl | hu
 ·rfl
 rcases List.mem_append.1 hu with hu | hu
 ·exact ringC_one _ _ u hu
 rcases List.mem_append.1 hu with hu | hu
 ·obtain ⟨a, _, ha⟩ := List.mem_flatMap.1 hu
  simp [adF, adC] at ha
  rcases ha with rfl | rfl | rfl <;> rfl
 rcases List.mem_append.1 hu with hu | hu
 ·obtain ⟨b, _, rfl⟩ := List.mem_map.1 hu
  rfl
 ·simp at hu
  subst hu
  rfl
theorem rcL_ring (hk : key.length = 16) : ((rcL num key now al bs A n c).drop 1).take (ringC key now).length = ringC key now := by
 unfold rcL
 rw [List.drop_succ_cons, List.drop_zero, List.take_left]
theorem rcL_now (hk : key.length = 16) : (rcL num key now al bs A n c)[17]? = some (.int .u64 (now : Int)) := by
 unfold rcL
 rw [List.getElem?_cons_succ, List.getElem?_append_left (by simp [ringC, bcs_length, hk])]
 exact ringC_16 key hk now
theorem rcL_setNow (hk : key.length = 16) (m : Nat) : (rcL num key now al bs A n c).set 17 (.int .u64 (m : Int)) = rcL num key m al bs A n c := by
 unfold rcL
 rw [List.set_cons_succ, List.set_append_left _ _ (by simp [ringC, bcs_length, hk])]
 congr 2
 unfold ringC
 rw [List.set_append_right _ _ (by simp [bcs_length, hk])]
 simp [bcs_length, hk]
theorem rcL_vips (hk : key.length = 16) (ha : al.length = 65) (hb : bs.length = 65) : (rcL num key now al bs A n c)[278]? = some (.slice A n c) := by
 unfold rcL
 rw [List.getElem?_cons_succ, List.getElem?_append_right (by simp [ringC, bcs_length, hk]), List.getElem?_append_right (by simp [ringC, bcs_length, hk, flat_len adF 3 adF_len, ha]), List.getElem?_append_right (by simp [ringC, bcs_length, hk, flat_len adF 3 adF_len, ha, hb])]
 simp [ringC, bcs_length, hk, flat_len adF 3 adF_len, ha, hb]
theorem rcL_setVips (hk : key.length = 16) (ha : al.length = 65) (hb : bs.length = 65) (A' : Option Addr) (n' c' : Nat) : (rcL num key now al bs A n c).set 278 (.slice A' n' c') = rcL num key now al bs A' n' c' := by
 unfold rcL
 rw [List.set_cons_succ, List.set_append_right _ _ (by simp [ringC, bcs_length, hk]), List.set_append_right _ _ (by simp [ringC, bcs_length, hk, flat_len adF 3 adF_len, ha]), List.set_append_right _ _ (by simp [ringC, bcs_length, hk, flat_len adF 3 adF_len, ha, hb])]
 simp [ringC, bcs_length, hk, flat_len adF 3 adF_len, ha, hb]
theorem rcL_bool (hk : key.length = 16) (ha : al.length = 65) (hb : bs.length = 65) (i : Nat) (hi : i < 65) : (rcL num key now al bs A n c)[213 + i]? = some (.bool (bs.getD i false)) := by
 unfold rcL
 rw [show 213 + i = (212 + i) + 1 by omega, List.getElem?_cons_succ, List.getElem?_append_right (by simp [ringC, bcs_length, hk]; omega), List.getElem?_append_right (by simp [ringC, bcs_length, hk, flat_len adF 3 adF_len, ha]; omega), List.getElem?_append_left (by simp [ringC, bcs_length, hk, flat_len adF 3 adF_len, ha, hb]; omega)]
 have e : 212 + i - (ringC key now).length - (al.flatMap adF).length = i := by simp [ringC, bcs_length, hk, flat_len adF 3 adF_len, ha]; omega
 rw [e, List.getElem?_map, List.getElem?_eq_getElem (by omega), List.getD_eq_getElem?_getD, List.getElem?_eq_getElem (by omega)]
 rfl
theorem rcL_setBool (hk : key.length = 16) (ha : al.length = 65) (hb : bs.length = 65) (i : Nat) (hi : i < 65) (b : Bool) : (rcL num key now al bs A n c).set (213 + i) (.bool b) = rcL num key now al (bs.set i b) A n c := by
 unfold rcL
 rw [show 213 + i = (212 + i) + 1 by omega, List.set_cons_succ, List.set_append_right _ _ (by simp [ringC, bcs_length, hk]; omega), List.set_append_right _ _ (by simp [ringC, bcs_length, hk, flat_len adF 3 adF_len, ha]; omega), List.set_append_left _ _ (by simp [ringC, bcs_length, hk, flat_len adF 3 adF_len, ha, hb]; omega)]
 have e : 212 + i - (ringC key now).length - (al.flatMap adF).length = i := by simp [ringC, bcs_length, hk, flat_len adF 3 adF_len, ha]; omega
 rw [e, List.map_set]
theorem rcL_setAd (hk : key.length = 16) (ha : al.length = 65) (i : Nat) (hi : i < 65) (a : Adr) : splice (rcL num key now al bs A n c) (18 + i * 3) (adF a) = rcL num key now (al.set i a) bs A n c := by
 unfold rcL
 rw [show 18 + i * 3 = 1 + (17 + i * 3) by omega, splice_cons]
 congr 1
 have hr : (ringC key now).length = 17 := by simp [ringC, bcs_length, hk]
 have hf := flat_len adF 3 adF_len al
 have e : splice (ringC key now ++ (al.flatMap adF ++ (bs.map Value.bool ++ [.slice A n c]))) (17 + i * 3) (adF a) = ringC key now ++ splice (al.flatMap adF ++ (bs.map Value.bool ++ [.slice A n c])) (i * 3) (adF a) := by
  unfold splice
  rw [← hr, List.take_length_add_append, List.append_assoc]
  congr 3
  rw [Nat.add_assoc, List.drop_length_add_append]
 rw [e, splice_app _ _ _ _ (by rw [adF_len, hf]; omega), flat_splice adF 3 adF_len _ _ (by omega)]
end
structure Rx where
 A : Option Addr
 n : Nat
 c : Nat
 B : Option Addr
 m : Nat
 d : Nat
abbrev Re := Vp × Rx
def rvC (x : Re) : List Value := adF x.1.ad ++ ([.int .u16 (x.1.pt : Int), .int .u8 (x.1.pr : Int), .int .i64 x.1.wy, .slice x.2.A x.2.n x.2.c] ++ rstC x.2.B x.2.m x.2.d x.1.S)
theorem rvC_len (x : Re) : (rvC x).length = 81 := by simp [rvC, adF_len, rstC_len]
theorem rvC_one (x : Re) : ∀ u ∈ rvC x, u.oneCell' = true := by
 intro u hu
 unfold rvC at hu
 rcases List.mem_append.1 hu with hu | hu
 ·simp [adF, adC] at hu
  rcases hu with rfl | rfl | rfl <;> rfl
 rcases List.mem_append.1 hu with hu | hu
 ·simp at hu
  rcases hu with rfl | rfl | rfl | rfl <;> rfl
 ·exact rstC_one _ _ _ _ u hu
structure RcX (G : Nat → Prop) (w : World) (C : Cf) (A : Option Addr) (n c : Nat) (E : List Re) : Prop where
 vs : E.map (·.1) = C.vs
 row : Rs 81 w A n c (E.flatMap rvC)
 off : Off G w A
 mm : ∀ x ∈ E, Rs 2 w x.2.A x.2.n x.2.c (prs .i64 x.1.ms)
 mo : ∀ x ∈ E, Off G w x.2.A
 ss : ∀ x ∈ E, RSt G w x.1.S.lv x.2.B x.2.m x.2.d
section
variable {G : Nat → Prop} {w w' : World} {C : Cf} {A : Option Addr} {n c : Nat} {E : List Re}
theorem RcX.len (h : RcX G w C A n c E) : E.length = C.vs.length := by rw [← h.vs]; simp
theorem RcX.n_ (h : RcX G w C A n c E) : n = C.vs.length := by
 have := h.row.1
 rw [flat_len rvC 81 rvC_len] at this
 have := h.len
 omega
theorem RcX.later (h : RcX G w C A n c E) (hb : Below w.heap.size w w') : RcX G w' C A n c E :=
 ⟨h.vs, h.row.later hb, h.off.size hb.size, fun x hx => (h.mm x hx).later hb, fun x hx => (h.mo x hx).size hb.size, fun x hx => (h.ss x hx).later hb⟩
theorem RcX.chg {D : Nat → Prop} (h : RcX G w C A n c E) (hc : Chg D w w') (hd : ∀ b, D b → G b) : RcX G w' C A n c E :=
 ⟨h.vs, h.row.chg hc (fun a ha hD => (h.off a ha).2 (hd _ hD)), h.off.size hc.size, fun x hx => (h.mm x hx).chg hc (fun a ha hD => (h.mo x hx a ha).2 (hd _ hD)), fun x hx => (h.mo x hx).size hc.size, fun x hx => (h.ss x hx).chg ⟨hc.os, hc.tape, hc.output, hc.size, fun b hb hn => hc.block b hb (fun hD => hn (hd b hD))⟩⟩
theorem RcX.more {G' : Nat → Prop} (h : RcX G w C A n c E) (hd : ∀ b, G' b → G b ∨ w.heap.size ≤ b) : RcX G' w C A n c E :=
 ⟨h.vs, h.row, h.off.more hd, h.mm, fun x hx => (h.mo x hx).more hd, fun x hx => (h.ss x hx).more hd⟩
end
end

section
open Go.Lib
open Go.RowKit
attribute [local go_sem ↓] sliced_cut
attribute [local go_sem] cutA_zero
theorem rowRcS : ∃ d, Tryz.prog.underlying 37 = some d ∧ d.isRow = true := ⟨_, Tryz.underlying37, rfl⟩
theorem szRcS (C : Cf) (hk : C.key.length = 16) (hb : C.bk.length = 65) (A : Option Addr) (n c : Nat) : (Tryz.prog.info? 37).map (·.size) = some (rcC C A n c).length := by rw [show (rcC C A n c).length = 279 from rcL_len _ _ _ _ _ _ _ _ hk (by simp [hb]) (by simp [hb])]; kernel_rfl
theorem rowRv : ∃ d, Tryz.prog.underlying 115 = some d ∧ d.isRow = true := ⟨_, Tryz.underlying115, rfl⟩
theorem szRv (x : Re) : (Tryz.prog.info? 115).map (·.size) = some (rvC x).length := by rw [rvC_len]; kernel_rfl
theorem rcC_vips (C : Cf) (hk : C.key.length = 16) (hb : C.bk.length = 65) (A : Option Addr) (n c : Nat) : (rcC C A n c)[278]? = some (.slice A n c) := rcL_vips _ _ _ _ _ _ _ _ hk (by simp [hb]) (by simp [hb])
theorem rcC_bool (C : Cf) (hk : C.key.length = 16) (hb : C.bk.length = 65) (A : Option Addr) (n c i : Nat) (h0 : 1 ≤ i) (h64 : i ≤ 64) : (rcC C A n c)[213 + i]? = some (.bool (knC C (i : Int))) := by
 have h := rcL_bool C.num C.key C.now (C.bk.map adZ) (C.bk.map Option.isSome) A n c hk (by simp [hb]) (by simp [hb]) i (by omega)
 have e : (C.bk.map Option.isSome).getD i false = knC C (i : Int) := by
  unfold knC
  rw [decide_eq_true (by omega), decide_eq_true (by omega), List.getD_eq_getElem?_getD, List.getElem?_map, Int.toNat_natCast, List.getD_eq_getElem?_getD]
  cases C.bk[i]? <;> rfl
 rw [← e]
 exact h
set_option maxHeartbeats 4000000 in
set_option maxRecDepth 100000 in
theorem refKnown_any (C : Cf) (hk : C.key.length = 16) (hb : C.bk.length = 65) (A : Option Addr) (n c : Nat) (v : Int) (w : World) : Calls Tryz.prog 125 #[.agg (rcC C A n c).toArray, .int .i64 v] w (RetV w (.bool (knC C v))) := by
 by_cases h1 : 1 ≤ v
 ·by_cases h2 : v ≤ 64
  ·obtain ⟨i, rfl⟩ : ∃ i : Nat, v = i := ⟨v.toNat, by omega⟩
   have i65 : (i : Int) < 65 := by omega
   obtain ⟨dvs1, vs1, vs2⟩ := rowRcS
   obtain ⟨bs, be, zV⟩ := box1 w 37 (rcC C A n c)
   go_enter Tryz.func125, Tryz.ntmps125
   go_upto_region 1 with (fail)
   generalize w.alloc (.cells (rcC C A n c).toArray 37) = V at *
   have q0 : V.cell? ⟨w.heap.size, 213 + i, none⟩ = some (.bool (knC C (i : Int))) := (bs.cell _).trans (rcC_bool C hk hb A n c i (by omega) (by omega))
   generalize knC C (i : Int) = kb at *
   clear bs
   go_wp2
   go_ret
   exact RetV.is_ rfl be
  ·have hh := Lib.hid (show knC C v = false by unfold knC; rw [decide_eq_false h2]; simp)
   obtain ⟨dvs1, vs1, vs2⟩ := rowRcS
   obtain ⟨bs, be, zV⟩ := box1 w 37 (rcC C A n c)
   go_enter Tryz.func125, Tryz.ntmps125
   go_upto_region 1 with (fail)
   generalize w.alloc (.cells (rcC C A n c).toArray 37) = V at *
   clear bs
   go_wp2
   go_ret
   rw [hh.out]
   exact RetV.is_ rfl be
 ·have hh := Lib.hid (show knC C v = false by unfold knC; rw [decide_eq_false h1]; rfl)
  obtain ⟨dvs1, vs1, vs2⟩ := rowRcS
  obtain ⟨bs, be, zV⟩ := box1 w 37 (rcC C A n c)
  go_enter Tryz.func125, Tryz.ntmps125
  go_upto_region 1 with (fail)
  generalize w.alloc (.cells (rcC C A n c).toArray 37) = V at *
  clear bs
  go_wp2
  go_ret
  rw [hh.out]
  exact RetV.is_ rfl be
theorem rng_rv {w : World} {b o : Nat} {x : Re} (h : w.rangeAt b o (rvC x)) : w.rangeAt b o (adC x.1.ad.1 x.1.ad.2.1 x.1.ad.2.2) ∧ w.cell? ⟨b, o + 3, none⟩ = some (.int .u16 (x.1.pt : Int)) ∧ w.cell? ⟨b, o + 4, none⟩ = some (.int .u8 (x.1.pr : Int)) :=
 ⟨fun i u hu => h i u (by
  have hk3 := (List.getElem?_eq_some_iff.1 hu).1
  rw [← hu]
  match i, hk3 with
  | 0, _ => rfl
  | 1, _ => rfl
  | 2, _ => rfl), h 3 _ rfl, h 4 _ rfl⟩
section
attribute [local go_sem ↓] eqC_ad
set_option maxHeartbeats 4000000 in
set_option maxRecDepth 100000 in
theorem rcFind_any (C : Cf) (hk : C.key.length = 16) (hb : C.bk.length = 65) (A : Option Addr) (n c : Nat) (E : List Re) (hE0 : E.map (·.1) = C.vs) (six : Bool) (ah al : Nat) (pt pr : Nat) (w : World) (hr : Rs 81 w A n c (E.flatMap rvC)) (hn : n ≤ 1000) : Calls Tryz.prog 124 #[.agg (rcC C A n c).toArray, .agg (adC six ah al).toArray, .int .u16 (pt : Int), .int .u8 (pr : Int)] w (RetV w (.int .i64 (fdI C (six, ah, al) pt pr))) := by
 have hlE : E.length = C.vs.length := by rw [← hE0]; simp
 have hln : E.length = n := by have := hr.1; rw [flat_len rvC 81 rvC_len] at this; omega
 obtain ⟨dvs1, vs1, vs2⟩ := rowRcS
 obtain ⟨dva1, va1, va2⟩ := rowAdC
 obtain ⟨bs, ba, be, zV⟩ := box2 w 37 32 (rcC C A n c) (adC six ah al)
 go_enter Tryz.func124, Tryz.ntmps124
 go_upto_region 1 with (fail)
 generalize (w.alloc (.cells (rcC C A n c).toArray 37)).alloc (.cells (adC six ah al).toArray 32) = V at *
 have HS := Lib.hid bs
 have HF := Lib.hid ba
 have HB := Lib.hid be
 have hlt0 : fdC C (six, ah, al) pt pr ≤ C.vs.length := List.findIdx_le_length
 clear ba be bs
 go_upto_region 2 with (fail)
 go_loopw [9] (fun I wr => ∃ i : Nat, i ≤ n ∧ i ≤ fdC C (six, ah, al) pt pr ∧ I = .int .i64 (i : Int) ∧ Below w.heap.size w wr ∧ Bk wr w.heap.size 37 (rcC C A n c) ∧ Bk wr (w.heap.size + 1) 32 (adC six ah al)) (fun I _ => n - (intOf I).toNat)
 case atStart => exact ⟨0, Nat.zero_le _, Nat.zero_le _, rfl, HB.out, HS.out, HF.out⟩
 case round =>
  clear HF HB HS
  obtain ⟨i, hi, hif, rfl, hE, bs, ba⟩ := hrel
  have q0 : wr.cell? ⟨w.heap.size, 278, none⟩ = some (.slice A n c) := (bs.cell _).trans (rcC_vips C hk hb _ n c)
  by_cases hlt : i < n
  ·have ii : (i : Int) < (n : Int) := by omega
   obtain ⟨b, off, rfl, hbl, -⟩ := hr.at_ (by omega) (by decide)
   have hst := fdC_step C (six, ah, al) pt pr i hif (by omega)
   have hrg : ∀ W, Below w.heap.size w W → W.rangeAt b (off + i * 81) (rvC E[i]) := fun W h => (hr.later h).rangeE rvC_len i (by omega)
   have hCi : C.vs[i]'(by omega) = E[i].1 := by simp [← hE0]
   rw [hCi] at hst
   have HQ := Lib.hid (fun W h => rng_rv (hrg W h))
   have H8 := Lib.hid (fun W (h : Below wr.heap.size wr W) => show W.cell? ⟨w.heap.size, 278, none⟩ = some (.slice (some ⟨b, off, none⟩) n c) from ((bs.later h).cell _).trans (rcC_vips C hk hb _ n c))
   clear hrg hCi
   generalize E[i].1 = v at *
   have hcase : (eqAd v.ad.1 v.ad.2.1 v.ad.2.2 six ah al = true ∧ decide (v.ad = (six, ah, al)) = true ∧ ((v.pt : Int) == (pt : Int)) = true ∧ ((v.pr : Int) == (pr : Int)) = true ∧ Hid (fdI C (six, ah, al) pt pr = (i : Int))) ∨
     (eqAd v.ad.1 v.ad.2.1 v.ad.2.2 six ah al = true ∧ decide (v.ad = (six, ah, al)) = true ∧ ((v.pt : Int) == (pt : Int)) = true ∧ ((v.pr : Int) == (pr : Int)) = false ∧ i + 1 ≤ fdC C (six, ah, al) pt pr) ∨
     (eqAd v.ad.1 v.ad.2.1 v.ad.2.2 six ah al = true ∧ decide (v.ad = (six, ah, al)) = true ∧ ((v.pt : Int) == (pt : Int)) = false ∧ i + 1 ≤ fdC C (six, ah, al) pt pr) ∨
     (eqAd v.ad.1 v.ad.2.1 v.ad.2.2 six ah al = false ∧ decide (v.ad = (six, ah, al)) = false ∧ i + 1 ≤ fdC C (six, ah, al) pt pr) := by
    by_cases h1 : v.ad = (six, ah, al)
    ·by_cases h2 : v.pt = pt
     ·by_cases h3 : v.pr = pr
      ·have he := hst.1 (decide_eq_true ⟨h1, h2, h3⟩)
       exact .inl ⟨decide_eq_true h1, decide_eq_true h1, by simp [h2], by simp [h3], Lib.hid (by unfold fdI; rw [he, if_pos (by omega)])⟩
      ·exact .inr (.inl ⟨decide_eq_true h1, decide_eq_true h1, by simp [h2], by simp; omega, hst.2 (decide_eq_false (fun h => h3 h.2.2))⟩)
     ·exact .inr (.inr (.inl ⟨decide_eq_true h1, decide_eq_true h1, by simp; omega, hst.2 (decide_eq_false (fun h => h2 h.2.1))⟩))
    ·exact .inr (.inr (.inr ⟨decide_eq_false h1, decide_eq_false h1, hst.2 (decide_eq_false (fun h => h1 h.1))⟩))
   clear hst
   rcases hcase with ⟨hc1, hc1', hc2, hc3, HV⟩ | ⟨hc1, hc1', hc2, hc3, he⟩ | ⟨hc1, hc1', hc2, he⟩ | ⟨hc1, hc1', he⟩
   all_goals
    go_upto_region 4 with (fail)
    refine wp_relS 28 46 rfl (by kernel_rfl) (by kernel_rfl) ?_
    apply Steps.o1 (MP.eq _) 1 rfl rfl
    ·intro FA x hO hD K hK
     have e4 := hO 4 (by kernel_rfl)
     simp only [eval_tmp, qgT, qgS, qgZ, qoS] at e4
     have ev4 := Lib.hid ((eval_tmp FA 4).trans e4)
     clear hO hD
     go_simp
     exact hK.out _ _ (Ex.refl _) rfl
    apply Steps.o1 (MP.eq _) 2 rfl rfl
    ·intro FA x hO hD K hK
     obtain ⟨e17, ev17⟩ := qE (hD 0 17 (by kernel_rfl))
     clear hO hD
     have q1 := H8.out (plus wr x.bs x.d) (below_plus _ _ _)
     go_simp
     exact hK.out _ _ (Ex.refl _) rfl
    apply Steps.o1 (MP.eq _) 3 rfl rfl
    ·intro FA x hO hD K hK
     have e9 := hO 9 (by kernel_rfl)
     simp only [eval_tmp, qgT, qgS, qgZ, qoS] at e9
     have ev9 := Lib.hid ((eval_tmp FA 9).trans e9)
     clear hO hD
     go_simp
     exact hK.out _ _ (Ex.refl _) rfl
    apply Steps.o1 (MP.eq _) 4 rfl rfl
    ·intro FA x hO hD K hK
     obtain ⟨e18, ev18⟩ := qE (hD 1 18 (by kernel_rfl))
     obtain ⟨e19, ev19⟩ := qE (hD 2 19 (by kernel_rfl))
     clear hO hD
     go_simp
     exact hK.out _ _ (Ex.refl _) rfl
    apply Steps.o1 (MP.eq _) 5 rfl rfl
    ·intro FA x hO hD K hK
     obtain ⟨e20, ev20⟩ := qE (hD 3 20 (by kernel_rfl))
     clear hO hD
     go_simp
     exact hK.out _ _ (Ex.refl _) rfl
    apply Steps.o1 (MP.eq _) 6 rfl rfl
    ·intro FA x hO hD K hK
     obtain ⟨e21, ev21⟩ := qE (hD 4 21 (by kernel_rfl))
     clear hO hD
     refine wanted_if rfl ?_
     refine wp_load_mid 32 (.tmp 21) rfl b (off + i * 81) ev21.out (adC v.ad.1 v.ad.2.1 v.ad.2.2) _ (HQ.out _ (belowP hE x.bs x.d)).1 va1 va2 (szAd _ _ _) ?_
     exact hK.out _ _ (Ex.refl _) rfl
    apply Steps.o1 (MP.eq _) 7 rfl rfl
    ·intro FA x hO hD K hK
     have e5 := hO 5 (by kernel_rfl)
     simp only [eval_tmp, qgT, qgS, qgZ, qoS] at e5
     have ev5 := Lib.hid ((eval_tmp FA 5).trans e5)
     clear hO hD
     refine wanted_if rfl ?_
     refine wp_ldA 32 (.tmp 5) rfl (adC six ah al) ev5.out (ba.later (below_plus _ _ _)) rfl va1 va2 (szAd _ _ _) ?_
     exact hK.out _ _ (Ex.refl _) rfl
    apply Steps.o1 (MP.eq _) 8 rfl rfl
    ·intro FA x hO hD K hK
     obtain ⟨e22, ev22⟩ := qE (hD 5 22 (by kernel_rfl))
     obtain ⟨e23, ev23⟩ := qE (hD 6 23 (by kernel_rfl))
     clear hO hD
     go_simp
     exact hK.out _ _ (Ex.refl _) rfl
    apply Steps.o1 (MP.eq _) 9 rfl rfl
    ·intro FA x hO hD K hK
     obtain ⟨e24, ev24⟩ := qE (hD 7 24 (by kernel_rfl))
     clear hO hD
     go_simp
     exact hK.out _ _ (Ex.refl _) rfl
    apply Steps.o1 (MP.eq _) 10 rfl rfl
    ·intro FA x hO hD K hK
     have e4 := hO 4 (by kernel_rfl)
     simp only [eval_tmp, qgT, qgS, qgZ, qoS] at e4
     have ev4 := Lib.hid ((eval_tmp FA 4).trans e4)
     obtain ⟨e25, ev25⟩ := qE (hD 8 25 (by kernel_rfl))
     first | have ge25 := slot_of e25 | have ge25 := slot_un e25
     clear hO hD
     first | (go_simp; exact hK.out _ _ (Ex.refl _) rfl) | (rcases ge25 with ge25 | ge25 <;> (go_simp; exact hK.out _ _ (Ex.refl _) rfl))
    apply Steps.o1 (MP.eq _) 11 rfl rfl
    ·intro FA x hO hD K hK
     obtain ⟨e26, ev26⟩ := qE (hD 9 26 (by kernel_rfl))
     obtain ⟨e25, ev25⟩ := qE (hD 8 25 (by kernel_rfl))
     first | have ge25 := slot_of e25 | have ge25 := slot_un e25
     clear hO hD
     have q1 := H8.out (plus wr x.bs x.d) (below_plus _ _ _)
     go_simp
     exact hK.out _ _ (Ex.refl _) rfl
    apply Steps.o1 (MP.eq _) 12 rfl rfl
    ·intro FA x hO hD K hK
     have e9 := hO 9 (by kernel_rfl)
     simp only [eval_tmp, qgT, qgS, qgZ, qoS] at e9
     have ev9 := Lib.hid ((eval_tmp FA 9).trans e9)
     obtain ⟨e25, ev25⟩ := qE (hD 8 25 (by kernel_rfl))
     first | have ge25 := slot_of e25 | have ge25 := slot_un e25
     clear hO hD
     first | (go_simp; exact hK.out _ _ (Ex.refl _) rfl) | (rcases ge25 with ge25 | ge25 <;> (go_simp; exact hK.out _ _ (Ex.refl _) rfl))
    apply Steps.o1 (MP.eq _) 13 rfl rfl
    ·intro FA x hO hD K hK
     obtain ⟨e27, ev27⟩ := qE (hD 10 27 (by kernel_rfl))
     obtain ⟨e28, ev28⟩ := qE (hD 11 28 (by kernel_rfl))
     obtain ⟨e25, ev25⟩ := qE (hD 8 25 (by kernel_rfl))
     first | have ge25 := slot_of e25 | have ge25 := slot_un e25
     clear hO hD
     first | (go_simp; exact hK.out _ _ (Ex.refl _) rfl) | (rcases ge25 with ge25 | ge25 <;> (go_simp; exact hK.out _ _ (Ex.refl _) rfl))
    apply Steps.o1 (MP.eq _) 14 rfl rfl
    ·intro FA x hO hD K hK
     obtain ⟨e29, ev29⟩ := qE (hD 12 29 (by kernel_rfl))
     obtain ⟨e25, ev25⟩ := qE (hD 8 25 (by kernel_rfl))
     first | have ge25 := slot_of e25 | have ge25 := slot_un e25
     clear hO hD
     first | (go_simp; exact hK.out _ _ (Ex.refl _) rfl) | (rcases ge25 with ge25 | ge25 <;> (go_simp; exact hK.out _ _ (Ex.refl _) rfl))
    apply Steps.o1 (MP.eq _) 15 rfl rfl
    ·intro FA x hO hD K hK
     obtain ⟨e30, ev30⟩ := qE (hD 13 30 (by kernel_rfl))
     obtain ⟨e25, ev25⟩ := qE (hD 8 25 (by kernel_rfl))
     first | have ge25 := slot_of e25 | have ge25 := slot_un e25
     clear hO hD
     first | (have hq := (HQ.out (plus wr x.bs x.d) (belowP hE x.bs x.d)).2; go_simp; exact hK.out _ _ (Ex.refl _) rfl) | (go_simp; exact hK.out _ _ (Ex.refl _) rfl) | (rcases ge25 with ge25 | ge25 <;> (go_simp; exact hK.out _ _ (Ex.refl _) rfl))
    apply Steps.o1 (MP.eq _) 16 rfl rfl
    ·intro FA x hO hD K hK
     have e2 := hO 2 (by kernel_rfl)
     simp only [eval_tmp, qgT, qgS, qgZ, qoS] at e2
     have ev2 := Lib.hid ((eval_tmp FA 2).trans e2)
     obtain ⟨e25, ev25⟩ := qE (hD 8 25 (by kernel_rfl))
     first | have ge25 := slot_of e25 | have ge25 := slot_un e25
     clear hO hD
     first | (go_simp; exact hK.out _ _ (Ex.refl _) rfl) | (rcases ge25 with ge25 | ge25 <;> (go_simp; exact hK.out _ _ (Ex.refl _) rfl))
    apply Steps.o1 (MP.eq _) 17 rfl rfl
    ·intro FA x hO hD K hK
     obtain ⟨e31, ev31⟩ := qE (hD 14 31 (by kernel_rfl))
     obtain ⟨e32, ev32⟩ := qE (hD 15 32 (by kernel_rfl))
     obtain ⟨e25, ev25⟩ := qE (hD 8 25 (by kernel_rfl))
     first | have ge25 := slot_of e25 | have ge25 := slot_un e25
     clear hO hD
     first | (go_simp; exact hK.out _ _ (Ex.refl _) rfl) | (rcases ge25 with ge25 | ge25 <;> (go_simp; exact hK.out _ _ (Ex.refl _) rfl))
    apply Steps.o1 (MP.eq _) 18 rfl rfl
    ·intro FA x hO hD K hK
     obtain ⟨e25, ev25⟩ := qE (hD 8 25 (by kernel_rfl))
     obtain ⟨e33, ev33⟩ := qE (hD 16 33 (by kernel_rfl))
     clear hO hD
     go_simp
     exact hK.out _ _ (Ex.refl _) rfl
    apply Steps.o1 (MP.eq _) 19 rfl rfl
    ·intro FA x hO hD K hK
     obtain ⟨e34, ev34⟩ := qE (hD 17 34 (by kernel_rfl))
     clear hO hD
     go_simp
     exact hK.out _ _ (Ex.refl _) rfl
    apply Steps.o1 (MP.eq _) 20 rfl rfl
    ·intro FA x hO hD K hK
     have e4 := hO 4 (by kernel_rfl)
     simp only [eval_tmp, qgT, qgS, qgZ, qoS] at e4
     have ev4 := Lib.hid ((eval_tmp FA 4).trans e4)
     obtain ⟨e35, ev35⟩ := qE (hD 18 35 (by kernel_rfl))
     first | have ge35 := slot_of e35 | have ge35 := slot_un e35
     clear hO hD
     first | (go_simp; exact hK.out _ _ (Ex.refl _) rfl) | (rcases ge35 with ge35 | ge35 <;> (go_simp; exact hK.out _ _ (Ex.refl _) rfl))
    apply Steps.o1 (MP.eq _) 21 rfl rfl
    ·intro FA x hO hD K hK
     obtain ⟨e36, ev36⟩ := qE (hD 19 36 (by kernel_rfl))
     obtain ⟨e35, ev35⟩ := qE (hD 18 35 (by kernel_rfl))
     first | have ge35 := slot_of e35 | have ge35 := slot_un e35
     clear hO hD
     have q1 := H8.out (plus wr x.bs x.d) (below_plus _ _ _)
     go_simp
     exact hK.out _ _ (Ex.refl _) rfl
    apply Steps.o1 (MP.eq _) 22 rfl rfl
    ·intro FA x hO hD K hK
     have e9 := hO 9 (by kernel_rfl)
     simp only [eval_tmp, qgT, qgS, qgZ, qoS] at e9
     have ev9 := Lib.hid ((eval_tmp FA 9).trans e9)
     obtain ⟨e35, ev35⟩ := qE (hD 18 35 (by kernel_rfl))
     first | have ge35 := slot_of e35 | have ge35 := slot_un e35
     clear hO hD
     first | (go_simp; exact hK.out _ _ (Ex.refl _) rfl) | (rcases ge35 with ge35 | ge35 <;> (go_simp; exact hK.out _ _ (Ex.refl _) rfl))
    apply Steps.o1 (MP.eq _) 23 rfl rfl
    ·intro FA x hO hD K hK
     obtain ⟨e37, ev37⟩ := qE (hD 20 37 (by kernel_rfl))
     obtain ⟨e38, ev38⟩ := qE (hD 21 38 (by kernel_rfl))
     obtain ⟨e35, ev35⟩ := qE (hD 18 35 (by kernel_rfl))
     first | have ge35 := slot_of e35 | have ge35 := slot_un e35
     clear hO hD
     first | (go_simp; exact hK.out _ _ (Ex.refl _) rfl) | (rcases ge35 with ge35 | ge35 <;> (go_simp; exact hK.out _ _ (Ex.refl _) rfl))
    apply Steps.o1 (MP.eq _) 24 rfl rfl
    ·intro FA x hO hD K hK
     obtain ⟨e39, ev39⟩ := qE (hD 22 39 (by kernel_rfl))
     obtain ⟨e35, ev35⟩ := qE (hD 18 35 (by kernel_rfl))
     first | have ge35 := slot_of e35 | have ge35 := slot_un e35
     clear hO hD
     first | (go_simp; exact hK.out _ _ (Ex.refl _) rfl) | (rcases ge35 with ge35 | ge35 <;> (go_simp; exact hK.out _ _ (Ex.refl _) rfl))
    apply Steps.o1 (MP.eq _) 25 rfl rfl
    ·intro FA x hO hD K hK
     obtain ⟨e40, ev40⟩ := qE (hD 23 40 (by kernel_rfl))
     obtain ⟨e35, ev35⟩ := qE (hD 18 35 (by kernel_rfl))
     first | have ge35 := slot_of e35 | have ge35 := slot_un e35
     clear hO hD
     first | (have hq := (HQ.out (plus wr x.bs x.d) (belowP hE x.bs x.d)).2; go_simp; exact hK.out _ _ (Ex.refl _) rfl) | (go_simp; exact hK.out _ _ (Ex.refl _) rfl) | (rcases ge35 with ge35 | ge35 <;> (go_simp; exact hK.out _ _ (Ex.refl _) rfl))
    apply Steps.o1 (MP.eq _) 26 rfl rfl
    ·intro FA x hO hD K hK
     have e3 := hO 3 (by kernel_rfl)
     simp only [eval_tmp, qgT, qgS, qgZ, qoS] at e3
     have ev3 := Lib.hid ((eval_tmp FA 3).trans e3)
     obtain ⟨e35, ev35⟩ := qE (hD 18 35 (by kernel_rfl))
     first | have ge35 := slot_of e35 | have ge35 := slot_un e35
     clear hO hD
     first | (go_simp; exact hK.out _ _ (Ex.refl _) rfl) | (rcases ge35 with ge35 | ge35 <;> (go_simp; exact hK.out _ _ (Ex.refl _) rfl))
    apply Steps.o1 (MP.eq _) 27 rfl rfl
    ·intro FA x hO hD K hK
     obtain ⟨e41, ev41⟩ := qE (hD 24 41 (by kernel_rfl))
     obtain ⟨e42, ev42⟩ := qE (hD 25 42 (by kernel_rfl))
     obtain ⟨e35, ev35⟩ := qE (hD 18 35 (by kernel_rfl))
     first | have ge35 := slot_of e35 | have ge35 := slot_un e35
     clear hO hD
     first | (go_simp; exact hK.out _ _ (Ex.refl _) rfl) | (rcases ge35 with ge35 | ge35 <;> (go_simp; exact hK.out _ _ (Ex.refl _) rfl))
    apply Steps.o1 (MP.eq _) 28 rfl rfl
    ·intro FA x hO hD K hK
     obtain ⟨e35, ev35⟩ := qE (hD 18 35 (by kernel_rfl))
     obtain ⟨e43, ev43⟩ := qE (hD 26 43 (by kernel_rfl))
     clear hO hD
     go_simp
     exact hK.out _ _ (Ex.refl _) rfl
    refine Steps.fin_ (fun vs x hp => ?_)
    have p0 : vs 0 = _ := hp 0 (by omega)
    have p1 : vs 1 = _ := hp 1 (by omega)
    have p2 : vs 2 = _ := hp 2 (by omega)
    have p3 : vs 3 = _ := hp 3 (by omega)
    have p4 : vs 4 = _ := hp 4 (by omega)
    have p5 : vs 5 = _ := hp 5 (by omega)
    have p6 : vs 6 = _ := hp 6 (by omega)
    have p7 : vs 7 = _ := hp 7 (by omega)
    have p8 : vs 8 = _ := hp 8 (by omega)
    have p9 : vs 9 = _ := hp 9 (by omega)
    have p10 : vs 10 = _ := hp 10 (by omega)
    have p11 : vs 11 = _ := hp 11 (by omega)
    have p12 : vs 12 = _ := hp 12 (by omega)
    have p13 : vs 13 = _ := hp 13 (by omega)
    have p14 : vs 14 = _ := hp 14 (by omega)
    have p15 : vs 15 = _ := hp 15 (by omega)
    have p16 : vs 16 = _ := hp 16 (by omega)
    have p17 : vs 17 = _ := hp 17 (by omega)
    have p18 : vs 18 = _ := hp 18 (by omega)
    have p19 : vs 19 = _ := hp 19 (by omega)
    have p20 : vs 20 = _ := hp 20 (by omega)
    have p21 : vs 21 = _ := hp 21 (by omega)
    have p22 : vs 22 = _ := hp 22 (by omega)
    have p23 : vs 23 = _ := hp 23 (by omega)
    have p24 : vs 24 = _ := hp 24 (by omega)
    have p25 : vs 25 = _ := hp 25 (by omega)
    have p26 : vs 26 = _ := hp 26 (by omega)
    have p27 : vs 27 = _ := hp 27 (by omega)
    clear hp
    simp only [List.take_succ_cons, List.take_zero, List.drop_succ_cons, List.drop_zero, putAll, Nat.zero_add, Nat.reduceAdd, Act.put, qsT, qsZ, qsS, p0, p1, p2, p3, p4, p5, p6, p7, p8, p9, p10, p11, p12, p13, p14, p15, p16, p17, p18, p19, p20, p21, p22, p23, p24, p25, p26, p27]
    clear p0 p1 p2 p3 p4 p5 p6 p7 p8 p9 p10 p11 p12 p13 p14 p15 p16 p17 p18 p19 p20 p21 p22 p23 p24 p25 p26 p27
    clear vs
    go_wp2
   ·go_ret
    rw [HV.out]
    exact RetV.is_ rfl (belowP hE _ _)
   ·exact ⟨⟨i + 1, by omega, by omega, by go_num, belowP hE _ _, bs.later (below_plus _ _ _), ba.later (below_plus _ _ _)⟩, by simp [intOf]; omega⟩
   ·exact ⟨⟨i + 1, by omega, by omega, by go_num, belowP hE _ _, bs.later (below_plus _ _ _), ba.later (below_plus _ _ _)⟩, by simp [intOf]; omega⟩
   ·exact ⟨⟨i + 1, by omega, by omega, by go_num, belowP hE _ _, bs.later (below_plus _ _ _), ba.later (below_plus _ _ _)⟩, by simp [intOf]; omega⟩
  ·have HV := Lib.hid (show fdI C (six, ah, al) pt pr = -1 from if_neg (by omega))
   have ii : ¬ (i : Int) < (n : Int) := by omega
   clear hif hlt0
   go_wp2
   go_ret
   rw [HV.out]
   exact RetV.is_ rfl hE
end
end

section
open Go.Lib
open Go.RowKit
attribute [local go_sem ↓] sliced_cut
attribute [local go_sem] cutA_zero
set_option maxHeartbeats 4000000 in
set_option maxRecDepth 100000 in
theorem rcRight_any (C : Cf) (hk : C.key.length = 16) (hb : C.bk.length = 65) (A : Option Addr) (n c : Nat) (ms : List (Int × Int)) (B : Option Addr) (m d : Nat) (w : World) (hr : Rs 2 w B m d (prs .i64 ms)) (hm : m ≤ 1000000) : Calls Tryz.prog 128 #[.agg (rcC C A n c).toArray, .slice B m d] w (RetV w (.bool (okM C ms))) := by
 have hml : ms.length = m := by have := hr.1; rw [prs_length] at this; omega
 have HOK := Lib.hid (show okM C ms = okM C ms from rfl)
 obtain ⟨R0, hR0⟩ : ∃ R0, R0 = okM C ms := ⟨_, rfl⟩
 have HR0 := Lib.hid hR0
 rw [← hR0]
 clear hR0
 obtain ⟨dvs1, vs1, vs2⟩ := rowRcS
 obtain ⟨bs, be, zV⟩ := box1 w 37 (rcC C A n c)
 go_enter Tryz.func128, Tryz.ntmps128
 go_upto_region 1 with (fail)
 generalize w.alloc (.cells (rcC C A n c).toArray 37) = V at *
 have HS := Lib.hid bs
 have HB := Lib.hid be
 clear be bs
 go_upto_region 2 with (fail)
 go_loopw [5] (fun I wr => ∃ i : Nat, i ≤ m ∧ I = .int .i64 (i : Int) ∧ Hid (okM C (ms.take i) = true) ∧ Below w.heap.size w wr ∧ Bk wr w.heap.size 37 (rcC C A n c)) (fun I _ => m - (intOf I).toNat)
 case atStart => exact ⟨0, Nat.zero_le _, rfl, Lib.hid rfl, HB.out, HS.out⟩
 case round =>
  clear HB HS
  obtain ⟨i, hi, rfl, hok, hE, bs⟩ := hrel
  by_cases hlt : i < m
  ·have ii : (i : Int) < (m : Int) := by omega
   obtain ⟨bl, ol, rfl, hbl, -⟩ := hr.at_ (by omega) (by decide)
   have H5 := Lib.hid (fun W (h : Below w.heap.size w W) => show W.cell? ⟨bl, ol + i * 2, none⟩ = some (.int .i64 (ms[i]'(by omega)).1) ∧ W.cell? ⟨bl, ol + i * 2 + 1, none⟩ = some (.int .i64 (ms[i]'(by omega)).2) from (hr.later h).range2 i (by omega))
   have hsn : ms.take (i + 1) = ms.take i ++ [ms[i]'(by omega)] := by simp
   have hmi : ms[i]? = some (ms[i]'(by omega)) := List.getElem?_eq_getElem (by omega)
   have HOI := Lib.hid ((congrArg (okM C) hsn).trans (okM_snoc C (ms.take i) _))
   have HBADX := Lib.hid (fun h : okM C (ms.take (i + 1)) = false => show R0 = false from (by
    rw [HR0.out]
    cases hq : okM C ms with
    | false => rfl
    | true => rw [okM_take hq (i + 1)] at h; cases h))
   have HMI := Lib.hid hmi
   clear hsn hmi
   generalize (ms[i]'(by omega)) = p at *
   obtain ⟨xm, ym⟩ := p
   have HKX := Lib.hid (fun W => refKnown_any C hk hb A n c xm W)
   generalize hkx : knC C xm = kx at *
   have hcase : (kx = false ∧ Hid (R0 = false)) ∨ (kx = true ∧ ym < 0 ∧ Hid (R0 = false)) ∨ (kx = true ∧ 100 < ym ∧ 0 ≤ ym ∧ Hid (R0 = false)) ∨ (kx = true ∧ 0 ≤ ym ∧ ym ≤ 100 ∧ Hid (wtB ym = true)) := by
    cases hk3 : kx with
    | false => exact .inl ⟨rfl, Lib.hid (HBADX.out (by rw [HOI.out, hk3]; simp))⟩
    | true =>
     rcases (by omega : ym < 0 ∨ (100 < ym ∧ 0 ≤ ym) ∨ (0 ≤ ym ∧ ym ≤ 100)) with h | ⟨h, h'⟩ | ⟨h, h'⟩
     ·exact .inr (.inl ⟨rfl, h, Lib.hid (HBADX.out (by rw [HOI.out]; unfold wtB; rw [decide_eq_false (show ¬ 0 ≤ ym by omega)]; simp))⟩)
     ·exact .inr (.inr (.inl ⟨rfl, h, h', Lib.hid (HBADX.out (by rw [HOI.out]; unfold wtB; rw [decide_eq_false (show ¬ ym ≤ 100 by omega)]; simp))⟩))
     ·exact .inr (.inr (.inr ⟨rfl, h, h', Lib.hid (by unfold wtB; rw [decide_eq_true h, decide_eq_true h']; rfl)⟩))
   have HKT := Lib.hid hkx
   clear hkx
   rcases hcase with ⟨rfl, HBAD⟩ | ⟨rfl, hy0, HBAD⟩ | ⟨rfl, hy1, hy0, HBAD⟩ | ⟨rfl, hy0, hy1, hwt⟩
   all_goals
    go_upto_region 4 with (fail)
    refine wp_relS 24 56 rfl (by kernel_rfl) (by kernel_rfl) ?_
    apply Steps.o1 (MP.eq _) 1 rfl rfl
    ·intro FA x hO hD K hK
     have e2 := hO 2 (by kernel_rfl)
     simp only [eval_tmp, qgT, qgS, qgZ, qoS] at e2
     have ev2 := Lib.hid ((eval_tmp FA 2).trans e2)
     clear hO hD
     refine wanted_if rfl ?_
     refine wp_ldA 37 (.tmp 2) rfl (rcC C A n c) ev2.out (bs.later (below_plus _ _ _)) (whole_ _) vs1 vs2 (szRcS C hk hb A n c) ?_
     exact hK.out _ _ (Ex.refl _) rfl
    apply Steps.o1 (MP.eq _) 2 rfl rfl
    ·intro FA x hO hD K hK
     have e1 := hO 1 (by kernel_rfl)
     simp only [eval_tmp, qgT, qgS, qgZ, qoS] at e1
     have ev1 := Lib.hid ((eval_tmp FA 1).trans e1)
     clear hO hD
     go_simp
     exact hK.out _ _ (Ex.refl _) rfl
    apply Steps.o1 (MP.eq _) 3 rfl rfl
    ·intro FA x hO hD K hK
     have e5 := hO 5 (by kernel_rfl)
     simp only [eval_tmp, qgT, qgS, qgZ, qoS] at e5
     have ev5 := Lib.hid ((eval_tmp FA 5).trans e5)
     clear hO hD
     go_simp
     exact hK.out _ _ (Ex.refl _) rfl
    apply Steps.o1 (MP.eq _) 4 rfl rfl
    ·intro FA x hO hD K hK
     obtain ⟨e14, ev14⟩ := qE (hD 1 14 (by kernel_rfl))
     obtain ⟨e15, ev15⟩ := qE (hD 2 15 (by kernel_rfl))
     clear hO hD
     go_simp
     exact hK.out _ _ (Ex.refl _) rfl
    apply Steps.o1 (MP.eq _) 5 rfl rfl
    ·intro FA x hO hD K hK
     obtain ⟨e16, ev16⟩ := qE (hD 3 16 (by kernel_rfl))
     clear hO hD
     go_simp
     exact hK.out _ _ (Ex.refl _) rfl
    apply Steps.o1 (MP.eq _) 6 rfl rfl
    ·intro FA x hO hD K hK
     obtain ⟨e17, ev17⟩ := qE (hD 4 17 (by kernel_rfl))
     clear hO hD
     have q5 := H5.out (plus wr x.bs x.d) (belowP hE x.bs x.d)
     go_simp
     exact hK.out _ _ (Ex.refl _) rfl
    apply Steps.o1 (MP.eq _) 7 rfl rfl
    ·intro FA x hO hD K hK
     obtain ⟨e13, ev13⟩ := qE (hD 0 13 (by kernel_rfl))
     obtain ⟨e18, ev18⟩ := qE (hD 5 18 (by kernel_rfl))
     clear hO hD
     go_simp
     refine (HKX.out _).mono ?_
     rintro e w2 ⟨bs2, d2, rfl, rfl⟩
     exact hK.out _ _ (Ex.plus_ _ _ _) rfl
    apply Steps.o1 (MP.eq _) 8 rfl rfl
    ·intro FA x hO hD K hK
     obtain ⟨e19, ev19⟩ := qE (hD 6 19 (by kernel_rfl))
     clear hO hD
     go_simp
     exact hK.out _ _ (Ex.refl _) rfl
    apply Steps.o1 (MP.eq _) 9 rfl rfl
    ·intro FA x hO hD K hK
     obtain ⟨e20, ev20⟩ := qE (hD 7 20 (by kernel_rfl))
     clear hO hD
     go_simp
     exact hK.out _ _ (Ex.refl _) rfl
    apply Steps.o1 (MP.eq _) 10 rfl rfl
    ·intro FA x hO hD K hK
     have e1 := hO 1 (by kernel_rfl)
     simp only [eval_tmp, qgT, qgS, qgZ, qoS] at e1
     have ev1 := Lib.hid ((eval_tmp FA 1).trans e1)
     obtain ⟨e21, ev21⟩ := qE (hD 8 21 (by kernel_rfl))
     first | have ge21 := slot_of e21 | have ge21 := slot_un e21
     clear hO hD
     first | (go_simp; exact hK.out _ _ (Ex.refl _) rfl) | (rcases ge21 with ge21 | ge21 <;> (go_simp; exact hK.out _ _ (Ex.refl _) rfl))
    apply Steps.o1 (MP.eq _) 11 rfl rfl
    ·intro FA x hO hD K hK
     have e5 := hO 5 (by kernel_rfl)
     simp only [eval_tmp, qgT, qgS, qgZ, qoS] at e5
     have ev5 := Lib.hid ((eval_tmp FA 5).trans e5)
     obtain ⟨e21, ev21⟩ := qE (hD 8 21 (by kernel_rfl))
     first | have ge21 := slot_of e21 | have ge21 := slot_un e21
     clear hO hD
     first | (go_simp; exact hK.out _ _ (Ex.refl _) rfl) | (rcases ge21 with ge21 | ge21 <;> (go_simp; exact hK.out _ _ (Ex.refl _) rfl))
    apply Steps.o1 (MP.eq _) 12 rfl rfl
    ·intro FA x hO hD K hK
     obtain ⟨e22, ev22⟩ := qE (hD 9 22 (by kernel_rfl))
     obtain ⟨e23, ev23⟩ := qE (hD 10 23 (by kernel_rfl))
     obtain ⟨e21, ev21⟩ := qE (hD 8 21 (by kernel_rfl))
     first | have ge21 := slot_of e21 | have ge21 := slot_un e21
     clear hO hD
     first | (go_simp; exact hK.out _ _ (Ex.refl _) rfl) | (rcases ge21 with ge21 | ge21 <;> (go_simp; exact hK.out _ _ (Ex.refl _) rfl))
    apply Steps.o1 (MP.eq _) 13 rfl rfl
    ·intro FA x hO hD K hK
     obtain ⟨e24, ev24⟩ := qE (hD 11 24 (by kernel_rfl))
     obtain ⟨e21, ev21⟩ := qE (hD 8 21 (by kernel_rfl))
     first | have ge21 := slot_of e21 | have ge21 := slot_un e21
     clear hO hD
     first | (go_simp; exact hK.out _ _ (Ex.refl _) rfl) | (rcases ge21 with ge21 | ge21 <;> (go_simp; exact hK.out _ _ (Ex.refl _) rfl))
    apply Steps.o1 (MP.eq _) 14 rfl rfl
    ·intro FA x hO hD K hK
     obtain ⟨e25, ev25⟩ := qE (hD 12 25 (by kernel_rfl))
     obtain ⟨e21, ev21⟩ := qE (hD 8 21 (by kernel_rfl))
     first | have ge21 := slot_of e21 | have ge21 := slot_un e21
     clear hO hD
     have q5 := H5.out (plus wr x.bs x.d) (belowP hE x.bs x.d)
     go_simp
     exact hK.out _ _ (Ex.refl _) rfl
    apply Steps.o1 (MP.eq _) 15 rfl rfl
    ·intro FA x hO hD K hK
     obtain ⟨e26, ev26⟩ := qE (hD 13 26 (by kernel_rfl))
     obtain ⟨e21, ev21⟩ := qE (hD 8 21 (by kernel_rfl))
     first | have ge21 := slot_of e21 | have ge21 := slot_un e21
     clear hO hD
     first | (go_simp; exact hK.out _ _ (Ex.refl _) rfl) | (rcases ge21 with ge21 | ge21 <;> (go_simp; exact hK.out _ _ (Ex.refl _) rfl))
    apply Steps.o1 (MP.eq _) 16 rfl rfl
    ·intro FA x hO hD K hK
     obtain ⟨e21, ev21⟩ := qE (hD 8 21 (by kernel_rfl))
     obtain ⟨e27, ev27⟩ := qE (hD 14 27 (by kernel_rfl))
     clear hO hD
     go_simp
     exact hK.out _ _ (Ex.refl _) rfl
    apply Steps.o1 (MP.eq _) 17 rfl rfl
    ·intro FA x hO hD K hK
     obtain ⟨e28, ev28⟩ := qE (hD 15 28 (by kernel_rfl))
     clear hO hD
     go_simp
     exact hK.out _ _ (Ex.refl _) rfl
    apply Steps.o1 (MP.eq _) 18 rfl rfl
    ·intro FA x hO hD K hK
     have e1 := hO 1 (by kernel_rfl)
     simp only [eval_tmp, qgT, qgS, qgZ, qoS] at e1
     have ev1 := Lib.hid ((eval_tmp FA 1).trans e1)
     obtain ⟨e29, ev29⟩ := qE (hD 16 29 (by kernel_rfl))
     first | have ge29 := slot_of e29 | have ge29 := slot_un e29
     clear hO hD
     first | (go_simp; exact hK.out _ _ (Ex.refl _) rfl) | (rcases ge29 with ge29 | ge29 <;> (go_simp; exact hK.out _ _ (Ex.refl _) rfl))
    apply Steps.o1 (MP.eq _) 19 rfl rfl
    ·intro FA x hO hD K hK
     have e5 := hO 5 (by kernel_rfl)
     simp only [eval_tmp, qgT, qgS, qgZ, qoS] at e5
     have ev5 := Lib.hid ((eval_tmp FA 5).trans e5)
     obtain ⟨e29, ev29⟩ := qE (hD 16 29 (by kernel_rfl))
     first | have ge29 := slot_of e29 | have ge29 := slot_un e29
     clear hO hD
     first | (go_simp; exact hK.out _ _ (Ex.refl _) rfl) | (rcases ge29 with ge29 | ge29 <;> (go_simp; exact hK.out _ _ (Ex.refl _) rfl))
    apply Steps.o1 (MP.eq _) 20 rfl rfl
    ·intro FA x hO hD K hK
     obtain ⟨e30, ev30⟩ := qE (hD 17 30 (by kernel_rfl))
     obtain ⟨e31, ev31⟩ := qE (hD 18 31 (by kernel_rfl))
     obtain ⟨e29, ev29⟩ := qE (hD 16 29 (by kernel_rfl))
     first | have ge29 := slot_of e29 | have ge29 := slot_un e29
     clear hO hD
     first | (go_simp; exact hK.out _ _ (Ex.refl _) rfl) | (rcases ge29 with ge29 | ge29 <;> (go_simp; exact hK.out _ _ (Ex.refl _) rfl))
    apply Steps.o1 (MP.eq _) 21 rfl rfl
    ·intro FA x hO hD K hK
     obtain ⟨e32, ev32⟩ := qE (hD 19 32 (by kernel_rfl))
     obtain ⟨e29, ev29⟩ := qE (hD 16 29 (by kernel_rfl))
     first | have ge29 := slot_of e29 | have ge29 := slot_un e29
     clear hO hD
     first | (go_simp; exact hK.out _ _ (Ex.refl _) rfl) | (rcases ge29 with ge29 | ge29 <;> (go_simp; exact hK.out _ _ (Ex.refl _) rfl))
    apply Steps.o1 (MP.eq _) 22 rfl rfl
    ·intro FA x hO hD K hK
     obtain ⟨e33, ev33⟩ := qE (hD 20 33 (by kernel_rfl))
     obtain ⟨e29, ev29⟩ := qE (hD 16 29 (by kernel_rfl))
     first | have ge29 := slot_of e29 | have ge29 := slot_un e29
     clear hO hD
     have q5 := H5.out (plus wr x.bs x.d) (belowP hE x.bs x.d)
     go_simp
     exact hK.out _ _ (Ex.refl _) rfl
    apply Steps.o1 (MP.eq _) 23 rfl rfl
    ·intro FA x hO hD K hK
     obtain ⟨e34, ev34⟩ := qE (hD 21 34 (by kernel_rfl))
     obtain ⟨e29, ev29⟩ := qE (hD 16 29 (by kernel_rfl))
     first | have ge29 := slot_of e29 | have ge29 := slot_un e29
     clear hO hD
     first | (go_simp; exact hK.out _ _ (Ex.refl _) rfl) | (rcases ge29 with ge29 | ge29 <;> (go_simp; exact hK.out _ _ (Ex.refl _) rfl))
    apply Steps.o1 (MP.eq _) 24 rfl rfl
    ·intro FA x hO hD K hK
     obtain ⟨e29, ev29⟩ := qE (hD 16 29 (by kernel_rfl))
     obtain ⟨e35, ev35⟩ := qE (hD 22 35 (by kernel_rfl))
     clear hO hD
     go_simp
     exact hK.out _ _ (Ex.refl _) rfl
    refine Steps.fin_ (fun vs x hp => ?_)
    have p0 : vs 0 = _ := hp 0 (by omega)
    have p1 : vs 1 = _ := hp 1 (by omega)
    have p2 : vs 2 = _ := hp 2 (by omega)
    have p3 : vs 3 = _ := hp 3 (by omega)
    have p4 : vs 4 = _ := hp 4 (by omega)
    have p5 : vs 5 = _ := hp 5 (by omega)
    have p6 : vs 6 = _ := hp 6 (by omega)
    have p7 : vs 7 = _ := hp 7 (by omega)
    have p8 : vs 8 = _ := hp 8 (by omega)
    have p9 : vs 9 = _ := hp 9 (by omega)
    have p10 : vs 10 = _ := hp 10 (by omega)
    have p11 : vs 11 = _ := hp 11 (by omega)
    have p12 : vs 12 = _ := hp 12 (by omega)
    have p13 : vs 13 = _ := hp 13 (by omega)
    have p14 : vs 14 = _ := hp 14 (by omega)
    have p15 : vs 15 = _ := hp 15 (by omega)
    have p16 : vs 16 = _ := hp 16 (by omega)
    have p17 : vs 17 = _ := hp 17 (by omega)
    have p18 : vs 18 = _ := hp 18 (by omega)
    have p19 : vs 19 = _ := hp 19 (by omega)
    have p20 : vs 20 = _ := hp 20 (by omega)
    have p21 : vs 21 = _ := hp 21 (by omega)
    have p22 : vs 22 = _ := hp 22 (by omega)
    have p23 : vs 23 = _ := hp 23 (by omega)
    clear hp
    simp only [List.take_succ_cons, List.take_zero, List.drop_succ_cons, List.drop_zero, putAll, Nat.zero_add, Nat.reduceAdd, Act.put, qsT, qsZ, qsS, p0, p1, p2, p3, p4, p5, p6, p7, p8, p9, p10, p11, p12, p13, p14, p15, p16, p17, p18, p19, p20, p21, p22, p23]
    clear p0 p1 p2 p3 p4 p5 p6 p7 p8 p9 p10 p11 p12 p13 p14 p15 p16 p17 p18 p19 p20 p21 p22 p23
    clear vs
   iterate 3
    focus
     go_wp2
     go_ret
     rw [HBAD.out]
     exact RetV.is_ rfl (belowP hE _ _)
   focus
      skip
      have hE4 := belowP hE x.bs x.d
      have bs4 := bs.later (below_plus wr x.bs x.d)
      generalize plus wr x.bs x.d = W5 at *
      clear bs hE
      go_upto_region 7 with (fail)
      have HS4 := Lib.hid (And.intro hE4 bs4)
      clear hE4 bs4
      go_loopw [6] (fun K w2 => ∃ k : Nat, k ≤ i ∧ K = .int .i64 (k : Int) ∧ Hid (xm ∉ (ms.take k).map (·.1)) ∧ Below w.heap.size w w2 ∧ Bk w2 w.heap.size 37 (rcC C A n c)) (fun K _ => i - (intOf K).toNat)
      case atStart => exact ⟨0, Nat.zero_le _, rfl, Lib.hid (by simp), HS4.out.1, HS4.out.2⟩
      case round =>
       clear HS4
       obtain ⟨k, hki, rfl, hno, hE2, bs2⟩ := hrel
       by_cases hlk : k < i
       ·have kk : (k : Int) < (i : Int) := by omega
        have km : (k : Int) < (m : Int) := by omega
        have km2 : k < m := by omega
        have H6 := Lib.hid (fun W (h : Below w.heap.size w W) => show W.cell? ⟨bl, ol + k * 2, none⟩ = some (.int .i64 (ms[k]'(by omega)).1) from ((hr.later h).range2 k (by omega)).1)
        have hsk : ms.take (k + 1) = ms.take k ++ [ms[k]'(by omega)] := by simp
        have hmem : (ms[k]'(by omega)) ∈ ms.take i := List.mem_iff_getElem.2 ⟨k, by rw [List.length_take]; omega, by simp⟩
        have HSK := Lib.hid (And.intro hsk hmem)
        clear hsk hmem
        generalize (ms[k]'(by omega)) = q at *
        obtain ⟨xq, yq⟩ := q
        have hcase2 : (((xq : Int) == xm) = true ∧ Hid (R0 = false)) ∨ (((xq : Int) == xm) = false ∧ Hid (xm ∉ (ms.take (k + 1)).map (·.1))) := by
         by_cases heq : xq = xm
         ·exact .inl ⟨by simp [heq], Lib.hid (HBADX.out (by
           rw [HOI.out, decide_eq_true (show xm ∈ (ms.take i).map (·.1) from List.mem_map.2 ⟨(xq, yq), HSK.out.2, heq⟩)]
           simp))⟩
         ·refine .inr ⟨by simp [heq], Lib.hid ?_⟩
          rw [HSK.out.1, List.map_append]
          intro hm
          rcases List.mem_append.1 hm with h | h
          ·exact hno.out h
          ·simp at h; exact heq h.symm
        clear hno
        rcases hcase2 with ⟨hbq, HBAD⟩ | ⟨hbq, HN⟩
        all_goals
         go_upto_region 9 with (fail)
         refine wp_relS 11 56 rfl (by kernel_rfl) (by kernel_rfl) ?_
         apply Steps.o1 (MP.eq _) 1 rfl rfl
         ·intro FA x hO hD K hK
          have e1 := hO 1 (by kernel_rfl)
          simp only [eval_tmp, qgT, qgS, qgZ, qoS] at e1
          have ev1 := Lib.hid ((eval_tmp FA 1).trans e1)
          clear hO hD
          go_simp
          exact hK.out _ _ (Ex.refl _) rfl
         apply Steps.o1 (MP.eq _) 2 rfl rfl
         ·intro FA x hO hD K hK
          have e6 := hO 6 (by kernel_rfl)
          simp only [eval_tmp, qgT, qgS, qgZ, qoS] at e6
          have ev6 := Lib.hid ((eval_tmp FA 6).trans e6)
          clear hO hD
          go_simp
          exact hK.out _ _ (Ex.refl _) rfl
         apply Steps.o1 (MP.eq _) 3 rfl rfl
         ·intro FA x hO hD K hK
          obtain ⟨e42, ev42⟩ := qE (hD 0 42 (by kernel_rfl))
          obtain ⟨e43, ev43⟩ := qE (hD 1 43 (by kernel_rfl))
          clear hO hD
          go_simp
          exact hK.out _ _ (Ex.refl _) rfl
         apply Steps.o1 (MP.eq _) 4 rfl rfl
         ·intro FA x hO hD K hK
          obtain ⟨e44, ev44⟩ := qE (hD 2 44 (by kernel_rfl))
          clear hO hD
          go_simp
          exact hK.out _ _ (Ex.refl _) rfl
         apply Steps.o1 (MP.eq _) 5 rfl rfl
         ·intro FA x hO hD K hK
          obtain ⟨e45, ev45⟩ := qE (hD 3 45 (by kernel_rfl))
          clear hO hD
          have q5 := H5.out (plus wr x.bs x.d) (belowP hE2 x.bs x.d)
          have q6 := H6.out (plus wr x.bs x.d) (belowP hE2 x.bs x.d)
          go_simp
          exact hK.out _ _ (Ex.refl _) rfl
         apply Steps.o1 (MP.eq _) 6 rfl rfl
         ·intro FA x hO hD K hK
          have e1 := hO 1 (by kernel_rfl)
          simp only [eval_tmp, qgT, qgS, qgZ, qoS] at e1
          have ev1 := Lib.hid ((eval_tmp FA 1).trans e1)
          clear hO hD
          go_simp
          exact hK.out _ _ (Ex.refl _) rfl
         apply Steps.o1 (MP.eq _) 7 rfl rfl
         ·intro FA x hO hD K hK
          have e5 := hO 5 (by kernel_rfl)
          simp only [eval_tmp, qgT, qgS, qgZ, qoS] at e5
          have ev5 := Lib.hid ((eval_tmp FA 5).trans e5)
          clear hO hD
          go_simp
          exact hK.out _ _ (Ex.refl _) rfl
         apply Steps.o1 (MP.eq _) 8 rfl rfl
         ·intro FA x hO hD K hK
          obtain ⟨e47, ev47⟩ := qE (hD 5 47 (by kernel_rfl))
          obtain ⟨e48, ev48⟩ := qE (hD 6 48 (by kernel_rfl))
          clear hO hD
          go_simp
          exact hK.out _ _ (Ex.refl _) rfl
         apply Steps.o1 (MP.eq _) 9 rfl rfl
         ·intro FA x hO hD K hK
          obtain ⟨e49, ev49⟩ := qE (hD 7 49 (by kernel_rfl))
          clear hO hD
          go_simp
          exact hK.out _ _ (Ex.refl _) rfl
         apply Steps.o1 (MP.eq _) 10 rfl rfl
         ·intro FA x hO hD K hK
          obtain ⟨e50, ev50⟩ := qE (hD 8 50 (by kernel_rfl))
          clear hO hD
          have q5 := H5.out (plus wr x.bs x.d) (belowP hE2 x.bs x.d)
          have q6 := H6.out (plus wr x.bs x.d) (belowP hE2 x.bs x.d)
          go_simp
          exact hK.out _ _ (Ex.refl _) rfl
         apply Steps.o1 (MP.eq _) 11 rfl rfl
         ·intro FA x hO hD K hK
          obtain ⟨e46, ev46⟩ := qE (hD 4 46 (by kernel_rfl))
          obtain ⟨e51, ev51⟩ := qE (hD 9 51 (by kernel_rfl))
          clear hO hD
          go_simp
          exact hK.out _ _ (Ex.refl _) rfl
         refine Steps.fin_ (fun vs x hp => ?_)
         have p0 : vs 0 = _ := hp 0 (by omega)
         have p1 : vs 1 = _ := hp 1 (by omega)
         have p2 : vs 2 = _ := hp 2 (by omega)
         have p3 : vs 3 = _ := hp 3 (by omega)
         have p4 : vs 4 = _ := hp 4 (by omega)
         have p5 : vs 5 = _ := hp 5 (by omega)
         have p6 : vs 6 = _ := hp 6 (by omega)
         have p7 : vs 7 = _ := hp 7 (by omega)
         have p8 : vs 8 = _ := hp 8 (by omega)
         have p9 : vs 9 = _ := hp 9 (by omega)
         have p10 : vs 10 = _ := hp 10 (by omega)
         clear hp
         simp only [List.take_succ_cons, List.take_zero, List.drop_succ_cons, List.drop_zero, putAll, Nat.zero_add, Nat.reduceAdd, Act.put, qsT, qsZ, qsS, p0, p1, p2, p3, p4, p5, p6, p7, p8, p9, p10]
         clear p0 p1 p2 p3 p4 p5 p6 p7 p8 p9 p10
         clear vs
         go_wp2
        ·go_ret
         rw [HBAD.out]
         exact RetV.is_ rfl (belowP hE2 _ _)
        ·exact ⟨⟨k + 1, by omega, by go_num, HN, belowP hE2 _ _, bs2.later (below_plus _ _ _)⟩, by simp [intOf]; omega⟩
       ·have kk : ¬ (k : Int) < (i : Int) := by omega
        have hke : k = i := by omega
        have HN := Lib.hid (show okM C (ms.take (i + 1)) = true by
         have h := hno.out
         rw [hke] at h
         rw [HOI.out, hok.out, decide_eq_false h, hwt.out]
         rfl)
        clear hno hke
        go_wp2
        exact ⟨⟨i + 1, by omega, by go_num, HN, hE2, bs2⟩, by simp [intOf]; omega⟩
  ·have hmi : ¬ (i : Int) < (m : Int) := by omega
   have him : i = m := by omega
   have hall : okM C ms = true := by
    have := hok.out
    rwa [List.take_of_length_le (by omega)] at this
   have h64 := okM_len hall
   have hm64 : (m : Int) ≤ 64 := by omega
   have HV := Lib.hid (show R0 = true from HR0.out.trans hall)
   clear hall h64 hi
   go_wp2
   go_ret
   rw [HV.out]
   exact RetV.is_ rfl hE
end

section
open Go.Lib
open Go.RowKit
attribute [local go_sem ↓] sliced_cut
attribute [local go_sem] cutA_zero
theorem rcC_len (C : Cf) (hk : C.key.length = 16) (hb : C.bk.length = 65) (A : Option Addr) (n c : Nat) : (rcC C A n c).length = 279 := rcL_len _ _ _ _ _ _ _ _ hk (by simp [hb]) (by simp [hb])
theorem etRv : ET Tryz.prog 35 115 (.agg (rvC (⟨(false, 0, 0), 0, 0, 0, [], ⟨[], 0, 0⟩⟩, ⟨none, 0, 0, none, 0, 0⟩)).toArray) 81 168 := ⟨Tryz.underlying35, by kernel_rfl, by kernel_rfl, by decide, by decide⟩
theorem rcC_set (C : Cf) (hk : C.key.length = 16) (hb : C.bk.length = 65) (A A' : Option Addr) (n c n' c' : Nat) : (rcC C A n c).set 278 (.slice A' n' c') = rcC C A' n' c' := rcL_setVips _ _ _ _ _ _ _ _ hk (by simp [hb]) (by simp [hb]) _ _ _
set_option maxHeartbeats 4000000 in
set_option maxRecDepth 100000 in
theorem rcWith_any {G : Nat → Prop} (C : Cf) (hk : C.key.length = 16) (hb : C.bk.length = 65) (A : Option Addr) (n c : Nat) (E : List Re) (i : Nat) (y : Re) (w : World) (hG : ∀ b, G b → b < w.heap.size) (hX : RcX G w C A n c E) (hi : i < n) (hn : n ≤ 16) (h1 : Rs 2 w y.2.A y.2.n y.2.c (prs .i64 y.1.ms)) (h2 : Off G w y.2.A) (h3 : RSt G w y.1.S.lv y.2.B y.2.m y.2.d) : Calls Tryz.prog 75 #[.agg (rcC C A n c).toArray, .int .i64 (i : Int), .agg (rvC y).toArray] w fun e w' => ∃ A' c', e = .returned (.agg (rcC { C with vs := C.vs.set i y.1 } A' n c').toArray) ∧ RcX G w' { C with vs := C.vs.set i y.1 } A' n c' (E.set i y) ∧ Below w.heap.size w w' := by
 have HX0 := Lib.hid hX
 have H10 := Lib.hid h1
 have H20 := Lib.hid h2
 have H30 := Lib.hid h3
 clear h1 h2 h3
 obtain ⟨dvs1, vs1, vs2⟩ := rowRcS
 obtain ⟨dvr1, vr1, vr2⟩ := rowRv
 obtain ⟨bs, by_, be, zV⟩ := box2 w 37 115 (rcC C A n c) (rvC y)
 go_enter Tryz.func75, Tryz.ntmps75
 go_upto_region 1 with (fail)
 have HVe := Lib.hid (show ((w.alloc (.cells (rcC C A n c).toArray 37)).alloc (.cells (rvC y).toArray 115)).heap.size = w.heap.size + 1 + 1 by simp)
 generalize (w.alloc (.cells (rcC C A n c).toArray 37)).alloc (.cells (rvC y).toArray 115) = V at *
 replace hX := hX.later be
 have hnE : E.length = n := by have := hX.n_; have := hX.len; omega
 have hz := Bk.newK 37 (Tryz.zeroCells37) _ HVe.out.symm rfl
 have hzl : (Tryz.zeroCells37).toList.length = 279 := by kernel_rfl
 have hbz : Below V.heap.size V (V.alloc (.cells (Tryz.zeroCells37) 37)) := Below.allocS (Below.refl _ _) _
 go_upto_region 1 with (fail)
 have hVs : w.heap.size + 2 ≤ V.heap.size := by have := by_.lt; omega
 generalize hV2 : V.alloc (.cells (Tryz.zeroCells37) 37) = V2 at *
 have hV2s : V2.heap.size = V.heap.size + 1 := by rw [← hV2]; simp
 clear hV2
 generalize (Tryz.zeroCells37).toList = zl0 at *
 replace hX := hX.later hbz
 replace bs := bs.later hbz
 replace by_ := by_.later hbz
 replace be := be.trans (hbz.mono be.size)
 have hV2g : V.heap.size + 1 ≤ V2.heap.size := by omega
 clear hbz hV2s
 refine wp_region_lit ?_
 iterate 2 (refine wpList_plain rfl (fun K hK => ?_); go_simp; with_reducible refine hK _ _ ?_; clear hK K)
 refine wpList_ld1 (t := 37) (cs := rcC C A n c) 35 (.tmp 8) rfl (by rfl) rfl (bs.alloc _) (rcC_vips C hk hb A n c) Tryz.underlying35 rfl ?_
 simp only [Act.put, qsT, qsZ, qsS]
 refine wpList_appS etRv rfl (.tmp 7) (.tmp 9) rfl rfl (Os.lit V2 (Nat.le_refl _) #[] 0 rfl (Nat.zero_le _)) rfl (hX.row.alloc _) (flat_one rvC rvC_one _) (by omega) (by simp) ?_
 intro A2 n2 c2 w4 hn2 hO4 hb4 hg4
 obtain rfl : n = n2 := by omega
 clear hn2
 simp only [Act.put, qsT, qsZ, qsS]
 have hb4W : Below V2.heap.size V2 w4 := (Below.allocS (Below.refl _ _) _).trans hb4
 simp only [List.nil_append, Nat.zero_add] at hO4
 replace bs := bs.later hb4W
 replace by_ := by_.later hb4W
 replace hz := hz.later hb4W
 replace be := be.trans (hb4W.mono be.size)
 refine wpList_plain rfl (fun K hK => ?_); go_simp; with_reducible refine hK _ _ ?_; clear hK K
 refine wpList_st1 (v := .slice A2 n c2) (t := 37) (cs := rcC C A n c) (off := 278) 35 (.tmp 11) (.tmp 10) rfl rfl rfl rfl bs (by rw [rcC_len C hk hb]; omega) rfl (by kernel_rfl) ?_
 intro W6 h6 g6
 simp only [Act.put, qsT, qsZ, qsS]
 obtain ⟨b2, cur, rfl, hob, hcur, hcl, hct, hnc, hcm⟩ := hO4.bk (by omega)
 have hb2 := (hO4.blk _ hob).1
 replace hcur := hcur.grown g6 (fun e => by injection e with e; have := by_.lt; omega)
 rw [rcC_set C hk hb] at h6
 have hsp : cur = E.flatMap rvC ++ cur.drop (n * 81) := by rw [← hct, List.take_append_drop]
 have hfl : (E.flatMap rvC).length = n * 81 := by rw [flat_len rvC 81 rvC_len, hnE]
 have hnew : splice cur (i * 81) (rvC y) = (E.set i y).flatMap rvC ++ cur.drop (n * 81) := by
  rw [hsp, splice_app _ _ _ _ (by rw [rvC_len, hfl]; omega), flat_splice rvC 81 rvC_len _ _ (by omega), ← hsp]
 have HNEW := Lib.hid hnew
 replace by_ := by_.grown g6 (fun e => by injection e with e; omega)
 replace hz := hz.grown g6 (fun e => by injection e with e; omega)
 replace be := below_grown be g6 (Nat.le_refl _)
 have hcul : i * 81 + 81 ≤ cur.length := by omega
 have ii : (i : Int) < (n : Int) := by omega
 clear hnew hsp bs g6 hb4 hg4 hb4W hX hct hcl hfl
 go_upto_region 2 with (fail)
 refine wp_region_lit ?_
 refine wpList_plain rfl (fun K hK => ?_); go_simp; with_reducible refine hK _ _ ?_; clear hK K
 refine wpList_ld1 (t := 37) (cs := rcC C (some ⟨b2, 0, none⟩) n c2) 35 (.tmp 12) rfl (by rfl) rfl h6 (rcC_vips C hk hb _ n c2) Tryz.underlying35 rfl ?_
 refine wpList_plain rfl (fun K hK => ?_); go_simp; with_reducible refine hK _ _ ?_; clear hK K
 refine wpList_ldA (t := 115) 115 (.tmp 5) rfl rfl (rvC y) rfl (by_) (whole_ _) vr1 vr2 (szRv y) ?_
 refine wpList_plain rfl (fun K hK => ?_); go_simp; with_reducible refine hK _ _ ?_; clear hK K
 refine wpList_stM (t := 115) (off := i * 81) 115 (.tmp 16) (.tmp 15) rfl rfl (rvC y) cur (by rw [rvC_len]; omega) (rvC_one _) rfl rfl hcur (szRv y) ?_
 intro W8 h8 g8
 simp only [Act.put, qsT, qsZ, qsS]
 replace h6 := h6.grown g8 (fun e => by injection e with e; omega)
 replace hz := hz.grown g8 (fun e => by injection e with e; omega)
 replace be := below_grown be g8 (by omega)
 rw [HNEW.out] at h8
 clear g8 hcur by_
 go_upto_region 3 with (fail)
 refine wp_region_lit ?_
 refine wpList_ldA (t := 37) 37 (.tmp 3) rfl rfl (rcC C (some ⟨b2, 0, none⟩) n c2) rfl (h6) (whole_ _) vs1 vs2 (szRcS C hk hb _ n c2) ?_
 simp only [Act.put, qsT, qsZ, qsS]
 refine wpList_stA (t := 37) 37 (.tmp 6) (.tmp 17) rfl rfl (rcC C (some ⟨b2, 0, none⟩) n c2) zl0 (hzl.trans (rcC_len C hk hb _ _ _).symm).symm (rcL_one _ _ _ _ _ _ _ _) rfl rfl hz (szRcS C hk hb _ n c2) ?_
 intro W9 h9 g9
 simp only [Act.put, qsT, qsZ, qsS]
 replace h8 := h8.grown g9 (fun e => by injection e with e; omega)
 replace be := below_grown be g9 (by omega)
 go_wp2
 refine bodyPost_agg Tryz.results75 rfl h9.range vs1 vs2 (szRcS C hk hb _ n c2) rfl ?_
 have hX := HX0.out
 have hmem : ∀ x ∈ E.set i y, x ∈ E ∨ x = y := fun x hx => List.mem_or_eq_of_mem_set hx
 refine ⟨some ⟨b2, 0, none⟩, c2, rfl, ⟨?_, ?_, ?_, ?_, ?_, ?_⟩, be⟩
 ·rw [List.map_set, hX.vs]
 ·refine ⟨by rw [flat_len rvC 81 rvC_len, List.length_set, hnE], hnc, .inr ⟨b2, 0, rfl, h8.lt, fun j u hu => ?_⟩⟩
  rw [Nat.zero_add]
  exact (h8.cell j).trans (by rw [List.getElem?_append_left (List.getElem?_eq_some_iff.1 hu).1]; exact hu)
 ·intro a ha
  injection ha with ha
  subst ha
  exact ⟨h8.lt, fun hg => by have hgb : b2 < w.heap.size := hG _ hg; omega⟩
 ·intro x hx
  rcases hmem x hx with h | rfl
  ·exact (hX.mm x h).later be
  ·exact H10.out.later be
 ·intro x hx
  rcases hmem x hx with h | rfl
  ·exact (hX.mo x h).size be.size
  ·exact H20.out.size be.size
 ·intro x hx
  rcases hmem x hx with h | rfl
  ·exact (hX.ss x h).later be
  ·exact H30.out.later be
end

section
open Go.RowKit
theorem run_bs1 {P : Program} {w : World} {ts e : TypeId} {z : Value} {s by_ : Nat} (et : ET P ts e z s by_) (cs : List Value) (hl : cs.length = s) (hs : s ≤ 16777216) :
  (Instr.buildSlice ts 1 #[(0, .agg cs.toArray)]).run P w = .ok (.slice (some ⟨w.heap.size, 0, none⟩) 1 1) (w.alloc (.cells cs.toArray e)) := by
 have hp := et.pos
 have hz := et.zs
 obtain ⟨i, hi, hz0, hz1, hz2⟩ := info_parts et.info
 have hsl := et.sl
 clear et
 obtain rfl : i.size = s := hz1
 have h1 : ¬ 16777216 < i.size := by omega
 have h2 : ¬ i.size = 0 := by omega
 have hf := fill_cons (fun k => some (k * i.size, i.size)) ((List.range i.size).map (fun k => z.cells[k % z.cells.size]!)) 0 (.agg cs.toArray) [] 0 i.size cs (by simp) rfl hl (by simp)
 have hsp : splice ((List.range i.size).map (fun k => z.cells[k % z.cells.size]!)) 0 cs = cs := by
  unfold splice
  simp [hl]
 rw [hsp, fill_nil] at hf
 have ha : ((Array.range i.size).map (fun x => z.cells[x % z.cells.size]!)) = ((List.range i.size).map (fun k => z.cells[k % z.cells.size]!)).toArray := by
  apply Array.ext'
  simp
 rw [← ha] at hf
 unfold Instr.buildSlice
 simp only [Sem.run_bind, run_underlying hsl, Result.andThen_ok, sizeOf, typeInfo, zeroValue, Sem.run_pure]
 simp [hi, hz0, h1, h2, hf, newRow]
theorem wp_bs1 {P : Program} {Q : Exit → Act → World → Prop} {w : World} {o : Oper} {a : Act} {K : Act → World → Prop} {ts e : TypeId} {z : Value} {s by_ : Nat} (et : ET P ts e z s by_) (x : Operand) (ho : o.op = .buildSlice ts 1 #[(0, x)]) (cs : List Value) (hl : cs.length = s) (hs : s ≤ 16777216) (hx : a.eval x = .agg cs.toArray)
  (h : K (a.put o.dst (.slice (some ⟨w.heap.size, 0, none⟩) 1 1)) (w.alloc (.cells cs.toArray e))) : o.wp P a w K Q := by
 unfold Oper.wp execOp
 simp only [ho, Sem.run_bind, List.map_toArray, List.map_cons, List.map_nil, hx, run_bs1 et cs hl hs, Result.andThen_ok, Sem.run_pure]
 exact h
end

section
open Go.Lib
open Go.RowKit
attribute [local go_sem ↓] sliced_cut
attribute [local go_sem] cutA_zero
def RetRc (G : Nat → Prop) (w : World) (C' : Cf) (v : Nat) (e : Ending) (w' : World) : Prop := ∃ A n c E, e = .returned (.tuple #[.agg (rcC C' A n c).toArray, .int .i64 (v : Nat)]) ∧ RcX G w' C' A n c E ∧ Below w.heap.size w w'
theorem RetRc.no {G : Nat → Prop} {w w' : World} {C C' : Cf} {A : Option Addr} {n c : Nat} {E : List Re} {v v' : Nat} (h : RcX G w C A n c E) (hv : v' = v) (hC : C' = C) (hb : Below w.heap.size w w') : RetRc G w C' v' (.returned (.tuple #[.agg (rcC C A n c).toArray, .int .i64 (v : Nat)])) w' := by
 subst hv hC
 exact ⟨A, n, c, E, rfl, h.later hb, hb⟩
def Own.holdR {prot : Nat → Prop} (base : Nat) (t e : TypeId) (s : Nat) (cs : Value → List Value) (l : List Value) : Own prot := ⟨fun v u w => ∃ g A n c, u = .pointer (some ⟨g, 0, none⟩) ∧ v = .slice A n c ∧ Bk w g t (cs v) ∧ Os e s w base A n c l,
 fun v u b => u = .pointer (some ⟨b, 0, none⟩) ∨ v.ownBlock = some b,
 fun v u w b ⟨g, A, n, c, h1, h2, h3, h4⟩ h => (by
  rcases h with h | h
  ·rw [h1] at h; rw [← own_ptr h]; exact h3.lt
  ·subst h2; exact (h4.blk b h).2),
 fun v u w w' ⟨g, A, n, c, h1, h2, h3, h4⟩ hk => ⟨g, A, n, c, h1, h2, h3.kept hk (.inl (.inl h1)), h4.kept hk (fun b hb => .inl (.inr (by subst h2; exact hb)))⟩⟩
set_option maxHeartbeats 4000000
set_option maxRecDepth 100000
theorem run_buildRv (six : Bool) (ah al pt pr : Nat) (wy : Int) (w : World) : (Instr.build 115 #[(0, .agg (adC six ah al).toArray), (1, .int .u16 (pt : Int)), (2, .int .u8 (pr : Int)), (3, .int .i64 wy)]).run Tryz.prog w = .ok (.agg (rvC ((⟨(six, ah, al), pt, pr, wy, [], ⟨[], 0, 0⟩⟩, ⟨none, 0, 0, none, 0, 0⟩) : Re)).toArray) w := by kernel_rfl
theorem szEv (S : Stk) : (Tryz.prog.info? 34).map (·.size) = some ((refEv S).map Value.bool).length := by rw [show ((refEv S).map Value.bool).length = 65 by simp [refEv]]; kernel_rfl
theorem rowBl : ∃ d, Tryz.prog.underlying 34 = some d ∧ d.isRow = true := ⟨_, Tryz.underlying34, rfl⟩
theorem rvC_ev (x : Re) (i : Nat) (u : Value) (h : ((refEv x.1.S).map Value.bool)[i]? = some u) : (rvC x)[8 + i]? = some u := by
 unfold rvC rstC
 rw [List.getElem?_append_right (by rw [adF_len]; omega), adF_len, List.getElem?_append_right (by simp; omega)]
 rw [show 8 + i - 3 - [Value.int .u16 (x.1.pt : Int), .int .u8 (x.1.pr : Int), .int .i64 x.1.wy, .slice x.2.A x.2.n x.2.c].length = i + 1 by simp; omega, List.getElem?_cons_succ, List.getElem?_append_left (List.getElem?_eq_some_iff.1 h).1]
 exact h
theorem rvC_setEv (x : Re) (S' : Stk) (hb : refBz S' = refBz x.1.S) : splice (rvC x) 8 ((refEv S').map Value.bool) = rvC ({ x.1 with S := S' }, x.2) := by
 unfold rvC rstC splice
 rw [hb]
 simp [adF, adC, refEv]
def addR (C : Cf) (o : OpR) : Cf := if addE C o = 0 then { C with vs := C.vs ++ [newV C o] } else C
theorem added_cases (C : Cf) (k v b e : Int) (six : Bool) (ah al pt pr : Nat) (wy : Int) (ms : List (Int × Int)) : (adG six ah al = false ∧ addE C ⟨k, v, b, e, six, ah, al, pt, pr, wy, ms⟩ = 1) ∨ (adG six ah al = true ∧ ((pr : Int) == 6) = false ∧ ((pr : Int) == 17) = false ∧ addE C ⟨k, v, b, e, six, ah, al, pt, pr, wy, ms⟩ = 1) ∨
  (adG six ah al = true ∧ ((pr : Int) == 6) = true ∧ wy < 1 ∧ addE C ⟨k, v, b, e, six, ah, al, pt, pr, wy, ms⟩ = 1) ∨ (adG six ah al = true ∧ ((pr : Int) == 6) = true ∧ 4 < wy ∧ addE C ⟨k, v, b, e, six, ah, al, pt, pr, wy, ms⟩ = 1) ∨
  (adG six ah al = true ∧ ((pr : Int) == 6) = false ∧ ((pr : Int) == 17) = true ∧ wy < 1 ∧ addE C ⟨k, v, b, e, six, ah, al, pt, pr, wy, ms⟩ = 1) ∨ (adG six ah al = true ∧ ((pr : Int) == 6) = false ∧ ((pr : Int) == 17) = true ∧ 4 < wy ∧ addE C ⟨k, v, b, e, six, ah, al, pt, pr, wy, ms⟩ = 1) ∨
  (adG six ah al = true ∧ ((pr : Int) == 6) = true ∧ 1 ≤ wy ∧ wy ≤ 4 ∧ (adG six ah al && (decide (pr = 6 ∨ pr = 17) && wyB wy)) = true) ∨ (adG six ah al = true ∧ ((pr : Int) == 6) = false ∧ ((pr : Int) == 17) = true ∧ 1 ≤ wy ∧ wy ≤ 4 ∧ (adG six ah al && (decide (pr = 6 ∨ pr = 17) && wyB wy)) = true) := by
 have hbad : (adG six ah al && (decide (pr = 6 ∨ pr = 17) && wyB wy)) = false → addE C ⟨k, v, b, e, six, ah, al, pt, pr, wy, ms⟩ = 1 := fun h => by unfold addE; simp only; rw [if_pos h]
 have w1 : wy < 1 → wyB wy = false := fun h => by unfold wyB; rw [decide_eq_false (show ¬ 1 ≤ wy by omega)]; rfl
 have w4 : 4 < wy → wyB wy = false := fun h => by unfold wyB; rw [decide_eq_false (show ¬ wy ≤ 4 by omega)]; simp
 have wg : 1 ≤ wy → wy ≤ 4 → wyB wy = true := fun h1 h4 => by unfold wyB; rw [decide_eq_true h1, decide_eq_true h4]; rfl
 cases hg : adG six ah al with
 | false => exact .inl ⟨rfl, hbad (by rw [hg]; rfl)⟩
 | true =>
  rw [hg] at hbad
  refine .inr ?_
  have p6 : ((pr : Int) == 6) = decide (pr = 6) := by rw [Bool.eq_iff_iff]; simp; omega
  have p17 : ((pr : Int) == 17) = decide (pr = 17) := by rw [Bool.eq_iff_iff]; simp; omega
  rw [p6, p17]
  by_cases h6 : pr = 6
  ·subst h6
   rcases (by omega : wy < 1 ∨ 4 < wy ∨ (1 ≤ wy ∧ wy ≤ 4)) with h | h | ⟨h, h'⟩
   ·exact .inr (.inl ⟨rfl, rfl, h, hbad (by rw [w1 h]; simp)⟩)
   ·exact .inr (.inr (.inl ⟨rfl, rfl, h, hbad (by rw [w4 h]; simp)⟩))
   ·exact .inr (.inr (.inr (.inr (.inr (.inl ⟨rfl, rfl, h, h', by rw [wg h h']; rfl⟩)))))
  ·by_cases h17 : pr = 17
   ·subst h17
    rcases (by omega : wy < 1 ∨ 4 < wy ∨ (1 ≤ wy ∧ wy ≤ 4)) with h | h | ⟨h, h'⟩
    ·exact .inr (.inr (.inr (.inl ⟨rfl, rfl, rfl, h, hbad (by rw [w1 h]; simp)⟩)))
    ·exact .inr (.inr (.inr (.inr (.inl ⟨rfl, rfl, rfl, h, hbad (by rw [w4 h]; simp)⟩))))
    ·exact .inr (.inr (.inr (.inr (.inr (.inr ⟨rfl, rfl, rfl, h, h', by rw [wg h h']; rfl⟩)))))
   ·exact .inl ⟨rfl, decide_eq_false h6, decide_eq_false h17, hbad (by rw [decide_eq_false (by omega)]; rfl)⟩
theorem rcAdded_any {G : Nat → Prop} (k v b e : Int) (six : Bool) (ah al pt pr : Nat) (wy : Int) (ms : List (Int × Int)) (B : Option Addr) (m d : Nat) (C : Cf) (hC : CfOk C) (A : Option Addr) (n c : Nat) (E : List Re) (w : World) (hG : ∀ b, G b → b < w.heap.size) (hX : RcX G w C A n c E) (hal : al < 18446744073709551616) : Calls Tryz.prog 70 #[.agg (rcC C A n c).toArray, .agg (opC k v b e six ah al pt pr wy B m d).toArray] w (RetRc G w (addR C ⟨k, v, b, e, six, ah, al, pt, pr, wy, ms⟩) (addE C ⟨k, v, b, e, six, ah, al, pt, pr, wy, ms⟩)) := by
 obtain ⟨dva1, va1, va2⟩ := rowAdC
 obtain ⟨dvr1, vr1, vr2⟩ := rowRv
 obtain ⟨dub1, ub1, ub2⟩ := rowBl
 have hk := hC.key
 have hb := hC.bl
 have HX0 := Lib.hid hX
 have HRR := Lib.hid (fun W => refAdrRightC six ah al W hal)
 obtain ⟨ag, hag⟩ : ∃ x, x = adG six ah al := ⟨_, rfl⟩
 rw [← hag] at HRR
 have HC := added_cases C k v b e six ah al pt pr wy ms
 rw [← hag] at HC
 rcases HC with ⟨rfl, HE⟩ | ⟨rfl, q6, q17, HE⟩ | ⟨rfl, q6, q1, HE⟩ | ⟨rfl, q6, q1, HE⟩ | ⟨rfl, q6, q17, q1, HE⟩ | ⟨rfl, q6, q17, q1, HE⟩ | ⟨rfl, q6, q1, q4, hgood⟩ | ⟨rfl, q6, q17, q1, q4, hgood⟩
 all_goals first | (have r6 : ((pr : Int) != 6) = false := (by rw [bne, q6]; rfl)) | (have r6 : ((pr : Int) != 6) = true := (by rw [bne, q6]; rfl); have n6 : ¬ (pr : Int) = 6 := (by simpa using q6)) | skip
 all_goals first | (have r17 : ((pr : Int) != 17) = false := (by rw [bne, q17]; rfl)) | (have r17 : ((pr : Int) != 17) = true := (by rw [bne, q17]; rfl); have n17 : ¬ (pr : Int) = 17 := (by simpa using q17)) | skip
 all_goals first | (have q9 : 1 ≤ wy := (by omega)) | skip
 iterate 6
  focus
   have HAP := Lib.hid (show addR C ⟨k, v, b, e, six, ah, al, pt, pr, wy, ms⟩ = C by unfold addR; rw [HE]; rfl)
   have HE0 := Lib.hid HE
   clear HE hag
   obtain ⟨dvs1, vs1, vs2⟩ := rowRcS
   obtain ⟨dvo1, vo1, vo2⟩ := rowRo
   obtain ⟨bs, bo, be, zV⟩ := box2 w 37 47 (rcC C A n c) (opC k v b e six ah al pt pr wy B m d)
   go_enter Tryz.func70, Tryz.ntmps70
   go_upto_region 1 with (fail)
   have HVe := Lib.hid (show ((w.alloc (.cells (rcC C A n c).toArray 37)).alloc (.cells (opC k v b e six ah al pt pr wy B m d).toArray 47)).heap.size = w.heap.size + 1 + 1 by simp)
   generalize (w.alloc (.cells (rcC C A n c).toArray 37)).alloc (.cells (opC k v b e six ah al pt pr wy B m d).toArray 47) = V at *
   have hz := Bk.newK 37 (Tryz.zeroCells37) _ HVe.out.symm rfl
   have hzl : (Tryz.zeroCells37).toList.length = 279 := by kernel_rfl
   have hbz : Below V.heap.size V (V.alloc (.cells (Tryz.zeroCells37) 37)) := Below.allocS (Below.refl _ _) _
   go_upto_region 1 with (fail)
   have hVs : w.heap.size + 2 ≤ V.heap.size := by have := bo.lt; omega
   generalize hV2 : V.alloc (.cells (Tryz.zeroCells37) 37) = V2 at *
   clear hV2
   generalize (Tryz.zeroCells37).toList = zl0 at *
   replace bs := bs.later hbz
   replace bo := bo.later hbz
   replace be := be.trans (hbz.mono be.size)
   have hVz := hbz.size
   clear hbz
   refine wp_region_lit ?_
   refine wpList_plain rfl (fun K hK => ?_); go_simp; with_reducible refine hK _ _ ?_; clear hK K
   refine wpList_ldA (t := 47) (cs := opC k v b e six ah al pt pr wy B m d) 32 (.tmp 7) rfl rfl (adC six ah al) rfl (bo) rfl va1 va2 (szAd _ _ _) ?_
   refine wpList_plain rfl (fun K hK => ?_)
   go_simp
   refine (HRR.out _).mono ?_
   rintro e w1 ⟨bs1, d1, rfl, rfl⟩
   with_reducible refine hK _ _ ?_
   clear hK K
   have hb1 := below_plus V2 bs1 d1
   replace bs := bs.later hb1
   replace bo := bo.later hb1
   replace hz := hz.later hb1
   replace be := be.trans (hb1.mono be.size)
   clear hb1
   generalize plus V2 bs1 d1 = V3 at *
   iterate 2 (refine wpList_plain rfl (fun K hK => ?_); go_simp; with_reducible refine hK _ _ ?_; clear hK K)
   first | ((with_reducible refine wpList_skip ?_ ?_); (· first | (go_simp; done) | (go_simp; intro h; cases h)); simp only [Act.put, qsT, qsZ, qsS]) | (refine wpList_step (fun K hK => ?_); go_simp; (with_reducible refine hK _ _ ?_); clear hK K)
   first | ((with_reducible refine wpList_skip ?_ ?_); (· first | (go_simp; done) | (go_simp; intro h; cases h)); simp only [Act.put, qsT, qsZ, qsS]) | (refine wpList_ld1 (t := 47) (cs := opC k v b e six ah al pt pr wy B m d) 5 (.tmp 12) rfl (by go_simp) rfl (bo) rfl Tryz.underlying5 rfl ?_; simp only [Act.put, qsT, qsZ, qsS])
   first | ((with_reducible refine wpList_skip ?_ ?_); (· first | (go_simp; done) | (go_simp; intro h; cases h)); simp only [Act.put, qsT, qsZ, qsS]) | (refine wpList_step (fun K hK => ?_); go_simp; (with_reducible refine hK _ _ ?_); clear hK K)
   first | ((with_reducible refine wpList_skip ?_ ?_); (· first | (go_simp; done) | (go_simp; intro h; cases h)); simp only [Act.put, qsT, qsZ, qsS]) | (refine wpList_step (fun K hK => ?_); go_simp; (with_reducible refine hK _ _ ?_); clear hK K)
   first | ((with_reducible refine wpList_skip ?_ ?_); (· first | (go_simp; done) | (go_simp; intro h; cases h)); simp only [Act.put, qsT, qsZ, qsS]) | (refine wpList_step (fun K hK => ?_); go_simp; (with_reducible refine hK _ _ ?_); clear hK K)
   first | ((with_reducible refine wpList_skip ?_ ?_); (· first | (go_simp; done) | (go_simp; intro h; cases h)); simp only [Act.put, qsT, qsZ, qsS]) | (refine wpList_ld1 (t := 47) (cs := opC k v b e six ah al pt pr wy B m d) 5 (.tmp 16) rfl (by go_simp) rfl (bo) rfl Tryz.underlying5 rfl ?_; simp only [Act.put, qsT, qsZ, qsS])
   first | ((with_reducible refine wpList_skip ?_ ?_); (· first | (go_simp; done) | (go_simp; intro h; cases h)); simp only [Act.put, qsT, qsZ, qsS]) | (refine wpList_step (fun K hK => ?_); go_simp; (with_reducible refine hK _ _ ?_); clear hK K)
   first | ((with_reducible refine wpList_skip ?_ ?_); (· first | (go_simp; done) | (go_simp; intro h; cases h)); simp only [Act.put, qsT, qsZ, qsS]) | (refine wpList_step (fun K hK => ?_); go_simp; (with_reducible refine hK _ _ ?_); clear hK K)
   iterate 2 (refine wpList_plain rfl (fun K hK => ?_); go_simp; with_reducible refine hK _ _ ?_; clear hK K)
   first | ((with_reducible refine wpList_skip ?_ ?_); (· first | (go_simp; done) | (go_simp; intro h; cases h)); simp only [Act.put, qsT, qsZ, qsS]) | (refine wpList_step (fun K hK => ?_); go_simp; (with_reducible refine hK _ _ ?_); clear hK K)
   first | ((with_reducible refine wpList_skip ?_ ?_); (· first | (go_simp; done) | (go_simp; intro h; cases h)); simp only [Act.put, qsT, qsZ, qsS]) | (refine wpList_ld1 (t := 47) (cs := opC k v b e six ah al pt pr wy B m d) 3 (.tmp 22) rfl (by go_simp) rfl (bo) rfl Tryz.underlying3 rfl ?_; simp only [Act.put, qsT, qsZ, qsS])
   first | ((with_reducible refine wpList_skip ?_ ?_); (· first | (go_simp; done) | (go_simp; intro h; cases h)); simp only [Act.put, qsT, qsZ, qsS]) | (refine wpList_step (fun K hK => ?_); go_simp; (with_reducible refine hK _ _ ?_); clear hK K)
   iterate 2 (refine wpList_plain rfl (fun K hK => ?_); go_simp; with_reducible refine hK _ _ ?_; clear hK K)
   first | ((with_reducible refine wpList_skip ?_ ?_); (· first | (go_simp; done) | (go_simp; intro h; cases h)); simp only [Act.put, qsT, qsZ, qsS]) | (refine wpList_step (fun K hK => ?_); go_simp; (with_reducible refine hK _ _ ?_); clear hK K)
   first | ((with_reducible refine wpList_skip ?_ ?_); (· first | (go_simp; done) | (go_simp; intro h; cases h)); simp only [Act.put, qsT, qsZ, qsS]) | (refine wpList_ld1 (t := 47) (cs := opC k v b e six ah al pt pr wy B m d) 3 (.tmp 27) rfl (by go_simp) rfl (bo) rfl Tryz.underlying3 rfl ?_; simp only [Act.put, qsT, qsZ, qsS])
   first | ((with_reducible refine wpList_skip ?_ ?_); (· first | (go_simp; done) | (go_simp; intro h; cases h)); simp only [Act.put, qsT, qsZ, qsS]) | (refine wpList_step (fun K hK => ?_); go_simp; (with_reducible refine hK _ _ ?_); clear hK K)
   refine wpList_plain rfl (fun K hK => ?_); go_simp; with_reducible refine hK _ _ ?_; clear hK K
   go_upto_region 2 with (fail)
   refine wp_region_lit ?_
   refine wpList_ldA (t := 37) 37 (.tmp 2) rfl rfl (rcC C A n c) rfl (bs) (whole_ _) vs1 vs2 (szRcS C hk hb A n c) ?_
   simp only [Act.put, qsT, qsZ, qsS]
   refine wpList_stA (t := 37) 37 (.tmp 4) (.tmp 31) rfl rfl (rcC C A n c) zl0 (hzl.trans (rcC_len C hk hb _ _ _).symm).symm (rcL_one _ _ _ _ _ _ _ _) rfl rfl hz (szRcS C hk hb _ _ _) ?_
   intro W9 h9 g9
   refine wpList_plain rfl (fun K hK => ?_); go_simp; with_reducible refine hK _ _ ?_; clear hK K
   replace be := below_grown be g9 (by omega)
   go_wp2
   refine bodyPost_agg2 Tryz.results70 rfl rfl h9.range vs1 vs2 (szRcS C hk hb _ _ _) rfl ?_
   exact RetRc.no HX0.out HE0.out HAP.out be
 iterate 2
  focus
   have hE1 : addE C ⟨k, v, b, e, six, ah, al, pt, pr, wy, ms⟩ = if fdC C (six, ah, al) pt pr < C.vs.length then 7 else if 16 ≤ C.vs.length then 23 else 0 := by
    unfold addE
    simp only
    rw [← hag, hgood]
    simp
   have hnv := hX.n_
   have hvl := hC.vl
   have hlt0 : fdC C (six, ah, al) pt pr ≤ C.vs.length := List.findIdx_le_length
   have HFI := Lib.hid (fun W (h : RcX G W C A n c E) => rcFind_any C hk hb A n c E h.vs six ah al pt pr W h.row (by omega))
   have HN := Lib.hid hnv
   obtain ⟨fz, hfz⟩ : ∃ z, z = fdI C (six, ah, al) pt pr := ⟨_, rfl⟩
   rw [← hfz] at HFI
   have HFZ := Lib.hid hfz
   have HE1 := Lib.hid hE1
   have HN16 := Lib.hid hvl
   clear hE1 hgood hag hlt0 hnv hfz hvl
   obtain ⟨dvs1, vs1, vs2⟩ := rowRcS
   obtain ⟨dvo1, vo1, vo2⟩ := rowRo
   obtain ⟨bs, bo, be, zV⟩ := box2 w 37 47 (rcC C A n c) (opC k v b e six ah al pt pr wy B m d)
   go_enter Tryz.func70, Tryz.ntmps70
   go_upto_region 1 with (fail)
   have HVe := Lib.hid (show ((w.alloc (.cells (rcC C A n c).toArray 37)).alloc (.cells (opC k v b e six ah al pt pr wy B m d).toArray 47)).heap.size = w.heap.size + 1 + 1 by simp)
   generalize (w.alloc (.cells (rcC C A n c).toArray 37)).alloc (.cells (opC k v b e six ah al pt pr wy B m d).toArray 47) = V at *
   have hz := Bk.newK 37 (Tryz.zeroCells37) _ HVe.out.symm rfl
   have hzl : (Tryz.zeroCells37).toList.length = 279 := by kernel_rfl
   have hbz : Below V.heap.size V (V.alloc (.cells (Tryz.zeroCells37) 37)) := Below.allocS (Below.refl _ _) _
   go_upto_region 1 with (fail)
   have hVs : w.heap.size + 2 ≤ V.heap.size := by have := bo.lt; omega
   generalize hV2 : V.alloc (.cells (Tryz.zeroCells37) 37) = V2 at *
   clear hV2
   generalize (Tryz.zeroCells37).toList = zl0 at *
   replace bs := bs.later hbz
   replace bo := bo.later hbz
   replace be := be.trans (hbz.mono be.size)
   have hVz := hbz.size
   clear hbz
   replace hX := (HX0.out).later be
   refine wp_region_lit ?_
   refine wpList_plain rfl (fun K hK => ?_); go_simp; with_reducible refine hK _ _ ?_; clear hK K
   refine wpList_ldA (t := 47) (cs := opC k v b e six ah al pt pr wy B m d) 32 (.tmp 7) rfl rfl (adC six ah al) rfl (bo) rfl va1 va2 (szAd _ _ _) ?_
   refine wpList_plain rfl (fun K hK => ?_)
   go_simp
   refine (HRR.out _).mono ?_
   rintro e w1 ⟨bs1, d1, rfl, rfl⟩
   with_reducible refine hK _ _ ?_
   clear hK K
   have hb1 := below_plus V2 bs1 d1
   replace bs := bs.later hb1
   replace bo := bo.later hb1
   replace hz := hz.later hb1
   replace be := be.trans (hb1.mono be.size)
   clear hb1
   generalize plus V2 bs1 d1 = V3 at *
   iterate 2 (refine wpList_plain rfl (fun K hK => ?_); go_simp; with_reducible refine hK _ _ ?_; clear hK K)
   first | ((with_reducible refine wpList_skip ?_ ?_); (· first | (go_simp; done) | (go_simp; intro h; cases h)); simp only [Act.put, qsT, qsZ, qsS]) | (refine wpList_step (fun K hK => ?_); go_simp; (with_reducible refine hK _ _ ?_); clear hK K)
   first | ((with_reducible refine wpList_skip ?_ ?_); (· first | (go_simp; done) | (go_simp; intro h; cases h)); simp only [Act.put, qsT, qsZ, qsS]) | (refine wpList_ld1 (t := 47) (cs := opC k v b e six ah al pt pr wy B m d) 5 (.tmp 12) rfl (by go_simp) rfl (bo) rfl Tryz.underlying5 rfl ?_; simp only [Act.put, qsT, qsZ, qsS])
   first | ((with_reducible refine wpList_skip ?_ ?_); (· first | (go_simp; done) | (go_simp; intro h; cases h)); simp only [Act.put, qsT, qsZ, qsS]) | (refine wpList_step (fun K hK => ?_); go_simp; (with_reducible refine hK _ _ ?_); clear hK K)
   first | ((with_reducible refine wpList_skip ?_ ?_); (· first | (go_simp; done) | (go_simp; intro h; cases h)); simp only [Act.put, qsT, qsZ, qsS]) | (refine wpList_step (fun K hK => ?_); go_simp; (with_reducible refine hK _ _ ?_); clear hK K)
   first | ((with_reducible refine wpList_skip ?_ ?_); (· first | (go_simp; done) | (go_simp; intro h; cases h)); simp only [Act.put, qsT, qsZ, qsS]) | (refine wpList_step (fun K hK => ?_); go_simp; (with_reducible refine hK _ _ ?_); clear hK K)
   first | ((with_reducible refine wpList_skip ?_ ?_); (· first | (go_simp; done) | (go_simp; intro h; cases h)); simp only [Act.put, qsT, qsZ, qsS]) | (refine wpList_ld1 (t := 47) (cs := opC k v b e six ah al pt pr wy B m d) 5 (.tmp 16) rfl (by go_simp) rfl (bo) rfl Tryz.underlying5 rfl ?_; simp only [Act.put, qsT, qsZ, qsS])
   first | ((with_reducible refine wpList_skip ?_ ?_); (· first | (go_simp; done) | (go_simp; intro h; cases h)); simp only [Act.put, qsT, qsZ, qsS]) | (refine wpList_step (fun K hK => ?_); go_simp; (with_reducible refine hK _ _ ?_); clear hK K)
   first | ((with_reducible refine wpList_skip ?_ ?_); (· first | (go_simp; done) | (go_simp; intro h; cases h)); simp only [Act.put, qsT, qsZ, qsS]) | (refine wpList_step (fun K hK => ?_); go_simp; (with_reducible refine hK _ _ ?_); clear hK K)
   iterate 2 (refine wpList_plain rfl (fun K hK => ?_); go_simp; with_reducible refine hK _ _ ?_; clear hK K)
   first | ((with_reducible refine wpList_skip ?_ ?_); (· first | (go_simp; done) | (go_simp; intro h; cases h)); simp only [Act.put, qsT, qsZ, qsS]) | (refine wpList_step (fun K hK => ?_); go_simp; (with_reducible refine hK _ _ ?_); clear hK K)
   first | ((with_reducible refine wpList_skip ?_ ?_); (· first | (go_simp; done) | (go_simp; intro h; cases h)); simp only [Act.put, qsT, qsZ, qsS]) | (refine wpList_ld1 (t := 47) (cs := opC k v b e six ah al pt pr wy B m d) 3 (.tmp 22) rfl (by go_simp) rfl (bo) rfl Tryz.underlying3 rfl ?_; simp only [Act.put, qsT, qsZ, qsS])
   first | ((with_reducible refine wpList_skip ?_ ?_); (· first | (go_simp; done) | (go_simp; intro h; cases h)); simp only [Act.put, qsT, qsZ, qsS]) | (refine wpList_step (fun K hK => ?_); go_simp; (with_reducible refine hK _ _ ?_); clear hK K)
   iterate 2 (refine wpList_plain rfl (fun K hK => ?_); go_simp; with_reducible refine hK _ _ ?_; clear hK K)
   first | ((with_reducible refine wpList_skip ?_ ?_); (· first | (go_simp; done) | (go_simp; intro h; cases h)); simp only [Act.put, qsT, qsZ, qsS]) | (refine wpList_step (fun K hK => ?_); go_simp; (with_reducible refine hK _ _ ?_); clear hK K)
   first | ((with_reducible refine wpList_skip ?_ ?_); (· first | (go_simp; done) | (go_simp; intro h; cases h)); simp only [Act.put, qsT, qsZ, qsS]) | (refine wpList_ld1 (t := 47) (cs := opC k v b e six ah al pt pr wy B m d) 3 (.tmp 27) rfl (by go_simp) rfl (bo) rfl Tryz.underlying3 rfl ?_; simp only [Act.put, qsT, qsZ, qsS])
   first | ((with_reducible refine wpList_skip ?_ ?_); (· first | (go_simp; done) | (go_simp; intro h; cases h)); simp only [Act.put, qsT, qsZ, qsS]) | (refine wpList_step (fun K hK => ?_); go_simp; (with_reducible refine hK _ _ ?_); clear hK K)
   refine wpList_plain rfl (fun K hK => ?_); go_simp; with_reducible refine hK _ _ ?_; clear hK K
   replace hX := (HX0.out).later be
   go_upto_region 3 with (fail)
   refine wp_region_lit ?_
   refine wpList_ldA (t := 37) 37 (.tmp 2) rfl rfl (rcC C A n c) rfl (bs) (whole_ _) vs1 vs2 (szRcS C hk hb A n c) ?_
   refine wpList_plain rfl (fun K hK => ?_); go_simp; with_reducible refine hK _ _ ?_; clear hK K
   refine wpList_ldA (t := 47) (cs := opC k v b e six ah al pt pr wy B m d) 32 (.tmp 33) rfl rfl (adC six ah al) rfl (bo) rfl va1 va2 (szAd _ _ _) ?_
   refine wpList_plain rfl (fun K hK => ?_); go_simp; with_reducible refine hK _ _ ?_; clear hK K
   refine wpList_ld1 (t := 47) (cs := opC k v b e six ah al pt pr wy B m d) 40 (.tmp 35) rfl (by rfl) rfl (bo) rfl Tryz.underlying40 rfl ?_
   refine wpList_plain rfl (fun K hK => ?_); go_simp; with_reducible refine hK _ _ ?_; clear hK K
   refine wpList_ld1 (t := 47) (cs := opC k v b e six ah al pt pr wy B m d) 5 (.tmp 37) rfl (by rfl) rfl (bo) rfl Tryz.underlying5 rfl ?_
   refine wpList_plain rfl (fun K hK => ?_)
   go_simp
   refine (HFI.out _ hX).mono ?_
   rintro e w1 ⟨bs2, d2, rfl, rfl⟩
   with_reducible refine hK _ _ ?_
   clear hK K
   have hb1 := below_plus V3 bs2 d2
   replace bs := bs.later hb1
   replace bo := bo.later hb1
   replace hz := hz.later hb1
   replace hX := hX.later hb1
   replace be := be.trans (hb1.mono be.size)
   clear hb1
   generalize plus V3 bs2 d2 = V4 at *
   refine wpList_plain rfl (fun K hK => ?_); go_simp; with_reducible refine hK _ _ ?_; clear hK K
   have hvl := HN16.out
   by_cases hf : fdC C (six, ah, al) pt pr < C.vs.length
   ·have HE0 := Lib.hid (HE1.out.trans (if_pos hf))
    have HAP := Lib.hid (show addR C ⟨k, v, b, e, six, ah, al, pt, pr, wy, ms⟩ = C by unfold addR; rw [HE0.out]; rfl)
    have hfi0 : (0 : Int) ≤ fz := by have h1 := HFZ.out; unfold fdI at h1; rw [if_pos hf] at h1; omega
    clear hf
    go_upto_region 4 with (fail)
    refine wp_region_lit ?_
    refine wpList_ldA (t := 37) 37 (.tmp 2) rfl rfl (rcC C A n c) rfl (bs) (whole_ _) vs1 vs2 (szRcS C hk hb A n c) ?_
    simp only [Act.put, qsT, qsZ, qsS]
    refine wpList_stA (t := 37) 37 (.tmp 4) (.tmp 41) rfl rfl (rcC C A n c) zl0 (hzl.trans (rcC_len C hk hb _ _ _).symm).symm (rcL_one _ _ _ _ _ _ _ _) rfl rfl hz (szRcS C hk hb _ _ _) ?_
    intro W9 h9 g9
    refine wpList_plain rfl (fun K hK => ?_); go_simp; with_reducible refine hK _ _ ?_; clear hK K
    replace be := below_grown be g9 (by omega)
    go_wp2
    refine bodyPost_agg2 Tryz.results70 rfl rfl h9.range vs1 vs2 (szRcS C hk hb _ _ _) rfl ?_
    exact RetRc.no HX0.out HE0.out HAP.out be
   ·have hfi0 : ¬ (0 : Int) ≤ fz := by have h1 := HFZ.out; unfold fdI at h1; rw [if_neg hf] at h1; omega
    have q278 : V4.cell? ⟨w.heap.size, 278, none⟩ = some (.slice A n c) := (bs.cell _).trans (rcC_vips C hk hb A n c)
    by_cases h16 : 16 ≤ C.vs.length
    ·have HE0 := Lib.hid (HE1.out.trans ((if_neg hf).trans (if_pos h16)))
     have HAP := Lib.hid (show addR C ⟨k, v, b, e, six, ah, al, pt, pr, wy, ms⟩ = C by unfold addR; rw [HE0.out]; rfl)
     have n16 : (16 : Int) ≤ (n : Int) := by have := HN.out; omega
     clear hf h16
     go_upto_region 6 with (fail)
     refine wp_region_lit ?_
     refine wpList_ldA (t := 37) 37 (.tmp 2) rfl rfl (rcC C A n c) rfl (bs) (whole_ _) vs1 vs2 (szRcS C hk hb A n c) ?_
     simp only [Act.put, qsT, qsZ, qsS]
     refine wpList_stA (t := 37) 37 (.tmp 4) (.tmp 46) rfl rfl (rcC C A n c) zl0 (hzl.trans (rcC_len C hk hb _ _ _).symm).symm (rcL_one _ _ _ _ _ _ _ _) rfl rfl hz (szRcS C hk hb _ _ _) ?_
     intro W9 h9 g9
     refine wpList_plain rfl (fun K hK => ?_); go_simp; with_reducible refine hK _ _ ?_; clear hK K
     replace be := below_grown be g9 (by omega)
     go_wp2
     refine bodyPost_agg2 Tryz.results70 rfl rfl h9.range vs1 vs2 (szRcS C hk hb _ _ _) rfl ?_
     exact RetRc.no HX0.out HE0.out HAP.out be
    ·have HE0 := Lib.hid (HE1.out.trans ((if_neg hf).trans (if_neg h16)))
     have HAP := Lib.hid (show addR C ⟨k, v, b, e, six, ah, al, pt, pr, wy, ms⟩ = { C with vs := C.vs ++ [newV C ⟨k, v, b, e, six, ah, al, pt, pr, wy, ms⟩] } by unfold addR; rw [HE0.out]; rfl)
     have n16 : ¬ (16 : Int) ≤ (n : Int) := by have := HN.out; omega
     clear hf h16
     go_upto_region 7 with (fail)
     have hv81 : (Tryz.zeroCells115).toList.length = 81 := by kernel_rfl
     refine wp_region_lit ?_
     refine wpList_plain rfl (fun K hK => ?_); go_simp; with_reducible refine hK _ _ ?_; clear hK K
     refine wpList_ldA (t := 47) (cs := opC k v b e six ah al pt pr wy B m d) 32 (.tmp 47) rfl rfl (adC six ah al) rfl (bo) rfl va1 va2 (szAd _ _ _) ?_
     refine wpList_plain rfl (fun K hK => ?_); go_simp; with_reducible refine hK _ _ ?_; clear hK K
     refine wpList_ld1 (t := 47) (cs := opC k v b e six ah al pt pr wy B m d) 40 (.tmp 49) rfl (by rfl) rfl (bo) rfl Tryz.underlying40 rfl ?_
     refine wpList_plain rfl (fun K hK => ?_); go_simp; with_reducible refine hK _ _ ?_; clear hK K
     refine wpList_ld1 (t := 47) (cs := opC k v b e six ah al pt pr wy B m d) 5 (.tmp 51) rfl (by rfl) rfl (bo) rfl Tryz.underlying5 rfl ?_
     refine wpList_plain rfl (fun K hK => ?_); go_simp; with_reducible refine hK _ _ ?_; clear hK K
     refine wpList_ld1 (t := 47) (cs := opC k v b e six ah al pt pr wy B m d) 3 (.tmp 53) rfl (by rfl) rfl (bo) rfl Tryz.underlying3 rfl ?_
     simp only [Act.put, qsT, qsZ, qsS]
     refine wpList_build 115 [(0, .tmp 48), (1, .tmp 50), (2, .tmp 52), (3, .tmp 54)] rfl rfl (.agg (rvC ((⟨(six, ah, al), pt, pr, wy, [], ⟨[], 0, 0⟩⟩, ⟨none, 0, 0, none, 0, 0⟩) : Re)).toArray) (run_buildRv _ _ _ _ _ _ _) ?_
     refine wpList_plain rfl (fun K hK => ?_); go_simp; with_reducible refine hK _ _ ?_; clear hK K
     refine wpList_stA (t := 115) 115 (.tmp 6) (.tmp 55) rfl rfl (rvC ((⟨(six, ah, al), pt, pr, wy, [], ⟨[], 0, 0⟩⟩, ⟨none, 0, 0, none, 0, 0⟩) : Re)) (Tryz.zeroCells115).toList (by rw [rvC_len]; exact hv81.symm) (rvC_one _) rfl rfl (Bk.new _ _ _) (szRv _) ?_
     intro W7 h7 g7
     simp only [Act.put, qsT, qsZ, qsS]
     replace h7 := h7
     have be7 : Below w.heap.size w W7 := below_grown (Below.allocS be _) g7 (by have := be.size; omega)
     have bs7 := (bs.alloc (.cells (Tryz.zeroCells115) 115)).grown g7 (fun e => by injection e with e; have := bs.lt; omega)
     have hz7 := (hz.alloc (.cells (Tryz.zeroCells115) 115)).grown g7 (fun e => by injection e with e; have := hz.lt; omega)
     have hgv : V4.heap.size ≠ w.heap.size := by have := bs.lt; omega
     have hgz : V4.heap.size ≠ w.heap.size + 1 + 1 := by have := hz.lt; omega
     have hgl : w.heap.size ≤ V4.heap.size := be.size
     clear bs hz be bo q278 hX
     generalize V4.heap.size = gv at *
     have q278 : W7.cell? ⟨w.heap.size, 278, none⟩ = some (.slice A n c) := (bs7.cell _).trans (rcC_vips C hk hb A n c)
     clear g7
     by_cases h0 : n = 0
     focus
      have h0i : ¬ (0 : Int) < (n : Int) := by omega
      obtain ⟨y1, hy1⟩ : ∃ y : Re, y = ((newV C ⟨k, v, b, e, six, ah, al, pt, pr, wy, ms⟩, ⟨none, 0, 0, none, 0, 0⟩) : Re) := ⟨_, rfl⟩
      have HY1 := Lib.hid hy1
      have hvs : C.vs = [] := List.eq_nil_of_length_eq_zero (by have := HN.out; omega)
      have hy : Bk W7 gv 115 (rvC y1) := by
       rw [hy1]
       have e0 : ev0 C = 0 := by unfold ev0; rw [hvs]; rfl
       unfold newV
       rw [e0]
       exact h7
      clear hvs hy1 h7
      have bs := bs7
      have hz := hz7
      have be := be7
      clear bs7 hz7 be7
      go_upto_region 10 with (fail)
      generalize W7 = W at *
      clear q278
     rotate_left
     focus
      have h0i : (0 : Int) < (n : Int) := by omega
      have h0n : 0 < n := by omega
      have hXr := (HX0.out).later be7
      have hlE := hXr.len
      have hNn := HN.out
      obtain ⟨bl, ol, hAe, hbl, -⟩ := hXr.row.at_ h0n (by decide)
      have hrow := hXr.row
      rw [hAe] at hrow q278
      have hr0 := hrow.rangeE rvC_len 0 (by omega)
      rw [Nat.zero_mul, Nat.add_zero] at hr0
      have hE0v : (E[0]'(by omega)).1.S.ev = ev0 C := by
       unfold ev0
       rw [← hXr.vs, List.head?_map, List.head?_eq_getElem?, List.getElem?_eq_getElem (by omega)]
       rfl
      generalize (E[0]'(by omega)) = u0 at *
      have hrg : W7.rangeAt bl (ol + 8) ((refEv u0.1.S).map Value.bool) := fun i u hu => by
       rw [Nat.add_assoc]
       exact hr0 (8 + i) u (rvC_ev u0 i u hu)
      have hspl : splice (rvC ((⟨(six, ah, al), pt, pr, wy, [], ⟨[], 0, 0⟩⟩, ⟨none, 0, 0, none, 0, 0⟩) : Re)) 8 ((refEv u0.1.S).map Value.bool) = rvC ((newV C ⟨k, v, b, e, six, ah, al, pt, pr, wy, ms⟩, ⟨none, 0, 0, none, 0, 0⟩) : Re) := by
       have h1 : refEv u0.1.S = refEv ⟨[], ev0 C, 0⟩ := by unfold refEv deadS; rw [hE0v]
       rw [h1]
       exact rvC_setEv ((⟨(six, ah, al), pt, pr, wy, [], ⟨[], 0, 0⟩⟩, ⟨none, 0, 0, none, 0, 0⟩) : Re) ⟨[], ev0 C, 0⟩ rfl
      obtain ⟨y1, hy1⟩ : ∃ y : Re, y = ((newV C ⟨k, v, b, e, six, ah, al, pt, pr, wy, ms⟩, ⟨none, 0, 0, none, 0, 0⟩) : Re) := ⟨_, rfl⟩
      rw [← hy1] at hspl
      have HY1 := Lib.hid hy1
      have hgl7 := h7.lt
      clear hXr hlE hNn hAe hrow hr0 hE0v hy1
      go_upto_region 9 with (fail)
      refine wp_region_lit ?_
      iterate 5 (refine wpList_plain rfl (fun K hK => ?_); go_simp; with_reducible refine hK _ _ ?_; clear hK K)
      refine wpList_load_mid rfl 34 (.tmp 64) rfl bl (ol + 8) rfl ((refEv u0.1.S).map Value.bool) _ hrg ub1 ub2 (szEv _) ?_
      iterate 2 (refine wpList_plain rfl (fun K hK => ?_); go_simp; with_reducible refine hK _ _ ?_; clear hK K)
      refine wpList_stM (t := 115) (off := 8) 34 (.tmp 67) (.tmp 65) rfl rfl ((refEv u0.1.S).map Value.bool) (rvC ((⟨(six, ah, al), pt, pr, wy, [], ⟨[], 0, 0⟩⟩, ⟨none, 0, 0, none, 0, 0⟩) : Re)) (by rw [rvC_len]; simp [refEv]) (by intro u hu; obtain ⟨x, _, rfl⟩ := List.mem_map.1 hu; rfl) rfl rfl h7 (szEv _) ?_
      intro W9 h9 g9
      simp only [Act.put, qsT, qsZ, qsS]
      rw [hspl] at h9
      have hy := h9
      have bs := bs7.grown g9 (fun e => by injection e with e; omega)
      have hz := hz7.grown g9 (fun e => by injection e with e; omega)
      have be := below_grown be7 g9 hgl
      clear bs7 hz7 be7 h9 g9 h7 hspl hrg q278 hgl7
      go_upto_region 10 with (fail)
      generalize W9 = W at *
     iterate 2
      focus
       replace hX := (HX0.out).later be
       have hA6 := HX0.out.off
       have hrP : ∀ a, A = some a → a.block < W.heap.size → a.block ≠ w.heap.size ∧ a.block < W.heap.size := fun a ha h => ⟨by have := (hA6 a ha).1; omega, h⟩
       have hyP : gv ≠ w.heap.size ∧ gv < W.heap.size := ⟨hgv, hy.lt⟩
       have hzlt := hz.lt
       have hbs_ := be.size
       have hE16 : E.length ≤ 16 := by have := hX.len; omega
       go_upto_region 10 with (fail)
       refine wp_own (fun b => b ≠ w.heap.size ∧ b < W.heap.size) 9 1 77 2 (fun i => match i with | 8 => 9 | i => i) (fun i => match i with | 3 => [0] | 6 => [3, 5] | 8 => [6, 9] | _ => []) (fun i => match i with | 9 => .pointer (some ⟨w.heap.size, 0, none⟩) | _ => undef) rfl (by kernel_rfl) (by kernel_rfl) (fun i => match i with | 0 => Own.osr 115 81 W.heap.size ([]) | 1 => Own.eq (.pointer (some ⟨w.heap.size, 278, none⟩)) | 2 => Own.eq (.slice A n c) | 3 => Own.osr 115 81 W.heap.size ([] ++ E.flatMap rvC) | 4 => Own.eq (.agg (rvC y1).toArray) | 5 => Own.osr 115 81 W.heap.size (rvC y1) | 6 => Own.osr 115 81 W.heap.size (([] ++ E.flatMap rvC) ++ rvC y1) | 7 => Own.eq (.pointer (some ⟨w.heap.size, 278, none⟩)) | 8 => Own.holdR W.heap.size 37 115 81 (fun v => match v with | .slice A n c => rcC C A n c | _ => []) (([] ++ E.flatMap rvC) ++ rvC y1) | 9 => Own.blk 37 (rcC C A n c) | _ => Own.any) (fun b h => h.2) ?_ ?_ ?_ ?_ ?_
       ·exact fun t ht => by obtain rfl : t = 0 := (by omega); exact ⟨_, rfl, bs⟩
       ·exact fun t t' h1 h2 hne => absurd (show t = t' by omega) hne
       ·exact fun t ht b hb hp => by obtain rfl : t = 0 := (by omega); exact hp.1 (own_ptr hb).symm
       ·intro i hi o ho FA w' vs H K hK
        match i, hi, ho, H, hK with
        | 0, _, ho, H, hK => 
         obtain rfl := qoi ho
         go_simp
         have ho1 := Os.lit (s := 81) (e := 115) w' (Nat.le_refl _) #[] 0 rfl (by decide)
         exact hK.out _ _ (chgX (Ex.alloc _ _)) ⟨_, _, _, rfl, ho1.mono H.kept.size⟩ (fun b hb => .inr (ho1.blk b hb).1)
        | 1, _, ho, H, hK => 
         obtain rfl := qoi ho
         have ev2 : FA.eval (.tmp 2) = .pointer (some ⟨w.heap.size, 0, none⟩) := H.out 2 (by kernel_rfl)
         have e2 : FA.tmps[2]?.getD undef = .pointer (some ⟨w.heap.size, 0, none⟩) := by simpa [Act.eval] using ev2
         replace ev2 := Lib.hid ev2
         go_simp
         exact hK.out _ _ (chgX (Ex.refl _)) rfl (fun _ h => h.elim)
        | 2, _, ho, H, hK => 
         obtain rfl := qoi ho
         have ev69 : FA.eval (.tmp 69) = .pointer (some ⟨w.heap.size, 278, none⟩) := (H.dep 1 69 (by kernel_rfl)).trans (H.word 1 (by omega) (by kernel_rfl))
         have e69 : FA.tmps[69]?.getD undef = .pointer (some ⟨w.heap.size, 278, none⟩) := by simpa [Act.eval] using ev69
         replace ev69 := Lib.hid ev69
         obtain ⟨g0, hg0, hb0⟩ := H.word 9 (by omega) (by kernel_rfl)
         have hv0 : vs 9 = .pointer (some ⟨w.heap.size, 0, none⟩) := H.virt 9 (by omega)
         obtain rfl := own_ptr (hv0.symm.trans hg0)
         refine wanted_if rfl ?_
         refine wp_ld1 35 (.tmp 69) rfl ev69.out hb0 (rcC_vips C hk hb A n c) Tryz.underlying35 rfl ?_
         exact hK.out _ _ (chgX (Ex.refl _)) rfl (fun _ h => h.elim)
        | 3, _, ho, H, hK => 
         obtain rfl := qoi ho
         clear ho
         have ev68 := H.dep 0 68 (by kernel_rfl)
         have e68 : FA.tmps[68]?.getD undef = vs 0 := by simpa [Act.eval] using ev68
         replace ev68 := Lib.hid ev68
         have ev70 : FA.eval (.tmp 70) = .slice A n c := (H.dep 2 70 (by kernel_rfl)).trans (H.word 2 (by omega) (by kernel_rfl))
         have e70 : FA.tmps[70]?.getD undef = .slice A n c := by simpa [Act.eval] using ev70
         replace ev70 := Lib.hid ev70
         obtain ⟨A1, n1, c1, hv1, h1⟩ := H.word 0 (by omega) (by kernel_rfl)
         have hn1 : n1 = 0 := by have := h1.rs.1; simp at this; omega
         subst hn1
         refine wanted_if rfl ?_
         refine own_appS etRv (.tmp 68) (.tmp 70) rfl (ev68.out.trans hv1) h1 ev70.out (hX.row.kept H.kept hrP) (flat_one rvC rvC_one _) (by omega) H.kept.size ?_
         intro A3 n3 c3 w3 hn3 ho3 hg3 hf3
         refine hK.out _ _ (Chg.grown hg3 (fun k hk => ⟨0, rfl, by show (vs 0).ownBlock = some k; rw [hv1]; exact hk⟩)) ⟨_, _, _, rfl, ho3⟩ (fun b hb => ?_)
         rcases hf3 b hb with h | h
         ·exact .inl ⟨0, rfl, by show (vs 0).ownBlock = some b; rw [hv1]; exact h⟩
         ·exact .inr h
        | 4, _, ho, H, hK => 
         obtain rfl := qoi ho
         have ev6 : FA.eval (.tmp 6) = .pointer (some ⟨gv, 0, none⟩) := H.out 6 (by kernel_rfl)
         have e6 : FA.tmps[6]?.getD undef = .pointer (some ⟨gv, 0, none⟩) := by simpa [Act.eval] using ev6
         replace ev6 := Lib.hid ev6
         refine wanted_if rfl ?_
         refine wp_ldA 115 (.tmp 6) rfl (rvC y1) ev6.out (hy.kept H.kept hyP) (whole_ _) vr1 vr2 (szRv _) ?_
         exact hK.out _ _ (chgX (Ex.refl _)) rfl (fun _ h => h.elim)
        | 5, _, ho, H, hK => 
         obtain rfl := qoi ho
         have ev72 : FA.eval (.tmp 72) = .agg (rvC y1).toArray := (H.dep 4 72 (by kernel_rfl)).trans (H.word 4 (by omega) (by kernel_rfl))
         have e72 : FA.tmps[72]?.getD undef = .agg (rvC y1).toArray := by simpa [Act.eval] using ev72
         replace ev72 := Lib.hid ev72
         refine wanted_if rfl ?_
         refine wp_bs1 etRv (.tmp 72) rfl (rvC y1) (rvC_len _) (by decide) ev72.out ?_
         have ho1 := Os.lit (s := 81) (e := 115) w' (Nat.le_refl _) (rvC y1).toArray 1 (by rw [List.size_toArray, rvC_len]) (by decide)
         exact hK.out _ _ (chgX (Ex.alloc _ _)) ⟨_, _, _, rfl, ho1.mono H.kept.size⟩ (fun b hb => .inr (ho1.blk b hb).1)
        | 6, _, ho, H, hK => 
         obtain rfl := qoi ho
         clear ho
         have ev71 := H.dep 3 71 (by kernel_rfl)
         have e71 : FA.tmps[71]?.getD undef = vs 3 := by simpa [Act.eval] using ev71
         replace ev71 := Lib.hid ev71
         have ev73 := H.dep 5 73 (by kernel_rfl)
         have e73 : FA.tmps[73]?.getD undef = vs 5 := by simpa [Act.eval] using ev73
         replace ev73 := Lib.hid ev73
         obtain ⟨A1, n1, c1, hv1, h1⟩ := H.word 3 (by omega) (by kernel_rfl)
         obtain ⟨A2, n2, c2, hv2, h2⟩ := H.word 5 (by omega) (by kernel_rfl)
         have hn1 : n1 ≤ 2000 := by have := h1.rs.1; rw [List.nil_append, flat_len rvC 81 rvC_len] at this; omega
         have hn2 : n2 ≤ 2000 := by have := h2.rs.1; rw [rvC_len] at this; omega
         refine wanted_if rfl ?_
         refine own_appS etRv (.tmp 71) (.tmp 73) rfl (ev71.out.trans hv1) h1 (ev73.out.trans hv2) h2.rs (rvC_one _) (by omega) H.kept.size ?_
         intro A3 n3 c3 w3 hn3 ho3 hg3 hf3
         refine hK.out _ _ (Chg.grown hg3 (fun k hk => ⟨3, rfl, by show (vs 3).ownBlock = some k; rw [hv1]; exact hk⟩)) ⟨_, _, _, rfl, ho3⟩ (fun b hb => ?_)
         rcases hf3 b hb with h | h
         ·exact .inl ⟨3, rfl, by show (vs 3).ownBlock = some b; rw [hv1]; exact h⟩
         ·exact .inr h
        | 7, _, ho, H, hK => 
         obtain rfl := qoi ho
         have ev2 : FA.eval (.tmp 2) = .pointer (some ⟨w.heap.size, 0, none⟩) := H.out 2 (by kernel_rfl)
         have e2 : FA.tmps[2]?.getD undef = .pointer (some ⟨w.heap.size, 0, none⟩) := by simpa [Act.eval] using ev2
         replace ev2 := Lib.hid ev2
         go_simp
         exact hK.out _ _ (chgX (Ex.refl _)) rfl (fun _ h => h.elim)
        | 8, _, ho, H, hK => 
         obtain rfl := qoi ho
         clear ho
         have ev75 : FA.eval (.tmp 75) = .pointer (some ⟨w.heap.size, 278, none⟩) := (H.dep 7 75 (by kernel_rfl)).trans (H.word 7 (by omega) (by kernel_rfl))
         have e75 : FA.tmps[75]?.getD undef = .pointer (some ⟨w.heap.size, 278, none⟩) := by simpa [Act.eval] using ev75
         replace ev75 := Lib.hid ev75
         have ev74 := H.dep 6 74 (by kernel_rfl)
         have e74 : FA.tmps[74]?.getD undef = vs 6 := by simpa [Act.eval] using ev74
         replace ev74 := Lib.hid ev74
         obtain ⟨g0, hg0, hb0⟩ := H.word 9 (by omega) (by kernel_rfl)
         have hv0 : vs 9 = .pointer (some ⟨w.heap.size, 0, none⟩) := H.virt 9 (by omega)
         obtain rfl := own_ptr (hv0.symm.trans hg0)
         obtain ⟨A6, n6, c6, hv6, h6⟩ := H.word 6 (by omega) (by kernel_rfl)
         have hdd := H.dis 6 9 (by omega) (by omega) (by omega) (by kernel_rfl) (by kernel_rfl)
         refine wanted_if rfl ?_
         refine wp_st1 (v := .slice A6 n6 c6) 35 (.tmp 75) (.tmp 74) rfl ev75.out (ev74.out.trans hv6) hb0 (by rw [rcC_len C hk hb]; omega) rfl (by kernel_rfl) ?_
         intro w'' hn hgr
         have hne : ∀ k, (Value.slice A6 n6 c6).ownBlock = some k → some w.heap.size ≠ some k := fun k hk2 e2 => hdd k (by show (vs 6).ownBlock = some k; rw [hv6]; exact hk2) (by show vs 9 = _; rw [hv0]; injection e2 with e2; rw [e2])
         refine hK.out (.slice A6 n6 c6) _ (Chg.one hgr ⟨9, rfl, hv0⟩) ⟨_, _, _, _, hv0, rfl, ?_, h6.grown hgr hne⟩ (fun b hb => .inl ?_)
         ·show Bk w'' w.heap.size _ ((fun (v : Value) => match v with | .slice A n c => rcC C A n c | _ => []) (.slice A6 n6 c6))
          rw [rcC_set C hk hb] at hn
          exact hn
         ·rcases hb with hb | hb
          ·exact ⟨9, rfl, hb⟩
          ·exact ⟨6, rfl, by show (vs 6).ownBlock = some b; rw [hv6]; exact hb⟩
        | (k + 9), hi, _, _, _ => exact absurd hi (by omega)
       intro vs w' hC hV hW hDis hFr
       have p1 : vs 1 = .pointer (some ⟨w.heap.size, 278, none⟩) := hW 1 (by omega) (by kernel_rfl)
       have p2 : vs 2 = .slice A n c := hW 2 (by omega) (by kernel_rfl)
       have p4 : vs 4 = .agg (rvC y1).toArray := hW 4 (by omega) (by kernel_rfl)
       have p7 : vs 7 = .pointer (some ⟨w.heap.size, 278, none⟩) := hW 7 (by omega) (by kernel_rfl)
       have p8 := hW 8 (by omega) (by kernel_rfl)
       clear hW
       simp only [List.take_succ_cons, List.take_zero, List.drop_succ_cons, List.drop_zero, putAll, Nat.zero_add, Nat.reduceAdd, Act.put, qsT, qsZ, qsS, p1, p2, p4, p7]
       obtain ⟨g0, A9, n9, c9, hg0, hv9, hbS, ho9⟩ := p8
       replace hg0 : vs 9 = .pointer (some ⟨g0, 0, none⟩) := hg0
       have hv0 : vs 9 = .pointer (some ⟨w.heap.size, 0, none⟩) := hV 9 (by omega)
       obtain rfl := own_ptr (hv0.symm.trans hg0)
       replace hbS : Bk w' w.heap.size 37 (rcC C A9 n9 c9) := by rw [hv9] at hbS; exact hbS
       clear hDis hFr hV hv9 hg0 hv0
       have hzz := hz.kept hC (by refine ⟨?_, hz.lt⟩; omega)
       replace hz := hzz
       replace be := be.trans (hC.below (B := w.heap.size) be.size (fun b hb => ⟨by omega, by omega⟩))
       simp only [List.nil_append] at ho9
       have ho9W := fun k hk2 => ho9.blk k hk2
       replace ho9 := ho9.mono hbs_
       have hne9 : ∀ k, (Value.slice A9 n9 c9).ownBlock = some k → some (w.heap.size + 1 + 1) ≠ some k := fun k hk2 e2 => by have h1 := (ho9W k hk2).1; injection e2 with e2; omega
       clear hzz hC
       go_upto_region 11 with (fail)
       refine wp_region_lit ?_
       refine wpList_ldA (t := 37) 37 (.tmp 2) rfl rfl (rcC C A9 n9 c9) rfl (hbS) (whole_ _) vs1 vs2 (szRcS C hk hb A9 n9 c9) ?_
       simp only [Act.put, qsT, qsZ, qsS]
       refine wpList_stA (t := 37) 37 (.tmp 4) (.tmp 76) rfl rfl (rcC C A9 n9 c9) zl0 (hzl.trans (rcC_len C hk hb _ _ _).symm).symm (rcL_one _ _ _ _ _ _ _ _) rfl rfl hz (szRcS C hk hb _ _ _) ?_
       intro W9 h9 g9
       refine wpList_plain rfl (fun K hK => ?_); go_simp; with_reducible refine hK _ _ ?_; clear hK K
       replace be := below_grown be g9 (by omega)
       go_wp2
       refine bodyPost_agg2 Tryz.results70 rfl rfl h9.range vs1 vs2 (szRcS C hk hb _ _ _) rfl ?_
       rw [HE0.out, HAP.out]
       have hX9 := HX0.out.later be
       refine ⟨A9, n9, c9, E ++ [y1], rfl, ⟨?_, ?_, ?_, ?_, ?_, ?_⟩, be⟩
       ·rw [List.map_append, hX9.vs, HY1.out]; rfl
       ·have := (ho9.grown g9 hne9).rs
        rw [List.flatMap_append]
        simpa using this
       ·exact (Off.own ho9 (fun b hb => hG b hb)).size g9.size
       ·intro x hx
        rcases List.mem_append.1 hx with hx | hx
        ·exact hX9.mm x hx
        ·obtain rfl := List.mem_singleton.1 hx
         rw [HY1.out]; exact Rs.nil_
       ·intro x hx
        rcases List.mem_append.1 hx with hx | hx
        ·exact hX9.mo x hx
        ·obtain rfl := List.mem_singleton.1 hx
         rw [HY1.out]; exact Off.none_
       ·intro x hx
        rcases List.mem_append.1 hx with hx | hx
        ·exact hX9.ss x hx
        ·obtain rfl := List.mem_singleton.1 hx
         rw [HY1.out]; exact RSt.nil_
end

section
open Go.Lib
open Go.RowKit
attribute [local go_sem ↓] sliced_cut
attribute [local go_sem] cutA_zero
def RetRx (G : Nat → Prop) (w : World) (C' : Cf) (v : Nat) (e : Ending) (w' : World) : Prop := ∃ C'' A n c E, e = .returned (.tuple #[.agg (rcC C'' A n c).toArray, .int .i64 (v : Nat)]) ∧ RcX G w' C'' A n c E ∧ Below w.heap.size w w' ∧ C''.key.length = 16 ∧ C''.bk.length = 65 ∧ (v = 0 → C'' = C')
theorem RetRx.no {G : Nat → Prop} {w w' : World} {C C' : Cf} {A : Option Addr} {n c : Nat} {E : List Re} {v v' : Nat} (h : RcX G w C A n c E) (hv : v' = v) (hk : C.key.length = 16) (hb : C.bk.length = 65) (h0 : v ≠ 0) (hbw : Below w.heap.size w w') : RetRx G w C' v' (.returned (.tuple #[.agg (rcC C A n c).toArray, .int .i64 (v : Nat)])) w' := by
 subst hv
 exact ⟨C, A, n, c, E, rfl, h.later hbw, hbw, hk, hb, fun h => absurd h h0⟩
theorem rvC_stk (x : Re) : ((rvC x).drop 7).take (rstC x.2.B x.2.m x.2.d x.1.S).length = rstC x.2.B x.2.m x.2.d x.1.S := by
 have e : (rvC x).drop 7 = rstC x.2.B x.2.m x.2.d x.1.S := rfl
 rw [e, List.take_length]
theorem rvC_setStk (x : Re) (A : Option Addr) (n c : Nat) (S' : Stk) : splice (rvC x) 7 (rstC A n c S') = rvC ({ x.1 with S := S' }, { x.2 with B := A, m := n, d := c }) := by
 unfold splice
 rw [List.drop_of_length_le (by rw [rvC_len, rstC_len]; omega), List.append_nil]
 rfl
def mkI (L : List Vp) (k b : Int) (i : Nat) : List Vp := (L.take i).map (mrkV k b) ++ L.drop i
theorem mkI_0 (L : List Vp) (k b : Int) : mkI L k b 0 = L := by simp [mkI]
theorem mkI_len (L : List Vp) (k b : Int) (i : Nat) : (mkI L k b i).length = L.length := by simp [mkI]; omega
theorem mkI_all (L : List Vp) (k b : Int) : mkI L k b L.length = L.map (mrkV k b) := by simp [mkI]
theorem mkI_at (L : List Vp) (k b : Int) (i : Nat) (h : i < L.length) : (mkI L k b i)[i]? = some L[i] := by
 unfold mkI
 rw [List.getElem?_append_right (by simp; omega)]
 simp [Nat.min_eq_left (Nat.le_of_lt h)]
theorem mkI_step (L : List Vp) (k b : Int) (i : Nat) (h : i < L.length) : (mkI L k b i).set i (mrkV k b L[i]) = mkI L k b (i + 1) := by
 have e : L.drop i = L[i] :: L.drop (i + 1) := List.drop_eq_getElem_cons h
 have e2 : ((L.take i).map (mrkV k b)).length = i := by simp; omega
 unfold mkI
 rw [List.set_append_right _ _ (by omega), e2, Nat.sub_self, e, List.set_cons_zero, List.take_succ_eq_append_getElem h, List.map_append, List.append_assoc]
 rfl
def mrkL (L : List Vp) (k b : Int) : Nat := match L with | [] => 1 | v :: _ => mrkE v.S k b
def mrk0 (C : Cf) (k b : Int) : Nat := mrkL C.vs k b
theorem mrkL_at (L : List Vp) (k b : Int) (h : 0 < L.length) : mrkL L k b = mrkE (L[0]).S k b := by
 cases L with
 | nil => cases h
 | cons v t => rfl
theorem mrk0_at (C : Cf) (k b : Int) (h : 0 < C.vs.length) : mrk0 C k b = mrkE (C.vs[0]).S k b := mrkL_at C.vs k b h
set_option maxHeartbeats 4000000 in
set_option maxRecDepth 100000 in
theorem rcEvicted_any {G : Nat → Prop} (k v b e : Int) (six : Bool) (ah al pt pr : Nat) (wy : Int) (B : Option Addr) (m d : Nat) (C : Cf) (hC : CfOk C) (A : Option Addr) (n c : Nat) (E : List Re) (w : World) (hG : ∀ b, G b → b < w.heap.size) (hX : RcX G w C A n c E) (hk67 : k = 6 ∨ k = 7) : Calls Tryz.prog 71 #[.agg (rcC C A n c).toArray, .agg (opC k v b e six ah al pt pr wy B m d).toArray] w (RetRx G w { C with vs := C.vs.map (mrkV k b) } (markE C k b)) := by
 obtain ⟨dvr1, vr1, vr2⟩ := rowRv
 obtain ⟨dvt1, vt1, vt2⟩ := rowRst
 have hk := hC.key
 have hb := hC.bl
 have HVS := Lib.hid hC.vs
 have HX0 := Lib.hid hX
 have HN := Lib.hid hX.n_
 have HKN := Lib.hid (fun W => refKnown_any C hk hb A n c b W)
 have HK67 : Hid (((k == 6) = true ∧ ¬ k = 7) ∨ ((k == 6) = false ∧ k = 7)) := Lib.hid (hk67.elim (fun h => .inl ⟨by simp [h], by omega⟩) (fun h => .inr ⟨by simp [h], h⟩))
 clear hk67
 cases hkn : knC C b with
 | false =>
  have HE0 := Lib.hid (show markE C k b = 6 by unfold markE; rw [if_pos hkn])
  rw [hkn] at HKN
  clear hkn
  obtain ⟨dvs1, vs1, vs2⟩ := rowRcS
  obtain ⟨dvo1, vo1, vo2⟩ := rowRo
  obtain ⟨bs, bo, be, zV⟩ := box2 w 37 47 (rcC C A n c) (opC k v b e six ah al pt pr wy B m d)
  go_enter Tryz.func71, Tryz.ntmps71
  go_upto_region 1 with (fail)
  have HVe := Lib.hid (show ((w.alloc (.cells (rcC C A n c).toArray 37)).alloc (.cells (opC k v b e six ah al pt pr wy B m d).toArray 47)).heap.size = w.heap.size + 1 + 1 by simp)
  generalize (w.alloc (.cells (rcC C A n c).toArray 37)).alloc (.cells (opC k v b e six ah al pt pr wy B m d).toArray 47) = V at *
  have hz := Bk.newK 37 (Tryz.zeroCells37) _ HVe.out.symm rfl
  have hzl : (Tryz.zeroCells37).toList.length = 279 := by kernel_rfl
  have hv81 : (Tryz.zeroCells115).toList.length = 81 := by kernel_rfl
  have hbz : Below V.heap.size V (V.alloc (.cells (Tryz.zeroCells37) 37)) := Below.allocS (Below.refl _ _) _
  go_upto_region 1 with (fail)
  have hVs : w.heap.size + 2 ≤ V.heap.size := by have := bo.lt; omega
  generalize hV2 : V.alloc (.cells (Tryz.zeroCells37) 37) = V2 at *
  clear hV2
  generalize (Tryz.zeroCells37).toList = zl0 at *
  replace bs := bs.later hbz
  replace bo := bo.later hbz
  replace be := be.trans (hbz.mono be.size)
  have hVz := hbz.size
  clear hbz
  refine wp_region_lit ?_
  refine wpList_ldA (t := 37) 37 (.tmp 2) rfl rfl (rcC C A n c) rfl (bs) (whole_ _) vs1 vs2 (szRcS C hk hb A n c) ?_
  refine wpList_plain rfl (fun K hK => ?_); go_simp; with_reducible refine hK _ _ ?_; clear hK K
  refine wpList_ld1 (t := 47) (cs := opC k v b e six ah al pt pr wy B m d) 3 (.tmp 11) rfl (by rfl) rfl (bo) rfl Tryz.underlying3 rfl ?_
  refine wpList_plain rfl (fun K hK => ?_)
  go_simp
  refine (HKN.out _).mono ?_
  rintro e w1 ⟨bs1, d1, rfl, rfl⟩
  with_reducible refine hK _ _ ?_
  clear hK K
  have hb1 := below_plus V2 bs1 d1
  replace bs := bs.later hb1
  replace bo := bo.later hb1
  replace hz := hz.later hb1
  replace be := be.trans (hb1.mono be.size)
  clear hb1
  generalize plus V2 bs1 d1 = V3 at *
  refine wpList_plain rfl (fun K hK => ?_); go_simp; with_reducible refine hK _ _ ?_; clear hK K
  go_upto_region 2 with (fail)
  refine wp_region_lit ?_
  refine wpList_ldA (t := 37) 37 (.tmp 2) rfl rfl (rcC C A n c) rfl (bs) (whole_ _) vs1 vs2 (szRcS C hk hb A n c) ?_
  simp only [Act.put, qsT, qsZ, qsS]
  refine wpList_stA (t := 37) 37 (.tmp 4) (.tmp 15) rfl rfl (rcC C A n c) zl0 (hzl.trans (rcC_len C hk hb _ _ _).symm).symm (rcL_one _ _ _ _ _ _ _ _) rfl rfl hz (szRcS C hk hb _ _ _) ?_
  intro W9 h9 g9
  refine wpList_plain rfl (fun K hK => ?_); go_simp; with_reducible refine hK _ _ ?_; clear hK K
  replace be := below_grown be g9 (by omega)
  go_wp2
  refine bodyPost_agg2 Tryz.results71 rfl rfl h9.range vs1 vs2 (szRcS C hk hb _ _ _) rfl ?_
  exact RetRx.no HX0.out HE0.out hk hb (by decide) be
 | true =>
  rw [hkn] at HKN
  by_cases hn0 : n = 0
  ·have HE0 := Lib.hid (show markE C k b = 1 by
    have hvs : C.vs = [] := List.eq_nil_of_length_eq_zero (by have := HN.out; omega)
    unfold markE; rw [if_neg (by rw [hkn]; decide), hvs])
   have hn0i : ((n : Int) == 0) = true := by simp [hn0]
   clear hkn hn0
   obtain ⟨dvs1, vs1, vs2⟩ := rowRcS
   obtain ⟨dvo1, vo1, vo2⟩ := rowRo
   obtain ⟨bs, bo, be, zV⟩ := box2 w 37 47 (rcC C A n c) (opC k v b e six ah al pt pr wy B m d)
   go_enter Tryz.func71, Tryz.ntmps71
   go_upto_region 1 with (fail)
   have HVe := Lib.hid (show ((w.alloc (.cells (rcC C A n c).toArray 37)).alloc (.cells (opC k v b e six ah al pt pr wy B m d).toArray 47)).heap.size = w.heap.size + 1 + 1 by simp)
   generalize (w.alloc (.cells (rcC C A n c).toArray 37)).alloc (.cells (opC k v b e six ah al pt pr wy B m d).toArray 47) = V at *
   have hz := Bk.newK 37 (Tryz.zeroCells37) _ HVe.out.symm rfl
   have hzl : (Tryz.zeroCells37).toList.length = 279 := by kernel_rfl
   have hv81 : (Tryz.zeroCells115).toList.length = 81 := by kernel_rfl
   have hbz : Below V.heap.size V (V.alloc (.cells (Tryz.zeroCells37) 37)) := Below.allocS (Below.refl _ _) _
   go_upto_region 1 with (fail)
   have hVs : w.heap.size + 2 ≤ V.heap.size := by have := bo.lt; omega
   generalize hV2 : V.alloc (.cells (Tryz.zeroCells37) 37) = V2 at *
   clear hV2
   generalize (Tryz.zeroCells37).toList = zl0 at *
   replace bs := bs.later hbz
   replace bo := bo.later hbz
   replace be := be.trans (hbz.mono be.size)
   have hVz := hbz.size
   clear hbz
   refine wp_region_lit ?_
   refine wpList_ldA (t := 37) 37 (.tmp 2) rfl rfl (rcC C A n c) rfl (bs) (whole_ _) vs1 vs2 (szRcS C hk hb A n c) ?_
   refine wpList_plain rfl (fun K hK => ?_); go_simp; with_reducible refine hK _ _ ?_; clear hK K
   refine wpList_ld1 (t := 47) (cs := opC k v b e six ah al pt pr wy B m d) 3 (.tmp 11) rfl (by rfl) rfl (bo) rfl Tryz.underlying3 rfl ?_
   refine wpList_plain rfl (fun K hK => ?_)
   go_simp
   refine (HKN.out _).mono ?_
   rintro e w1 ⟨bs1, d1, rfl, rfl⟩
   with_reducible refine hK _ _ ?_
   clear hK K
   have hb1 := below_plus V2 bs1 d1
   replace bs := bs.later hb1
   replace bo := bo.later hb1
   replace hz := hz.later hb1
   replace be := be.trans (hb1.mono be.size)
   clear hb1
   generalize plus V2 bs1 d1 = V3 at *
   refine wpList_plain rfl (fun K hK => ?_); go_simp; with_reducible refine hK _ _ ?_; clear hK K
   have q278 : V3.cell? ⟨w.heap.size, 278, none⟩ = some (.slice A n c) := (bs.cell _).trans (rcC_vips C hk hb A n c)
   go_upto_region 4 with (fail)
   refine wp_region_lit ?_
   refine wpList_ldA (t := 37) 37 (.tmp 2) rfl rfl (rcC C A n c) rfl (bs) (whole_ _) vs1 vs2 (szRcS C hk hb A n c) ?_
   simp only [Act.put, qsT, qsZ, qsS]
   refine wpList_stA (t := 37) 37 (.tmp 4) (.tmp 20) rfl rfl (rcC C A n c) zl0 (hzl.trans (rcC_len C hk hb _ _ _).symm).symm (rcL_one _ _ _ _ _ _ _ _) rfl rfl hz (szRcS C hk hb _ _ _) ?_
   intro W9 h9 g9
   refine wpList_plain rfl (fun K hK => ?_); go_simp; with_reducible refine hK _ _ ?_; clear hK K
   replace be := below_grown be g9 (by omega)
   go_wp2
   refine bodyPost_agg2 Tryz.results71 rfl rfl h9.range vs1 vs2 (szRcS C hk hb _ _ _) rfl ?_
   exact RetRx.no HX0.out HE0.out hk hb (by decide) be
  ·have hn0i : ((n : Int) == 0) = false := by simp [hn0]
   have HME := Lib.hid (show markE C k b = mrk0 C k b by unfold markE mrk0 mrkL; rw [if_neg (by rw [hkn]; decide)]; cases C.vs <;> rfl)
   have HN0 := Lib.hid hn0
   clear hkn hn0
   obtain ⟨dvs1, vs1, vs2⟩ := rowRcS
   obtain ⟨dvo1, vo1, vo2⟩ := rowRo
   obtain ⟨bs, bo, be, zV⟩ := box2 w 37 47 (rcC C A n c) (opC k v b e six ah al pt pr wy B m d)
   go_enter Tryz.func71, Tryz.ntmps71
   go_upto_region 1 with (fail)
   have HVe := Lib.hid (show ((w.alloc (.cells (rcC C A n c).toArray 37)).alloc (.cells (opC k v b e six ah al pt pr wy B m d).toArray 47)).heap.size = w.heap.size + 1 + 1 by simp)
   generalize (w.alloc (.cells (rcC C A n c).toArray 37)).alloc (.cells (opC k v b e six ah al pt pr wy B m d).toArray 47) = V at *
   have hz := Bk.newK 37 (Tryz.zeroCells37) _ HVe.out.symm rfl
   have hzl : (Tryz.zeroCells37).toList.length = 279 := by kernel_rfl
   have hv81 : (Tryz.zeroCells115).toList.length = 81 := by kernel_rfl
   have hbz : Below V.heap.size V (V.alloc (.cells (Tryz.zeroCells37) 37)) := Below.allocS (Below.refl _ _) _
   go_upto_region 1 with (fail)
   have hVs : w.heap.size + 2 ≤ V.heap.size := by have := bo.lt; omega
   generalize hV2 : V.alloc (.cells (Tryz.zeroCells37) 37) = V2 at *
   clear hV2
   generalize (Tryz.zeroCells37).toList = zl0 at *
   replace bs := bs.later hbz
   replace bo := bo.later hbz
   replace be := be.trans (hbz.mono be.size)
   have hVz := hbz.size
   clear hbz
   refine wp_region_lit ?_
   refine wpList_ldA (t := 37) 37 (.tmp 2) rfl rfl (rcC C A n c) rfl (bs) (whole_ _) vs1 vs2 (szRcS C hk hb A n c) ?_
   refine wpList_plain rfl (fun K hK => ?_); go_simp; with_reducible refine hK _ _ ?_; clear hK K
   refine wpList_ld1 (t := 47) (cs := opC k v b e six ah al pt pr wy B m d) 3 (.tmp 11) rfl (by rfl) rfl (bo) rfl Tryz.underlying3 rfl ?_
   refine wpList_plain rfl (fun K hK => ?_)
   go_simp
   refine (HKN.out _).mono ?_
   rintro e w1 ⟨bs1, d1, rfl, rfl⟩
   with_reducible refine hK _ _ ?_
   clear hK K
   have hb1 := below_plus V2 bs1 d1
   replace bs := bs.later hb1
   replace bo := bo.later hb1
   replace hz := hz.later hb1
   replace be := be.trans (hb1.mono be.size)
   clear hb1
   generalize plus V2 bs1 d1 = V3 at *
   refine wpList_plain rfl (fun K hK => ?_); go_simp; with_reducible refine hK _ _ ?_; clear hK K
   have q278 : V3.cell? ⟨w.heap.size, 278, none⟩ = some (.slice A n c) := (bs.cell _).trans (rcC_vips C hk hb A n c)
   obtain ⟨G1, hG1⟩ : ∃ G1 : Nat → Prop, G1 = fun b => G b ∨ (w.heap.size ≤ b ∧ b < w.heap.size + 3) := ⟨_, rfl⟩
   have hXs : RcX G1 V3 { C with vs := mkI C.vs k b 0 } A n c E := by
    rw [mkI_0, hG1]
    exact (HX0.out.more (fun b hb => hb.elim .inl (fun h => .inr h.1))).later be
   have HST := Lib.hid (And.intro hXs (And.intro bs (And.intro bo (And.intro hz be))))
   have HG1 := Lib.hid (show ∀ b, G1 b → b < w.heap.size + 3 by
    intro b hb
    rw [hG1] at hb
    rcases hb with h | h
    ·have := hG b h; omega
    ·omega)
   have HG1s := Lib.hid (show ∀ b, w.heap.size ≤ b → b < w.heap.size + 3 → G1 b by intro b h1 h2; rw [hG1]; exact .inr ⟨h1, h2⟩)
   have HG1g := Lib.hid (show ∀ b, G b → G1 b by intro b h; rw [hG1]; exact .inl h)
   have HN16 := Lib.hid (show n ≤ 16 by have := hC.vl; have := HN.out; omega)
   clear hG1 hXs bs bo hz be
   go_upto_region 5 with (fail)
   clear q278
   go_upto_region 7 with (fail)
   go_loopw [6, 7] (fun FV I wr => ∃ (f i : Nat) (Ai : Option Addr) (ci : Nat) (Ei : List Re), FV = .int .i64 (f : Int) ∧ I = .int .i64 (i : Int) ∧ i ≤ n ∧ ((i = 0 → f = 0) ∧ (0 < i → f = mrk0 C k b)) ∧ RcX G1 wr { C with vs := mkI C.vs k b i } Ai n ci Ei ∧ Bk wr w.heap.size 37 (rcC C Ai n ci) ∧ Bk wr (w.heap.size + 1) 47 (opC k v b e six ah al pt pr wy B m d) ∧ Bk wr (w.heap.size + 1 + 1) 37 zl0 ∧ Below w.heap.size w wr) (fun _ I _ => n - (intOf I).toNat)
   case atStart => exact ⟨0, 0, A, c, E, rfl, rfl, by omega, ⟨fun _ => rfl, fun h => absurd h (by omega)⟩, HST.out.1, HST.out.2.1, HST.out.2.2.1, HST.out.2.2.2.1, HST.out.2.2.2.2⟩
   case round =>
    clear HST
    obtain ⟨f, i, Ai, ci, Ei, rfl, rfl, hin, hfv, hX, bs, bo, hz, hE⟩ := hrel
    have hzz := hz.lt
    by_cases hil : i < n
    ·have hi1 : (i : Int) < (n : Int) := by omega
     have q278 : wr.cell? ⟨w.heap.size, 278, none⟩ = some (.slice Ai n ci) := (bs.cell _).trans (rcC_vips C hk hb Ai n ci)
     have hlE : Ei.length = n := by have := hX.len; have h2 := mkI_len C.vs k b i; simp only [] at this; have := HN.out; omega
     obtain ⟨bl, ol, hAe, hbl, -⟩ := hX.row.at_ (by omega) (by decide)
     have hrow := hX.row
     rw [hAe] at hrow q278
     have hrg := hrow.rangeE rvC_len i (by omega)
     have hum : Ei[i]'(by omega) ∈ Ei := List.getElem_mem _
     have hui : (Ei[i]'(by omega)).1 = C.vs[i]'(by have := HN.out; omega) := by
      have h1 : (Ei.map (·.1))[i]? = some (Ei[i]'(by omega)).1 := by rw [List.getElem?_map, List.getElem?_eq_getElem (by omega)]; rfl
      rw [hX.vs] at h1
      have h2 := mkI_at C.vs k b i (by have := HN.out; omega)
      rw [h2] at h1
      exact (Option.some.inj h1).symm
     have HOK := Lib.hid (show StkOk (Ei[i]'(by omega)).1.S by rw [hui]; exact (HVS.out _ (List.getElem_mem _)).st)
     have HSTEP := Lib.hid (show (mkI C.vs k b i).set i (mrkV k b (Ei[i]'(by omega)).1) = mkI C.vs k b (i + 1) by rw [hui]; exact mkI_step C.vs k b i (by have := HN.out; omega))
     have HF0 := Lib.hid (show i = 0 → mrkE (Ei[i]'(by omega)).1.S k b = mrk0 C k b by intro h; rw [hui]; subst h; exact (mrk0_at C k b (by have := HN.out; omega)).symm)
     obtain ⟨u, hu⟩ : ∃ u, u = Ei[i]'(by omega) := ⟨_, rfl⟩
     rw [← hu] at hrg hum HOK HSTEP HF0
     clear hAe hrow hui hu
     have hmm := hX.mm u hum
     have hmo := hX.mo u hum
     have hss := hX.ss u hum
     have HX := Lib.hid hX
     clear hX hum
     go_upto_region 9 with (fail)
     refine wp_region_lit ?_
     iterate 4 (refine wpList_plain rfl (fun K hK => ?_); go_simp; with_reducible refine hK _ _ ?_; clear hK K)
     refine wpList_load_mid rfl 115 (.tmp 31) rfl bl (ol + i * 81) rfl (rvC u) _ hrg vr1 vr2 (szRv u) ?_
     refine wpList_plain rfl (fun K hK => ?_); go_simp; with_reducible refine hK _ _ ?_; clear hK K
     refine wpList_stA (t := 115) 115 (.tmp 8) (.tmp 32) rfl rfl (rvC u) (Tryz.zeroCells115).toList (by rw [rvC_len]; exact hv81.symm) (rvC_one _) rfl rfl (Bk.new _ _ _) (szRv _) ?_
     intro W7 h7 g7
     simp only [Act.put, qsT, qsZ, qsS]
     have hbw : Below wr.heap.size wr W7 := below_grown (Below.allocS (Below.refl _ _) _) g7 (Nat.le_refl _)
     replace bs := bs.later hbw
     replace bo := bo.later hbw
     replace hz := hz.later hbw
     have hG2 : ∀ b, (G1 b ∨ b = wr.heap.size) → b < W7.heap.size := fun b hb => hb.elim (fun h => by have := HG1.out b h; have := hbw.size; omega) (fun h => by have := h7.lt; omega)
     have hst7 : RSt (fun b => G1 b ∨ b = wr.heap.size) W7 u.1.S.lv u.2.B u.2.m u.2.d := (hss.more (fun b hb => hb.elim .inl (fun h => .inr (by omega)))).later hbw
     have hgl := h7.lt
     clear q278 hrg g7 hss
     go_upto_region 11 with (fail)
     refine wp_region_lit ?_
     refine wpList_plain rfl (fun K hK => ?_); go_simp; with_reducible refine hK _ _ ?_; clear hK K
     refine wpList_ld1 (t := 47) (cs := opC k v b e six ah al pt pr wy B m d) 3 (.tmp 33) rfl (by rfl) rfl (bo) rfl Tryz.underlying3 rfl ?_
     refine wpList_plain rfl (fun K hK => ?_); go_simp; with_reducible refine hK _ _ ?_; clear hK K
     rcases HK67.out with ⟨k6, k6n⟩ | ⟨k6, k6n⟩
     ·have HEVI := Lib.hid (fun W {D : Nat → Prop} (hD : ∀ b, D b → b < W.heap.size) (hR : RSt D W u.1.S.lv u.2.B u.2.m u.2.d) => show Calls Tryz.prog 126 #[.agg (rstC u.2.B u.2.m u.2.d u.1.S).toArray, .int .i64 b] W (RetRS D W (mrkS u.1.S k b) (fun x => .tuple #[x, .int .i64 (mrkE u.1.S k b : Nat)])) by unfold mrkS mrkE; rw [if_neg k6n, if_neg k6n]; exact refEvict_any u.1.S u.2.B u.2.m u.2.d b W hD hR)
      clear k6n
      go_upto_region 12 with (fail)
      refine wp_region_lit ?_
      refine wpList_plain rfl (fun K hK => ?_); go_simp; with_reducible refine hK _ _ ?_; clear hK K
      refine wpList_ldA (t := 115) (cs := rvC u) 113 (.tmp 37) rfl rfl (rstC u.2.B u.2.m u.2.d u.1.S) rfl h7 (rvC_stk u) vt1 vt2 (szRst _ _ _ _) ?_
      refine wpList_plain rfl (fun K hK => ?_); go_simp; with_reducible refine hK _ _ ?_; clear hK K
      refine wpList_ld1 (t := 47) (cs := opC k v b e six ah al pt pr wy B m d) 3 (.tmp 39) rfl (by rfl) rfl (bo) rfl Tryz.underlying3 rfl ?_
      refine wpList_plain rfl (fun K hK => ?_)
      go_simp
      refine (HEVI.out _ hG2 hst7).mono ?_
      rintro ee w1 ⟨A7, n7, c7, bs7, d7, rfl, rfl, hst8⟩
      with_reducible refine hK _ _ ?_
      clear hK K
      have hb8 := below_plus W7 bs7 d7
      replace bs := bs.later hb8
      replace bo := bo.later hb8
      replace hz := hz.later hb8
      replace h7 := h7.later hb8
      replace hbw := hbw.trans (hb8.mono hbw.size)
      clear hb8
      generalize plus W7 bs7 d7 = W8 at *
      iterate 4 (refine wpList_plain rfl (fun K hK => ?_); go_simp; with_reducible refine hK _ _ ?_; clear hK K)
      refine wpList_stM (t := 115) (off := 7) 113 (.tmp 44) (.tmp 42) rfl rfl (rstC A7 n7 c7 (mrkS u.1.S k b)) (rvC u) (by rw [rvC_len, rstC_len]; decide) (rstC_one _ _ _ _) rfl rfl h7 (szRst _ _ _ _) ?_
      intro W9 h9 g9
      refine wpList_plain rfl (fun K hK => ?_); go_simp; with_reducible refine hK _ _ ?_; clear hK K
      have hst9 : RSt (fun b => G1 b ∨ b = wr.heap.size) W9 (mrkS u.1.S k b).lv A7 n7 c7 := hst8.chg (Chg.one g9 (.inr rfl))
      replace hst9 := hst9.more (D' := G1) (fun b hb => .inl (.inl hb))
      rw [rvC_setStk] at h9
      obtain ⟨y, hy⟩ : ∃ y : Re, y = ({ u.1 with S := mrkS u.1.S k b }, { u.2 with B := A7, m := n7, d := c7 }) := ⟨_, rfl⟩
      rw [← hy] at h9
      have hyv : y.1 = mrkV k b u.1 := by rw [hy]; rfl
      have hbw9 : Below wr.heap.size wr W9 := below_grown hbw g9 (by omega)
      have bs9 := bs.grown g9 (fun e => by injection e with e; omega)
      have bo9 := bo.grown g9 (fun e => by injection e with e; omega)
      have hz9 := hz.grown g9 (fun e => by injection e with e; omega)
      have hXw := HX.out.later hbw9
      have h1w : Rs 2 W9 y.2.A y.2.n y.2.c (prs .i64 y.1.ms) := by rw [hy]; exact hmm.later hbw9
      have h2w : Off G1 W9 y.2.A := by rw [hy]; exact hmo.size hbw9.size
      have h3w : RSt G1 W9 y.1.S.lv y.2.B y.2.m y.2.d := by rw [hy]; exact hst9
      have hEw : Below w.heap.size w W9 := hE.trans (hbw9.mono hE.size)
      clear hy hst8 hst7 hst9 hG2 bs bo hz hmm hmo g9 h7 hbw
      have bs := bs9
      have bo := bo9
      have hz := hz9
      have hbw := hbw9
      clear bs9 bo9 hz9 hbw9
      have HWI := Lib.hid (fun W (h : RcX G1 W { C with vs := mkI C.vs k b i } Ai n ci Ei) (h1 : Rs 2 W y.2.A y.2.n y.2.c (prs .i64 y.1.ms)) (h2 : Off G1 W y.2.A) (h3 : RSt G1 W y.1.S.lv y.2.B y.2.m y.2.d) (hs : w.heap.size + 3 ≤ W.heap.size) => rcWith_any { C with vs := mkI C.vs k b i } hk hb Ai n ci Ei i y W (fun b hb => Nat.lt_of_lt_of_le (HG1.out b hb) hs) h hil HN16.out h1 h2 h3)
      have hsV : w.heap.size + 3 ≤ W9.heap.size := by have := hbw.size; omega
      have hcase : (((i : Int) == 0) = true ∧ Hid (mrkE u.1.S k b = mrk0 C k b)) ∨ (((i : Int) == 0) = false ∧ Hid (f = mrk0 C k b)) := by
       by_cases i0 : i = 0
       ·exact .inl ⟨by simp [i0], Lib.hid (HF0.out i0)⟩
       ·exact .inr ⟨by simp [i0], Lib.hid (hfv.2 (by omega))⟩
      clear hfv
      rcases hcase with ⟨i0i, hfm⟩ | ⟨i0i, hfm⟩
      all_goals
       go_upto_region 16 with (fail)
       refine wp_region_lit ?_
       refine wpList_ldA (t := 37) 37 (.tmp 2) rfl rfl (rcC C Ai n ci) rfl (bs) (whole_ _) vs1 vs2 (szRcS C hk hb Ai n ci) ?_
       refine wpList_plain rfl (fun K hK => ?_); go_simp; with_reducible refine hK _ _ ?_; clear hK K
       refine wpList_ldA (t := 115) 115 (.tmp 8) rfl rfl (rvC y) rfl (h9) (whole_ _) vr1 vr2 (szRv y) ?_
       refine wpList_plain rfl (fun K hK => ?_)
       go_simp
       refine (HWI.out _ hXw h1w h2w h3w hsV).mono ?_
       rintro e w1 ⟨A8, c8, rfl, hX8, hb9⟩
       with_reducible refine hK _ _ ?_
       clear hK K
       replace bs := bs.later hb9
       replace bo := bo.later hb9
       replace hz := hz.later hb9
       replace hEw := hEw.trans (hb9.mono hEw.size)
       generalize hWW : w1 = W10 at *
       clear hWW
       refine wpList_stA (t := 37) 37 (.tmp 2) (.tmp 60) rfl rfl (rcC C A8 n c8) (rcC C Ai n ci) (by rw [rcC_len C hk hb, rcC_len C hk hb]) (rcL_one _ _ _ _ _ _ _ _) rfl rfl bs (szRcS C hk hb _ _ _) ?_
       intro W11 h11 g11
       simp only [Act.put, qsT, qsZ, qsS]
       clear HWI
       have hX8' := hX8
       simp only [] at hX8'
       rw [hyv, HSTEP.out] at hX8'
       have hX9 := hX8'.chg (Chg.one (D := fun b => b = w.heap.size) g11 rfl) (fun b h => HG1s.out b (by omega) (by omega))
       have bo11 := bo.grown g11 (fun e => by injection e with e; omega)
       have hz11 := hz.grown g11 (fun e => by injection e with e; omega)
       have hE11 := below_grown hEw g11 (Nat.le_refl _)
       clear hX8' hX8 bo hz hEw bs
       have n16 := HN16.out
       go_wp2
       exact ⟨⟨_, i + 1, A8, c8, _, rfl, by go_num, by omega, ⟨fun h => absurd h (by omega), fun _ => hfm.out⟩, hX9, h11, bo11, hz11, hE11⟩, by simp [intOf]; omega⟩
     ·have HADM := Lib.hid (fun (hok : StkOk u.1.S) W {D : Nat → Prop} (hD : ∀ b, D b → b < W.heap.size) (hR : RSt D W u.1.S.lv u.2.B u.2.m u.2.d) => show Calls Tryz.prog 127 #[.agg (rstC u.2.B u.2.m u.2.d u.1.S).toArray, .int .i64 b] W (RetRS D W (mrkS u.1.S k b) (fun x => .tuple #[x, .int .i64 (mrkE u.1.S k b : Nat)])) by unfold mrkS mrkE; rw [if_pos k6n, if_pos k6n]; exact refAdmit_any u.1.S hok u.2.B u.2.m u.2.d b W hD hR)
      clear k6n
      go_upto_region 13 with (fail)
      refine wp_region_lit ?_
      refine wpList_plain rfl (fun K hK => ?_); go_simp; with_reducible refine hK _ _ ?_; clear hK K
      refine wpList_ldA (t := 115) (cs := rvC u) 113 (.tmp 46) rfl rfl (rstC u.2.B u.2.m u.2.d u.1.S) rfl h7 (rvC_stk u) vt1 vt2 (szRst _ _ _ _) ?_
      refine wpList_plain rfl (fun K hK => ?_); go_simp; with_reducible refine hK _ _ ?_; clear hK K
      refine wpList_ld1 (t := 47) (cs := opC k v b e six ah al pt pr wy B m d) 3 (.tmp 48) rfl (by rfl) rfl (bo) rfl Tryz.underlying3 rfl ?_
      refine wpList_plain rfl (fun K hK => ?_)
      go_simp
      refine (HADM.out HOK.out _ hG2 hst7).mono ?_
      rintro ee w1 ⟨A7, n7, c7, bs7, d7, rfl, rfl, hst8⟩
      with_reducible refine hK _ _ ?_
      clear hK K
      have hb8 := below_plus W7 bs7 d7
      replace bs := bs.later hb8
      replace bo := bo.later hb8
      replace hz := hz.later hb8
      replace h7 := h7.later hb8
      replace hbw := hbw.trans (hb8.mono hbw.size)
      clear hb8
      generalize plus W7 bs7 d7 = W8 at *
      iterate 4 (refine wpList_plain rfl (fun K hK => ?_); go_simp; with_reducible refine hK _ _ ?_; clear hK K)
      refine wpList_stM (t := 115) (off := 7) 113 (.tmp 53) (.tmp 51) rfl rfl (rstC A7 n7 c7 (mrkS u.1.S k b)) (rvC u) (by rw [rvC_len, rstC_len]; decide) (rstC_one _ _ _ _) rfl rfl h7 (szRst _ _ _ _) ?_
      intro W9 h9 g9
      refine wpList_plain rfl (fun K hK => ?_); go_simp; with_reducible refine hK _ _ ?_; clear hK K
      have hst9 : RSt (fun b => G1 b ∨ b = wr.heap.size) W9 (mrkS u.1.S k b).lv A7 n7 c7 := hst8.chg (Chg.one g9 (.inr rfl))
      replace hst9 := hst9.more (D' := G1) (fun b hb => .inl (.inl hb))
      rw [rvC_setStk] at h9
      obtain ⟨y, hy⟩ : ∃ y : Re, y = ({ u.1 with S := mrkS u.1.S k b }, { u.2 with B := A7, m := n7, d := c7 }) := ⟨_, rfl⟩
      rw [← hy] at h9
      have hyv : y.1 = mrkV k b u.1 := by rw [hy]; rfl
      have hbw9 : Below wr.heap.size wr W9 := below_grown hbw g9 (by omega)
      have bs9 := bs.grown g9 (fun e => by injection e with e; omega)
      have bo9 := bo.grown g9 (fun e => by injection e with e; omega)
      have hz9 := hz.grown g9 (fun e => by injection e with e; omega)
      have hXw := HX.out.later hbw9
      have h1w : Rs 2 W9 y.2.A y.2.n y.2.c (prs .i64 y.1.ms) := by rw [hy]; exact hmm.later hbw9
      have h2w : Off G1 W9 y.2.A := by rw [hy]; exact hmo.size hbw9.size
      have h3w : RSt G1 W9 y.1.S.lv y.2.B y.2.m y.2.d := by rw [hy]; exact hst9
      have hEw : Below w.heap.size w W9 := hE.trans (hbw9.mono hE.size)
      clear hy hst8 hst7 hst9 hG2 bs bo hz hmm hmo g9 h7 hbw
      have bs := bs9
      have bo := bo9
      have hz := hz9
      have hbw := hbw9
      clear bs9 bo9 hz9 hbw9
      have HWI := Lib.hid (fun W (h : RcX G1 W { C with vs := mkI C.vs k b i } Ai n ci Ei) (h1 : Rs 2 W y.2.A y.2.n y.2.c (prs .i64 y.1.ms)) (h2 : Off G1 W y.2.A) (h3 : RSt G1 W y.1.S.lv y.2.B y.2.m y.2.d) (hs : w.heap.size + 3 ≤ W.heap.size) => rcWith_any { C with vs := mkI C.vs k b i } hk hb Ai n ci Ei i y W (fun b hb => Nat.lt_of_lt_of_le (HG1.out b hb) hs) h hil HN16.out h1 h2 h3)
      have hsV : w.heap.size + 3 ≤ W9.heap.size := by have := hbw.size; omega
      have hcase : (((i : Int) == 0) = true ∧ Hid (mrkE u.1.S k b = mrk0 C k b)) ∨ (((i : Int) == 0) = false ∧ Hid (f = mrk0 C k b)) := by
       by_cases i0 : i = 0
       ·exact .inl ⟨by simp [i0], Lib.hid (HF0.out i0)⟩
       ·exact .inr ⟨by simp [i0], Lib.hid (hfv.2 (by omega))⟩
      clear hfv
      rcases hcase with ⟨i0i, hfm⟩ | ⟨i0i, hfm⟩
      all_goals
       go_upto_region 16 with (fail)
       refine wp_region_lit ?_
       refine wpList_ldA (t := 37) 37 (.tmp 2) rfl rfl (rcC C Ai n ci) rfl (bs) (whole_ _) vs1 vs2 (szRcS C hk hb Ai n ci) ?_
       refine wpList_plain rfl (fun K hK => ?_); go_simp; with_reducible refine hK _ _ ?_; clear hK K
       refine wpList_ldA (t := 115) 115 (.tmp 8) rfl rfl (rvC y) rfl (h9) (whole_ _) vr1 vr2 (szRv y) ?_
       refine wpList_plain rfl (fun K hK => ?_)
       go_simp
       refine (HWI.out _ hXw h1w h2w h3w hsV).mono ?_
       rintro e w1 ⟨A8, c8, rfl, hX8, hb9⟩
       with_reducible refine hK _ _ ?_
       clear hK K
       replace bs := bs.later hb9
       replace bo := bo.later hb9
       replace hz := hz.later hb9
       replace hEw := hEw.trans (hb9.mono hEw.size)
       generalize hWW : w1 = W10 at *
       clear hWW
       refine wpList_stA (t := 37) 37 (.tmp 2) (.tmp 60) rfl rfl (rcC C A8 n c8) (rcC C Ai n ci) (by rw [rcC_len C hk hb, rcC_len C hk hb]) (rcL_one _ _ _ _ _ _ _ _) rfl rfl bs (szRcS C hk hb _ _ _) ?_
       intro W11 h11 g11
       simp only [Act.put, qsT, qsZ, qsS]
       clear HWI
       have hX8' := hX8
       simp only [] at hX8'
       rw [hyv, HSTEP.out] at hX8'
       have hX9 := hX8'.chg (Chg.one (D := fun b => b = w.heap.size) g11 rfl) (fun b h => HG1s.out b (by omega) (by omega))
       have bo11 := bo.grown g11 (fun e => by injection e with e; omega)
       have hz11 := hz.grown g11 (fun e => by injection e with e; omega)
       have hE11 := below_grown hEw g11 (Nat.le_refl _)
       clear hX8' hX8 bo hz hEw bs
       have n16 := HN16.out
       go_wp2
       exact ⟨⟨_, i + 1, A8, c8, _, rfl, by go_num, by omega, ⟨fun h => absurd h (by omega), fun _ => hfm.out⟩, hX9, h11, bo11, hz11, hE11⟩, by simp [intOf]; omega⟩
    ·have hi1 : ¬ (i : Int) < (n : Int) := by omega
     have q278 : wr.cell? ⟨w.heap.size, 278, none⟩ = some (.slice Ai n ci) := (bs.cell _).trans (rcC_vips C hk hb Ai n ci)
     have hall := Lib.hid (show mkI C.vs k b i = C.vs.map (mrkV k b) by rw [show i = C.vs.length by have := HN.out; omega]; exact mkI_all _ _ _)
     have hfm := Lib.hid (hfv.2 (by have := HN0.out; omega))
     clear hil hfv hin
     go_upto_region 17 with (fail)
     refine wp_region_lit ?_
     refine wpList_ldA (t := 37) 37 (.tmp 2) rfl rfl (rcC C Ai n ci) rfl (bs) (whole_ _) vs1 vs2 (szRcS C hk hb Ai n ci) ?_
     refine wpList_plain rfl (fun K hK => ?_); go_simp; with_reducible refine hK _ _ ?_; clear hK K
     refine wpList_stA (t := 37) 37 (.tmp 4) (.tmp 61) rfl rfl (rcC C Ai n ci) zl0 (hzl.trans (rcC_len C hk hb _ _ _).symm).symm (rcL_one _ _ _ _ _ _ _ _) rfl rfl hz (szRcS C hk hb _ _ _) ?_
     intro W9 h9 g9
     refine wpList_plain rfl (fun K hK => ?_); go_simp; with_reducible refine hK _ _ ?_; clear hK K
     have hE9 := below_grown hE g9 (by omega)
     go_wp2
     refine bodyPost_agg2 Tryz.results71 rfl rfl h9.range vs1 vs2 (szRcS C hk hb _ _ _) rfl ?_
     have hX9 := hX.chg (Chg.one (D := fun b => b = w.heap.size + 1 + 1) g9 rfl) (fun b h => HG1s.out b (by omega) (by omega))
     rw [HME.out, ← hfm.out]
     refine ⟨{ C with vs := mkI C.vs k b i }, Ai, n, ci, Ei, rfl, hX9.more (fun b h => .inl (HG1g.out b h)), hE9, hk, hb, fun _ => ?_⟩
     rw [hall.out]
end

section
open Go.RowKit
def MP.rdl (L : List (List UInt8)) : MP := ⟨fun v w => ∃ A m c, v = .slice A m c ∧ RdL w A m L, fun _ _ _ ⟨A, m, c, h1, cs, h2, h3, h4, h5⟩ h => ⟨A, m, c, h1, cs, h2, h3, (h4.below h.below).more h.below.size, fun i u hu => by
 obtain ⟨A', n, c, e, l, hl, hr⟩ := h5 i u hu
 exact ⟨A', n, c, e, l, hl, hr.later h.below⟩⟩⟩
inductive Rows_ (w : World) : List Value → List (List UInt8) → Prop
 | nil : Rows_ w [] []
 | cons {v : Value} {l : List UInt8} {vs : List Value} {L : List (List UInt8)} (h : ∃ A n c, v = .slice A n c ∧ Rb w A n c l) (r : Rows_ w vs L) : Rows_ w (v :: vs) (l :: L)
theorem Rows_.len {w : World} {vs : List Value} {L : List (List UInt8)} (h : Rows_ w vs L) : vs.length = L.length := by
 induction h with
 | nil => rfl
 | cons _ _ ih => simp [ih]
theorem Rows_.get {w : World} {vs : List Value} {L : List (List UInt8)} (h : Rows_ w vs L) : ∀ (i : Nat) (u : Value), vs[i]? = some u → ∃ (A' : Option Addr) (n c : Nat), u = Value.slice A' n c ∧ ∃ l, L[i]? = some l ∧ Rb w A' n c l := by
 induction h with
 | nil => intro i u hu; simp at hu
 | cons h _ ih =>
  intro i u hu
  cases i with
  | zero =>
   simp only [List.getElem?_cons_zero, Option.some.injEq] at hu
   subst hu
   obtain ⟨A, n, c, h1, h2⟩ := h
   exact ⟨A, n, c, h1, _, rfl, h2⟩
  | succ i => exact ih i u (by simpa using hu)
theorem RdL.litW {w : World} {k m : Nat} {t : TypeId} (cs : List Value) (L : List (List UInt8)) (hk : k = w.heap.size) (h : Rows_ w cs L) (hm : m = cs.length := by rfl) : RdL (w.alloc (.cells cs.toArray t)) (some ⟨k, 0, none⟩) m L := by
 subst hk hm
 refine ⟨cs, rfl, h.len.symm, .inr ⟨w.heap.size, 0, rfl, by simp, fun i u hu => ?_⟩, fun i u hu => ?_⟩
 ·have := (Bk.new w t cs.toArray).cell i
  rw [Nat.zero_add, this]
  simpa using hu
 ·obtain ⟨A', n, c, e, l, hl, hr⟩ := h.get i u hu
  exact ⟨A', n, c, e, l, hl, hr.alloc _⟩
end

section
open Go.Lib
open Go.RowKit
attribute [local go_sem ↓] sliced_cut
attribute [local go_sem] cutA_zero
set_option maxHeartbeats 4000000
set_option maxRecDepth 100000
theorem place_own (six : Bool) (ah al : Nat) (w : World) (h1 : ah < 18446744073709551616) (h2 : al < 18446744073709551616) : Calls Tryz.prog 42 #[.agg (adC six ah al).toArray] w (RetB w (placeB six ah al)) := by
 obtain ⟨da, a1, a2⟩ : ∃ d, Tryz.prog.underlying 32 = some d ∧ d.isRow = true := ⟨_, Tryz.underlying32, rfl⟩
 obtain ⟨z, hz⟩ : ∃ z, sizeA six = z := ⟨_, rfl⟩
 have hzz : z ≤ 16 := by rw [← hz]; cases six <;> simp [sizeA]
 have hlen : (adrB six ah al).length = z := by rw [← hz]; cases six <;> simp [sizeA, adrB, dig_length]
 have HAB := Lib.hid (fun w => refAdrBytes six ah al w h1 h2)
 unfold placeB
 rw [hz]
 clear hz
 generalize adrB six ah al = l at *
 obtain ⟨b1, be, zV⟩ := box1 w 32 (adC six ah al)
 go_enter Tryz.func42, Tryz.ntmps42
 go_upto_region 1 with (fail)
 generalize w.alloc (.cells (adC six ah al).toArray 32) = V at *
 have zV1 := b1.lt
 go_upto_region 2 with (first
  | (refine at_op (.load 32 (.tmp 1)) rfl ?_; refine wpList_ldA (t := 32) 32 (.tmp 1) rfl rfl (adC six ah al) rfl (b1) (whole_ _) a1 a2 (szAd _ _ _) ?_)
  | (go_at_call 88; refine (HAB.out _).mono ?_; rintro e w1 ⟨A2, n2, c2, bs2, d2, rfl, rfl, ho2⟩))
 have hn2 : n2 = z := by have := ho2.rb.1; omega
 subst hn2
 replace be := belowP be bs2 d2
 have zbe := be.size
 replace ho2 := ho2.rb
 generalize plus V bs2 d2 = V2 at *
 have hw8 : IntKind.u8.wrap (n2 : Int) = (n2 : Int) := IntWalk.u8_in _ (by omega)
 have hlit : Ob (V2.alloc (.cells #[.int .u8 (n2 : Int)] 5)) w.heap.size (some ⟨V2.heap.size, 0, none⟩) 1 1 (dig n2 1) := Ob.of_bk (by rw [bcs_dig1 n2 (by omega)]; exact Bk.new _ _ _) zbe (by simp [dig_length]) (by simp [maxLen])
 go_wp2_with (at_builtin; refine wpList_app bt rfl (.tmp 9) (.tmp 10) rfl rfl hlit rfl (ho2.alloc _) (by omega) (by simp; omega) ?_; intro A3 n3 c3 w3 ho3 hb3 hg3)
 go_ret
 exact RetB.mk ho3 (be.trans (((Below.refl V2.heap.size V2).alloc (Nat.le_refl _) _ |>.mono zbe).trans hb3))
theorem szRg (key : List UInt8) (hk : key.length = 16) (m : Nat) : (Tryz.prog.info? 30).map (·.size) = some (ringC key m).length := by rw [show (ringC key m).length = 17 by simp [ringC, bcs_length, hk]]; kernel_rfl
theorem rowRg : ∃ d, Tryz.prog.underlying 30 = some d ∧ d.isRow = true := ⟨_, Tryz.underlying30, rfl⟩
theorem rcC_ad (C : Cf) (hk : C.key.length = 16) (hb : C.bk.length = 65) (A : Option Addr) (n c i : Nat) (hi : i < 65) (a : Adr) (h : C.bk.getD i none = some a) (j : Nat) (u : Value) (hu : (adC a.1 a.2.1 a.2.2)[j]? = some u) : (rcC C A n c)[18 + i * 3 + j]? = some u := by
 have hj := (List.getElem?_eq_some_iff.1 hu).1
 have hj3 : j < 3 := by simpa [adC] using hj
 unfold rcC rcL
 rw [show 18 + i * 3 + j = (17 + (i * 3 + j)) + 1 by omega, List.getElem?_cons_succ, List.getElem?_append_right (by simp [ringC, bcs_length, hk])]
 rw [show 17 + (i * 3 + j) - (ringC C.key C.now).length = i * 3 + j by simp [ringC, bcs_length, hk], List.getElem?_append_left (by rw [flat_len adF 3 adF_len, List.length_map, hb]; omega)]
 refine flat_at adF 3 adF_len (C.bk.map adZ) i (by simp [hb]; exact hi) j u ?_
 have : (C.bk.map adZ)[i]'(by simp [hb]; exact hi) = a := by
  rw [List.getElem_map]
  rw [List.getD_eq_getElem?_getD, List.getElem?_eq_getElem (by omega)] at h
  simp only [Option.getD_some] at h
  rw [h]; rfl
 rw [this]
 exact hu
theorem refState_any {G : Nat → Prop} (C : Cf) (hC : CfOk C) (A : Option Addr) (n c : Nat) (E : List Re) (w : World) (hX : RcX G w C A n c E) : Calls Tryz.prog 13 #[.agg (rcC C A n c).toArray] w (RetB w (sttB C)) := by
 obtain ⟨dvg1, vg1, vg2⟩ := rowRg
 obtain ⟨dva1, va1, va2⟩ := rowAdC
 obtain ⟨dvr1, vr1, vr2⟩ := rowRv
 obtain ⟨dvt1, vt1, vt2⟩ := rowRst
 have hk := hC.key
 have hb := hC.bl
 have HX0 := Lib.hid hX
 have HN := Lib.hid hX.n_
 obtain ⟨dvs1, vs1, vs2⟩ := rowRcS
 obtain ⟨bs, be, zV⟩ := box1 w 37 (rcC C A n c)
 go_enter Tryz.func13, Tryz.ntmps13
 go_upto_region 1 with (fail)
 generalize w.alloc (.cells (rcC C A n c).toArray 37) = V at *
 go_upto_region 1 with (fail)
 refine wp_relS 6 81 rfl (by kernel_rfl) (by kernel_rfl) ?_
 apply Steps.o1 (MP.eq _) 1 rfl rfl
 ·intro FA x hO hD K hK
  have e1 := hO 1 (by kernel_rfl)
  simp only [eval_tmp, qgT, qgS, qgZ, qoS] at e1
  have ev1 := Lib.hid ((eval_tmp FA 1).trans e1)
  clear hO hD
  go_simp
  exact hK.out _ _ (Ex.refl _) rfl
 apply Steps.o1 (MP.eq _) 2 rfl rfl
 ·intro FA x hO hD K hK
  obtain ⟨e8, ev8⟩ := qE (hD 0 8 (by kernel_rfl))
  clear hO hD
  refine wanted_if rfl ?_
  refine wp_ld1 28 (.tmp 8) rfl ev8.out (bs.later (below_plus _ _ _)) rfl Tryz.underlying28 rfl ?_
  exact hK.out _ _ (Ex.refl _) rfl
 apply Steps.o1 (MP.ob V.heap.size (dig C.num 8)) 3 rfl rfl
 ·intro FA x hO hD K hK
  obtain ⟨e9, ev9⟩ := qE (hD 1 9 (by kernel_rfl))
  clear hO hD
  go_simp
  refine (refBytes_any C.num 8 _ hC.num (by omega)).mono ?_
  rintro e w1 ⟨A1, n1, c1, bs1, d1, rfl, rfl, ho1⟩
  exact hK.out _ _ (Ex.plus_ _ _ _) ⟨_, _, _, rfl, ho1.mono (below_plus V x.bs x.d).size⟩
 apply Steps.o1 (MP.eq _) 4 rfl rfl
 ·intro FA x hO hD K hK
  have e1 := hO 1 (by kernel_rfl)
  simp only [eval_tmp, qgT, qgS, qgZ, qoS] at e1
  have ev1 := Lib.hid ((eval_tmp FA 1).trans e1)
  clear hO hD
  go_simp
  exact hK.out _ _ (Ex.refl _) rfl
 apply Steps.o1 (MP.eq _) 5 rfl rfl
 ·intro FA x hO hD K hK
  obtain ⟨e11, ev11⟩ := qE (hD 3 11 (by kernel_rfl))
  clear hO hD
  refine wanted_if rfl ?_
  refine wp_ldA (cs := rcC C A n c) 30 (.tmp 11) rfl (ringC C.key C.now) ev11.out (bs.later (below_plus _ _ _)) (rcL_ring _ _ _ _ _ _ _ _ hk) vg1 vg2 (szRg C.key hk C.now) ?_
  exact hK.out _ _ (Ex.refl _) rfl
 apply Steps.o1 (MP.rb (C.key ++ dig C.now 8)) 6 rfl rfl
 ·intro FA x hO hD K hK
  obtain ⟨e12, ev12⟩ := qE (hD 4 12 (by kernel_rfl))
  clear hO hD
  go_simp
  refine (refRingBytes_any C.key hk C.now _ hC.now).mono ?_
  rintro e w1 ⟨A1, n1, c1, bs1, d1, rfl, rfl, ho1⟩
  exact hK.out _ _ (Ex.plus_ _ _ _) ⟨_, _, _, rfl, ho1.rb⟩
 refine Steps.fin_ (fun vs x hp => ?_)
 have p0 : vs 0 = _ := hp 0 (by omega)
 have p1 : vs 1 = _ := hp 1 (by omega)
 have p2 := hp 2 (by omega)
 have p3 : vs 3 = _ := hp 3 (by omega)
 have p4 : vs 4 = _ := hp 4 (by omega)
 have p5 := hp 5 (by omega)
 clear hp
 simp only [List.take_succ_cons, List.take_zero, List.drop_succ_cons, List.drop_zero, putAll, Nat.zero_add, Nat.reduceAdd, Act.put, qsT, qsZ, qsS, p0, p1, p3, p4]
 clear p0 p1 p3 p4
 generalize vs 2 = y2 at *
 generalize vs 5 = y5 at *
 clear vs
 obtain ⟨A2, n2, c2, rfl, ho2⟩ := p2
 obtain ⟨A6, n6, c6, rfl, hr5⟩ := p5
 have hl2 : n2 ≤ 8 := by have h1 := ho2.len; rw [dig_length] at h1; omega
 have hl5 : n6 ≤ 24 := by have h1 := hr5.1; rw [List.length_append, dig_length, hk] at h1; omega
 refine wpList_app bt rfl (.tmp 10) (.tmp 13) rfl rfl ho2 rfl hr5 (by omega) (below_plus V x.bs x.d).size ?_
 intro A5 n5 c5 V5 hO5 hb5 hg5
 refine wpList_plain rfl (fun K hK => ?_); go_simp; with_reducible refine hK _ _ ?_; clear hK K
 have hE5 : Below V.heap.size V V5 := (below_plus V x.bs x.d).trans hb5
 obtain ⟨B0, hB0⟩ : ∃ B, B = dig C.num 8 ++ (C.key ++ dig C.now 8) := ⟨_, rfl⟩
 rw [← hB0] at hO5
 have hB0l : B0.length = 32 := by rw [hB0]; simp [dig_length, hk]
 have HB0 := Lib.hid hB0
 have HST := Lib.hid (And.intro hO5 hE5)
 have HBS := Lib.hid (And.intro bs be)
 have hbs := be.size
 have HKN := Lib.hid (fun (i : Nat) (h1 : 1 ≤ i) (h64 : i ≤ 64) W (h : Below V.heap.size V W) => show W.cell? ⟨w.heap.size, 213 + i, none⟩ = some (.bool (knC C (i : Int))) from ((HBS.out.1.later h).cell _).trans (rcC_bool C hk hb A n c i h1 h64))
 clear hB0 hO5 hE5 bs be hb5 hg5 ho2 hr5 hl2 hl5
 go_upto_region 3 with (fail)
 go_loopw [3, 4] (fun OUT I wr => ∃ (m : Nat) (Bq : Option Addr) (kk dk : Nat), OUT = .slice Bq kk dk ∧ I = .int .i64 (m : Int) ∧ 1 ≤ m ∧ m ≤ 65 ∧ Ob wr V.heap.size Bq kk dk (B0 ++ bksI C (m - 1)) ∧ Below V.heap.size V wr) (fun _ I _ => 65 - (intOf I).toNat)
 case atStart => exact ⟨1, A5, _, c5, rfl, rfl, by omega, by omega, by simpa [bksI] using HST.out.1, HST.out.2⟩
 case round =>
  clear HST
  obtain ⟨m, Bq, kk, dk, rfl, rfl, hm1, hm, hO, hEV⟩ := hrel
  have hkl := hO.len
  have hB1 : (B0 ++ bksI C (m - 1)).length ≤ 2000 := by rw [List.length_append, hB0l]; have := bksI_len C (m - 1); omega
  by_cases hm64 : m ≤ 64
  ·have hmi : (m : Int) ≤ 64 := by omega
   have hmi2 : (m : Int) < 65 := by omega
   have hmi3 : m < 65 := by omega
   have hq := HKN.out m hm1 hm64 wr hEV
   have hbk : bksI C m = bksI C (m - 1) ++ bkB C m := by
    cases m with
    | zero => omega
    | succ p => rfl
   obtain ⟨hkb, -⟩ := kn_bk C m hm1 hm64
   cases hbm : C.bk.getD m none with
   | none =>
    rw [hbm] at hkb
    have hkb' : knC C (m : Int) = false := hkb
    rw [hkb'] at hq
    have HBK := Lib.hid (show bksI C (m + 1 - 1) = bksI C (m - 1) by rw [Nat.add_sub_cancel, hbk]; unfold bkB; rw [hbm]; simp)
    clear hbk hkb hkb' hbm
    go_wp2
    exact ⟨⟨m + 1, Bq, kk, dk, rfl, by go_num, by omega, by omega, by rw [HBK.out]; exact hO, hEV⟩, by simp [intOf]; omega⟩
   | some a =>
    rw [hbm] at hkb
    have hkb' : knC C (m : Int) = true := hkb
    rw [hkb'] at hq
    have hao := hC.bk m a hbm
    obtain ⟨six, ah, al⟩ := a
    have HBK := Lib.hid (show bksI C (m + 1 - 1) = bksI C (m - 1) ++ (dig m 1 ++ placeB six ah al) by rw [Nat.add_sub_cancel, hbk]; unfold bkB; rw [hbm])
    have HAD := Lib.hid (fun W (h : Below V.heap.size wr W) => show W.rangeAt w.heap.size (18 + m * 3) (adC six ah al) from fun j u hu => by
     have h1 := (HBS.out.1.later (hEV.trans h)).cell (18 + m * 3 + j)
     exact h1.trans (rcC_ad C hk hb A n c m hmi3 (six, ah, al) hbm j u hu))
    have HPL := Lib.hid (fun W => place_own six ah al W hao.2.1 hao.2.2)
    have HKB := Lib.hid (fun W (h : Kept (fun b => b < V.heap.size) wr W) => (h.below hEV.size (fun b hb => hb) : Below V.heap.size wr W))
    have e5 : IntKind.u8.wrap (m : Int) = (m : Int) := by rw [IntKind.wrap_u8]; omega
    have hdm := Lib.hid (dig1_bcs m (by omega))
    clear hbk hkb hkb' hbm hao
    obtain ⟨B1, hB1e⟩ : ∃ B, B = B0 ++ bksI C (m - 1) := ⟨_, rfl⟩
    rw [← hB1e] at hO hkl hB1
    have HB1 := Lib.hid hB1e
    clear hB1e
    go_upto_region 6 with (fail)
    refine wp_own (fun b => b < V.heap.size) 12 1 81 2 (fun i => match i with | i => i) (fun i => match i with | 0 => [12] | 4 => [0] | 10 => [4] | 11 => [10] | _ => []) (fun i => match i with | 12 => .slice Bq kk dk | _ => undef) rfl (by kernel_rfl) (by kernel_rfl) (fun i => match i with | 0 => Own.ob V.heap.size B1 | 1 => Own.eq (.int .i64 (m : Int)) | 2 => Own.eq (.int .u8 (m : Int)) | 3 => Own.ob V.heap.size (dig m 1) | 4 => Own.ob V.heap.size (B1 ++ dig m 1) | 5 => Own.eq (.int .i64 (m : Int)) | 6 => Own.eq (.pointer (some ⟨w.heap.size, 18, none⟩)) | 7 => Own.eq (.pointer (some ⟨w.heap.size, 18 + m * 3, none⟩)) | 8 => Own.eq (.agg (adC six ah al).toArray) | 9 => Own.ob V.heap.size (placeB six ah al) | 10 => Own.ob V.heap.size ((B1 ++ dig m 1) ++ placeB six ah al) | 11 => Own.ob V.heap.size ((B1 ++ dig m 1) ++ placeB six ah al) | 12 => Own.ob V.heap.size B1 | _ => Own.any) (fun b h => Nat.lt_of_lt_of_le h hEV.size) ?_ ?_ ?_ ?_ ?_
    ·exact fun t ht => by obtain rfl : t = 0 := (by omega); exact ⟨_, _, _, rfl, hO⟩
    ·exact fun t t' h1 h2 hne => absurd (show t = t' by omega) hne
    ·exact fun t ht b hb hp => by obtain rfl : t = 0 := (by omega); have h1 := (hO.blk b hb).1; have h2 : b < V.heap.size := hp; omega
    ·intro i hi o ho FA w' vs H K hK
     match i, hi, ho, H, hK with
     | 0, _, ho, H, hK => 
      obtain rfl := qoi ho
      have ev3 : FA.eval (.tmp 3) = .slice Bq kk dk := H.out 3 (by kernel_rfl)
      have e3 : FA.tmps[3]?.getD undef = .slice Bq kk dk := by simpa [Act.eval] using ev3
      replace ev3 := Lib.hid ev3
      have hv0 : vs 12 = .slice Bq kk dk := H.virt 12 (by omega)
      have hw := H.word 12 (by omega) (by kernel_rfl)
      rw [hv0] at hw
      go_simp
      exact hK.out _ _ (chgX (Ex.refl _)) hw (fun b hb => .inl ⟨12, rfl, by show (vs 12).ownBlock = some b; rw [hv0]; exact hb⟩)
     | 1, _, ho, H, hK => 
      obtain rfl := qoi ho
      have ev4 : FA.eval (.tmp 4) = .int .i64 (m : Int) := H.out 4 (by kernel_rfl)
      have e4 : FA.tmps[4]?.getD undef = .int .i64 (m : Int) := by simpa [Act.eval] using ev4
      replace ev4 := Lib.hid ev4
      go_simp
      exact hK.out _ _ (chgX (Ex.refl _)) rfl (fun _ h => h.elim)
     | 2, _, ho, H, hK => 
      obtain rfl := qoi ho
      have ev24 : FA.eval (.tmp 24) = .int .i64 (m : Int) := (H.dep 1 24 (by kernel_rfl)).trans (H.word 1 (by omega) (by kernel_rfl))
      have e24 : FA.tmps[24]?.getD undef = .int .i64 (m : Int) := by simpa [Act.eval] using ev24
      replace ev24 := Lib.hid ev24
      go_simp
      exact hK.out _ _ (chgX (Ex.refl _)) rfl (fun _ h => h.elim)
     | 3, _, ho, H, hK => 
      obtain rfl := qoi ho
      have ev25 : FA.eval (.tmp 25) = .int .u8 (m : Int) := (H.dep 2 25 (by kernel_rfl)).trans (H.word 2 (by omega) (by kernel_rfl))
      have e25 : FA.tmps[25]?.getD undef = .int .u8 (m : Int) := by simpa [Act.eval] using ev25
      replace ev25 := Lib.hid ev25
      go_simp
      have ho1 := Ob.lit w' (Nat.le_refl _) #[.int .u8 (m : Int)] (dig m 1) 1 (by simp [dig_length]) (by decide) hdm.out
      exact hK.out _ _ (chgX (Ex.alloc _ _)) ⟨_, _, _, rfl, ho1.mono (Nat.le_trans hEV.size H.kept.size)⟩ (fun b hb => .inr (ho1.blk b hb).1)
     | 4, _, ho, H, hK => 
      obtain rfl := qoi ho
      clear ho
      have ev23 := H.dep 0 23 (by kernel_rfl)
      have e23 : FA.tmps[23]?.getD undef = vs 0 := by simpa [Act.eval] using ev23
      replace ev23 := Lib.hid ev23
      have ev26 := H.dep 3 26 (by kernel_rfl)
      have e26 : FA.tmps[26]?.getD undef = vs 3 := by simpa [Act.eval] using ev26
      replace ev26 := Lib.hid ev26
      obtain ⟨A1, n1, c1, hv1, h1⟩ := H.word 0 (by omega) (by kernel_rfl)
      obtain ⟨A2, n2, c2, hv2, h2⟩ := H.word 3 (by omega) (by kernel_rfl)
      have hn1 : n1 ≤ 3000 := by rw [← h1.1]; omega
      have hn2 : n2 ≤ 100 := by rw [← h2.1]; simp [dig_length]
      refine wanted_if rfl ?_
      refine own_app bt (.tmp 23) (.tmp 26) rfl (ev23.out.trans hv1) h1 (ev26.out.trans hv2) h2.rb (by omega) (Nat.le_trans hEV.size H.kept.size) ?_
      intro A3 n3 c3 w3 ho3 hg3 hf3
      refine hK.out _ _ (Chg.grown hg3 (fun k hk => ⟨0, rfl, by show (vs 0).ownBlock = some k; rw [hv1]; exact hk⟩)) ⟨_, _, _, rfl, ho3⟩ (fun b hb => ?_)
      rcases hf3 b hb with h | h
      ·exact .inl ⟨0, rfl, by show (vs 0).ownBlock = some b; rw [hv1]; exact h⟩
      ·exact .inr h
     | 5, _, ho, H, hK => 
      obtain rfl := qoi ho
      have ev4 : FA.eval (.tmp 4) = .int .i64 (m : Int) := H.out 4 (by kernel_rfl)
      have e4 : FA.tmps[4]?.getD undef = .int .i64 (m : Int) := by simpa [Act.eval] using ev4
      replace ev4 := Lib.hid ev4
      go_simp
      exact hK.out _ _ (chgX (Ex.refl _)) rfl (fun _ h => h.elim)
     | 6, _, ho, H, hK => 
      obtain rfl := qoi ho
      have ev1 : FA.eval (.tmp 1) = .pointer (some ⟨w.heap.size, 0, none⟩) := H.out 1 (by kernel_rfl)
      have e1 : FA.tmps[1]?.getD undef = .pointer (some ⟨w.heap.size, 0, none⟩) := by simpa [Act.eval] using ev1
      replace ev1 := Lib.hid ev1
      go_simp
      exact hK.out _ _ (chgX (Ex.refl _)) rfl (fun _ h => h.elim)
     | 7, _, ho, H, hK => 
      obtain rfl := qoi ho
      have ev29 : FA.eval (.tmp 29) = .pointer (some ⟨w.heap.size, 18, none⟩) := (H.dep 6 29 (by kernel_rfl)).trans (H.word 6 (by omega) (by kernel_rfl))
      have e29 : FA.tmps[29]?.getD undef = .pointer (some ⟨w.heap.size, 18, none⟩) := by simpa [Act.eval] using ev29
      replace ev29 := Lib.hid ev29
      have ev28 : FA.eval (.tmp 28) = .int .i64 (m : Int) := (H.dep 5 28 (by kernel_rfl)).trans (H.word 5 (by omega) (by kernel_rfl))
      have e28 : FA.tmps[28]?.getD undef = .int .i64 (m : Int) := by simpa [Act.eval] using ev28
      replace ev28 := Lib.hid ev28
      go_simp
      exact hK.out _ _ (chgX (Ex.refl _)) rfl (fun _ h => h.elim)
     | 8, _, ho, H, hK => 
      obtain rfl := qoi ho
      have ev30 : FA.eval (.tmp 30) = .pointer (some ⟨w.heap.size, 18 + m * 3, none⟩) := (H.dep 7 30 (by kernel_rfl)).trans (H.word 7 (by omega) (by kernel_rfl))
      have e30 : FA.tmps[30]?.getD undef = .pointer (some ⟨w.heap.size, 18 + m * 3, none⟩) := by simpa [Act.eval] using ev30
      replace ev30 := Lib.hid ev30
      refine wanted_if rfl ?_
      refine wp_load_mid 32 (.tmp 30) rfl (w.heap.size) (18 + m * 3) ev30.out (adC six ah al) _ (HAD.out w' (HKB.out _ H.kept)) va1 va2 (szAd _ _ _) ?_
      exact hK.out _ _ (chgX (Ex.refl _)) rfl (fun _ h => h.elim)
     | 9, _, ho, H, hK => 
      obtain rfl := qoi ho
      have ev31 : FA.eval (.tmp 31) = .agg (adC six ah al).toArray := (H.dep 8 31 (by kernel_rfl)).trans (H.word 8 (by omega) (by kernel_rfl))
      have e31 : FA.tmps[31]?.getD undef = .agg (adC six ah al).toArray := by simpa [Act.eval] using ev31
      replace ev31 := Lib.hid ev31
      go_simp
      refine (HPL.out w').mono ?_
      rintro e w1 ⟨A1, n1, c1, bs2, d2, rfl, rfl, ho1⟩
      exact hK.out _ _ (chgX (Ex.plus_ _ _ _)) ⟨_, _, _, rfl, ho1.mono (Nat.le_trans hEV.size H.kept.size)⟩ (fun b hb => .inr (ho1.blk b hb).1)
     | 10, _, ho, H, hK => 
      obtain rfl := qoi ho
      clear ho
      have ev27 := H.dep 4 27 (by kernel_rfl)
      have e27 : FA.tmps[27]?.getD undef = vs 4 := by simpa [Act.eval] using ev27
      replace ev27 := Lib.hid ev27
      have ev32 := H.dep 9 32 (by kernel_rfl)
      have e32 : FA.tmps[32]?.getD undef = vs 9 := by simpa [Act.eval] using ev32
      replace ev32 := Lib.hid ev32
      obtain ⟨A1, n1, c1, hv1, h1⟩ := H.word 4 (by omega) (by kernel_rfl)
      obtain ⟨A2, n2, c2, hv2, h2⟩ := H.word 9 (by omega) (by kernel_rfl)
      have hn1 : n1 ≤ 3000 := by rw [← h1.1]; rw [List.length_append, dig_length]; omega
      have hn2 : n2 ≤ 100 := by rw [← h2.1]; have := adrB_length six ah al; rw [placeB_len]; omega
      refine wanted_if rfl ?_
      refine own_app bt (.tmp 27) (.tmp 32) rfl (ev27.out.trans hv1) h1 (ev32.out.trans hv2) h2.rb (by omega) (Nat.le_trans hEV.size H.kept.size) ?_
      intro A3 n3 c3 w3 ho3 hg3 hf3
      refine hK.out _ _ (Chg.grown hg3 (fun k hk => ⟨4, rfl, by show (vs 4).ownBlock = some k; rw [hv1]; exact hk⟩)) ⟨_, _, _, rfl, ho3⟩ (fun b hb => ?_)
      rcases hf3 b hb with h | h
      ·exact .inl ⟨4, rfl, by show (vs 4).ownBlock = some b; rw [hv1]; exact h⟩
      ·exact .inr h
     | 11, _, ho, H, hK => 
      obtain rfl := qoi ho
      clear ho
      have ev33 := H.dep 10 33 (by kernel_rfl)
      have e33 : FA.tmps[33]?.getD undef = vs 10 := by simpa [Act.eval] using ev33
      replace ev33 := Lib.hid ev33
      have hw := H.word 10 (by omega) (by kernel_rfl)
      go_simp
      exact hK.out _ _ (chgX (Ex.refl _)) hw (fun b hb => .inl ⟨10, rfl, hb⟩)
     | (k + 12), hi, _, _, _ => exact absurd hi (by omega)
    intro vs w' hC hV hW hDis hFr
    have p1 : vs 1 = .int .i64 (m : Int) := hW 1 (by omega) (by kernel_rfl)
    have p2 : vs 2 = .int .u8 (m : Int) := hW 2 (by omega) (by kernel_rfl)
    have p3 := hW 3 (by omega) (by kernel_rfl)
    have p5 : vs 5 = .int .i64 (m : Int) := hW 5 (by omega) (by kernel_rfl)
    have p6 : vs 6 = .pointer (some ⟨w.heap.size, 18, none⟩) := hW 6 (by omega) (by kernel_rfl)
    have p7 : vs 7 = .pointer (some ⟨w.heap.size, 18 + m * 3, none⟩) := hW 7 (by omega) (by kernel_rfl)
    have p8 : vs 8 = .agg (adC six ah al).toArray := hW 8 (by omega) (by kernel_rfl)
    have p9 := hW 9 (by omega) (by kernel_rfl)
    have p11 := hW 11 (by omega) (by kernel_rfl)
    clear hW
    simp only [List.take_succ_cons, List.take_zero, List.drop_succ_cons, List.drop_zero, putAll, Nat.zero_add, Nat.reduceAdd, Act.put, qsT, qsZ, qsS, p1, p2, p5, p6, p7, p8]
    obtain ⟨A6, n6, c6, hA6, ho6⟩ := p11
    replace hA6 : vs 11 = .slice A6 n6 c6 := hA6
    clear p3 p9 hDis hFr hV
    rw [hA6]
    have hE6 := hEV.trans (hC.below hEV.size (fun b hb => hb) : Below V.heap.size wr w')
    rw [List.append_assoc, HB1.out, List.append_assoc, ← HBK.out] at ho6
    go_wp2
    exact ⟨⟨m + 1, A6, n6, c6, rfl, by go_num, by omega, by omega, ho6, hE6⟩, by simp [intOf]; omega⟩
  ·have hmi : ¬ (m : Int) ≤ 64 := by omega
   have hm65 : m - 1 = 64 := by omega
   rw [hm65] at hO hkl hB1
   clear hm1 hm hm64 hm65
   have hn16 : n ≤ 16 := by have := hC.vl; have := HN.out; omega
   have q278 : wr.cell? ⟨w.heap.size, 278, none⟩ = some (.slice A n c) := ((HBS.out.1.later hEV).cell _).trans (rcC_vips C hk hb A n c)
   have e5 : IntKind.u8.wrap (n : Int) = (n : Int) := by rw [IntKind.wrap_u8]; omega
   have hd2 := Lib.hid (show [Value.int .u8 0, .int .u8 (n : Int)] = bcs (dig 0 1 ++ dig n 1) by simp [bcs, dig]; omega)
   go_upto_region 7 with (fail)
   refine wp_region_lit ?_
   iterate 6 (refine wpList_plain rfl (fun K hK => ?_); go_simp; with_reducible refine hK _ _ ?_; clear hK K)
   refine wpList_app bt rfl (.tmp 34) (.tmp 39) rfl rfl (hO.later (Below.allocS (Below.refl _ _) _)) rfl (Ob.lit wr (Nat.le_refl _) _ (dig 0 1 ++ dig n 1) 2 (by simp [dig_length]) (by decide) hd2.out).rb (by omega) (by have := hEV.size; simp; omega) ?_
   intro A7 n7 c7 w7 hO7 hb7 hg7
   refine wpList_plain rfl (fun K hK => ?_); go_simp; with_reducible refine hK _ _ ?_; clear hK K
   have hE7 : Below V.heap.size V w7 := (hEV.trans ((Below.allocS (Below.refl _ _) _).mono hEV.size)).trans hb7
   obtain ⟨B2, hB2⟩ : ∃ B, B = B0 ++ bksI C 64 ++ (dig 0 1 ++ dig n 1) := ⟨_, rfl⟩
   rw [← hB2] at hO7
   have hB2l : B2.length ≤ 2002 := by rw [hB2, List.length_append]; simp only [List.length_append, dig_length] at hB1 ⊢; omega
   have HST := Lib.hid (And.intro (hO7.mono hbs) hE7)
   have HB2 := Lib.hid hB2
   have HQ := Lib.hid (fun W (h : Below V.heap.size V W) => show W.cell? ⟨w.heap.size, 278, none⟩ = some (.slice A n c) from ((HBS.out.1.later h).cell _).trans (rcC_vips C hk hb A n c))
   have HXV := Lib.hid (fun W (h : Below V.heap.size V W) => HX0.out.later (HBS.out.2.trans (h.mono hbs)))
   have HV81 := Lib.hid (show (Tryz.zeroCells115).toList.length = 81 by kernel_rfl)
   have HVS := Lib.hid hC.vs
   clear hO hEV q278 hd2 hO7 hb7 hg7 hE7 hB1 hkl hB2
   go_upto_region 9 with (fail)
   go_loopw [3, 5] (fun OUT I wr => ∃ (i : Nat) (Bq : Option Addr) (kk dk : Nat), OUT = .slice Bq kk dk ∧ I = .int .i64 (i : Int) ∧ i ≤ n ∧ Ob wr w.heap.size Bq kk dk (B2 ++ vipsB (C.vs.take i)) ∧ Below V.heap.size V wr) (fun _ I _ => n - (intOf I).toNat)
   case atStart => exact ⟨0, A7, _, c7, rfl, rfl, Nat.zero_le _, by simpa [vipsB] using HST.out.1, HST.out.2⟩
   case round =>
    clear HST
    obtain ⟨i, Bq, kk, dk, rfl, rfl, hi, hO, hEV⟩ := hrel
    have q278 := HQ.out wr hEV
    have hkl := hO.len
    have hB3 : (B2 ++ vipsB (C.vs.take i)).length ≤ 20000 := by
     rw [List.length_append]
     have h1 := vipsB_len (C := C) (L := C.vs.take i) (fun v hv => HVS.out v (List.mem_of_mem_take hv))
     have h2 : (C.vs.take i).length ≤ 16 := by simp; omega
     omega
    by_cases hil : i < n
    ·have hi1 : (i : Int) < (n : Int) := by omega
     have hX := HXV.out wr hEV
     have hlE := hX.len
     have hiv : i < C.vs.length := by have := HN.out; omega
     obtain ⟨bl, ol, hAe, hbl, -⟩ := hX.row.at_ (by omega) (by decide)
     have hrow := hX.row
     rw [hAe] at hrow q278
     have hrg := hrow.rangeE rvC_len i (by omega)
     have hum : E[i]'(by omega) ∈ E := List.getElem_mem _
     have hui : (E[i]'(by omega)).1 = C.vs[i]'hiv := by
      have h1 : (E.map (·.1))[i]? = some (E[i]'(by omega)).1 := by rw [List.getElem?_map, List.getElem?_eq_getElem (by omega)]; rfl
      rw [hX.vs, List.getElem?_eq_getElem hiv] at h1
      exact (Option.some.inj h1).symm
     have htk : vipsB (C.vs.take (i + 1)) = vipsB (C.vs.take i) ++ vipB (C.vs[i]'hiv) := by unfold vipsB; rw [List.take_succ_eq_append_getElem hiv, List.flatMap_append]; simp
     have hvo := HVS.out _ (List.getElem_mem hiv)
     rw [← hui] at htk hvo
     obtain ⟨u, hu⟩ : ∃ u, u = E[i]'(by omega) := ⟨_, rfl⟩
     rw [← hu] at hrg hum htk hvo
     have HSS := Lib.hid (fun W (h : Below V.heap.size V W) => (HXV.out W h).ss u hum)
     have HMM := Lib.hid (fun W (h : Below V.heap.size V W) => (HXV.out W h).mm u hum)
     obtain ⟨⟨⟨six, ah, al⟩, pt, pr, wy, ms, S⟩, MA, mn, mc, SB, sm, sd⟩ := u
     obtain ⟨had, hpt, hpr, hwy, hms, hst, -⟩ := hvo
     simp only [] at had hpt hpr hwy hms hst
     obtain ⟨wn, rfl⟩ : ∃ wn : Nat, wy = wn := ⟨wy.toNat, by omega⟩
     have HSB := Lib.hid (fun W (h : RSt G W S.lv SB sm sd) => refStkBytes_any S hst SB sm sd W h)
     have HPL := Lib.hid (fun W => place_any six ah al W had.2.1 had.2.2)
     have hms64 := okM_len hms
     have hmn : mn ≤ 64 := by have h1 := (HMM.out wr hEV).1; rw [prs_length] at h1; simp only [] at h1; omega
     have HMB := Lib.hid (fun W (h : Rs 2 W MA mn mc (prs .i64 ms)) => refMembers_any ms MA mn mc W h hmn (okM_sh hms))
     have hstl := stkB_len hst
     have HTK := Lib.hid htk
     have hpr9 : pr < 256 := by omega
     clear hlE hAe hrow hum hui htk hu hst hms hpr hX
     go_upto_region 11 with (fail)
     refine wp_region_lit ?_
     iterate 4 (refine wpList_plain rfl (fun K hK => ?_); go_simp; with_reducible refine hK _ _ ?_; clear hK K)
     refine wpList_load_mid rfl 115 (.tmp 51) rfl bl (ol + i * 81) rfl (rvC ((⟨(six, ah, al), pt, pr, (wn : Int), ms, S⟩, ⟨MA, mn, mc, SB, sm, sd⟩) : Re)) _ hrg vr1 vr2 (szRv _) ?_
     refine wpList_plain rfl (fun K hK => ?_); go_simp; with_reducible refine hK _ _ ?_; clear hK K
     refine wpList_stA (t := 115) 115 (.tmp 6) (.tmp 52) rfl rfl (rvC ((⟨(six, ah, al), pt, pr, (wn : Int), ms, S⟩, ⟨MA, mn, mc, SB, sm, sd⟩) : Re)) (Tryz.zeroCells115).toList (by rw [rvC_len]; exact HV81.out.symm) (rvC_one _) rfl rfl (Bk.new _ _ _) (szRv _) ?_
     intro W7 h7 g7
     simp only [Act.put, qsT, qsZ, qsS]
     have hE7 : Below V.heap.size V W7 := (hEV.trans ((Below.allocS (Below.refl _ _) _).mono hEV.size)).trans (below_of_grown g7 (by have := hEV.size; simp; omega) (fun k hk => by injection hk with hk; have := hEV.size; omega))
     have hOw : Ob W7 w.heap.size Bq kk dk (B2 ++ vipsB (C.vs.take i)) := (hO.later (Below.allocS (Below.refl _ _) _)).grown g7 (fun k hk e => by have := (hO.blk k hk).2; injection e with e; omega)
     have hgvw : w.heap.size < wr.heap.size := by have := hEV.size; have := HBS.out.1.lt; omega
     clear hO g7 hEV hrg q278
     have hO := hOw
     clear hOw
     generalize wr.heap.size = gv at *
     go_upto_region 12 with (fail)
     refine wp_region_lit ?_
     refine wpList_plain rfl (fun K hK => ?_); go_simp; with_reducible refine hK _ _ ?_; clear hK K
     refine wpList_ldA (t := 115) (cs := rvC ((⟨(six, ah, al), pt, pr, (wn : Int), ms, S⟩, ⟨MA, mn, mc, SB, sm, sd⟩) : Re)) 113 (.tmp 53) rfl rfl (rstC SB sm sd S) rfl h7 (rvC_stk ((⟨(six, ah, al), pt, pr, (wn : Int), ms, S⟩, ⟨MA, mn, mc, SB, sm, sd⟩) : Re)) vt1 vt2 (szRst _ _ _ _) ?_
     refine wpList_plain rfl (fun K hK => ?_)
     go_simp
     refine (HSB.out _ (HSS.out _ hE7)).mono ?_
     rintro e w1 ⟨At, nt, ct, bs1, d1, rfl, rfl, hot⟩
     with_reducible refine hK _ _ ?_
     clear hK K
     have hb1 := below_plus W7 bs1 d1
     replace h7 := h7.later hb1
     replace hO := hO.later hb1
     have hE8 : Below V.heap.size V (plus W7 bs1 d1) := hE7.trans (hb1.mono hE7.size)
     have hot8 := hot.rb
     clear hb1 hE7 hot
     generalize plus W7 bs1 d1 = W8 at *
     refine wpList_plain rfl (fun K hK => ?_); go_simp; with_reducible refine hK _ _ ?_; clear hK K
     have hnt : nt = (stkB S).length := hot8.1.symm
     have hnt700 : nt ≤ 1000 := by omega
     obtain ⟨B3, hB3e⟩ : ∃ B, B = B2 ++ vipsB (C.vs.take i) := ⟨_, rfl⟩
     rw [← hB3e] at hO hB3 hkl
     have HT : Hid ((([B3, (placeB six ah al), (dig (pt) 2), [UInt8.ofNat (pr), UInt8.ofNat (wn)], (membersB ms), (dig (nt) 2), (stkB S)]).flatten).length ≤ 549755813888) := Lib.hid (by
      have := adrB_length six ah al
      simp [dig_length, placeB_len, membersB, pairsB_len]
      omega)
     have HE : Hid (([B3, (placeB six ah al), (dig (pt) 2), [UInt8.ofNat (pr), UInt8.ofNat (wn)], (membersB ms), (dig (nt) 2), (stkB S)]).flatten = B2 ++ vipsB (C.vs.take (i + 1))) := Lib.hid (by
      have d1 : ∀ x : Nat, dig x 1 = [UInt8.ofNat x] := fun x => by
       simp [dig]
       try (apply ofNat_eq; omega)
      rw [HTK.out, hB3e]
      simp [vipB, d1, hnt])
     have HW8 := Lib.hid hE8.size
     have hwW8 : w.heap.size ≤ W8.heap.size := by have := hE8.size; omega
     have hw0 : IntKind.u64.wrap (pt : Int) = (pt : Int) := IntWalk.u64_in _ (by omega)
     have hw1 : IntKind.u8.wrap (wn : Int) = (wn : Int) := IntWalk.u8_in _ (by omega)
     have hw2 : IntKind.u64.wrap (nt : Int) = (nt : Int) := IntWalk.u64_in _ (by omega)
     clear hB3e hnt
     go_upto_region 13 with (fail)
     refine wp_relS 25 81 rfl (by kernel_rfl) (by kernel_rfl) ?_
     apply Steps.o1 (MP.eq _) 1 rfl rfl
     ·intro FA x hO hD K hK
      have e3 := hO 3 (by kernel_rfl)
      simp only [eval_tmp, qgT, qgS, qgZ, qoS] at e3
      have ev3 := Lib.hid ((eval_tmp FA 3).trans e3)
      clear hO hD
      go_simp
      exact hK.out _ _ (Ex.refl _) rfl
     apply Steps.o1 (MP.eq _) 2 rfl rfl
     ·intro FA x hO hD K hK
      have e6 := hO 6 (by kernel_rfl)
      simp only [eval_tmp, qgT, qgS, qgZ, qoS] at e6
      have ev6 := Lib.hid ((eval_tmp FA 6).trans e6)
      clear hO hD
      go_simp
      exact hK.out _ _ (Ex.refl _) rfl
     apply Steps.o1 (MP.eq (.agg (adC six ah al).toArray)) 3 rfl rfl
     ·intro FA x hO hD K hK
      obtain ⟨e57, ev57⟩ := qE (hD 1 57 (by kernel_rfl))
      clear hO hD
      refine wanted_if rfl ?_
      refine wp_ldA 32 (.tmp 57) rfl (adC six ah al) ev57.out (h7.later (below_plus _ _ _)) rfl va1 va2 (szAd _ _ _) ?_
      exact hK.out _ _ (Ex.refl _) rfl
     apply Steps.o1 (MP.rb (placeB six ah al)) 4 rfl rfl
     ·intro FA x hO hD K hK
      obtain ⟨e58, ev58⟩ := qE (hD 2 58 (by kernel_rfl))
      clear hO hD
      go_simp
      refine (HPL.out _).mono ?_
      rintro e w1 ⟨A2, n2, c2, bs2, d2, rfl, rfl, hx2⟩
      exact hK.out _ _ (Ex.plus_ _ _ _) ⟨_, _, _, rfl, hx2⟩
     apply Steps.o1 (MP.eq _) 5 rfl rfl
     ·intro FA x hO hD K hK
      have e6 := hO 6 (by kernel_rfl)
      simp only [eval_tmp, qgT, qgS, qgZ, qoS] at e6
      have ev6 := Lib.hid ((eval_tmp FA 6).trans e6)
      clear hO hD
      go_simp
      exact hK.out _ _ (Ex.refl _) rfl
     apply Steps.o1 (MP.eq _) 6 rfl rfl
     ·intro FA x hO hD K hK
      obtain ⟨e60, ev60⟩ := qE (hD 4 60 (by kernel_rfl))
      clear hO hD
      refine wanted_if rfl ?_
      refine wp_ld1 40 (.tmp 60) rfl ev60.out (h7.later (below_plus _ _ _)) rfl Tryz.underlying40 rfl ?_
      exact hK.out _ _ (Ex.refl _) rfl
     apply Steps.o1 (MP.eq _) 7 rfl rfl
     ·intro FA x hO hD K hK
      obtain ⟨e61, ev61⟩ := qE (hD 5 61 (by kernel_rfl))
      clear hO hD
      go_simp
      exact hK.out _ _ (Ex.refl _) rfl
     apply Steps.o1 (MP.rb (dig (pt) 2)) 8 rfl rfl
     ·intro FA x hO hD K hK
      obtain ⟨e62, ev62⟩ := qE (hD 6 62 (by kernel_rfl))
      clear hO hD
      go_simp
      refine (refBytes_any (pt) 2 _ (by omega) (by omega)).mono ?_
      rintro e w1 ⟨A2, n2, c2, bs2, d2, rfl, rfl, ho2⟩
      exact hK.out _ _ (Ex.plus_ _ _ _) ⟨_, _, _, rfl, ho2.rb⟩
     apply Steps.o1 (MP.eq _) 9 rfl rfl
     ·intro FA x hO hD K hK
      have e6 := hO 6 (by kernel_rfl)
      simp only [eval_tmp, qgT, qgS, qgZ, qoS] at e6
      have ev6 := Lib.hid ((eval_tmp FA 6).trans e6)
      clear hO hD
      go_simp
      exact hK.out _ _ (Ex.refl _) rfl
     apply Steps.o1 (MP.eq _) 10 rfl rfl
     ·intro FA x hO hD K hK
      obtain ⟨e64, ev64⟩ := qE (hD 8 64 (by kernel_rfl))
      clear hO hD
      refine wanted_if rfl ?_
      refine wp_ld1 5 (.tmp 64) rfl ev64.out (h7.later (below_plus _ _ _)) rfl Tryz.underlying5 rfl ?_
      exact hK.out _ _ (Ex.refl _) rfl
     apply Steps.o1 (MP.eq _) 11 rfl rfl
     ·intro FA x hO hD K hK
      have e6 := hO 6 (by kernel_rfl)
      simp only [eval_tmp, qgT, qgS, qgZ, qoS] at e6
      have ev6 := Lib.hid ((eval_tmp FA 6).trans e6)
      clear hO hD
      go_simp
      exact hK.out _ _ (Ex.refl _) rfl
     apply Steps.o1 (MP.eq _) 12 rfl rfl
     ·intro FA x hO hD K hK
      obtain ⟨e66, ev66⟩ := qE (hD 10 66 (by kernel_rfl))
      clear hO hD
      refine wanted_if rfl ?_
      refine wp_ld1 3 (.tmp 66) rfl ev66.out (h7.later (below_plus _ _ _)) rfl Tryz.underlying3 rfl ?_
      exact hK.out _ _ (Ex.refl _) rfl
     apply Steps.o1 (MP.eq _) 13 rfl rfl
     ·intro FA x hO hD K hK
      obtain ⟨e67, ev67⟩ := qE (hD 11 67 (by kernel_rfl))
      clear hO hD
      go_simp
      exact hK.out _ _ (Ex.refl _) rfl
     apply Steps.o1 (MP.rb [UInt8.ofNat (pr), UInt8.ofNat (wn)]) 14 rfl rfl
     ·intro FA x hO hD K hK
      obtain ⟨e65, ev65⟩ := qE (hD 9 65 (by kernel_rfl))
      obtain ⟨e68, ev68⟩ := qE (hD 12 68 (by kernel_rfl))
      clear hO hD
      go_simp
      refine hK.out _ _ (Ex.alloc _ _) ⟨_, _, _, rfl, ?_⟩
      refine Rb.litW _ [UInt8.ofNat (pr), UInt8.ofNat (wn)] ?_ rfl (by decide) ?_
      ·simp [size_plus]
      ·simp [bcs]; try omega
     apply Steps.o1 (MP.eq _) 15 rfl rfl
     ·intro FA x hO hD K hK
      have e6 := hO 6 (by kernel_rfl)
      simp only [eval_tmp, qgT, qgS, qgZ, qoS] at e6
      have ev6 := Lib.hid ((eval_tmp FA 6).trans e6)
      clear hO hD
      go_simp
      exact hK.out _ _ (Ex.refl _) rfl
     apply Steps.o1 (MP.eq _) 16 rfl rfl
     ·intro FA x hO hD K hK
      obtain ⟨e70, ev70⟩ := qE (hD 14 70 (by kernel_rfl))
      clear hO hD
      refine wanted_if rfl ?_
      refine wp_ld1 45 (.tmp 70) rfl ev70.out (h7.later (below_plus _ _ _)) rfl Tryz.underlying45 rfl ?_
      exact hK.out _ _ (Ex.refl _) rfl
     apply Steps.o1 (MP.rb (membersB ms)) 17 rfl rfl
     ·intro FA x hO hD K hK
      obtain ⟨e71, ev71⟩ := qE (hD 15 71 (by kernel_rfl))
      clear hO hD
      go_simp
      refine (HMB.out _ (HMM.out _ (hE8.trans ((below_plus _ _ _).mono hE8.size)))).mono ?_
      rintro e w1 ⟨A2, n2, c2, bs2, d2, rfl, rfl, hx2⟩
      exact hK.out _ _ (Ex.plus_ _ _ _) ⟨_, _, _, rfl, hx2⟩
     apply Steps.o1 (MP.eq _) 18 rfl rfl
     ·intro FA x hO hD K hK
      have e7 := hO 7 (by kernel_rfl)
      simp only [eval_tmp, qgT, qgS, qgZ, qoS] at e7
      have ev7 := Lib.hid ((eval_tmp FA 7).trans e7)
      clear hO hD
      go_simp
      exact hK.out _ _ (Ex.refl _) rfl
     apply Steps.o1 (MP.eq _) 19 rfl rfl
     ·intro FA x hO hD K hK
      obtain ⟨e73, ev73⟩ := qE (hD 17 73 (by kernel_rfl))
      clear hO hD
      go_simp
      exact hK.out _ _ (Ex.refl _) rfl
     apply Steps.o1 (MP.eq _) 20 rfl rfl
     ·intro FA x hO hD K hK
      obtain ⟨e74, ev74⟩ := qE (hD 18 74 (by kernel_rfl))
      clear hO hD
      go_simp
      exact hK.out _ _ (Ex.refl _) rfl
     apply Steps.o1 (MP.rb (dig (nt) 2)) 21 rfl rfl
     ·intro FA x hO hD K hK
      obtain ⟨e75, ev75⟩ := qE (hD 19 75 (by kernel_rfl))
      clear hO hD
      go_simp
      refine (refBytes_any (nt) 2 _ (by omega) (by omega)).mono ?_
      rintro e w1 ⟨A2, n2, c2, bs2, d2, rfl, rfl, ho2⟩
      exact hK.out _ _ (Ex.plus_ _ _ _) ⟨_, _, _, rfl, ho2.rb⟩
     apply Steps.o1 (MP.eq _) 22 rfl rfl
     ·intro FA x hO hD K hK
      have e7 := hO 7 (by kernel_rfl)
      simp only [eval_tmp, qgT, qgS, qgZ, qoS] at e7
      have ev7 := Lib.hid ((eval_tmp FA 7).trans e7)
      clear hO hD
      go_simp
      exact hK.out _ _ (Ex.refl _) rfl
     apply Steps.o1 (MP.rdl [B3, (placeB six ah al), (dig (pt) 2), [UInt8.ofNat (pr), UInt8.ofNat (wn)], (membersB ms), (dig (nt) 2), (stkB S)]) 23 rfl rfl
     ·intro FA x hO hD K hK
      obtain ⟨e56, ev56⟩ := qE (hD 0 56 (by kernel_rfl))
      obtain ⟨u59, f59, e59, ev59⟩ := qG (hD 3 59 (by kernel_rfl))
      obtain ⟨u63, f63, e63, ev63⟩ := qG (hD 7 63 (by kernel_rfl))
      obtain ⟨u69, f69, e69, ev69⟩ := qG (hD 13 69 (by kernel_rfl))
      obtain ⟨u72, f72, e72, ev72⟩ := qG (hD 16 72 (by kernel_rfl))
      obtain ⟨u76, f76, e76, ev76⟩ := qG (hD 20 76 (by kernel_rfl))
      obtain ⟨e77, ev77⟩ := qE (hD 21 77 (by kernel_rfl))
      clear hO hD
      obtain ⟨A59, n59, c59, rfl, h59⟩ := f59
      obtain ⟨A63, n63, c63, rfl, h63⟩ := f63
      obtain ⟨A69, n69, c69, rfl, h69⟩ := f69
      obtain ⟨A72, n72, c72, rfl, h72⟩ := f72
      obtain ⟨A76, n76, c76, rfl, h76⟩ := f76
      go_simp
      refine hK.out _ _ (Ex.alloc _ _) ⟨_, _, _, rfl, ?_⟩
      refine RdL.litW _ _ ?_ ?_
      ·simp [size_plus]
      ·exact .cons ⟨_, _, _, rfl, hO.rb.later (below_plus _ _ _)⟩ (.cons ⟨_, _, _, rfl, h59⟩ (.cons ⟨_, _, _, rfl, h63⟩ (.cons ⟨_, _, _, rfl, h69⟩ (.cons ⟨_, _, _, rfl, h72⟩ (.cons ⟨_, _, _, rfl, h76⟩ (.cons ⟨_, _, _, rfl, hot8.later (below_plus _ _ _)⟩ (.nil)))))))
     apply Steps.o1 (MP.ob w.heap.size ([B3, (placeB six ah al), (dig (pt) 2), [UInt8.ofNat (pr), UInt8.ofNat (wn)], (membersB ms), (dig (nt) 2), (stkB S)]).flatten) 24 rfl rfl
     ·intro FA x hO hD K hK
      obtain ⟨u78, f78, e78, ev78⟩ := qG (hD 22 78 (by kernel_rfl))
      clear hO hD
      obtain ⟨A1, m1, c1, rfl, hl1⟩ := f78
      have hm1 : m1 ≤ 100 := by obtain ⟨_, _, h2, _⟩ := hl1; simp only [List.length_cons, List.length_nil] at h2; omega
      go_simp
      refine (refJoin_any A1 m1 c1 _ _ hl1 (by omega) HT.out).mono ?_
      rintro e w1 ⟨A2, n2, c2, bs2, d2, rfl, rfl, ho2⟩
      exact hK.out _ _ (Ex.plus_ _ _ _) ⟨_, _, _, rfl, ho2.mono (by simp [size_plus]; omega)⟩
     apply Steps.o1 (MP.ob w.heap.size ([B3, (placeB six ah al), (dig (pt) 2), [UInt8.ofNat (pr), UInt8.ofNat (wn)], (membersB ms), (dig (nt) 2), (stkB S)]).flatten) 25 rfl rfl
     ·intro FA x hO hD K hK
      obtain ⟨u79, f79, e79, ev79⟩ := qG (hD 23 79 (by kernel_rfl))
      clear hO hD
      go_simp
      exact hK.out _ _ (Ex.refl _) f79
     refine Steps.fin_ (fun vs x hp => ?_)
     have p0 : vs 0 = _ := hp 0 (by omega)
     have p1 : vs 1 = _ := hp 1 (by omega)
     have p2 : vs 2 = _ := hp 2 (by omega)
     have p3 := hp 3 (by omega)
     have p4 : vs 4 = _ := hp 4 (by omega)
     have p5 : vs 5 = _ := hp 5 (by omega)
     have p6 : vs 6 = _ := hp 6 (by omega)
     have p7 := hp 7 (by omega)
     have p8 : vs 8 = _ := hp 8 (by omega)
     have p9 : vs 9 = _ := hp 9 (by omega)
     have p10 : vs 10 = _ := hp 10 (by omega)
     have p11 : vs 11 = _ := hp 11 (by omega)
     have p12 : vs 12 = _ := hp 12 (by omega)
     have p13 := hp 13 (by omega)
     have p14 : vs 14 = _ := hp 14 (by omega)
     have p15 : vs 15 = _ := hp 15 (by omega)
     have p16 := hp 16 (by omega)
     have p17 : vs 17 = _ := hp 17 (by omega)
     have p18 : vs 18 = _ := hp 18 (by omega)
     have p19 : vs 19 = _ := hp 19 (by omega)
     have p20 := hp 20 (by omega)
     have p21 : vs 21 = _ := hp 21 (by omega)
     have p22 := hp 22 (by omega)
     have p23 := hp 23 (by omega)
     have p24 := hp 24 (by omega)
     clear hp
     simp only [List.take_succ_cons, List.take_zero, List.drop_succ_cons, List.drop_zero, putAll, Nat.zero_add, Nat.reduceAdd, Act.put, qsT, qsZ, qsS, p0, p1, p2, p4, p5, p6, p8, p9, p10, p11, p12, p14, p15, p17, p18, p19, p21]
     clear p0 p1 p2 p4 p5 p6 p8 p9 p10 p11 p12 p14 p15 p17 p18 p19 p21
     generalize vs 3 = y3 at *
     generalize vs 7 = y7 at *
     generalize vs 13 = y13 at *
     generalize vs 16 = y16 at *
     generalize vs 20 = y20 at *
     generalize vs 22 = y22 at *
     generalize vs 23 = y23 at *
     generalize vs 24 = y24 at *
     clear vs
     obtain ⟨A9, n9, c9, rfl, h9⟩ := p24
     rw [HE.out] at h9
     have hE9 : Below V.heap.size V (plus W8 x.bs x.d) := hE8.trans ((below_plus _ _ _).mono hE8.size)
     go_wp2
     exact ⟨⟨i + 1, A9, n9, c9, rfl, by go_num, by omega, h9, hE9⟩, by simp [intOf]; omega⟩
    ·have hi1 : ¬ (i : Int) < (n : Int) := by omega
     rw [List.take_of_length_le (by have := HN.out; omega)] at hO
     clear hi hil hB3 hkl
     go_wp2
     go_ret
     have hS : sttB C = B2 ++ vipsB C.vs := by unfold sttB; rw [HB2.out, HB0.out, ← HN.out]; simp only [List.append_assoc]
     rw [hS]
     exact RetB.mk hO (HBS.out.2.trans (hEV.mono hbs))
end

end Go.Proofs.YtljlflmkmjcnnaaGreatDoor
