/- Texts of the law StackFinds, part 2. -/
import Derived.Test.YtepodflinhpejaaZStackFinds1
/- A stack's cells; small functions (chapter 15). -/
namespace Go.Proofs.Ytepodflinhpejaa
open Go.RowKit
set_option linter.unusedVariables false
set_option linter.unusedSimpArgs false
attribute [local go_sem ↓] sliced_cut

attribute [local go_sem] cutA_zero

def levC (e : Nat × Tab) : List Value := .int .i64 (e.1 : Int) :: tabC e.2
theorem levC_len (e : Nat × Tab) : (levC e).length = 130 := by simp [levC, tabC_len0]
theorem levC_one (e : Nat × Tab) : ∀ u ∈ levC e, u.oneCell' = true := by
  intro u hu
  rcases List.mem_cons.1 hu with rfl | hu
  · rfl
  · exact tabC_one _ u hu
def levels (S : Stk) : List (Nat × Tab) := (S.lv ++ List.replicate (8 - S.lv.length) (0, [])).take 8
theorem levels_len (S : Stk) : (levels S).length = 8 := by simp [levels]; omega
theorem levels_at (S : Stk) (i : Nat) (h : i < S.lv.length) (h8 : i < 8) : (levels S)[i]? = some S.lv[i] := by simp [levels, List.getElem?_take, h8, List.getElem?_append_left h]
def stkC (S : Stk) : List Value := .int .i64 (S.lv.length : Int) :: ((levels S).flatMap levC ++ [.int .u64 (S.ev : Int), .int .u64 (S.bz : Int)])
theorem stkC_len (S : Stk) : (stkC S).length = 1043 := by
  simp only [stkC, List.length_cons, List.length_append, flat_len levC 130 levC_len, levels_len]
  rfl
theorem szLev (e : Nat × Tab) : (Try.prog.info? 56).map (·.size) = some (levC e).length := by rw [levC_len]; kernel_rfl
theorem rowLev : ∃ d, Try.prog.underlying 56 = some d ∧ d.isRow = true := ⟨_, Try.underlying56, rfl⟩
theorem stkC_ev (S : Stk) : (stkC S)[1041]? = some (.int .u64 (S.ev : Int)) := by
  rw [stkC, List.getElem?_cons_succ, List.getElem?_append_right (by rw [flat_len levC 130 levC_len, levels_len]; omega), flat_len levC 130 levC_len, levels_len]
  rfl
theorem stkC_bz (S : Stk) : (stkC S)[1042]? = some (.int .u64 (S.bz : Int)) := by
  rw [stkC, List.getElem?_cons_succ, List.getElem?_append_right (by rw [flat_len levC 130 levC_len, levels_len]; omega), flat_len levC 130 levC_len, levels_len]
  rfl
/-- a level's cells, in a stack's -/
theorem stkC_lev (S : Stk) (i : Nat) (h : i < S.lv.length) (h8 : i < 8) (k : Nat) (u : Value) (hk : (levC S.lv[i])[k]? = some u) : (stkC S)[1 + i * 130 + k]? = some u := by
  have hs : i < (levels S).length := by rw [levels_len]; exact h8
  have e : (levels S)[i] = S.lv[i] := by have := levels_at S i h h8; rw [List.getElem?_eq_getElem hs] at this; injection this
  have h1 := flat_at levC 130 levC_len (levels S) i hs k u (by rw [e]; exact hk)
  rw [stkC, show 1 + i * 130 + k = (i * 130 + k) + 1 by omega, List.getElem?_cons_succ, List.getElem?_append_left (List.getElem?_eq_some_iff.1 h1).1]
  exact h1
theorem part_ofS {cs part : List Value} {off : Nat} (h : ∀ (k : Nat) (u : Value), part[k]? = some u → cs[off + k]? = some u) : (cs.drop off).take part.length = part := by
  apply List.ext_getElem?
  intro k
  rw [List.getElem?_take]
  split
  · rename_i hk
    rw [List.getElem?_drop, List.getElem?_eq_getElem hk]
    exact h k _ (List.getElem?_eq_getElem hk)
  · rename_i hk
    rw [List.getElem?_eq_none (by omega)]
theorem stkC_part (S : Stk) (i : Nat) (h : i < S.lv.length) (h8 : i < 8) : ((stkC S).drop (1 + i * 130)).take (levC S.lv[i]).length = levC S.lv[i] := part_ofS (fun k u hk => stkC_lev S i h h8 k u hk)
/-- a set's bit -/
def bitB (n : Int) (f m : Nat) : Nat := if (f : Int) ≤ n ∧ n < (f : Int) + m then 2 ^ (n - f).toNat else 0
theorem bitB_lt (n : Int) (f m : Nat) (hm : m ≤ 64) : bitB n f m < 18446744073709551616 := by
  unfold bitB
  split
  · have : 2 ^ (n - f).toNat < 2 ^ 64 := Nat.pow_lt_pow_right (by decide) (by omega)
    omega
  · decide
theorem hasB_and (x : Nat) (n : Int) (f m : Nat) : (((x &&& bitB n f m : Nat) : Int) == 0) = !hasB x n f m := by
  unfold bitB hasB
  by_cases h : (f : Int) ≤ n ∧ n < (f : Int) + m
  · rw [if_pos h, decide_eq_true h.1, decide_eq_true h.2]
    rw [nat_bit]
    have hd := Nat.testBit_eq_decide_div_mod_eq (x := x) (i := (n - f).toNat)
    have hp : 0 < 2 ^ (n - (f : Int)).toNat := Nat.two_pow_pos _
    rcases Nat.mod_two_eq_zero_or_one (x / 2 ^ (n - (f : Int)).toNat) with h0 | h0
    · rw [hd, h0]; simp
    · rw [hd, h0]
      simp only [Nat.one_mul, decide_true, Bool.and_self, Bool.not_true, beq_eq_false_iff_ne]
      omega
  · rw [if_neg h]
    have : ((decide ((f : Int) ≤ n) && decide (n < (f : Int) + m)) : Bool) = false := by
      simp only [Bool.and_eq_false_iff, decide_eq_false_iff_not]; omega
    rw [this]; simp
theorem bit_any (n : Int) (f m : Nat) (hm : m ≤ 64) (hf : f ≤ 1) (hn : n ≤ 9223372036854775807) (w : World) : Calls Try.prog 101 #[.int .i64 n, .int .i64 (f : Int), .int .i64 (m : Int)] w fun e w' => e = .returned (.int .u64 (bitB n f m : Nat)) ∧ w = w' := by
  by_cases h1 : (f : Int) ≤ n
  · obtain ⟨k, rfl⟩ : ∃ k : Nat, n = k := ⟨n.toNat, by omega⟩
    have i1 : ¬ (k : Int) < (f : Int) := by omega
    have hs : IntKind.i64.wrap ((k : Int) - (f : Int)) = ((k - f : Nat) : Int) := by rw [IntWalk.i64_in _ (by omega)]; omega
    by_cases h2 : k - f < m
    · have hb := Lib.hid (show bitB (k : Int) f m = 2 ^ (k - f) by unfold bitB; rw [if_pos (by omega), show ((k : Int) - (f : Int)).toNat = k - f by omega])
      generalize bitB (k : Int) f m = B at *
      have hp : Hid (2 ^ (k - f) < 2 ^ 64) := Lib.hid (Nat.pow_lt_pow_right (by decide) (by omega))
      generalize k - f = d at *
      have i2 : ¬ (m : Int) ≤ (d : Int) := by omega
      have i3 : d < m := h2
      clear h1
      go_enter Try.func101, Try.ntmps101
      go_wp2
      go_ret
      have h2p : ((2 ^ d : Nat) : Int) = (2 : Int) ^ d := by simp
      have hp2 := hp.out
      have hbo := hb.out
      rw [← h2p]
      clear hp hb h2p
      generalize 2 ^ d = P at *
      rw [IntWalk.u64_in _ (by omega), hbo]
      exact ⟨rfl, rfl⟩
    · have hb := Lib.hid (show bitB (k : Int) f m = 0 by unfold bitB; rw [if_neg (by omega)])
      generalize bitB (k : Int) f m = B at *
      generalize k - f = d at *
      have i2 : (m : Int) ≤ (d : Int) := by omega
      clear h1
      go_enter Try.func101, Try.ntmps101
      go_wp2
      go_ret
      rw [hb.out]; simp
  · have i1 : n < (f : Int) := by omega
    have hb := Lib.hid (show bitB n f m = 0 by unfold bitB; rw [if_neg (by omega)])
    generalize bitB n f m = B at *
    clear h1
    go_enter Try.func101, Try.ntmps101
    go_wp2
    go_ret
    rw [hb.out]; simp
theorem backendBit_any (n : Int) (hn : n ≤ 9223372036854775807) (w : World) : Calls Try.prog 87 #[.int .i64 n] w fun e w' => e = .returned (.int .u64 (bitB n 1 64 : Nat)) ∧ w = w' := by
  have HB := Lib.hid (fun w => bit_any n 1 64 (by decide) (by decide) hn w)
  generalize bitB n 1 64 = B at *
  go_enter Try.func87, Try.ntmps87
  go_wp2_with (go_at_call 101; refine (HB.out _).mono ?_; rintro e w1 ⟨rfl, rfl⟩)
  go_ret
  exact ⟨rfl, rfl⟩
theorem versionBit_any (n : Int) (hn : n ≤ 9223372036854775807) (w : World) : Calls Try.prog 85 #[.int .i64 n] w fun e w' => e = .returned (.int .u64 (bitB n 0 8 : Nat)) ∧ w = w' := by
  have HB := Lib.hid (fun w => bit_any n 0 8 (by decide) (by decide) hn w)
  generalize bitB n 0 8 = B at *
  go_enter Try.func85, Try.ntmps85
  go_wp2_with (go_at_call 101; refine (HB.out _).mono ?_; rintro e w1 ⟨rfl, rfl⟩)
  go_ret
  exact ⟨rfl, rfl⟩
set_option maxHeartbeats 4000000 in
set_option maxRecDepth 100000 in
theorem all_any (S : Stk) (h8 : S.lv.length ≤ 8) (g : Nat) (w : World) (hS : Bk w g 59 (stkC S)) : Calls Try.prog 86 #[.pointer (some ⟨g, 0, none⟩)] w (RetV w (.slice (some ⟨g, 1, none⟩) S.lv.length 8)) := by
  have h0 : (stkC S)[0]? = some (.int .i64 (S.lv.length : Int)) := rfl
  generalize S.lv.length = n at *
  have i8 : (n : Int) ≤ 8 := by omega
  go_enter Try.func86, Try.ntmps86
  go_upto_region 3 with (fail)
  refine wp_relS 9 13 rfl (by kernel_rfl) (by kernel_rfl) ?_
  apply Steps.one (MP.eq _) 1 rfl
  · intro o ho FA x hO hD K hK
    obtain rfl := Option.some.inj ho.symm
    clear ho
    have e0 := hO 0 (by kernel_rfl)
    simp only [eval_tmp, List.getElem?_toArray, List.getElem?_cons_succ, List.getElem?_cons_zero, Option.getD_some] at e0
    have ev0 := Lib.hid ((eval_tmp FA 0).trans e0)
    clear hO hD
    go_simp
    exact hK.out _ _ (Ex.refl _) rfl
  apply Steps.one (MP.eq _) 2 rfl
  · intro o ho FA x hO hD K hK
    obtain rfl := Option.some.inj ho.symm
    clear ho
    have ev5 : FA.eval (.tmp 5) = _ := hD 0 5 (by kernel_rfl)
    have e5 := (eval_tmp FA 5).symm.trans ev5
    replace ev5 := Lib.hid ev5
    clear hO hD
    go_simp
    exact hK.out _ _ (Ex.refl _) rfl
  apply Steps.one (MP.eq _) 3 rfl
  · intro o ho FA x hO hD K hK
    obtain rfl := Option.some.inj ho.symm
    clear ho
    have ev6 : FA.eval (.tmp 6) = _ := hD 1 6 (by kernel_rfl)
    have e6 := (eval_tmp FA 6).symm.trans ev6
    replace ev6 := Lib.hid ev6
    clear hO hD
    go_simp
    exact hK.out _ _ (Ex.refl _) rfl
  apply Steps.one (MP.eq _) 4 rfl
  · intro o ho FA x hO hD K hK
    obtain rfl := Option.some.inj ho.symm
    clear ho
    have e0 := hO 0 (by kernel_rfl)
    simp only [eval_tmp, List.getElem?_toArray, List.getElem?_cons_succ, List.getElem?_cons_zero, Option.getD_some] at e0
    have ev0 := Lib.hid ((eval_tmp FA 0).trans e0)
    clear hO hD
    go_simp
    exact hK.out _ _ (Ex.refl _) rfl
  apply Steps.one (MP.eq _) 5 rfl
  · intro o ho FA x hO hD K hK
    obtain rfl := Option.some.inj ho.symm
    clear ho
    have ev8 : FA.eval (.tmp 8) = _ := hD 3 8 (by kernel_rfl)
    have e8 := (eval_tmp FA 8).symm.trans ev8
    replace ev8 := Lib.hid ev8
    clear hO hD
    go_simp
    exact hK.out _ _ (Ex.refl _) rfl
  apply Steps.one (MP.eq _) 6 rfl
  · intro o ho FA x hO hD K hK
    obtain rfl := Option.some.inj ho.symm
    clear ho
    have ev9 : FA.eval (.tmp 9) = _ := hD 4 9 (by kernel_rfl)
    have e9 := (eval_tmp FA 9).symm.trans ev9
    replace ev9 := Lib.hid ev9
    clear hO hD
    go_simp
    exact hK.out _ _ (Ex.refl _) rfl
  apply Steps.one (MP.eq _) 7 rfl
  · intro o ho FA x hO hD K hK
    obtain rfl := Option.some.inj ho.symm
    clear ho
    have ev10 : FA.eval (.tmp 10) = _ := hD 5 10 (by kernel_rfl)
    have e10 := (eval_tmp FA 10).symm.trans ev10
    replace ev10 := Lib.hid ev10
    clear hO hD
    refine wanted_if rfl ?_
    refine wp_ld1 3 (.tmp 10) rfl ev10.out (hS.later (below_plus _ _ _)) h0 Try.underlying3 rfl ?_
    exact hK.out _ _ (Ex.refl _) rfl
  apply Steps.one (MP.eq _) 8 rfl
  · intro o ho FA x hO hD K hK
    obtain rfl := Option.some.inj ho.symm
    clear ho
    have ev7 : FA.eval (.tmp 7) = _ := hD 2 7 (by kernel_rfl)
    have e7 := (eval_tmp FA 7).symm.trans ev7
    replace ev7 := Lib.hid ev7
    have ev11 : FA.eval (.tmp 11) = _ := hD 6 11 (by kernel_rfl)
    have e11 := (eval_tmp FA 11).symm.trans ev11
    replace ev11 := Lib.hid ev11
    clear hO hD
    go_simp
    exact hK.out _ _ (Ex.refl _) rfl
  apply Steps.one (MP.eq _) 9 rfl
  · intro o ho FA x hO hD K hK
    obtain rfl := Option.some.inj ho.symm
    clear ho
    have ev12 : FA.eval (.tmp 12) = _ := hD 7 12 (by kernel_rfl)
    have e12 := (eval_tmp FA 12).symm.trans ev12
    replace ev12 := Lib.hid ev12
    clear hO hD
    go_simp
    exact hK.out _ _ (Ex.refl _) rfl
  refine Steps.fin_ (fun vs x hp => ?_)
  have p0 : vs 0 = _ := hp 0 (by omega)
  have p1 : vs 1 = _ := hp 1 (by omega)
  have p2 : vs 2 = _ := hp 2 (by omega)
  have p3 : vs 3 = _ := hp 3 (by omega)
  have p4 : vs 4 = _ := hp 4 (by omega)
  have p5 : vs 5 = _ := hp 5 (by omega)
  have p6 : vs 6 = _ := hp 6 (by omega)
  have p7 : vs 7 = _ := hp 7 (by omega)
  have p8 : vs 8 = _ := hp 8 (by omega)
  clear hp
  simp only [List.take_succ_cons, List.take_zero, List.drop_succ_cons, List.drop_zero, putAll, Nat.zero_add, Nat.reduceAdd, Act.put, List.setIfInBounds_toArray, List.set_cons_zero, List.set_cons_succ, p0, p1, p2, p3, p4, p5, p6, p7, p8]
  clear p0 p1 p2 p3 p4 p5 p6 p7 p8
  clear vs
  go_wp2
  go_ret
  exact RetV.is_ (by simp) (below_plus _ _ _)
/-- where a version stands; -1: nowhere -/
def ixS (S : Stk) (v : Int) : Int := if idxS S v < S.lv.length then (idxS S v : Int) else -1
theorem idxS_step (S : Stk) (n : Int) (i : Nat) (hi : i ≤ idxS S n) (h : i < S.lv.length) : ((S.lv[i].1 : Int) = n → idxS S n = i) ∧ (¬ (S.lv[i].1 : Int) = n → i + 1 ≤ idxS S n) := by
  constructor
  · intro he
    rcases Nat.lt_or_ge i (idxS S n) with h1 | h1
    · have := List.not_of_lt_findIdx h1
      simp [he] at this
    · omega
  · intro he
    rcases Nat.lt_or_ge i (idxS S n) with h1 | h1
    · exact h1
    · have e : idxS S n = i := by omega
      have := idxS_at (S := S) (v := n) (by omega)
      simp only [e] at this
      exact absurd this he
set_option maxHeartbeats 4000000 in
set_option maxRecDepth 100000 in
theorem index_any (S : Stk) (h8 : S.lv.length ≤ 8) (g : Nat) (v : Int) (w : World) (hS : Bk w g 59 (stkC S)) : Calls Try.prog 64 #[.pointer (some ⟨g, 0, none⟩), .int .i64 v] w (RetV w (.int .i64 (ixS S v))) := by
  obtain ⟨dv1, vl1, vl2⟩ := rowLev
  have HA := Lib.hid (all_any S h8 g w hS)
  have hzv : ∀ w, (zeroValue 56).run Try.prog w = .ok (.agg (levC (0, [])).toArray) w := fun _ => by kernel_rfl
  obtain ⟨ix, hix⟩ : ∃ ix, ixS S v = ix := ⟨_, rfl⟩
  have HIX := Lib.hid hix
  have hle : idxS S v ≤ S.lv.length := idxS_le S v
  rw [hix]
  clear hix
  go_enter Try.func64, Try.ntmps64
  go_upto_region 2 with (go_at_call 86; refine HA.out.mono ?_; rintro e w1 ⟨bs1, d1, rfl, rfl⟩)
  have be := below_plus w bs1 d1
  clear HA
  generalize plus w bs1 d1 = V at *
  go_loopw [10] (fun I wr => ∃ i : Nat, I = .int .i64 (i : Int) ∧ i ≤ idxS S v ∧ Below w.heap.size w wr) (fun I _ => S.lv.length - (intOf I).toNat)
  case atStart => exact ⟨0, rfl, Nat.zero_le _, be⟩
  case round =>
    clear be
    obtain ⟨i, rfl, hi, be⟩ := hrel
    by_cases hlt : i < S.lv.length
    · have hSr := hS.later be
      have ii : (i : Int) < (S.lv.length : Int) := by omega
      have hst := idxS_step S v i hi hlt
      have hp := stkC_part S i hlt (by omega)
      obtain ⟨e0, he0⟩ : ∃ e0, S.lv[i] = e0 := ⟨_, rfl⟩
      rw [he0] at hst hp
      clear he0
      go_upto_region 3 with (fail)
      refine wp_region_lit ?_
      iterate 2 (refine wpList_plain rfl (fun K hK => ?_); go_simp; with_reducible refine hK _ _ ?_; clear hK K)
      refine wpList_ldA (t := 59) (off := 1 + i * 130) 56 (.tmp 13) rfl rfl (levC e0) rfl hSr hp vl1 vl2 (szLev _) ?_
      iterate 2 (refine wpList_plain rfl (fun K hK => ?_); go_simp; with_reducible refine hK _ _ ?_; clear hK K)
      refine wpList_stA (t := 56) 56 (.tmp 6) (.tmp 14) rfl rfl (levC e0) (levC (0, [])) (by rw [levC_len, levC_len]) (levC_one _) rfl rfl (Bk.new _ _ _) (szLev _) ?_
      intro W4 h4 g4
      simp only [Act.put, List.setIfInBounds_toArray, List.set_cons_zero, List.set_cons_succ]
      have be' : Below w.heap.size w W4 := below_grown (be.alloc be.size _) g4 be.size
      have b4 : Bk W4 wr.heap.size 56 (levC e0) := h4
      have q4 : W4.cell? ⟨wr.heap.size, 0, none⟩ = some (.int .i64 (e0.1 : Int)) := b4.cell 0
      clear h4 g4 b4 hSr
      generalize wr.heap.size = g4 at *
      by_cases hv : (e0.1 : Int) = v
      · have hii := hst.1 hv
        have hfin := Lib.hid (show ix = (i : Int) by rw [← HIX.out]; unfold ixS; rw [hii, if_pos hlt])
        subst hv
        clear hst hii hi hle
        go_wp2
        go_ret
        exact RetV.is_ (by rw [hfin.out]; rfl) be'
      · have hii := hst.2 hv
        have hvb : ((e0.1 : Int) == v) = false := by simpa using hv
        clear hst hi
        go_wp2
        exact ⟨⟨i + 1, by go_num, hii, be'⟩, by simp [intOf]; omega⟩
    · have hfin := Lib.hid (show ix = -1 by rw [← HIX.out]; unfold ixS; rw [if_neg (by omega)])
      have ii : ¬ (i : Int) < (S.lv.length : Int) := by omega
      clear hi hle
      go_wp2
      go_ret
      exact RetV.is_ (by rw [hfin.out]; rfl) be
end Go.Proofs.Ytepodflinhpejaa

/- The reference's stack: its cells; Index, Free, Dead (chapter 15). -/
namespace Go.Proofs.Ytepodflinhpejaa
open Go.RowKit
set_option linter.unusedVariables false
set_option linter.unusedSimpArgs false
attribute [local go_sem ↓] sliced_cut

attribute [local go_sem] cutA_zero

abbrev Ent := Nat × Option Addr × Nat × Nat
def enE (e : Ent) : List Value := [.int .i64 (e.1 : Int), .slice e.2.1 e.2.2.1 e.2.2.2]
theorem enE_len (e : Ent) : (enE e).length = 2 := rfl
theorem enE_one (e : Ent) : ∀ u ∈ enE e, u.oneCell' = true := by simp [enE, Value.oneCell']
/-- entries stand for levels -/
def EnOk (w : World) (L : List (Nat × Tab)) (E : List Ent) : Prop := E.length = L.length ∧ ∀ (i : Nat) (h : i < L.length) (h' : i < E.length), E[i].1 = L[i].1 ∧ Rs 1 w E[i].2.1 E[i].2.2.1 E[i].2.2.2 (itK (refT L[i].2))
theorem EnOk.later {w w' : World} {L : List (Nat × Tab)} {E : List Ent} (h : EnOk w L E) (hb : Below w.heap.size w w') : EnOk w' L E := ⟨h.1, fun i h1 h2 => ⟨(h.2 i h1 h2).1, (h.2 i h1 h2).2.later hb⟩⟩
theorem EnOk.nil_ (w : World) : EnOk w [] [] := ⟨rfl, fun i h => absurd h (Nat.not_lt_zero i)⟩
theorem EnOk.snoc {w : World} {L : List (Nat × Tab)} {E : List Ent} (h : EnOk w L E) (v : Nat) (t : Tab) (A : Option Addr) (n c : Nat) (hr : Rs 1 w A n c (itK (refT t))) : EnOk w (L ++ [(v, t)]) (E ++ [(v, A, n, c)]) := by
  refine ⟨by simp [h.1], fun i h1 h2 => ?_⟩
  by_cases hi : i < L.length
  · rw [List.getElem_append_left hi, List.getElem_append_left (by rw [h.1]; exact hi)]
    exact h.2 i hi (by rw [h.1]; exact hi)
  · have e : i = L.length := by simp at h1; omega
    subst e
    rw [List.getElem_append_right (Nat.le_refl _), List.getElem_append_right (by rw [h.1]; exact Nat.le_refl _)]
    simp [h.1, hr]
theorem EnOk.erase {w : World} {L : List (Nat × Tab)} {E : List Ent} (h : EnOk w L E) (k : Nat) : EnOk w (L.eraseIdx k) (E.eraseIdx k) := by
  refine ⟨by rw [List.length_eraseIdx, List.length_eraseIdx, h.1], fun i h1 h2 => ?_⟩
  rw [List.getElem_eraseIdx, List.getElem_eraseIdx]
  by_cases hi : i < k
  · simp only [dif_pos hi]
    exact h.2 i _ _
  · simp only [dif_neg hi]
    exact h.2 (i + 1) _ _
/-- an address that is there, and not in the blocks D -/
def Off (D : Nat → Prop) (w : World) (A : Option Addr) : Prop := ∀ a, A = some a → a.block < w.heap.size ∧ ¬ D a.block
theorem Off.none_ {D : Nat → Prop} {w : World} : Off D w none := fun a h => by cases h
theorem Off.size {D : Nat → Prop} {w w' : World} {A : Option Addr} (h : Off D w A) (hs : w.heap.size ≤ w'.heap.size) : Off D w' A := fun a ha => ⟨Nat.lt_of_lt_of_le (h a ha).1 hs, (h a ha).2⟩
theorem Off.more {D D' : Nat → Prop} {w : World} {A : Option Addr} (h : Off D w A) (hd : ∀ b, D' b → D b ∨ w.heap.size ≤ b) : Off D' w A := fun a ha => ⟨(h a ha).1, fun hb => by
  rcases hd _ hb with h1 | h1
  · exact (h a ha).2 h1
  · have := (h a ha).1; omega⟩
/-- the slice A n c of entries stands for the levels; nothing of it lies in the blocks D -/
def RSt (D : Nat → Prop) (w : World) (L : List (Nat × Tab)) (A : Option Addr) (n c : Nat) : Prop := ∃ E, EnOk w L E ∧ Rs 2 w A n c (E.flatMap enE) ∧ Off D w A ∧ ∀ e ∈ E, Off D w e.2.1
section
variable {D : Nat → Prop}
theorem RSt.later {w w' : World} {L : List (Nat × Tab)} {A : Option Addr} {n c : Nat} (h : RSt D w L A n c) (hb : Below w.heap.size w w') : RSt D w' L A n c := by
  obtain ⟨E, h1, h2, h3, h4⟩ := h
  exact ⟨E, h1.later hb, h2.later hb, h3.size hb.size, fun e he => (h4 e he).size hb.size⟩
theorem RSt.more {D' : Nat → Prop} {w : World} {L : List (Nat × Tab)} {A : Option Addr} {n c : Nat} (h : RSt D w L A n c) (hd : ∀ b, D' b → D b ∨ w.heap.size ≤ b) : RSt D' w L A n c := by
  obtain ⟨E, h1, h2, h3, h4⟩ := h
  exact ⟨E, h1, h2, h3.more hd, fun e he => (h4 e he).more hd⟩
theorem RSt.len {w : World} {L : List (Nat × Tab)} {A : Option Addr} {n c : Nat} (h : RSt D w L A n c) : n = L.length := by
  obtain ⟨E, h1, h2, -, -⟩ := h
  have := h2.1
  rw [flat_len enE 2 enE_len, h1.1] at this
  omega
theorem RSt.cap {w : World} {L : List (Nat × Tab)} {A : Option Addr} {n c : Nat} (h : RSt D w L A n c) : n ≤ c := by
  obtain ⟨E, h1, h2, -, -⟩ := h
  exact h2.2.1
theorem RSt.chg {w w' : World} {L : List (Nat × Tab)} {A : Option Addr} {n c : Nat} (h : RSt D w L A n c) (hc : Chg D w w') : RSt D w' L A n c := by
  obtain ⟨E, h1, h2, h3, h4⟩ := h
  exact ⟨E, ⟨h1.1, fun i a b => ⟨(h1.2 i a b).1, (h1.2 i a b).2.chg hc (fun x hx => (h4 _ (List.getElem_mem b) x hx).2)⟩⟩, h2.chg hc (fun x hx => (h3 x hx).2), h3.size hc.size, fun e he => (h4 e he).size hc.size⟩
theorem RSt.nil_ {w : World} : RSt D w [] none 0 0 := ⟨[], EnOk.nil_ w, Rs.nil_, Off.none_, (fun e h => by cases h)⟩
theorem Off.own {e : TypeId} {s : Nat} {w : World} {base : Nat} {A : Option Addr} {n c : Nat} {cs : List Value} (h : Os e s w base A n c cs) (hD : ∀ b, D b → b < base) : Off D w A := by
  intro a ha
  rcases h.2 with ⟨hv, h0⟩ | ⟨g, cap, cur, hv, hb, hg, _⟩
  · injection hv with h1; rw [h1] at ha; cases ha
  · injection hv with h1
    rw [h1] at ha
    injection ha with ha
    subst ha
    exact ⟨(Array.getElem?_eq_some_iff.1 hg).1, fun hd => by have := hD _ hd; simp at this; omega⟩
end
/-- an entry's cells -/
theorem RSt.at_ {D : Nat → Prop} {w : World} {L : List (Nat × Tab)} {A : Option Addr} {n c : Nat} (h : RSt D w L A n c) (i : Nat) (hi : i < L.length) : ∃ b o A' n' c', A = some ⟨b, o, none⟩ ∧ w.cell? ⟨b, o + i * 2, none⟩ = some (.int .i64 (L[i].1 : Int)) ∧ w.cell? ⟨b, o + i * 2 + 1, none⟩ = some (.slice A' n' c') ∧ Rs 1 w A' n' c' (itK (refT L[i].2)) ∧ Off D w A' := by
  obtain ⟨E, h1, h2, -, h4⟩ := h
  have hiE : i < E.length := by rw [h1.1]; exact hi
  obtain ⟨b, o, hA, _, hc⟩ := h2.at_ (by have := h2.1; rw [flat_len enE 2 enE_len] at this; omega) (by decide)
  obtain ⟨e1, e2⟩ := h1.2 i hi hiE
  refine ⟨b, o, E[i].2.1, E[i].2.2.1, E[i].2.2.2, hA, ?_, ?_, e2, h4 _ (List.getElem_mem hiE)⟩
  · have := hc (i * 2 + 0) (.int .i64 (E[i].1 : Int)) (flat_at enE 2 enE_len E i hiE 0 _ rfl)
    rw [← e1]
    exact this
  · have := hc (i * 2 + 1) (.slice E[i].2.1 E[i].2.2.1 E[i].2.2.2) (flat_at enE 2 enE_len E i hiE 1 _ rfl)
    rw [Nat.add_assoc]
    exact this
def rstC (A : Option Addr) (n c : Nat) (S : Stk) : List Value := .slice A n c :: ((refEv S).map Value.bool ++ (refBz S).map Value.bool)
theorem rstC_len (A : Option Addr) (n c : Nat) (S : Stk) : (rstC A n c S).length = 74 := by simp [rstC, refEv, refBz]
theorem rstC_one (A : Option Addr) (n c : Nat) (S : Stk) : ∀ u ∈ rstC A n c S, u.oneCell' = true := by
  intro u hu
  rcases List.mem_cons.1 hu with rfl | hu
  · rfl
  · rcases List.mem_append.1 hu with hu | hu <;> (obtain ⟨x, _, rfl⟩ := List.mem_map.1 hu; rfl)
theorem szRst (A : Option Addr) (n c : Nat) (S : Stk) : (Try.prog.info? 64).map (·.size) = some (rstC A n c S).length := by rw [rstC_len]; kernel_rfl
theorem rowRst : ∃ d, Try.prog.underlying 64 = some d ∧ d.isRow = true := ⟨_, Try.underlying64, rfl⟩
theorem rstC_ev (A : Option Addr) (n c : Nat) (S : Stk) (i : Nat) (h : i < 65) : (rstC A n c S)[1 + i]? = some (.bool (deadS S (i : Int))) := by
  rw [rstC, Nat.add_comm, List.getElem?_cons_succ, List.getElem?_append_left (by simp [refEv]; exact h)]
  simp [refEv, h]
theorem rstC_bz (A : Option Addr) (n c : Nat) (S : Stk) (i : Nat) (h : i < 8) : (rstC A n c S)[66 + i]? = some (.bool (S.bz.testBit i)) := by
  rw [rstC, show 66 + i = (65 + i) + 1 by omega, List.getElem?_cons_succ, List.getElem?_append_right (by simp [refEv])]
  simp [refEv, refBz, h]
theorem rstC_setEv (A : Option Addr) (n c : Nat) (S S' : Stk) (i : Nat) (h : i < 65) (b : Bool) (he : refEv S' = (refEv S).set i b) (hb : refBz S' = refBz S) : (rstC A n c S).set (1 + i) (.bool b) = rstC A n c S' := by
  unfold rstC
  rw [Nat.add_comm, List.set_cons_succ, List.set_append_left _ _ (by simp [refEv]; exact h), he, hb, List.map_set]
theorem rstC_setBz (A : Option Addr) (n c : Nat) (S S' : Stk) (i : Nat) (b : Bool) (he : refBz S' = (refBz S).set i b) (hb : refEv S' = refEv S) : (rstC A n c S).set (66 + i) (.bool b) = rstC A n c S' := by
  unfold rstC
  rw [show 66 + i = (65 + i) + 1 by omega, List.set_cons_succ, List.set_append_right _ _ (by simp [refEv]), he, hb, List.map_set]
  simp [refEv]
set_option maxHeartbeats 4000000 in
set_option maxRecDepth 100000 in
theorem refIndexS_any (S : Stk) (h8 : S.lv.length ≤ 8) (A : Option Addr) (n c : Nat) (v : Int) (w : World) {D : Nat → Prop} (hR : RSt D w S.lv A n c) : Calls Try.prog 67 #[.agg (rstC A n c S).toArray, .int .i64 v] w (RetV w (.int .i64 (ixS S v))) := by
  have hn1 : n ≤ S.lv.length := Nat.le_of_eq hR.len
  have hn2 : S.lv.length ≤ n := Nat.le_of_eq hR.len.symm
  obtain ⟨X, hX⟩ : ∃ X, ixS S v = X := ⟨_, rfl⟩
  rw [hX]
  have HX := Lib.hid hX
  clear hX
  have hle : idxS S v ≤ S.lv.length := idxS_le S v
  obtain ⟨dvr1, vr1, vr2⟩ := rowRst
  have bs : Bk (w.alloc (.cells (rstC A n c S).toArray 64)) w.heap.size 64 (rstC A n c S) := Bk.new w 64 (rstC A n c S).toArray
  have be : Below w.heap.size w (w.alloc (.cells (rstC A n c S).toArray 64)) := Below.allocS (Below.refl _ _) _
  have zV : w.heap.size + 1 ≤ (w.alloc (.cells (rstC A n c S).toArray 64)).heap.size := by simp
  go_enter Try.func67, Try.ntmps67
  go_upto_region 1 with (fail)
  generalize w.alloc (.cells (rstC A n c S).toArray 64) = V at *
  have q0 : V.cell? ⟨w.heap.size, 0, none⟩ = some (.slice A n c) := bs.cell 0
  replace hR := hR.later be
  go_upto_region 2 with (fail)
  go_loop [5] (fun I => ∃ i : Nat, I = .int .i64 (i : Int) ∧ i ≤ idxS S v) (fun I => n - (intOf I).toNat)
  case atStart => exact ⟨0, rfl, Nat.zero_le _⟩
  case round =>
    obtain ⟨i, rfl, hi⟩ := hrel
    by_cases hlt : i < n
    · have hil : i < S.lv.length := by omega
      have ii : (i : Int) < (n : Int) := by omega
      obtain ⟨b, o, A', n', c', rfl, hc0, -, -, -⟩ := hR.at_ i hil
      have hst := idxS_step S v i hi hil
      generalize S.lv[i] = e0 at *
      by_cases hv : (e0.1 : Int) = v
      · have hii := hst.1 hv
        have hfin := Lib.hid (show X = (i : Int) by rw [← HX.out]; unfold ixS; rw [hii, if_pos hil])
        subst hv
        clear hst hii hi hle
        go_wp2
        go_ret
        exact RetV.is_ (by rw [hfin.out]; rfl) be
      · have hii := hst.2 hv
        have hvb : ((e0.1 : Int) == v) = false := by simpa using hv
        clear hst hi
        go_wp2
        exact ⟨⟨i + 1, by go_num, hii⟩, by simp [intOf]; omega⟩
    · have hfin := Lib.hid (show X = -1 by rw [← HX.out]; unfold ixS; exact if_neg (by omega))
      have ii : ¬ (i : Int) < (n : Int) := by omega
      clear hi hle
      go_wp2
      go_ret
      exact RetV.is_ (by rw [hfin.out]; rfl) be
/-- the reference's free version; -1: none -/
def frR (S : Stk) : Int := if freeS S < 8 then (freeS S : Int) else -1
set_option maxHeartbeats 4000000 in
set_option maxRecDepth 100000 in
theorem refFree_any (S : Stk) (h8 : S.lv.length ≤ 8) (A : Option Addr) (n c : Nat) (w : World) {D : Nat → Prop} (hR : RSt D w S.lv A n c) : Calls Try.prog 91 #[.agg (rstC A n c S).toArray] w (RetV w (.int .i64 (frR S))) := by
  obtain ⟨X, hX⟩ : ∃ X, frR S = X := ⟨_, rfl⟩
  rw [hX]
  have HX := Lib.hid hX
  clear hX
  have hf8 := freeS_le S
  obtain ⟨dvr1, vr1, vr2⟩ := rowRst
  have bs : Bk (w.alloc (.cells (rstC A n c S).toArray 64)) w.heap.size 64 (rstC A n c S) := Bk.new w 64 (rstC A n c S).toArray
  have be : Below w.heap.size w (w.alloc (.cells (rstC A n c S).toArray 64)) := Below.allocS (Below.refl _ _) _
  have zV : w.heap.size + 1 ≤ (w.alloc (.cells (rstC A n c S).toArray 64)).heap.size := by simp
  go_enter Try.func91, Try.ntmps91
  go_upto_region 1 with (fail)
  generalize w.alloc (.cells (rstC A n c S).toArray 64) = V at *
  replace hR := hR.later be
  have HBE := Lib.hid be
  have bv := Below.refl V.heap.size V
  go_upto_region 2 with (fail)
  go_loopw [3] (fun I wr => ∃ i : Nat, I = .int .i64 (i : Int) ∧ i ≤ freeS S ∧ Below V.heap.size V wr) (fun I _ => 8 - (intOf I).toNat)
  case atStart => exact ⟨0, rfl, Nat.zero_le _, bv⟩
  case round =>
    clear bv be
    obtain ⟨i, rfl, hi, bv⟩ := hrel
    have be := HBE.out.trans (bv.mono HBE.out.size)
    have hRw := hR.later bv
    replace bs := bs.later bv
    by_cases hlt : i < 8
    · have ii : (i : Int) < 8 := by omega
      have HI := Lib.hid (fun w h => refIndexS_any S h8 A n c (i : Int) w (D := D) h)
      have hsp := freeS_spec S i hi hlt
      have htk : takenS S i = (S.bz.testBit i || decide (0 ≤ ixS S (i : Int))) := by
        unfold takenS ixS
        by_cases h9 : idxS S (i : Int) < S.lv.length
        · simp [h9]
        · simp [h9]
      have qb : wr.cell? ⟨w.heap.size, 66 + i, none⟩ = some (.bool (S.bz.testBit i)) := (bs.cell _).trans (rstC_bz A n c S i hlt)
      have hsp2 : (S.bz.testBit i = false ∧ ixS S (i : Int) < 0 → freeS S = i) ∧ (S.bz.testBit i = true ∨ 0 ≤ ixS S (i : Int) → i + 1 ≤ freeS S) := by
        rw [htk] at hsp
        rcases hsp with ⟨h1, h2⟩ | ⟨h1, h2⟩
        · refine ⟨fun ⟨hb, hx⟩ => ?_, fun _ => h2⟩
          rw [hb, Bool.false_or, decide_eq_true_eq] at h1
          omega
        · refine ⟨fun _ => h2.symm, fun h => ?_⟩
          rw [Bool.or_eq_false_iff, decide_eq_false_iff_not] at h1
          rcases h with h | h
          · rw [h] at h1; cases h1.1
          · exact absurd h h1.2
      clear hsp htk
      generalize S.bz.testBit i = b at *
      generalize ixS S (i : Int) = ix at *
      cases b
      · by_cases hx : ix < 0
        · have hif : freeS S = i := hsp2.1 ⟨rfl, hx⟩
          have hfin := Lib.hid (show X = (i : Int) by rw [← HX.out]; unfold frR; rw [hif, if_pos hlt])
          clear hsp2 hif hi hf8
          go_upto_region 4 with (fail)
          refine wp_region_lit ?_
          iterate 6 (refine wpList_plain rfl (fun K hK => ?_); go_simp; with_reducible refine hK _ _ ?_; clear hK K)
          refine wpList_ldG (t := 64) 64 (.tmp 1) rfl (by go_simp) (rstC A n c S) rfl (bs) (whole_ _) vr1 vr2 (szRst A n c S) ?_
          refine wpList_step (fun K hK => ?_); go_simp; with_reducible refine hK _ _ ?_; clear hK K
          refine wpList_step (fun K hK => ?_)
          go_simp
          refine (HI.out _ hRw).mono ?_
          rintro e w1 ⟨bs9, d9, rfl, rfl⟩
          with_reducible refine hK _ _ ?_
          clear hK K
          refine wpList_step (fun K hK => ?_); go_simp; with_reducible refine hK _ _ ?_; clear hK K
          refine wpList_plain rfl (fun K hK => ?_); go_simp; with_reducible refine hK _ _ ?_; clear hK K
          have be2 := belowP be bs9 d9
          go_wp2
          go_ret
          exact RetV.is_ (by rw [hfin.out]; rfl) be2
        · have hif : i + 1 ≤ freeS S := hsp2.2 (.inr (by omega))
          clear hsp2 hi
          go_upto_region 4 with (fail)
          refine wp_region_lit ?_
          iterate 6 (refine wpList_plain rfl (fun K hK => ?_); go_simp; with_reducible refine hK _ _ ?_; clear hK K)
          refine wpList_ldG (t := 64) 64 (.tmp 1) rfl (by go_simp) (rstC A n c S) rfl (bs) (whole_ _) vr1 vr2 (szRst A n c S) ?_
          refine wpList_step (fun K hK => ?_); go_simp; with_reducible refine hK _ _ ?_; clear hK K
          refine wpList_step (fun K hK => ?_)
          go_simp
          refine (HI.out _ hRw).mono ?_
          rintro e w1 ⟨bs9, d9, rfl, rfl⟩
          with_reducible refine hK _ _ ?_
          clear hK K
          refine wpList_step (fun K hK => ?_); go_simp; with_reducible refine hK _ _ ?_; clear hK K
          refine wpList_plain rfl (fun K hK => ?_); go_simp; with_reducible refine hK _ _ ?_; clear hK K
          have bv2 := belowP bv bs9 d9
          go_wp2
          exact ⟨⟨i + 1, by go_num, hif, bv2⟩, by simp [intOf]; omega⟩
      · have hif : i + 1 ≤ freeS S := hsp2.2 (.inl rfl)
        clear hsp2 hi HI
        go_wp2
        exact ⟨⟨i + 1, by go_num, hif, bv⟩, by simp [intOf]; omega⟩
    · have hfin := Lib.hid (show X = -1 by rw [← HX.out]; unfold frR; exact if_neg (by omega))
      have ii : ¬ (i : Int) < 8 := by omega
      clear hi hf8
      go_wp2
      go_ret
      exact RetV.is_ (by rw [hfin.out]; rfl) be
set_option maxHeartbeats 4000000 in
set_option maxRecDepth 100000 in
theorem refDead_any (S : Stk) (A : Option Addr) (n c : Nat) (v : Int) (w : World) : Calls Try.prog 88 #[.agg (rstC A n c S).toArray, .int .i64 v] w (RetV w (.bool (deadS S v))) := by
  obtain ⟨X, hX⟩ : ∃ X, deadS S v = X := ⟨_, rfl⟩
  rw [hX]
  have HX := Lib.hid hX
  clear hX
  by_cases h1 : 0 < v ∧ v < 65
  · obtain ⟨i, rfl⟩ : ∃ i : Nat, v = i := ⟨v.toNat, by omega⟩
    have hc := rstC_ev A n c S i (by omega)
    rw [HX.out] at hc
    obtain ⟨i1, i2⟩ := h1
    have i3 : 0 ≤ (i : Int) := by omega
    obtain ⟨dvr1, vr1, vr2⟩ := rowRst
    have bs : Bk (w.alloc (.cells (rstC A n c S).toArray 64)) w.heap.size 64 (rstC A n c S) := Bk.new w 64 (rstC A n c S).toArray
    have be : Below w.heap.size w (w.alloc (.cells (rstC A n c S).toArray 64)) := Below.allocS (Below.refl _ _) _
    have zV : w.heap.size + 1 ≤ (w.alloc (.cells (rstC A n c S).toArray 64)).heap.size := by simp
    go_enter Try.func88, Try.ntmps88
    go_upto_region 1 with (fail)
    generalize w.alloc (.cells (rstC A n c S).toArray 64) = V at *
    have q0 : V.cell? ⟨w.heap.size, 1 + i, none⟩ = some (.bool X) := (bs.cell _).trans hc
    go_wp2
    go_ret
    exact RetV.is_ rfl be
  · have hfin := Lib.hid (show X = false by
      rw [← HX.out]; unfold deadS hasB
      by_cases h2 : ((1 : Nat) : Int) ≤ v
      · rw [decide_eq_false (show ¬ v < ((1 : Nat) : Int) + (64 : Nat) by omega)]; simp
      · rw [decide_eq_false h2]; simp)
    by_cases h2 : 0 < v
    · have h3 : ¬ v < 65 := by omega
      obtain ⟨dvr1, vr1, vr2⟩ := rowRst
      have bs : Bk (w.alloc (.cells (rstC A n c S).toArray 64)) w.heap.size 64 (rstC A n c S) := Bk.new w 64 (rstC A n c S).toArray
      have be : Below w.heap.size w (w.alloc (.cells (rstC A n c S).toArray 64)) := Below.allocS (Below.refl _ _) _
      have zV : w.heap.size + 1 ≤ (w.alloc (.cells (rstC A n c S).toArray 64)).heap.size := by simp
      go_enter Try.func88, Try.ntmps88
      go_upto_region 1 with (fail)
      generalize w.alloc (.cells (rstC A n c S).toArray 64) = V at *
      go_wp2
      go_ret
      exact RetV.is_ (by rw [hfin.out]; rfl) be
    · 
      obtain ⟨dvr1, vr1, vr2⟩ := rowRst
      have bs : Bk (w.alloc (.cells (rstC A n c S).toArray 64)) w.heap.size 64 (rstC A n c S) := Bk.new w 64 (rstC A n c S).toArray
      have be : Below w.heap.size w (w.alloc (.cells (rstC A n c S).toArray 64)) := Below.allocS (Below.refl _ _) _
      have zV : w.heap.size + 1 ≤ (w.alloc (.cells (rstC A n c S).toArray 64)).heap.size := by simp
      go_enter Try.func88, Try.ntmps88
      go_upto_region 1 with (fail)
      generalize w.alloc (.cells (rstC A n c S).toArray 64) = V at *
      go_wp2
      go_ret
      exact RetV.is_ (by rw [hfin.out]; rfl) be
end Go.Proofs.Ytepodflinhpejaa

/- Len, Evicted, Free, Newest of a stack (chapter 15). -/
namespace Go.Proofs.Ytepodflinhpejaa
open Go.RowKit
set_option linter.unusedVariables false
set_option linter.unusedSimpArgs false
attribute [local go_sem ↓] sliced_cut

attribute [local go_sem] cutA_zero

set_option maxHeartbeats 4000000 in
set_option maxRecDepth 100000 in
theorem stkLen_any (S : Stk) (h8 : S.lv.length ≤ 8) (g : Nat) (w : World) (hS : Bk w g 59 (stkC S)) : Calls Try.prog 53 #[.pointer (some ⟨g, 0, none⟩)] w (RetV w (.int .i64 (S.lv.length : Nat))) := by
  have HA := Lib.hid (all_any S h8 g w hS)
  go_enter Try.func53, Try.ntmps53
  go_wp2_with (go_at_call 86; refine HA.out.mono ?_; rintro e w1 ⟨bs1, d1, rfl, rfl⟩)
  go_ret
  exact RetV.is_ rfl (below_plus _ _ _)
set_option maxHeartbeats 4000000 in
set_option maxRecDepth 100000 in
theorem evicted_any (S : Stk) (he : S.ev < 18446744073709551616) (g : Nat) (n : Int) (hn : n ≤ 9223372036854775807) (w : World) (hS : Bk w g 59 (stkC S)) : Calls Try.prog 66 #[.pointer (some ⟨g, 0, none⟩), .int .i64 n] w (RetV w (.bool (deadS S n))) := by
  have HB := Lib.hid (fun w => backendBit_any n hn w)
  have hev := stkC_ev S
  have hand := u64_and_nat S.ev (bitB n 1 64) he (bitB_lt n 1 64 (by decide))
  have hz := hasB_and S.ev n 1 64
  have hD := Lib.hid (show deadS S n = hasB S.ev n 1 64 from rfl)
  generalize deadS S n = D at *
  generalize hasB S.ev n 1 64 = b at *
  generalize S.ev &&& bitB n 1 64 = Z at *
  generalize bitB n 1 64 = B at *
  go_enter Try.func66, Try.ntmps66
  go_upto_region 1 with (fail)
  refine wp_relS 13 17 rfl (by kernel_rfl) (by kernel_rfl) ?_
  apply Steps.one (MP.eq _) 1 rfl
  · intro o ho FA x hO hD K hK
    obtain rfl := Option.some.inj ho.symm
    clear ho
    have e0 := hO 0 (by kernel_rfl)
    simp only [eval_tmp, List.getElem?_toArray, List.getElem?_cons_succ, List.getElem?_cons_zero, Option.getD_some] at e0
    have ev0 := Lib.hid ((eval_tmp FA 0).trans e0)
    clear hO hD
    go_simp
    exact hK.out _ _ (Ex.refl _) rfl
  apply Steps.one (MP.eq _) 2 rfl
  · intro o ho FA x hO hD K hK
    obtain rfl := Option.some.inj ho.symm
    clear ho
    have ev5 : FA.eval (.tmp 5) = _ := hD 0 5 (by kernel_rfl)
    have e5 := (eval_tmp FA 5).symm.trans ev5
    replace ev5 := Lib.hid ev5
    clear hO hD
    go_simp
    exact hK.out _ _ (Ex.refl _) rfl
  apply Steps.one (MP.eq _) 3 rfl
  · intro o ho FA x hO hD K hK
    obtain rfl := Option.some.inj ho.symm
    clear ho
    have ev6 : FA.eval (.tmp 6) = _ := hD 1 6 (by kernel_rfl)
    have e6 := (eval_tmp FA 6).symm.trans ev6
    replace ev6 := Lib.hid ev6
    clear hO hD
    go_simp
    exact hK.out _ _ (Ex.refl _) rfl
  apply Steps.one (MP.eq _) 4 rfl
  · intro o ho FA x hO hD K hK
    obtain rfl := Option.some.inj ho.symm
    clear ho
    have e0 := hO 0 (by kernel_rfl)
    simp only [eval_tmp, List.getElem?_toArray, List.getElem?_cons_succ, List.getElem?_cons_zero, Option.getD_some] at e0
    have ev0 := Lib.hid ((eval_tmp FA 0).trans e0)
    have ev7 : FA.eval (.tmp 7) = _ := hD 2 7 (by kernel_rfl)
    have e7 := (eval_tmp FA 7).symm.trans ev7
    replace ev7 := Lib.hid ev7
    first | have ge7 := slot_of e7 | have ge7 := slot_un e7
    clear hO hD
    first | (go_simp; exact hK.out _ _ (Ex.refl _) rfl) | (rcases ge7 with ge7 | ge7 <;> (go_simp; exact hK.out _ _ (Ex.refl _) rfl))
  apply Steps.one (MP.eq _) 5 rfl
  · intro o ho FA x hO hD K hK
    obtain rfl := Option.some.inj ho.symm
    clear ho
    have ev8 : FA.eval (.tmp 8) = _ := hD 3 8 (by kernel_rfl)
    have e8 := (eval_tmp FA 8).symm.trans ev8
    replace ev8 := Lib.hid ev8
    have ev7 : FA.eval (.tmp 7) = _ := hD 2 7 (by kernel_rfl)
    have e7 := (eval_tmp FA 7).symm.trans ev7
    replace ev7 := Lib.hid ev7
    first | have ge7 := slot_of e7 | have ge7 := slot_un e7
    clear hO hD
    first | (go_simp; exact hK.out _ _ (Ex.refl _) rfl) | (rcases ge7 with ge7 | ge7 <;> (go_simp; exact hK.out _ _ (Ex.refl _) rfl))
  apply Steps.one (MP.eq _) 6 rfl
  · intro o ho FA x hO hD K hK
    obtain rfl := Option.some.inj ho.symm
    clear ho
    have ev9 : FA.eval (.tmp 9) = _ := hD 4 9 (by kernel_rfl)
    have e9 := (eval_tmp FA 9).symm.trans ev9
    replace ev9 := Lib.hid ev9
    have ev7 : FA.eval (.tmp 7) = _ := hD 2 7 (by kernel_rfl)
    have e7 := (eval_tmp FA 7).symm.trans ev7
    replace ev7 := Lib.hid ev7
    first | have ge7 := slot_of e7 | have ge7 := slot_un e7
    clear hO hD
    first | (go_simp; exact hK.out _ _ (Ex.refl _) rfl) | (rcases ge7 with ge7 | ge7 <;> (go_simp; exact hK.out _ _ (Ex.refl _) rfl))
  apply Steps.one (MP.eq _) 7 rfl
  · intro o ho FA x hO hD K hK
    obtain rfl := Option.some.inj ho.symm
    clear ho
    have ev10 : FA.eval (.tmp 10) = _ := hD 5 10 (by kernel_rfl)
    have e10 := (eval_tmp FA 10).symm.trans ev10
    replace ev10 := Lib.hid ev10
    have ev7 : FA.eval (.tmp 7) = _ := hD 2 7 (by kernel_rfl)
    have e7 := (eval_tmp FA 7).symm.trans ev7
    replace ev7 := Lib.hid ev7
    first | have ge7 := slot_of e7 | have ge7 := slot_un e7
    clear hO hD
    refine wanted_ifG (by go_simp) ?_
    refine wp_ld1 22 (.tmp 10) rfl ev10.out (hS.later (below_plus _ _ _)) hev Try.underlying22 rfl ?_
    exact hK.out _ _ (Ex.refl _) rfl
  apply Steps.one (MP.eq _) 8 rfl
  · intro o ho FA x hO hD K hK
    obtain rfl := Option.some.inj ho.symm
    clear ho
    have e1 := hO 1 (by kernel_rfl)
    simp only [eval_tmp, List.getElem?_toArray, List.getElem?_cons_succ, List.getElem?_cons_zero, Option.getD_some] at e1
    have ev1 := Lib.hid ((eval_tmp FA 1).trans e1)
    have ev7 : FA.eval (.tmp 7) = _ := hD 2 7 (by kernel_rfl)
    have e7 := (eval_tmp FA 7).symm.trans ev7
    replace ev7 := Lib.hid ev7
    first | have ge7 := slot_of e7 | have ge7 := slot_un e7
    clear hO hD
    first | (go_simp; exact hK.out _ _ (Ex.refl _) rfl) | (rcases ge7 with ge7 | ge7 <;> (go_simp; exact hK.out _ _ (Ex.refl _) rfl))
  apply Steps.one (MP.eq _) 9 rfl
  · intro o ho FA x hO hD K hK
    obtain rfl := Option.some.inj ho.symm
    clear ho
    have ev12 : FA.eval (.tmp 12) = _ := hD 7 12 (by kernel_rfl)
    have e12 := (eval_tmp FA 12).symm.trans ev12
    replace ev12 := Lib.hid ev12
    have ev7 : FA.eval (.tmp 7) = _ := hD 2 7 (by kernel_rfl)
    have e7 := (eval_tmp FA 7).symm.trans ev7
    replace ev7 := Lib.hid ev7
    first | have ge7 := slot_of e7 | have ge7 := slot_un e7
    clear hO hD
    refine wanted_ifG (by go_simp) ?_
    go_simp
    refine (HB.out _).mono ?_
    rintro e w1 ⟨rfl, rfl⟩
    exact hK.out _ _ (Ex.refl _) rfl
  apply Steps.one (MP.eq _) 10 rfl
  · intro o ho FA x hO hD K hK
    obtain rfl := Option.some.inj ho.symm
    clear ho
    have ev11 : FA.eval (.tmp 11) = _ := hD 6 11 (by kernel_rfl)
    have e11 := (eval_tmp FA 11).symm.trans ev11
    replace ev11 := Lib.hid ev11
    have ev13 : FA.eval (.tmp 13) = _ := hD 8 13 (by kernel_rfl)
    have e13 := (eval_tmp FA 13).symm.trans ev13
    replace ev13 := Lib.hid ev13
    have ev7 : FA.eval (.tmp 7) = _ := hD 2 7 (by kernel_rfl)
    have e7 := (eval_tmp FA 7).symm.trans ev7
    replace ev7 := Lib.hid ev7
    first | have ge7 := slot_of e7 | have ge7 := slot_un e7
    clear hO hD
    first | (go_simp; exact hK.out _ _ (Ex.refl _) rfl) | (rcases ge7 with ge7 | ge7 <;> (go_simp; exact hK.out _ _ (Ex.refl _) rfl))
  apply Steps.one (MP.eq _) 11 rfl
  · intro o ho FA x hO hD K hK
    obtain rfl := Option.some.inj ho.symm
    clear ho
    have ev14 : FA.eval (.tmp 14) = _ := hD 9 14 (by kernel_rfl)
    have e14 := (eval_tmp FA 14).symm.trans ev14
    replace ev14 := Lib.hid ev14
    have ev7 : FA.eval (.tmp 7) = _ := hD 2 7 (by kernel_rfl)
    have e7 := (eval_tmp FA 7).symm.trans ev7
    replace ev7 := Lib.hid ev7
    first | have ge7 := slot_of e7 | have ge7 := slot_un e7
    clear hO hD
    first | (go_simp; exact hK.out _ _ (Ex.refl _) rfl) | (rcases ge7 with ge7 | ge7 <;> (go_simp; exact hK.out _ _ (Ex.refl _) rfl))
  apply Steps.one (MP.eq _) 12 rfl
  · intro o ho FA x hO hD K hK
    obtain rfl := Option.some.inj ho.symm
    clear ho
    have ev7 : FA.eval (.tmp 7) = _ := hD 2 7 (by kernel_rfl)
    have e7 := (eval_tmp FA 7).symm.trans ev7
    replace ev7 := Lib.hid ev7
    have ev15 : FA.eval (.tmp 15) = _ := hD 10 15 (by kernel_rfl)
    have e15 := (eval_tmp FA 15).symm.trans ev15
    replace ev15 := Lib.hid ev15
    clear hO hD
    go_simp
    exact hK.out _ _ (Ex.refl _) rfl
  apply Steps.one (MP.eq _) 13 rfl
  · intro o ho FA x hO hD K hK
    obtain rfl := Option.some.inj ho.symm
    clear ho
    have ev16 : FA.eval (.tmp 16) = _ := hD 11 16 (by kernel_rfl)
    have e16 := (eval_tmp FA 16).symm.trans ev16
    replace ev16 := Lib.hid ev16
    clear hO hD
    go_simp
    exact hK.out _ _ (Ex.refl _) rfl
  refine Steps.fin_ (fun vs x hp => ?_)
  have p0 : vs 0 = _ := hp 0 (by omega)
  have p1 : vs 1 = _ := hp 1 (by omega)
  have p2 : vs 2 = _ := hp 2 (by omega)
  have p3 : vs 3 = _ := hp 3 (by omega)
  have p4 : vs 4 = _ := hp 4 (by omega)
  have p5 : vs 5 = _ := hp 5 (by omega)
  have p6 : vs 6 = _ := hp 6 (by omega)
  have p7 : vs 7 = _ := hp 7 (by omega)
  have p8 : vs 8 = _ := hp 8 (by omega)
  have p9 : vs 9 = _ := hp 9 (by omega)
  have p10 : vs 10 = _ := hp 10 (by omega)
  have p11 : vs 11 = _ := hp 11 (by omega)
  have p12 : vs 12 = _ := hp 12 (by omega)
  clear hp
  simp only [List.take_succ_cons, List.take_zero, List.drop_succ_cons, List.drop_zero, putAll, Nat.zero_add, Nat.reduceAdd, Act.put, List.setIfInBounds_toArray, List.set_cons_zero, List.set_cons_succ, p0, p1, p2, p3, p4, p5, p6, p7, p8, p9, p10, p11, p12]
  clear p0 p1 p2 p3 p4 p5 p6 p7 p8 p9 p10 p11 p12
  clear vs
  go_wp2
  go_ret
  exact RetV.is_ (by rw [hD.out]; simp [bne, hz]) (below_plus _ _ _)
/-- the version that is free, and is there one -/
def frV (S : Stk) : Int := if freeS S < 8 then (freeS S : Int) else 0
def frB (S : Stk) : Bool := decide (freeS S < 8)
set_option maxHeartbeats 4000000 in
set_option maxRecDepth 100000 in
theorem free_any (S : Stk) (hok : StkOk S) (g : Nat) (w : World) (hS : Bk w g 59 (stkC S)) : Calls Try.prog 83 #[.pointer (some ⟨g, 0, none⟩)] w (RetV w (.tuple #[.int .i64 (frV S), .bool (frB S)])) := by
  have h8 := hok.len
  have hbz := stkC_bz S
  have hf8 := freeS_le S
  obtain ⟨fv, hfv⟩ : ∃ x, frV S = x := ⟨_, rfl⟩
  obtain ⟨fb, hfb⟩ : ∃ x, frB S = x := ⟨_, rfl⟩
  rw [hfv, hfb]
  have HV := Lib.hid hfv
  have HBB := Lib.hid hfb
  clear hfv hfb
  go_enter Try.func83, Try.ntmps83
  go_upto_region 4 with (fail)
  have be := Below.refl w.heap.size w
  go_loopw [7] (fun I wr => ∃ i : Nat, I = .int .i64 (i : Int) ∧ i ≤ freeS S ∧ Below w.heap.size w wr) (fun I _ => 8 - (intOf I).toNat)
  case atStart => exact ⟨0, rfl, Nat.zero_le _, be⟩
  case round =>
    clear be
    obtain ⟨i, rfl, hi, be⟩ := hrel
    by_cases hlt : i < 8
    · replace hS := hS.later be
      have ii : (i : Int) < 8 := by omega
      have HB := Lib.hid (fun w => versionBit_any (i : Int) (by omega) w)
      have HI := Lib.hid (fun w h => index_any S h8 g (i : Int) w h)
      have hand := u64_and_nat S.bz (bitB (i : Int) 0 8) (by have := hok.bz; omega) (bitB_lt (i : Int) 0 8 (by decide))
      have hz := hasB_and S.bz (i : Int) 0 8
      have hsp := freeS_spec S i hi hlt
      have htk : takenS S i = (hasB S.bz (i : Int) 0 8 || decide (0 ≤ ixS S (i : Int))) := by
        unfold takenS hasB ixS
        have e1 : ((i : Int) - ((0 : Nat) : Int)).toNat = i := by omega
        have e2 : decide (((0 : Nat) : Int) ≤ (i : Int)) = true := decide_eq_true (by omega)
        have e3 : decide ((i : Int) < ((0 : Nat) : Int) + (8 : Nat)) = true := decide_eq_true (by omega)
        rw [e1, e2, e3]
        by_cases h9 : idxS S (i : Int) < S.lv.length
        · simp [h9]
        · simp [h9]
      rw [htk] at hsp
      clear htk
      have hsp2 : (hasB S.bz (i : Int) 0 8 = false ∧ ixS S (i : Int) < 0 → freeS S = i) ∧ (hasB S.bz (i : Int) 0 8 = true ∨ 0 ≤ ixS S (i : Int) → i + 1 ≤ freeS S) := by
        rcases hsp with ⟨h1, h2⟩ | ⟨h1, h2⟩
        · refine ⟨fun ⟨hb, hx⟩ => ?_, fun _ => h2⟩
          rw [hb, Bool.false_or, decide_eq_true_eq] at h1
          omega
        · refine ⟨fun _ => h2.symm, fun h => ?_⟩
          rw [Bool.or_eq_false_iff, decide_eq_false_iff_not] at h1
          rcases h with h | h
          · rw [h] at h1; cases h1.1
          · exact absurd h h1.2
      clear hsp
      generalize hasB S.bz (i : Int) 0 8 = b at *
      generalize S.bz &&& bitB (i : Int) 0 8 = Z at *
      generalize bitB (i : Int) 0 8 = B at *
      generalize ixS S (i : Int) = ix at *
      cases b
      · by_cases hx : ix < 0
        · have hx0 : ¬ 0 ≤ ix := by omega
          have hif : freeS S = i := hsp2.1 ⟨rfl, hx⟩
          have hv := Lib.hid (show fv = (i : Int) by rw [← HV.out]; unfold frV; rw [if_pos (by omega), hif])
          have hbb := Lib.hid (show fb = true by rw [← HBB.out]; unfold frB; exact decide_eq_true (by omega))
          clear hsp2 hif hi hf8
          go_upto_region 6 with (fail)
          refine wp_relS 14 26 rfl (by kernel_rfl) (by kernel_rfl) ?_
          apply Steps.one (MP.eq _) 1 rfl
          · intro o ho FA x hO hD K hK
            obtain rfl := Option.some.inj ho.symm
            clear ho
            have e0 := hO 0 (by kernel_rfl)
            simp only [eval_tmp, List.getElem?_toArray, List.getElem?_cons_succ, List.getElem?_cons_zero, Option.getD_some] at e0
            have ev0 := Lib.hid ((eval_tmp FA 0).trans e0)
            clear hO hD
            go_simp
            exact hK.out _ _ (Ex.refl _) rfl
          apply Steps.one (MP.eq _) 2 rfl
          · intro o ho FA x hO hD K hK
            obtain rfl := Option.some.inj ho.symm
            clear ho
            have ev10 : FA.eval (.tmp 10) = _ := hD 0 10 (by kernel_rfl)
            have e10 := (eval_tmp FA 10).symm.trans ev10
            replace ev10 := Lib.hid ev10
            clear hO hD
            go_simp
            exact hK.out _ _ (Ex.refl _) rfl
          apply Steps.one (MP.eq _) 3 rfl
          · intro o ho FA x hO hD K hK
            obtain rfl := Option.some.inj ho.symm
            clear ho
            have ev11 : FA.eval (.tmp 11) = _ := hD 1 11 (by kernel_rfl)
            have e11 := (eval_tmp FA 11).symm.trans ev11
            replace ev11 := Lib.hid ev11
            clear hO hD
            go_simp
            exact hK.out _ _ (Ex.refl _) rfl
          apply Steps.one (MP.eq _) 4 rfl
          · intro o ho FA x hO hD K hK
            obtain rfl := Option.some.inj ho.symm
            clear ho
            have ev12 : FA.eval (.tmp 12) = _ := hD 2 12 (by kernel_rfl)
            have e12 := (eval_tmp FA 12).symm.trans ev12
            replace ev12 := Lib.hid ev12
            clear hO hD
            refine wanted_if rfl ?_
            refine wp_ld1 22 (.tmp 12) rfl ev12.out (hS.later (below_plus _ _ _)) hbz Try.underlying22 rfl ?_
            exact hK.out _ _ (Ex.refl _) rfl
          apply Steps.one (MP.eq _) 5 rfl
          · intro o ho FA x hO hD K hK
            obtain rfl := Option.some.inj ho.symm
            clear ho
            have e4 := hO 4 (by kernel_rfl)
            simp only [eval_tmp, List.getElem?_toArray, List.getElem?_cons_succ, List.getElem?_cons_zero, Option.getD_some] at e4
            have ev4 := Lib.hid ((eval_tmp FA 4).trans e4)
            clear hO hD
            go_simp
            exact hK.out _ _ (Ex.refl _) rfl
          apply Steps.one (MP.eq _) 6 rfl
          · intro o ho FA x hO hD K hK
            obtain rfl := Option.some.inj ho.symm
            clear ho
            have ev14 : FA.eval (.tmp 14) = _ := hD 4 14 (by kernel_rfl)
            have e14 := (eval_tmp FA 14).symm.trans ev14
            replace ev14 := Lib.hid ev14
            clear hO hD
            go_simp
            refine (HB.out _).mono ?_
            rintro e w1 ⟨rfl, rfl⟩
            exact hK.out _ _ (Ex.refl _) rfl
          apply Steps.one (MP.eq _) 7 rfl
          · intro o ho FA x hO hD K hK
            obtain rfl := Option.some.inj ho.symm
            clear ho
            have ev13 : FA.eval (.tmp 13) = _ := hD 3 13 (by kernel_rfl)
            have e13 := (eval_tmp FA 13).symm.trans ev13
            replace ev13 := Lib.hid ev13
            have ev15 : FA.eval (.tmp 15) = _ := hD 5 15 (by kernel_rfl)
            have e15 := (eval_tmp FA 15).symm.trans ev15
            replace ev15 := Lib.hid ev15
            clear hO hD
            go_simp
            exact hK.out _ _ (Ex.refl _) rfl
          apply Steps.one (MP.eq _) 8 rfl
          · intro o ho FA x hO hD K hK
            obtain rfl := Option.some.inj ho.symm
            clear ho
            have ev16 : FA.eval (.tmp 16) = _ := hD 6 16 (by kernel_rfl)
            have e16 := (eval_tmp FA 16).symm.trans ev16
            replace ev16 := Lib.hid ev16
            clear hO hD
            go_simp
            exact hK.out _ _ (Ex.refl _) rfl
          apply Steps.one (MP.eq _) 9 rfl
          · intro o ho FA x hO hD K hK
            obtain rfl := Option.some.inj ho.symm
            clear ho
            have ev17 : FA.eval (.tmp 17) = _ := hD 7 17 (by kernel_rfl)
            have e17 := (eval_tmp FA 17).symm.trans ev17
            replace ev17 := Lib.hid ev17
            clear hO hD
            go_simp
            exact hK.out _ _ (Ex.refl _) rfl
          apply Steps.one (MP.eq _) 10 rfl
          · intro o ho FA x hO hD K hK
            obtain rfl := Option.some.inj ho.symm
            clear ho
            have e0 := hO 0 (by kernel_rfl)
            simp only [eval_tmp, List.getElem?_toArray, List.getElem?_cons_succ, List.getElem?_cons_zero, Option.getD_some] at e0
            have ev0 := Lib.hid ((eval_tmp FA 0).trans e0)
            have ev18 : FA.eval (.tmp 18) = _ := hD 8 18 (by kernel_rfl)
            have e18 := (eval_tmp FA 18).symm.trans ev18
            replace ev18 := Lib.hid ev18
            first | have ge18 := slot_of e18 | have ge18 := slot_un e18
            clear hO hD
            first | (go_simp; exact hK.out _ _ (Ex.refl _) rfl) | (rcases ge18 with ge18 | ge18 <;> (go_simp; exact hK.out _ _ (Ex.refl _) rfl))
          apply Steps.one (MP.eq _) 11 rfl
          · intro o ho FA x hO hD K hK
            obtain rfl := Option.some.inj ho.symm
            clear ho
            have e4 := hO 4 (by kernel_rfl)
            simp only [eval_tmp, List.getElem?_toArray, List.getElem?_cons_succ, List.getElem?_cons_zero, Option.getD_some] at e4
            have ev4 := Lib.hid ((eval_tmp FA 4).trans e4)
            have ev18 : FA.eval (.tmp 18) = _ := hD 8 18 (by kernel_rfl)
            have e18 := (eval_tmp FA 18).symm.trans ev18
            replace ev18 := Lib.hid ev18
            first | have ge18 := slot_of e18 | have ge18 := slot_un e18
            clear hO hD
            first | (go_simp; exact hK.out _ _ (Ex.refl _) rfl) | (rcases ge18 with ge18 | ge18 <;> (go_simp; exact hK.out _ _ (Ex.refl _) rfl))
          apply Steps.one (MP.eq (.int .i64 ix)) 12 rfl
          · intro o ho FA x hO hD K hK
            obtain rfl := Option.some.inj ho.symm
            clear ho
            have ev19 : FA.eval (.tmp 19) = _ := hD 9 19 (by kernel_rfl)
            have e19 := (eval_tmp FA 19).symm.trans ev19
            replace ev19 := Lib.hid ev19
            have ev20 : FA.eval (.tmp 20) = _ := hD 10 20 (by kernel_rfl)
            have e20 := (eval_tmp FA 20).symm.trans ev20
            replace ev20 := Lib.hid ev20
            have ev18 : FA.eval (.tmp 18) = _ := hD 8 18 (by kernel_rfl)
            have e18 := (eval_tmp FA 18).symm.trans ev18
            replace ev18 := Lib.hid ev18
            first | have ge18 := slot_of e18 | have ge18 := slot_un e18
            clear hO hD
            refine wanted_ifG (by go_simp) ?_
            go_simp
            refine (HI.out _ (hS.later (below_plus _ _ _))).mono ?_
            rintro e w1 ⟨bs9, d9, rfl, rfl⟩
            exact hK.out _ _ (Ex.plus_ _ _ _) rfl
          apply Steps.one (MP.eq _) 13 rfl
          · intro o ho FA x hO hD K hK
            obtain rfl := Option.some.inj ho.symm
            clear ho
            have ev21 : FA.eval (.tmp 21) = _ := hD 11 21 (by kernel_rfl)
            have e21 := (eval_tmp FA 21).symm.trans ev21
            replace ev21 := Lib.hid ev21
            have ev18 : FA.eval (.tmp 18) = _ := hD 8 18 (by kernel_rfl)
            have e18 := (eval_tmp FA 18).symm.trans ev18
            replace ev18 := Lib.hid ev18
            first | have ge18 := slot_of e18 | have ge18 := slot_un e18
            clear hO hD
            first | (go_simp; exact hK.out _ _ (Ex.refl _) rfl) | (rcases ge18 with ge18 | ge18 <;> (go_simp; exact hK.out _ _ (Ex.refl _) rfl))
          apply Steps.one (MP.eq _) 14 rfl
          · intro o ho FA x hO hD K hK
            obtain rfl := Option.some.inj ho.symm
            clear ho
            have ev18 : FA.eval (.tmp 18) = _ := hD 8 18 (by kernel_rfl)
            have e18 := (eval_tmp FA 18).symm.trans ev18
            replace ev18 := Lib.hid ev18
            have ev22 : FA.eval (.tmp 22) = _ := hD 12 22 (by kernel_rfl)
            have e22 := (eval_tmp FA 22).symm.trans ev22
            replace ev22 := Lib.hid ev22
            clear hO hD
            go_simp
            exact hK.out _ _ (Ex.refl _) rfl
          refine Steps.fin_ (fun vs x hp => ?_)
          have p0 : vs 0 = _ := hp 0 (by omega)
          have p1 : vs 1 = _ := hp 1 (by omega)
          have p2 : vs 2 = _ := hp 2 (by omega)
          have p3 : vs 3 = _ := hp 3 (by omega)
          have p4 : vs 4 = _ := hp 4 (by omega)
          have p5 : vs 5 = _ := hp 5 (by omega)
          have p6 : vs 6 = _ := hp 6 (by omega)
          have p7 : vs 7 = _ := hp 7 (by omega)
          have p8 : vs 8 = _ := hp 8 (by omega)
          have p9 : vs 9 = _ := hp 9 (by omega)
          have p10 : vs 10 = _ := hp 10 (by omega)
          have p11 : vs 11 = _ := hp 11 (by omega)
          have p12 : vs 12 = _ := hp 12 (by omega)
          have p13 : vs 13 = _ := hp 13 (by omega)
          clear hp
          simp only [List.take_succ_cons, List.take_zero, List.drop_succ_cons, List.drop_zero, putAll, Nat.zero_add, Nat.reduceAdd, Act.put, List.setIfInBounds_toArray, List.set_cons_zero, List.set_cons_succ, p0, p1, p2, p3, p4, p5, p6, p7, p8, p9, p10, p11, p12, p13]
          clear p0 p1 p2 p3 p4 p5 p6 p7 p8 p9 p10 p11 p12 p13
          clear vs
          have be2 := be.trans ((below_plus wr x.bs x.d).mono be.size)
          go_wp2
          go_ret2
          refine RetV.is_ ?_ be2
          rw [hv.out, hbb.out]
          rfl
        · have hx0 : 0 ≤ ix := by omega
          have hif : i + 1 ≤ freeS S := hsp2.2 (.inr hx0)
          clear hsp2 hi
          go_upto_region 6 with (fail)
          refine wp_relS 14 26 rfl (by kernel_rfl) (by kernel_rfl) ?_
          apply Steps.one (MP.eq _) 1 rfl
          · intro o ho FA x hO hD K hK
            obtain rfl := Option.some.inj ho.symm
            clear ho
            have e0 := hO 0 (by kernel_rfl)
            simp only [eval_tmp, List.getElem?_toArray, List.getElem?_cons_succ, List.getElem?_cons_zero, Option.getD_some] at e0
            have ev0 := Lib.hid ((eval_tmp FA 0).trans e0)
            clear hO hD
            go_simp
            exact hK.out _ _ (Ex.refl _) rfl
          apply Steps.one (MP.eq _) 2 rfl
          · intro o ho FA x hO hD K hK
            obtain rfl := Option.some.inj ho.symm
            clear ho
            have ev10 : FA.eval (.tmp 10) = _ := hD 0 10 (by kernel_rfl)
            have e10 := (eval_tmp FA 10).symm.trans ev10
            replace ev10 := Lib.hid ev10
            clear hO hD
            go_simp
            exact hK.out _ _ (Ex.refl _) rfl
          apply Steps.one (MP.eq _) 3 rfl
          · intro o ho FA x hO hD K hK
            obtain rfl := Option.some.inj ho.symm
            clear ho
            have ev11 : FA.eval (.tmp 11) = _ := hD 1 11 (by kernel_rfl)
            have e11 := (eval_tmp FA 11).symm.trans ev11
            replace ev11 := Lib.hid ev11
            clear hO hD
            go_simp
            exact hK.out _ _ (Ex.refl _) rfl
          apply Steps.one (MP.eq _) 4 rfl
          · intro o ho FA x hO hD K hK
            obtain rfl := Option.some.inj ho.symm
            clear ho
            have ev12 : FA.eval (.tmp 12) = _ := hD 2 12 (by kernel_rfl)
            have e12 := (eval_tmp FA 12).symm.trans ev12
            replace ev12 := Lib.hid ev12
            clear hO hD
            refine wanted_if rfl ?_
            refine wp_ld1 22 (.tmp 12) rfl ev12.out (hS.later (below_plus _ _ _)) hbz Try.underlying22 rfl ?_
            exact hK.out _ _ (Ex.refl _) rfl
          apply Steps.one (MP.eq _) 5 rfl
          · intro o ho FA x hO hD K hK
            obtain rfl := Option.some.inj ho.symm
            clear ho
            have e4 := hO 4 (by kernel_rfl)
            simp only [eval_tmp, List.getElem?_toArray, List.getElem?_cons_succ, List.getElem?_cons_zero, Option.getD_some] at e4
            have ev4 := Lib.hid ((eval_tmp FA 4).trans e4)
            clear hO hD
            go_simp
            exact hK.out _ _ (Ex.refl _) rfl
          apply Steps.one (MP.eq _) 6 rfl
          · intro o ho FA x hO hD K hK
            obtain rfl := Option.some.inj ho.symm
            clear ho
            have ev14 : FA.eval (.tmp 14) = _ := hD 4 14 (by kernel_rfl)
            have e14 := (eval_tmp FA 14).symm.trans ev14
            replace ev14 := Lib.hid ev14
            clear hO hD
            go_simp
            refine (HB.out _).mono ?_
            rintro e w1 ⟨rfl, rfl⟩
            exact hK.out _ _ (Ex.refl _) rfl
          apply Steps.one (MP.eq _) 7 rfl
          · intro o ho FA x hO hD K hK
            obtain rfl := Option.some.inj ho.symm
            clear ho
            have ev13 : FA.eval (.tmp 13) = _ := hD 3 13 (by kernel_rfl)
            have e13 := (eval_tmp FA 13).symm.trans ev13
            replace ev13 := Lib.hid ev13
            have ev15 : FA.eval (.tmp 15) = _ := hD 5 15 (by kernel_rfl)
            have e15 := (eval_tmp FA 15).symm.trans ev15
            replace ev15 := Lib.hid ev15
            clear hO hD
            go_simp
            exact hK.out _ _ (Ex.refl _) rfl
          apply Steps.one (MP.eq _) 8 rfl
          · intro o ho FA x hO hD K hK
            obtain rfl := Option.some.inj ho.symm
            clear ho
            have ev16 : FA.eval (.tmp 16) = _ := hD 6 16 (by kernel_rfl)
            have e16 := (eval_tmp FA 16).symm.trans ev16
            replace ev16 := Lib.hid ev16
            clear hO hD
            go_simp
            exact hK.out _ _ (Ex.refl _) rfl
          apply Steps.one (MP.eq _) 9 rfl
          · intro o ho FA x hO hD K hK
            obtain rfl := Option.some.inj ho.symm
            clear ho
            have ev17 : FA.eval (.tmp 17) = _ := hD 7 17 (by kernel_rfl)
            have e17 := (eval_tmp FA 17).symm.trans ev17
            replace ev17 := Lib.hid ev17
            clear hO hD
            go_simp
            exact hK.out _ _ (Ex.refl _) rfl
          apply Steps.one (MP.eq _) 10 rfl
          · intro o ho FA x hO hD K hK
            obtain rfl := Option.some.inj ho.symm
            clear ho
            have e0 := hO 0 (by kernel_rfl)
            simp only [eval_tmp, List.getElem?_toArray, List.getElem?_cons_succ, List.getElem?_cons_zero, Option.getD_some] at e0
            have ev0 := Lib.hid ((eval_tmp FA 0).trans e0)
            have ev18 : FA.eval (.tmp 18) = _ := hD 8 18 (by kernel_rfl)
            have e18 := (eval_tmp FA 18).symm.trans ev18
            replace ev18 := Lib.hid ev18
            first | have ge18 := slot_of e18 | have ge18 := slot_un e18
            clear hO hD
            first | (go_simp; exact hK.out _ _ (Ex.refl _) rfl) | (rcases ge18 with ge18 | ge18 <;> (go_simp; exact hK.out _ _ (Ex.refl _) rfl))
          apply Steps.one (MP.eq _) 11 rfl
          · intro o ho FA x hO hD K hK
            obtain rfl := Option.some.inj ho.symm
            clear ho
            have e4 := hO 4 (by kernel_rfl)
            simp only [eval_tmp, List.getElem?_toArray, List.getElem?_cons_succ, List.getElem?_cons_zero, Option.getD_some] at e4
            have ev4 := Lib.hid ((eval_tmp FA 4).trans e4)
            have ev18 : FA.eval (.tmp 18) = _ := hD 8 18 (by kernel_rfl)
            have e18 := (eval_tmp FA 18).symm.trans ev18
            replace ev18 := Lib.hid ev18
            first | have ge18 := slot_of e18 | have ge18 := slot_un e18
            clear hO hD
            first | (go_simp; exact hK.out _ _ (Ex.refl _) rfl) | (rcases ge18 with ge18 | ge18 <;> (go_simp; exact hK.out _ _ (Ex.refl _) rfl))
          apply Steps.one (MP.eq (.int .i64 ix)) 12 rfl
          · intro o ho FA x hO hD K hK
            obtain rfl := Option.some.inj ho.symm
            clear ho
            have ev19 : FA.eval (.tmp 19) = _ := hD 9 19 (by kernel_rfl)
            have e19 := (eval_tmp FA 19).symm.trans ev19
            replace ev19 := Lib.hid ev19
            have ev20 : FA.eval (.tmp 20) = _ := hD 10 20 (by kernel_rfl)
            have e20 := (eval_tmp FA 20).symm.trans ev20
            replace ev20 := Lib.hid ev20
            have ev18 : FA.eval (.tmp 18) = _ := hD 8 18 (by kernel_rfl)
            have e18 := (eval_tmp FA 18).symm.trans ev18
            replace ev18 := Lib.hid ev18
            first | have ge18 := slot_of e18 | have ge18 := slot_un e18
            clear hO hD
            refine wanted_ifG (by go_simp) ?_
            go_simp
            refine (HI.out _ (hS.later (below_plus _ _ _))).mono ?_
            rintro e w1 ⟨bs9, d9, rfl, rfl⟩
            exact hK.out _ _ (Ex.plus_ _ _ _) rfl
          apply Steps.one (MP.eq _) 13 rfl
          · intro o ho FA x hO hD K hK
            obtain rfl := Option.some.inj ho.symm
            clear ho
            have ev21 : FA.eval (.tmp 21) = _ := hD 11 21 (by kernel_rfl)
            have e21 := (eval_tmp FA 21).symm.trans ev21
            replace ev21 := Lib.hid ev21
            have ev18 : FA.eval (.tmp 18) = _ := hD 8 18 (by kernel_rfl)
            have e18 := (eval_tmp FA 18).symm.trans ev18
            replace ev18 := Lib.hid ev18
            first | have ge18 := slot_of e18 | have ge18 := slot_un e18
            clear hO hD
            first | (go_simp; exact hK.out _ _ (Ex.refl _) rfl) | (rcases ge18 with ge18 | ge18 <;> (go_simp; exact hK.out _ _ (Ex.refl _) rfl))
          apply Steps.one (MP.eq _) 14 rfl
          · intro o ho FA x hO hD K hK
            obtain rfl := Option.some.inj ho.symm
            clear ho
            have ev18 : FA.eval (.tmp 18) = _ := hD 8 18 (by kernel_rfl)
            have e18 := (eval_tmp FA 18).symm.trans ev18
            replace ev18 := Lib.hid ev18
            have ev22 : FA.eval (.tmp 22) = _ := hD 12 22 (by kernel_rfl)
            have e22 := (eval_tmp FA 22).symm.trans ev22
            replace ev22 := Lib.hid ev22
            clear hO hD
            go_simp
            exact hK.out _ _ (Ex.refl _) rfl
          refine Steps.fin_ (fun vs x hp => ?_)
          have p0 : vs 0 = _ := hp 0 (by omega)
          have p1 : vs 1 = _ := hp 1 (by omega)
          have p2 : vs 2 = _ := hp 2 (by omega)
          have p3 : vs 3 = _ := hp 3 (by omega)
          have p4 : vs 4 = _ := hp 4 (by omega)
          have p5 : vs 5 = _ := hp 5 (by omega)
          have p6 : vs 6 = _ := hp 6 (by omega)
          have p7 : vs 7 = _ := hp 7 (by omega)
          have p8 : vs 8 = _ := hp 8 (by omega)
          have p9 : vs 9 = _ := hp 9 (by omega)
          have p10 : vs 10 = _ := hp 10 (by omega)
          have p11 : vs 11 = _ := hp 11 (by omega)
          have p12 : vs 12 = _ := hp 12 (by omega)
          have p13 : vs 13 = _ := hp 13 (by omega)
          clear hp
          simp only [List.take_succ_cons, List.take_zero, List.drop_succ_cons, List.drop_zero, putAll, Nat.zero_add, Nat.reduceAdd, Act.put, List.setIfInBounds_toArray, List.set_cons_zero, List.set_cons_succ, p0, p1, p2, p3, p4, p5, p6, p7, p8, p9, p10, p11, p12, p13]
          clear p0 p1 p2 p3 p4 p5 p6 p7 p8 p9 p10 p11 p12 p13
          clear vs
          have be2 := be.trans ((below_plus wr x.bs x.d).mono be.size)
          go_wp2
          exact ⟨⟨i + 1, by go_num, hif, be2⟩, by simp [intOf]; omega⟩
      · have hif : i + 1 ≤ freeS S := hsp2.2 (.inl rfl)
        clear hsp2 hi HI
        go_upto_region 6 with (fail)
        refine wp_relS 14 26 rfl (by kernel_rfl) (by kernel_rfl) ?_
        apply Steps.one (MP.eq _) 1 rfl
        · intro o ho FA x hO hD K hK
          obtain rfl := Option.some.inj ho.symm
          clear ho
          have e0 := hO 0 (by kernel_rfl)
          simp only [eval_tmp, List.getElem?_toArray, List.getElem?_cons_succ, List.getElem?_cons_zero, Option.getD_some] at e0
          have ev0 := Lib.hid ((eval_tmp FA 0).trans e0)
          clear hO hD
          go_simp
          exact hK.out _ _ (Ex.refl _) rfl
        apply Steps.one (MP.eq _) 2 rfl
        · intro o ho FA x hO hD K hK
          obtain rfl := Option.some.inj ho.symm
          clear ho
          have ev10 : FA.eval (.tmp 10) = _ := hD 0 10 (by kernel_rfl)
          have e10 := (eval_tmp FA 10).symm.trans ev10
          replace ev10 := Lib.hid ev10
          clear hO hD
          go_simp
          exact hK.out _ _ (Ex.refl _) rfl
        apply Steps.one (MP.eq _) 3 rfl
        · intro o ho FA x hO hD K hK
          obtain rfl := Option.some.inj ho.symm
          clear ho
          have ev11 : FA.eval (.tmp 11) = _ := hD 1 11 (by kernel_rfl)
          have e11 := (eval_tmp FA 11).symm.trans ev11
          replace ev11 := Lib.hid ev11
          clear hO hD
          go_simp
          exact hK.out _ _ (Ex.refl _) rfl
        apply Steps.one (MP.eq _) 4 rfl
        · intro o ho FA x hO hD K hK
          obtain rfl := Option.some.inj ho.symm
          clear ho
          have ev12 : FA.eval (.tmp 12) = _ := hD 2 12 (by kernel_rfl)
          have e12 := (eval_tmp FA 12).symm.trans ev12
          replace ev12 := Lib.hid ev12
          clear hO hD
          refine wanted_if rfl ?_
          refine wp_ld1 22 (.tmp 12) rfl ev12.out (hS.later (below_plus _ _ _)) hbz Try.underlying22 rfl ?_
          exact hK.out _ _ (Ex.refl _) rfl
        apply Steps.one (MP.eq _) 5 rfl
        · intro o ho FA x hO hD K hK
          obtain rfl := Option.some.inj ho.symm
          clear ho
          have e4 := hO 4 (by kernel_rfl)
          simp only [eval_tmp, List.getElem?_toArray, List.getElem?_cons_succ, List.getElem?_cons_zero, Option.getD_some] at e4
          have ev4 := Lib.hid ((eval_tmp FA 4).trans e4)
          clear hO hD
          go_simp
          exact hK.out _ _ (Ex.refl _) rfl
        apply Steps.one (MP.eq _) 6 rfl
        · intro o ho FA x hO hD K hK
          obtain rfl := Option.some.inj ho.symm
          clear ho
          have ev14 : FA.eval (.tmp 14) = _ := hD 4 14 (by kernel_rfl)
          have e14 := (eval_tmp FA 14).symm.trans ev14
          replace ev14 := Lib.hid ev14
          clear hO hD
          go_simp
          refine (HB.out _).mono ?_
          rintro e w1 ⟨rfl, rfl⟩
          exact hK.out _ _ (Ex.refl _) rfl
        apply Steps.one (MP.eq _) 7 rfl
        · intro o ho FA x hO hD K hK
          obtain rfl := Option.some.inj ho.symm
          clear ho
          have ev13 : FA.eval (.tmp 13) = _ := hD 3 13 (by kernel_rfl)
          have e13 := (eval_tmp FA 13).symm.trans ev13
          replace ev13 := Lib.hid ev13
          have ev15 : FA.eval (.tmp 15) = _ := hD 5 15 (by kernel_rfl)
          have e15 := (eval_tmp FA 15).symm.trans ev15
          replace ev15 := Lib.hid ev15
          clear hO hD
          go_simp
          exact hK.out _ _ (Ex.refl _) rfl
        apply Steps.one (MP.eq _) 8 rfl
        · intro o ho FA x hO hD K hK
          obtain rfl := Option.some.inj ho.symm
          clear ho
          have ev16 : FA.eval (.tmp 16) = _ := hD 6 16 (by kernel_rfl)
          have e16 := (eval_tmp FA 16).symm.trans ev16
          replace ev16 := Lib.hid ev16
          clear hO hD
          go_simp
          exact hK.out _ _ (Ex.refl _) rfl
        apply Steps.one (MP.eq _) 9 rfl
        · intro o ho FA x hO hD K hK
          obtain rfl := Option.some.inj ho.symm
          clear ho
          have ev17 : FA.eval (.tmp 17) = _ := hD 7 17 (by kernel_rfl)
          have e17 := (eval_tmp FA 17).symm.trans ev17
          replace ev17 := Lib.hid ev17
          clear hO hD
          go_simp
          exact hK.out _ _ (Ex.refl _) rfl
        apply Steps.one (MP.eq _) 10 rfl
        · intro o ho FA x hO hD K hK
          obtain rfl := Option.some.inj ho.symm
          clear ho
          have e0 := hO 0 (by kernel_rfl)
          simp only [eval_tmp, List.getElem?_toArray, List.getElem?_cons_succ, List.getElem?_cons_zero, Option.getD_some] at e0
          have ev0 := Lib.hid ((eval_tmp FA 0).trans e0)
          have ev18 : FA.eval (.tmp 18) = _ := hD 8 18 (by kernel_rfl)
          have e18 := (eval_tmp FA 18).symm.trans ev18
          replace ev18 := Lib.hid ev18
          first | have ge18 := slot_of e18 | have ge18 := slot_un e18
          clear hO hD
          first | (go_simp; exact hK.out _ _ (Ex.refl _) rfl) | (rcases ge18 with ge18 | ge18 <;> (go_simp; exact hK.out _ _ (Ex.refl _) rfl))
        apply Steps.one (MP.eq _) 11 rfl
        · intro o ho FA x hO hD K hK
          obtain rfl := Option.some.inj ho.symm
          clear ho
          have e4 := hO 4 (by kernel_rfl)
          simp only [eval_tmp, List.getElem?_toArray, List.getElem?_cons_succ, List.getElem?_cons_zero, Option.getD_some] at e4
          have ev4 := Lib.hid ((eval_tmp FA 4).trans e4)
          have ev18 : FA.eval (.tmp 18) = _ := hD 8 18 (by kernel_rfl)
          have e18 := (eval_tmp FA 18).symm.trans ev18
          replace ev18 := Lib.hid ev18
          first | have ge18 := slot_of e18 | have ge18 := slot_un e18
          clear hO hD
          first | (go_simp; exact hK.out _ _ (Ex.refl _) rfl) | (rcases ge18 with ge18 | ge18 <;> (go_simp; exact hK.out _ _ (Ex.refl _) rfl))
        apply Steps.one (MP.eq _) 12 rfl
        · intro o ho FA x hO hD K hK
          obtain rfl := Option.some.inj ho.symm
          clear ho
          have ev19 : FA.eval (.tmp 19) = _ := hD 9 19 (by kernel_rfl)
          have e19 := (eval_tmp FA 19).symm.trans ev19
          replace ev19 := Lib.hid ev19
          have ev20 : FA.eval (.tmp 20) = _ := hD 10 20 (by kernel_rfl)
          have e20 := (eval_tmp FA 20).symm.trans ev20
          replace ev20 := Lib.hid ev20
          have ev18 : FA.eval (.tmp 18) = _ := hD 8 18 (by kernel_rfl)
          have e18 := (eval_tmp FA 18).symm.trans ev18
          replace ev18 := Lib.hid ev18
          first | have ge18 := slot_of e18 | have ge18 := slot_un e18
          clear hO hD
          first | (go_simp; exact hK.out _ _ (Ex.refl _) rfl) | (rcases ge18 with ge18 | ge18 <;> (go_simp; exact hK.out _ _ (Ex.refl _) rfl))
        apply Steps.one (MP.eq _) 13 rfl
        · intro o ho FA x hO hD K hK
          obtain rfl := Option.some.inj ho.symm
          clear ho
          have ev21 : FA.eval (.tmp 21) = _ := hD 11 21 (by kernel_rfl)
          have e21 := (eval_tmp FA 21).symm.trans ev21
          replace ev21 := Lib.hid ev21
          have ev18 : FA.eval (.tmp 18) = _ := hD 8 18 (by kernel_rfl)
          have e18 := (eval_tmp FA 18).symm.trans ev18
          replace ev18 := Lib.hid ev18
          first | have ge18 := slot_of e18 | have ge18 := slot_un e18
          clear hO hD
          first | (go_simp; exact hK.out _ _ (Ex.refl _) rfl) | (rcases ge18 with ge18 | ge18 <;> (go_simp; exact hK.out _ _ (Ex.refl _) rfl))
        apply Steps.one (MP.eq _) 14 rfl
        · intro o ho FA x hO hD K hK
          obtain rfl := Option.some.inj ho.symm
          clear ho
          have ev18 : FA.eval (.tmp 18) = _ := hD 8 18 (by kernel_rfl)
          have e18 := (eval_tmp FA 18).symm.trans ev18
          replace ev18 := Lib.hid ev18
          have ev22 : FA.eval (.tmp 22) = _ := hD 12 22 (by kernel_rfl)
          have e22 := (eval_tmp FA 22).symm.trans ev22
          replace ev22 := Lib.hid ev22
          clear hO hD
          go_simp
          exact hK.out _ _ (Ex.refl _) rfl
        refine Steps.fin_ (fun vs x hp => ?_)
        have p0 : vs 0 = _ := hp 0 (by omega)
        have p1 : vs 1 = _ := hp 1 (by omega)
        have p2 : vs 2 = _ := hp 2 (by omega)
        have p3 : vs 3 = _ := hp 3 (by omega)
        have p4 : vs 4 = _ := hp 4 (by omega)
        have p5 : vs 5 = _ := hp 5 (by omega)
        have p6 : vs 6 = _ := hp 6 (by omega)
        have p7 : vs 7 = _ := hp 7 (by omega)
        have p8 : vs 8 = _ := hp 8 (by omega)
        have p9 : vs 9 = _ := hp 9 (by omega)
        have p10 : vs 10 = _ := hp 10 (by omega)
        have p11 : vs 11 = _ := hp 11 (by omega)
        have p12 : vs 12 = _ := hp 12 (by omega)
        have p13 : vs 13 = _ := hp 13 (by omega)
        clear hp
        simp only [List.take_succ_cons, List.take_zero, List.drop_succ_cons, List.drop_zero, putAll, Nat.zero_add, Nat.reduceAdd, Act.put, List.setIfInBounds_toArray, List.set_cons_zero, List.set_cons_succ, p0, p1, p2, p3, p4, p5, p6, p7, p8, p9, p10, p11, p12, p13]
        clear p0 p1 p2 p3 p4 p5 p6 p7 p8 p9 p10 p11 p12 p13
        clear vs
        have be2 := be.trans ((below_plus wr x.bs x.d).mono be.size)
        go_wp2
        exact ⟨⟨i + 1, by go_num, hif, be2⟩, by simp [intOf]; omega⟩
    · have hv := Lib.hid (show fv = 0 by rw [← HV.out]; unfold frV; rw [if_neg (by omega)])
      have hbb := Lib.hid (show fb = false by rw [← HBB.out]; unfold frB; exact decide_eq_false (by omega))
      have ii : ¬ (i : Int) < 8 := by omega
      clear hi hf8
      go_wp2
      go_ret2
      refine RetV.is_ ?_ be
      rw [hv.out, hbb.out]
      rfl
theorem bodyPost_agg1m {P : Program} {fn : Func} {R : Ending → World → Prop} {a : Act} {w : World} {slot slot2 slot3 ty g : Nat} {d : TypeDesc} {cs : List Value} {u u' : Value} (hfr : fn.results = #[.tmp slot, .cell slot2 ty, .tmp slot3]) (hs : a.tmps.getD slot undef = u) (hs2 : a.tmps.getD slot2 undef = .pointer (some ⟨g, 0, none⟩)) (hs3 : a.tmps.getD slot3 undef = u')
    (hb : w.rangeAt g 0 cs) (hu : P.underlying ty = some d) (hd : d.isRow = true) (hi : (P.info? ty).map (·.size) = some cs.length) (hdf : a.defers = []) (hR : R (.returned (.tuple #[u, .agg cs.toArray, u'])) w) : bodyPost P fn R .ret a w := by
  refine bodyPost_ret (v := .tuple #[u, .agg cs.toArray, u']) ?_ hdf hR
  have h1 := run_loadVar_mid (P := P) w g 0 ty cs d hb hu hd hi
  have hs' : a.tmps[slot]?.getD undef = u := by simpa using hs
  have hs2' : a.tmps[slot2]?.getD undef = .pointer (some ⟨g, 0, none⟩) := by simpa using hs2
  have hs3' : a.tmps[slot3]?.getD undef = u' := by simpa using hs3
  simp [results, hfr, hs', hs2', hs3', asAddr, h1]
theorem stkC_lev0 (S : Stk) (i : Nat) (h : i < S.lv.length) (h8 : i < 8) : (stkC S)[1 + i * 130]? = some (.int .i64 (S.lv[i].1 : Int)) := by
  have := stkC_lev S i h h8 0 (.int .i64 (S.lv[i].1 : Int)) rfl
  simpa using this
theorem stkC_tab (S : Stk) (i : Nat) (h : i < S.lv.length) (h8 : i < 8) : ((stkC S).drop (1 + i * 130 + 1)).take (tabC S.lv[i].2).length = tabC S.lv[i].2 := part_ofS (fun k u hk => by
  have := stkC_lev S i h h8 (k + 1) u (by simpa [levC] using hk)
  rw [show 1 + i * 130 + 1 + k = 1 + i * 130 + (k + 1) by omega]
  exact this)
set_option maxHeartbeats 4000000 in
set_option maxRecDepth 100000 in
theorem newest_yes (S : Stk) (h8 : S.lv.length ≤ 8) (h0 : 0 < S.lv.length) (g : Nat) (w : World) (hS : Bk w g 59 (stkC S)) : Calls Try.prog 60 #[.pointer (some ⟨g, 0, none⟩)] w (RetV w (.tuple #[.int .i64 ((S.lv[S.lv.length - 1]).1 : Nat), .agg (tabC (S.lv[S.lv.length - 1]).2).toArray, .bool true])) := by
  obtain ⟨dvt, vt1, vt2⟩ := rowTab
  have hzv : ∀ w, (zeroValue 54).run Try.prog w = .ok (.agg (tabC []).toArray) w := fun _ => by kernel_rfl
  have hq := stkC_lev0 S (S.lv.length - 1) (by omega) (by omega)
  have hp := stkC_tab S (S.lv.length - 1) (by omega) (by omega)
  obtain ⟨e0, he0⟩ : ∃ e0, S.lv[S.lv.length - 1]'(by omega) = e0 := ⟨_, rfl⟩
  rw [he0] at hq hp ⊢
  clear he0
  obtain ⟨v0, t0⟩ := e0
  simp only [] at hq hp ⊢
  have HL := Lib.hid (fun w h => stkLen_any S h8 g w h)
  obtain ⟨n, hn⟩ : ∃ n, S.lv.length = n + 1 := ⟨S.lv.length - 1, by omega⟩
  rw [hn] at HL h8
  rw [hn, Nat.add_sub_cancel] at hq hp
  clear hn h0
  have hS1 := hS.alloc (.cells (tabC []).toArray 54)
  have b3 : Bk (w.alloc (.cells (tabC []).toArray 54)) w.heap.size 54 (tabC []) := Bk.new w 54 (tabC []).toArray
  have be : Below w.heap.size w (w.alloc (.cells (tabC []).toArray 54)) := Below.allocS (Below.refl _ _) _
  have n0 : ¬ (((n + 1 : Nat) : Int)) = 0 := by omega
  have n8 : (n : Int) < 8 := by omega
  have nw : IntKind.i64.wrap (((n + 1 : Nat) : Int) - 1) = (n : Int) := by rw [IntWalk.i64_in _ (by omega)]; omega
  have nw2 : IntKind.i64.wrap ((n : Int) + 1 - 1) = (n : Int) := by rw [IntWalk.i64_in _ (by omega)]; omega
  go_enter Try.func60, Try.ntmps60
  go_upto_region 1 with (fail)
  generalize w.alloc (.cells (tabC []).toArray 54) = V at *
  go_upto_region 4 with (go_at_call 53; refine (HL.out _ hS1).mono ?_; rintro e w1 ⟨bs1, d1, rfl, rfl⟩)
  replace hS1 := hS1.later (below_plus V bs1 d1)
  replace b3 := b3.later (below_plus V bs1 d1)
  replace be := belowP be bs1 d1
  generalize plus V bs1 d1 = W at *
  go_upto_region 5 with (fail)
  refine wp_relS 9 26 rfl (by kernel_rfl) (by kernel_rfl) ?_
  apply Steps.one (MP.eq _) 1 rfl
  · intro o ho FA x hO hD K hK
    obtain rfl := Option.some.inj ho.symm
    clear ho
    have e6 := hO 6 (by kernel_rfl)
    simp only [eval_tmp, List.getElem?_toArray, List.getElem?_cons_succ, List.getElem?_cons_zero, Option.getD_some] at e6
    have ev6 := Lib.hid ((eval_tmp FA 6).trans e6)
    clear hO hD
    go_simp
    exact hK.out _ _ (Ex.refl _) rfl
  apply Steps.one (MP.eq _) 2 rfl
  · intro o ho FA x hO hD K hK
    obtain rfl := Option.some.inj ho.symm
    clear ho
    have ev18 : FA.eval (.tmp 18) = _ := hD 0 18 (by kernel_rfl)
    have e18 := (eval_tmp FA 18).symm.trans ev18
    replace ev18 := Lib.hid ev18
    clear hO hD
    go_simp
    exact hK.out _ _ (Ex.refl _) rfl
  apply Steps.one (MP.eq _) 3 rfl
  · intro o ho FA x hO hD K hK
    obtain rfl := Option.some.inj ho.symm
    clear ho
    have ev19 : FA.eval (.tmp 19) = _ := hD 1 19 (by kernel_rfl)
    have e19 := (eval_tmp FA 19).symm.trans ev19
    replace ev19 := Lib.hid ev19
    clear hO hD
    go_simp
    exact hK.out _ _ (Ex.refl _) rfl
  apply Steps.one (MP.eq _) 4 rfl
  · intro o ho FA x hO hD K hK
    obtain rfl := Option.some.inj ho.symm
    clear ho
    have ev20 : FA.eval (.tmp 20) = _ := hD 2 20 (by kernel_rfl)
    have e20 := (eval_tmp FA 20).symm.trans ev20
    replace ev20 := Lib.hid ev20
    clear hO hD
    refine wanted_if rfl ?_
    refine wp_ld1 3 (.tmp 20) rfl ev20.out (hS1.later (below_plus _ _ _)) hq Try.underlying3 rfl ?_
    exact hK.out _ _ (Ex.refl _) rfl
  apply Steps.one (MP.eq _) 5 rfl
  · intro o ho FA x hO hD K hK
    obtain rfl := Option.some.inj ho.symm
    clear ho
    have e6 := hO 6 (by kernel_rfl)
    simp only [eval_tmp, List.getElem?_toArray, List.getElem?_cons_succ, List.getElem?_cons_zero, Option.getD_some] at e6
    have ev6 := Lib.hid ((eval_tmp FA 6).trans e6)
    clear hO hD
    go_simp
    exact hK.out _ _ (Ex.refl _) rfl
  apply Steps.one (MP.eq _) 6 rfl
  · intro o ho FA x hO hD K hK
    obtain rfl := Option.some.inj ho.symm
    clear ho
    have ev22 : FA.eval (.tmp 22) = _ := hD 4 22 (by kernel_rfl)
    have e22 := (eval_tmp FA 22).symm.trans ev22
    replace ev22 := Lib.hid ev22
    clear hO hD
    go_simp
    exact hK.out _ _ (Ex.refl _) rfl
  apply Steps.one (MP.eq _) 7 rfl
  · intro o ho FA x hO hD K hK
    obtain rfl := Option.some.inj ho.symm
    clear ho
    have ev23 : FA.eval (.tmp 23) = _ := hD 5 23 (by kernel_rfl)
    have e23 := (eval_tmp FA 23).symm.trans ev23
    replace ev23 := Lib.hid ev23
    clear hO hD
    go_simp
    exact hK.out _ _ (Ex.refl _) rfl
  apply Steps.one (MP.eq _) 8 rfl
  · intro o ho FA x hO hD K hK
    obtain rfl := Option.some.inj ho.symm
    clear ho
    have ev24 : FA.eval (.tmp 24) = _ := hD 6 24 (by kernel_rfl)
    have e24 := (eval_tmp FA 24).symm.trans ev24
    replace ev24 := Lib.hid ev24
    clear hO hD
    refine wanted_if rfl ?_
    refine wp_ldA 54 (.tmp 24) rfl (tabC t0) ev24.out (hS1.later (below_plus _ _ _)) hp vt1 vt2 (by rw [tabC_len0]; kernel_rfl) ?_
    exact hK.out _ _ (Ex.refl _) rfl
  apply Steps.one (MP.eq _) 9 rfl
  · intro o ho FA x hO hD K hK
    obtain rfl := Option.some.inj ho.symm
    clear ho
    have ev21 : FA.eval (.tmp 21) = _ := hD 3 21 (by kernel_rfl)
    have e21 := (eval_tmp FA 21).symm.trans ev21
    replace ev21 := Lib.hid ev21
    clear hO hD
    go_simp
    exact hK.out _ _ (Ex.refl _) rfl
  refine Steps.fin_ (fun vs x hp => ?_)
  have p0 : vs 0 = _ := hp 0 (by omega)
  have p1 : vs 1 = _ := hp 1 (by omega)
  have p2 : vs 2 = _ := hp 2 (by omega)
  have p3 : vs 3 = _ := hp 3 (by omega)
  have p4 : vs 4 = _ := hp 4 (by omega)
  have p5 : vs 5 = _ := hp 5 (by omega)
  have p6 : vs 6 = _ := hp 6 (by omega)
  have p7 : vs 7 = _ := hp 7 (by omega)
  have p8 : vs 8 = _ := hp 8 (by omega)
  clear hp
  simp only [List.take_succ_cons, List.take_zero, List.drop_succ_cons, List.drop_zero, putAll, Nat.zero_add, Nat.reduceAdd, Act.put, List.setIfInBounds_toArray, List.set_cons_zero, List.set_cons_succ, p0, p1, p2, p3, p4, p5, p6, p7, p8]
  clear p0 p1 p2 p3 p4 p5 p6 p7 p8
  clear vs
  go_wp2_with (refine at_op (.store 54 (.tmp 3) (.tmp 25)) rfl ?_; refine wpList_stA (t := 54) 54 (.tmp 3) (.tmp 25) rfl rfl (tabC t0) (tabC []) (by rw [tabC_len0, tabC_len0]) (tabC_one _) rfl rfl (b3.later (below_plus _ _ _)) (by rw [tabC_len0]; kernel_rfl) ?_; intro W4 h4 g4)
  refine bodyPost_agg1m Try.results60 rfl rfl rfl h4.range vt1 vt2 (by rw [tabC_len0]; kernel_rfl) rfl (RetV.mk ?_)
  exact below_grown (belowP be _ _) g4 (Nat.le_refl _)
set_option maxHeartbeats 4000000 in
set_option maxRecDepth 100000 in
theorem newest_no (S : Stk) (h0 : S.lv.length = 0) (g : Nat) (w : World) (hS : Bk w g 59 (stkC S)) : Calls Try.prog 60 #[.pointer (some ⟨g, 0, none⟩)] w (RetV w (.tuple #[.int .i64 0, .agg (tabC []).toArray, .bool false])) := by
  obtain ⟨dvt, vt1, vt2⟩ := rowTab
  have hzv : ∀ w, (zeroValue 54).run Try.prog w = .ok (.agg (tabC []).toArray) w := fun _ => by kernel_rfl
  have hbd : ∀ w, (Instr.build 54 #[]).run Try.prog w = .ok (.agg (tabC []).toArray) w := fun _ => by kernel_rfl
  have HL := Lib.hid (fun w h => stkLen_any S (by omega) g w h)
  rw [h0] at HL
  have hS1 := hS.alloc (.cells (tabC []).toArray 54)
  have b3 : Bk (w.alloc (.cells (tabC []).toArray 54)) w.heap.size 54 (tabC []) := Bk.new w 54 (tabC []).toArray
  have be : Below w.heap.size w (w.alloc (.cells (tabC []).toArray 54)) := Below.allocS (Below.refl _ _) _
  clear h0
  go_enter Try.func60, Try.ntmps60
  go_upto_region 1 with (fail)
  generalize w.alloc (.cells (tabC []).toArray 54) = V at *
  go_upto_region 3 with (go_at_call 53; refine (HL.out _ hS1).mono ?_; rintro e w1 ⟨bs1, d1, rfl, rfl⟩)
  replace b3 := b3.later (below_plus V bs1 d1)
  replace be := belowP be bs1 d1
  generalize plus V bs1 d1 = W at *
  refine wp_region_lit ?_
  refine wpList_build 54 [] rfl rfl (.agg (tabC []).toArray) ?_ ?_
  · exact hbd _
  refine wpList_plain rfl (fun K hK => ?_); go_simp; with_reducible refine hK _ _ ?_; clear hK K
  refine wpList_stA (t := 54) 54 (.tmp 3) (.tmp 11) rfl rfl (tabC []) (tabC []) rfl (tabC_one _) rfl rfl b3 (szTab _ (Nat.zero_le _)) ?_
  intro W4 h4 g4
  refine wpList_plain rfl (fun K hK => ?_); go_simp; with_reducible refine hK _ _ ?_; clear hK K
  go_wp2
  refine bodyPost_agg1m Try.results60 rfl rfl rfl h4.range vt1 vt2 (szTab _ (Nat.zero_le _)) rfl (RetV.mk ?_)
  exact below_grown be g4 (Nat.le_refl _)
end Go.Proofs.Ytepodflinhpejaa

/- A struct built of parts whose cells are abstract. No program in sight. -/
namespace Go.Proofs.Ytepodflinhpejaa
open Go.RowKit
set_option linter.unusedVariables false
set_option linter.unusedSimpArgs false

theorem foldl_zipIdx_set (new : List Value) : ∀ (off k : Nat) (cells : Array Value), off + k + new.length ≤ cells.size →
    (new.zipIdx k).foldl (fun cs (x : Value × Nat) => cs.setIfInBounds (off + x.2) x.1) cells = (splice cells.toList (off + k) new).toArray := by
  induction new with
  | nil => intro off k cells h; simp [splice]
  | cons v r ih =>
    intro off k cells h
    simp only [List.zipIdx_cons, List.foldl_cons]
    rw [ih off (k + 1) _ (by simp only [Array.size_setIfInBounds, List.length_cons] at *; omega)]
    congr 1
    simp only [Array.toList_setIfInBounds]
    have hk : off + k < cells.toList.length := by simp only [List.length_cons, Array.length_toList] at *; omega
    generalize cells.toList = L at *
    unfold splice
    rw [show off + (k + 1) = off + k + 1 by omega, List.take_succ_eq_append_getElem (by rw [List.length_set]; exact hk), List.take_set_of_le (Nat.le_refl _), List.getElem_set_self, List.drop_set_of_lt (by omega)]
    simp [Nat.add_assoc, Nat.add_comm 1]
theorem fill_cons (place : Nat → Option (Nat × Nat)) (cells : List Value) (i : Nat) (v : Value) (rest : List (Nat × Value)) (off size : Nat) (vc : List Value) (hp : place i = some (off, size)) (hv : v.cells = vc.toArray) (hs : vc.length = size) (hl : off + size ≤ cells.length) :
    Instr.fill place cells.toArray ((i, v) :: rest) = Instr.fill place (splice cells off vc).toArray rest := by
  rw [Instr.fill, hp]
  simp only [hv, List.size_toArray, hs]
  rw [if_neg (by simp; omega)]
  congr 1
  have := foldl_zipIdx_set vc off 0 cells.toArray (by simp; omega)
  simpa using this
theorem fill_nil (place : Nat → Option (Nat × Nat)) (cells : Array Value) : Instr.fill place cells [] = some cells := rfl
theorem run_build_struct {P : Program} {w : World} {t : TypeId} {fields : Array Field} {zero : List Value} {places : Array (Nat × Nat)} {parts : List (Nat × Value)} {out : List Value}
    (hz : (zeroValue t).run P w = .ok (.agg zero.toArray) w) (hu : P.underlying t = some (.struct fields)) (hp : (Array.mapM (fun (f : Field) => (do let s ← sizeOf f.type; pure (f.offset, s) : Sem (Nat × Nat))) fields).run P w = .ok places w)
    (hf : Instr.fill (fun x => places[x]?) zero.toArray parts = some out.toArray) : (Instr.build t parts.toArray).run P w = .ok (.agg out.toArray) w := by
  unfold Instr.build
  simp only [Sem.run_bind, hz, Result.andThen_ok, run_underlying hu, hp]
  simp only [Value.cells, hf, Sem.run_pure]
end Go.Proofs.Ytepodflinhpejaa

/- Evict, Admit, Release, add, Push (chapter 15). -/
namespace Go.Proofs.Ytepodflinhpejaa
open Go.RowKit
set_option linter.unusedVariables false
set_option linter.unusedSimpArgs false
attribute [local go_sem ↓] sliced_cut

attribute [local go_sem] cutA_zero

/-- a call changes one stack, and makes memory -/
def RetSt (w : World) (g : Nat) (S : Stk) (v : Value) (e : Ending) (w' : World) : Prop := e = .returned v ∧ Bk w' g 59 (stkC S) ∧ Chg (fun b => b = g) w w'
theorem RetSt.is_ {w w' : World} {g : Nat} {S : Stk} {v v' : Value} (hv : v' = v) (h : Bk w' g 59 (stkC S)) (hc : Chg (fun b => b = g) w w') : RetSt w g S v (.returned v') w' := ⟨by rw [hv], h, hc⟩
theorem stkC_setEv (S : Stk) (x : Nat) : (stkC S).set 1041 (.int .u64 (x : Int)) = stkC { S with ev := x } := by
  have e : levels { S with ev := x } = levels S := rfl
  unfold stkC
  rw [e, List.set_cons_succ, List.set_append_right _ _ (by rw [flat_len levC 130 levC_len, levels_len]; omega), flat_len levC 130 levC_len, levels_len]
  rfl
theorem stkC_setBz (S : Stk) (x : Nat) : (stkC S).set 1042 (.int .u64 (x : Int)) = stkC { S with bz := x } := by
  have e : levels { S with bz := x } = levels S := rfl
  unfold stkC
  rw [e, List.set_cons_succ, List.set_append_right _ _ (by rw [flat_len levC 130 levC_len, levels_len]; omega), flat_len levC 130 levC_len, levels_len]
  rfl
theorem bitB_in (n : Int) (f m : Nat) (h1 : (f : Int) ≤ n) (h2 : n < (f : Int) + m) : bitB n f m = 2 ^ (n - f).toNat := if_pos ⟨h1, h2⟩
theorem bitB_num (n : Int) : (((bitB n 1 64 : Nat) : Int) == 0) = !numB n := by
  unfold bitB numB
  by_cases h : ((1 : Nat) : Int) ≤ n ∧ n < ((1 : Nat) : Int) + (64 : Nat)
  · have h1 : decide (1 ≤ n) = true := decide_eq_true (by omega)
    have h2 : decide (n ≤ 64) = true := decide_eq_true (by omega)
    rw [if_pos h, h1, h2]
    have := Nat.two_pow_pos (n - ((1 : Nat) : Int)).toNat
    simp only [Bool.and_self, Bool.not_true, beq_eq_false_iff_ne]
    omega
  · rw [if_neg h]
    have : (decide (1 ≤ n) && decide (n ≤ 64)) = false := by
      simp only [Bool.and_eq_false_iff, decide_eq_false_iff_not]; omega
    rw [this]; rfl
theorem numB_rg {n : Int} (h : numB n = true) : 1 ≤ n ∧ n ≤ 64 := by simpa [numB] using h
set_option maxHeartbeats 4000000 in
set_option maxRecDepth 100000 in
theorem evict_any (S : Stk) (hok : StkOk S) (g : Nat) (n : Int) (hn : n ≤ 9223372036854775807) (w : World) (hS : Bk w g 59 (stkC S)) : Calls Try.prog 56 #[.pointer (some ⟨g, 0, none⟩), .int .i64 n] w (RetSt w g (eviS S n) (.int .i64 (eviE S n : Nat))) := by
  have HB := Lib.hid (fun w => backendBit_any n hn w)
  have qe : w.cell? ⟨g, 1041, none⟩ = some (.int .u64 (S.ev : Int)) := (hS.cell _).trans (stkC_ev S)
  have hand := u64_and_nat S.ev (bitB n 1 64) hok.ev (bitB_lt n 1 64 (by decide))
  have hor := u64_or_nat S.ev (bitB n 1 64) hok.ev (bitB_lt n 1 64 (by decide))
  have hz := hasB_and S.ev n 1 64
  have hb0 := bitB_num n
  obtain ⟨ES, hES⟩ : ∃ x, eviS S n = x := ⟨_, rfl⟩
  obtain ⟨EE, hEE⟩ : ∃ x, eviE S n = x := ⟨_, rfl⟩
  rw [hES, hEE]
  have HES := Lib.hid hES
  have HEE := Lib.hid hEE
  clear hES hEE
  cases hnb : numB n
  · have he := Lib.hid (show EE = 1 by rw [← HEE.out]; unfold eviE; rw [hnb]; rfl)
    have hs := Lib.hid (show ES = S by rw [← HES.out]; unfold eviS; rw [hnb]; rfl)
    rw [hnb] at hb0
    simp only [Bool.not_false] at hb0
    generalize bitB n 1 64 = B at *
    clear hand hor hz
    go_enter Try.func56, Try.ntmps56
    go_wp2_with (go_at_call 87; refine (HB.out _).mono ?_; rintro e w1 ⟨rfl, rfl⟩)
    go_ret
    exact RetSt.is_ (by rw [he.out]; rfl) (by rw [hs.out]; exact hS) (Chg.refl _)
  · rw [hnb] at hb0
    simp only [Bool.not_true] at hb0
    have hz2 : (((S.ev &&& bitB n 1 64 : Nat) : Int) == 0) = !deadS S n := hz
    cases hd : deadS S n
    · have hr := numB_rg hnb
      have he := Lib.hid (show EE = 0 by rw [← HEE.out]; unfold eviE; rw [hnb, hd]; rfl)
      have hs := Lib.hid (show ES = { S with ev := S.ev ||| bitB n 1 64 } by
        rw [← HES.out, bitB_in n 1 64 (by omega) (by omega)]; unfold eviS; rw [hnb, hd, show n.toNat - 1 = (n - ((1 : Nat) : Int)).toNat by omega]; rfl)
      have hset := Lib.hid (stkC_setEv S (S.ev ||| bitB n 1 64))
      rw [← hs.out] at hset
      rw [hd] at hz2
      simp only [Bool.not_false, Bool.not_true] at hz2
      clear hz hs
      generalize S.ev &&& bitB n 1 64 = Z at *
      generalize S.ev ||| bitB n 1 64 = Y at *
      generalize bitB n 1 64 = B at *
      go_enter Try.func56, Try.ntmps56
      go_upto_region 8 with (go_at_call 87; refine (HB.out _).mono ?_; rintro e w1 ⟨rfl, rfl⟩)
      refine wp_region_lit ?_
      iterate 8 (refine wpList_plain rfl (fun K hK => ?_); go_simp; with_reducible refine hK _ _ ?_; clear hK K)
      refine wpList_st1 22 (.tmp 26) (.tmp 24) rfl rfl rfl rfl hS (by rw [stkC_len]; omega) rfl (by kernel_rfl) ?_
      intro W4 h4 g4
      simp only [Act.put, List.setIfInBounds_toArray, List.set_cons_zero, List.set_cons_succ]
      go_wp2
      go_ret
      exact RetSt.is_ (by rw [he.out]; rfl) (by rw [← hset.out]; exact h4) (Chg.one g4 rfl)
    · have he := Lib.hid (show EE = 7 by rw [← HEE.out]; unfold eviE; rw [hnb, hd]; rfl)
      have hs := Lib.hid (show ES = S by rw [← HES.out]; unfold eviS; rw [hnb, hd]; rfl)
      rw [hd] at hz2
      simp only [Bool.not_false, Bool.not_true] at hz2
      clear hz hor
      generalize S.ev &&& bitB n 1 64 = Z at *
      generalize bitB n 1 64 = B at *
      go_enter Try.func56, Try.ntmps56
      go_wp2_with (go_at_call 87; refine (HB.out _).mono ?_; rintro e w1 ⟨rfl, rfl⟩)
      go_ret
      exact RetSt.is_ (by rw [he.out]; rfl) (by rw [hs.out]; exact hS) (Chg.refl _)
set_option maxHeartbeats 4000000 in
set_option maxRecDepth 100000 in
theorem release_any (S : Stk) (hok : StkOk S) (g : Nat) (n : Int) (hn : n ≤ 9223372036854775807) (w : World) (hS : Bk w g 59 (stkC S)) : Calls Try.prog 52 #[.pointer (some ⟨g, 0, none⟩), .int .i64 n] w (RetSt w g (rlsS S n) (.int .i64 (rlsE S n : Nat))) := by
  have HB := Lib.hid (fun w => versionBit_any n hn w)
  have hbz : S.bz < 18446744073709551616 := by have := hok.bz; omega
  have qe : w.cell? ⟨g, 1042, none⟩ = some (.int .u64 (S.bz : Int)) := (hS.cell _).trans (stkC_bz S)
  have hand := u64_and_nat S.bz (bitB n 0 8) hbz (bitB_lt n 0 8 (by decide))
  have hor := u64_andNot_nat S.bz (bitB n 0 8) hbz (bitB_lt n 0 8 (by decide))
  have hz := hasB_and S.bz n 0 8
  obtain ⟨ES, hES⟩ : ∃ x, rlsS S n = x := ⟨_, rfl⟩
  obtain ⟨EE, hEE⟩ : ∃ x, rlsE S n = x := ⟨_, rfl⟩
  rw [hES, hEE]
  have HES := Lib.hid hES
  have HEE := Lib.hid hEE
  clear hES hEE
  cases hd : hasB S.bz n 0 8
  · have he := Lib.hid (show EE = 6 by rw [← HEE.out]; unfold rlsE; rw [hd]; rfl)
    have hs := Lib.hid (show ES = S by rw [← HES.out]; unfold rlsS; rw [hd]; rfl)
    rw [hd] at hz
    simp only [Bool.not_false, Bool.not_true] at hz
    clear hor
    generalize S.bz &&& bitB n 0 8 = Z at *
    generalize bitB n 0 8 = B at *
    go_enter Try.func52, Try.ntmps52
    go_wp2_with (go_at_call 85; refine (HB.out _).mono ?_; rintro e w1 ⟨rfl, rfl⟩)
    go_ret
    exact RetSt.is_ (by rw [he.out]; rfl) (by rw [hs.out]; exact hS) (Chg.refl _)
  · have hr := hasB_rg hd
    have he := Lib.hid (show EE = 0 by rw [← HEE.out]; unfold rlsE; rw [hd]; rfl)
    have hs := Lib.hid (show ES = { S with bz := S.bz &&& (18446744073709551615 - bitB n 0 8) } by
      rw [← HES.out, bitB_in n 0 8 (by omega) (by omega)]; unfold rlsS clrB; rw [hd, show n.toNat = (n - ((0 : Nat) : Int)).toNat by omega]; rfl)
    have hset := Lib.hid (stkC_setBz S (S.bz &&& (18446744073709551615 - bitB n 0 8)))
    rw [← hs.out] at hset
    rw [hd] at hz
    simp only [Bool.not_false, Bool.not_true] at hz
    clear hs
    generalize S.bz &&& bitB n 0 8 = Z at *
    generalize S.bz &&& (18446744073709551615 - bitB n 0 8) = Y at *
    generalize bitB n 0 8 = B at *
    go_enter Try.func52, Try.ntmps52
    go_upto_region 6 with (go_at_call 85; refine (HB.out _).mono ?_; rintro e w1 ⟨rfl, rfl⟩)
    refine wp_region_lit ?_
    iterate 8 (refine wpList_plain rfl (fun K hK => ?_); go_simp; with_reducible refine hK _ _ ?_; clear hK K)
    refine wpList_st1 22 (.tmp 24) (.tmp 22) rfl rfl rfl rfl hS (by rw [stkC_len]; omega) rfl (by kernel_rfl) ?_
    intro W4 h4 g4
    simp only [Act.put, List.setIfInBounds_toArray, List.set_cons_zero, List.set_cons_succ]
    go_wp2
    go_ret
    exact RetSt.is_ (by rw [he.out]; rfl) (by rw [← hset.out]; exact h4) (Chg.one g4 rfl)
set_option maxHeartbeats 4000000 in
set_option maxRecDepth 100000 in
theorem admit_any (S : Stk) (hok : StkOk S) (g : Nat) (n : Int) (hn : n ≤ 9223372036854775807) (w : World) (hS : Bk w g 59 (stkC S)) : Calls Try.prog 58 #[.pointer (some ⟨g, 0, none⟩), .int .i64 n] w (RetSt w g (admS S n) (.int .i64 (admE S n : Nat))) := by
  have HB := Lib.hid (fun w => backendBit_any n hn w)
  have HE := Lib.hid (fun w h => evicted_any S hok.ev g n hn w h)
  have hev := stkC_ev S
  have hor := u64_andNot_nat S.ev (bitB n 1 64) hok.ev (bitB_lt n 1 64 (by decide))
  obtain ⟨ES, hES⟩ : ∃ x, admS S n = x := ⟨_, rfl⟩
  obtain ⟨EE, hEE⟩ : ∃ x, admE S n = x := ⟨_, rfl⟩
  rw [hES, hEE]
  have HES := Lib.hid hES
  have HEE := Lib.hid hEE
  clear hES hEE
  cases hd : deadS S n
  · have he := Lib.hid (show EE = 6 by rw [← HEE.out]; unfold admE; rw [hd]; rfl)
    have hs := Lib.hid (show ES = S by rw [← HES.out]; unfold admS; rw [hd]; rfl)
    rw [hd] at HE
    go_enter Try.func58, Try.ntmps58
    go_wp2_with (go_at_call 66; refine (HE.out _ hS).mono ?_; rintro e w1 ⟨bs1, d1, rfl, rfl⟩)
    go_ret
    exact RetSt.is_ (by rw [he.out]; rfl) (by rw [hs.out]; exact hS.later (below_plus _ _ _)) (Chg.of_below (below_plus _ _ _))
  · have hr := hasB_rg hd
    have he := Lib.hid (show EE = 0 by rw [← HEE.out]; unfold admE; rw [hd]; rfl)
    have hs := Lib.hid (show ES = { S with ev := S.ev &&& (18446744073709551615 - bitB n 1 64) } by
      rw [← HES.out, bitB_in n 1 64 (by omega) (by omega)]; unfold admS clrB; rw [hd, show n.toNat - 1 = (n - ((1 : Nat) : Int)).toNat by omega]; rfl)
    have hset := Lib.hid (stkC_setEv S (S.ev &&& (18446744073709551615 - bitB n 1 64)))
    rw [← hs.out] at hset
    rw [hd] at HE
    clear hs
    generalize S.ev &&& (18446744073709551615 - bitB n 1 64) = Y at *
    generalize bitB n 1 64 = B at *
    go_enter Try.func58, Try.ntmps58
    go_upto_region 5 with (go_at_call 66; refine (HE.out _ hS).mono ?_; rintro e w1 ⟨bs1, d1, rfl, rfl⟩)
    have be := below_plus w bs1 d1
    replace hS := hS.later be
    generalize plus w bs1 d1 = V at *
    refine wp_relS 7 20 rfl (by kernel_rfl) (by kernel_rfl) ?_
    apply Steps.one (MP.eq _) 1 rfl
    · intro o ho FA x hO hD K hK
      obtain rfl := Option.some.inj ho.symm
      clear ho
      have e0 := hO 0 (by kernel_rfl)
      simp only [eval_tmp, List.getElem?_toArray, List.getElem?_cons_succ, List.getElem?_cons_zero, Option.getD_some] at e0
      have ev0 := Lib.hid ((eval_tmp FA 0).trans e0)
      clear hO hD
      go_simp
      exact hK.out _ _ (Ex.refl _) rfl
    apply Steps.one (MP.eq _) 2 rfl
    · intro o ho FA x hO hD K hK
      obtain rfl := Option.some.inj ho.symm
      clear ho
      have ev11 : FA.eval (.tmp 11) = _ := hD 0 11 (by kernel_rfl)
      have e11 := (eval_tmp FA 11).symm.trans ev11
      replace ev11 := Lib.hid ev11
      clear hO hD
      go_simp
      exact hK.out _ _ (Ex.refl _) rfl
    apply Steps.one (MP.eq _) 3 rfl
    · intro o ho FA x hO hD K hK
      obtain rfl := Option.some.inj ho.symm
      clear ho
      have ev12 : FA.eval (.tmp 12) = _ := hD 1 12 (by kernel_rfl)
      have e12 := (eval_tmp FA 12).symm.trans ev12
      replace ev12 := Lib.hid ev12
      clear hO hD
      go_simp
      exact hK.out _ _ (Ex.refl _) rfl
    apply Steps.one (MP.eq _) 4 rfl
    · intro o ho FA x hO hD K hK
      obtain rfl := Option.some.inj ho.symm
      clear ho
      have ev13 : FA.eval (.tmp 13) = _ := hD 2 13 (by kernel_rfl)
      have e13 := (eval_tmp FA 13).symm.trans ev13
      replace ev13 := Lib.hid ev13
      clear hO hD
      refine wanted_if rfl ?_
      refine wp_ld1 22 (.tmp 13) rfl ev13.out (hS.later (below_plus _ _ _)) hev Try.underlying22 rfl ?_
      exact hK.out _ _ (Ex.refl _) rfl
    apply Steps.one (MP.eq _) 5 rfl
    · intro o ho FA x hO hD K hK
      obtain rfl := Option.some.inj ho.symm
      clear ho
      have e1 := hO 1 (by kernel_rfl)
      simp only [eval_tmp, List.getElem?_toArray, List.getElem?_cons_succ, List.getElem?_cons_zero, Option.getD_some] at e1
      have ev1 := Lib.hid ((eval_tmp FA 1).trans e1)
      clear hO hD
      go_simp
      exact hK.out _ _ (Ex.refl _) rfl
    apply Steps.one (MP.eq _) 6 rfl
    · intro o ho FA x hO hD K hK
      obtain rfl := Option.some.inj ho.symm
      clear ho
      have ev15 : FA.eval (.tmp 15) = _ := hD 4 15 (by kernel_rfl)
      have e15 := (eval_tmp FA 15).symm.trans ev15
      replace ev15 := Lib.hid ev15
      clear hO hD
      go_simp
      refine (HB.out _).mono ?_
      rintro e w1 ⟨rfl, rfl⟩
      exact hK.out _ _ (Ex.refl _) rfl
    apply Steps.one (MP.eq _) 7 rfl
    · intro o ho FA x hO hD K hK
      obtain rfl := Option.some.inj ho.symm
      clear ho
      have ev14 : FA.eval (.tmp 14) = _ := hD 3 14 (by kernel_rfl)
      have e14 := (eval_tmp FA 14).symm.trans ev14
      replace ev14 := Lib.hid ev14
      have ev16 : FA.eval (.tmp 16) = _ := hD 5 16 (by kernel_rfl)
      have e16 := (eval_tmp FA 16).symm.trans ev16
      replace ev16 := Lib.hid ev16
      clear hO hD
      go_simp
      exact hK.out _ _ (Ex.refl _) rfl
    refine Steps.fin_ (fun vs x hp => ?_)
    have p0 : vs 0 = _ := hp 0 (by omega)
    have p1 : vs 1 = _ := hp 1 (by omega)
    have p2 : vs 2 = _ := hp 2 (by omega)
    have p3 : vs 3 = _ := hp 3 (by omega)
    have p4 : vs 4 = _ := hp 4 (by omega)
    have p5 : vs 5 = _ := hp 5 (by omega)
    have p6 : vs 6 = _ := hp 6 (by omega)
    clear hp
    simp only [List.take_succ_cons, List.take_zero, List.drop_succ_cons, List.drop_zero, putAll, Nat.zero_add, Nat.reduceAdd, Act.put, List.setIfInBounds_toArray, List.set_cons_zero, List.set_cons_succ, p0, p1, p2, p3, p4, p5, p6]
    clear p0 p1 p2 p3 p4 p5 p6
    clear vs
    have be2 := be.trans ((below_plus V x.bs x.d).mono be.size)
    go_wp2_with (refine at_op (.store 22 (.tmp 19) (.tmp 17)) rfl ?_; refine wpList_st1 22 (.tmp 19) (.tmp 17) rfl rfl rfl rfl (hS.later (below_plus _ _ _)) (by rw [stkC_len]; omega) rfl (by kernel_rfl) ?_; intro W4 h4 g4)
    go_ret
    exact RetSt.is_ (by rw [he.out]; rfl) (by rw [← hset.out]; exact h4) ((Chg.of_below be2).trans (Chg.one g4 rfl))
theorem levels_snoc (S : Stk) (h : S.lv.length < 8) (e : Nat × Tab) : levels { S with lv := S.lv ++ [e] } = (levels S).set S.lv.length e := by
  unfold levels
  rw [← List.take_set, List.set_append_right _ _ (Nat.le_refl _), Nat.sub_self, List.append_assoc, List.length_append]
  congr 2
  rw [show 8 - S.lv.length = (8 - (S.lv.length + [e].length)) + 1 by simp; omega, List.replicate_succ]
  rfl
theorem stkC_add (S : Stk) (h : S.lv.length < 8) (e : Nat × Tab) : (splice (stkC S) (1 + S.lv.length * 130) (levC e)).set 0 (.int .i64 ((S.lv.length : Int) + 1)) = stkC { S with lv := S.lv ++ [e] } := by
  have hs : S.lv.length < (levels S).length := by rw [levels_len]; exact h
  have hfl : ((levels S).flatMap levC).length = 1040 := by rw [flat_len levC 130 levC_len, levels_len]
  have hsp : splice ((levels S).flatMap levC ++ [.int .u64 (S.ev : Int), .int .u64 (S.bz : Int)]) (S.lv.length * 130) (levC e) = splice ((levels S).flatMap levC) (S.lv.length * 130) (levC e) ++ [.int .u64 (S.ev : Int), .int .u64 (S.bz : Int)] := by
    unfold splice
    rw [List.take_append_of_le_length (by omega), List.drop_append_of_le_length (by rw [levC_len]; omega)]
    simp only [List.append_assoc]
  unfold stkC
  rw [splice_cons, List.set_cons_zero, hsp, flat_splice levC 130 levC_len _ _ hs, levels_snoc S h]
  simp
set_option maxRecDepth 100000 in
theorem run_buildLev (v : Nat) (t : Tab) (w : World) : (Instr.build 56 #[(0, .int .i64 (v : Int)), (1, .agg (tabC t).toArray)]).run Try.prog w = .ok (.agg (levC (v, t)).toArray) w := by
  refine run_build_struct (fields := Try.prog.fieldsOf 56) (zero := levC (0, [])) (places := #[(0, 1), (1, 129)]) (parts := [(0, .int .i64 (v : Int)), (1, .agg (tabC t).toArray)]) (by kernel_rfl) (by kernel_rfl) (by kernel_rfl) ?_
  rw [fill_cons _ _ 0 _ _ 0 1 [.int .i64 (v : Int)] rfl rfl rfl (by rw [levC_len]; omega), fill_cons _ _ 1 _ _ 1 129 (tabC t) rfl rfl (tabC_len0 t) (by rw [length_splice _ _ _ (by rw [levC_len]; simp), levC_len]; decide), fill_nil]
  congr 2
  have hz := tabC_len0 []
  unfold levC splice
  simp only [List.length_cons, List.length_nil, List.take_zero, List.nil_append, Nat.zero_add, List.drop_succ_cons, List.drop_zero, List.cons_append, List.take_succ_cons, tabC_len0]
  rw [List.drop_of_length_le (by simp [hz]), List.append_nil]
theorem wp_buildV {P : Program} {Q : Exit → Act → World → Prop} {o : Oper} {a : Act} {w : World} {K : Act → World → Prop} (ty : TypeId) (ps : List (Nat × Operand)) (ho : o.op = .build ty ps.toArray) (v : Value)
    (hv : (Instr.build ty (ps.map fun p => (p.1, a.eval p.2)).toArray).run P w = .ok v w) (h : K (a.put o.dst v) w) : o.wp P a w K Q := by
  unfold Oper.wp execOp
  simp only [ho, Sem.run_bind, List.map_toArray, hv, Result.andThen_ok, Sem.run_pure]
  exact h
set_option maxHeartbeats 4000000 in
set_option maxRecDepth 100000 in
theorem stkAdd_any (S : Stk) (h8 : S.lv.length < 8) (g : Nat) (v : Nat) (t : Tab) (w : World) (hS : Bk w g 59 (stkC S)) : Calls Try.prog 84 #[.pointer (some ⟨g, 0, none⟩), .int .i64 (v : Int), .agg (tabC t).toArray] w fun e w' => e = .returned (.tuple #[]) ∧ Bk w' g 59 (stkC { S with lv := S.lv ++ [(v, t)] }) ∧ Chg (fun b => b = g) w w' := by
  obtain ⟨dvt, vt1, vt2⟩ := rowTab
  have h0 : (stkC S)[0]? = some (.int .i64 (S.lv.length : Int)) := rfl
  have hset := Lib.hid (stkC_add S h8 (v, t))
  have b5 : Bk (w.alloc (.cells (tabC t).toArray 54)) w.heap.size 54 (tabC t) := Bk.new w 54 (tabC t).toArray
  have be : Below w.heap.size w (w.alloc (.cells (tabC t).toArray 54)) := Below.allocS (Below.refl _ _) _
  have hg := hS.lt
  replace hS := hS.alloc (.cells (tabC t).toArray 54)
  obtain ⟨n, hn⟩ : ∃ n, S.lv.length = n := ⟨_, rfl⟩
  have HN := Lib.hid hn
  rw [hn] at h0 hset h8
  clear hn
  have n8 : (n : Int) < 8 := by omega
  have nw : IntKind.i64.wrap ((n : Int) + 1) = (n : Int) + 1 := IntWalk.i64_in _ (by omega)
  go_enter Try.func84, Try.ntmps84
  go_upto_region 1 with (fail)
  generalize w.alloc (.cells (tabC t).toArray 54) = V at *
  refine wp_relS 11 24 rfl (by kernel_rfl) (by kernel_rfl) ?_
  apply Steps.one (MP.eq _) 1 rfl
  · intro o ho FA x hO hD K hK
    obtain rfl := Option.some.inj ho.symm
    clear ho
    have e0 := hO 0 (by kernel_rfl)
    simp only [eval_tmp, List.getElem?_toArray, List.getElem?_cons_succ, List.getElem?_cons_zero, Option.getD_some] at e0
    have ev0 := Lib.hid ((eval_tmp FA 0).trans e0)
    clear hO hD
    go_simp
    exact hK.out _ _ (Ex.refl _) rfl
  apply Steps.one (MP.eq _) 2 rfl
  · intro o ho FA x hO hD K hK
    obtain rfl := Option.some.inj ho.symm
    clear ho
    have e0 := hO 0 (by kernel_rfl)
    simp only [eval_tmp, List.getElem?_toArray, List.getElem?_cons_succ, List.getElem?_cons_zero, Option.getD_some] at e0
    have ev0 := Lib.hid ((eval_tmp FA 0).trans e0)
    clear hO hD
    go_simp
    exact hK.out _ _ (Ex.refl _) rfl
  apply Steps.one (MP.eq _) 3 rfl
  · intro o ho FA x hO hD K hK
    obtain rfl := Option.some.inj ho.symm
    clear ho
    have ev7 : FA.eval (.tmp 7) = _ := hD 1 7 (by kernel_rfl)
    have e7 := (eval_tmp FA 7).symm.trans ev7
    replace ev7 := Lib.hid ev7
    clear hO hD
    go_simp
    exact hK.out _ _ (Ex.refl _) rfl
  apply Steps.one (MP.eq _) 4 rfl
  · intro o ho FA x hO hD K hK
    obtain rfl := Option.some.inj ho.symm
    clear ho
    have ev8 : FA.eval (.tmp 8) = _ := hD 2 8 (by kernel_rfl)
    have e8 := (eval_tmp FA 8).symm.trans ev8
    replace ev8 := Lib.hid ev8
    clear hO hD
    go_simp
    exact hK.out _ _ (Ex.refl _) rfl
  apply Steps.one (MP.eq _) 5 rfl
  · intro o ho FA x hO hD K hK
    obtain rfl := Option.some.inj ho.symm
    clear ho
    have ev9 : FA.eval (.tmp 9) = _ := hD 3 9 (by kernel_rfl)
    have e9 := (eval_tmp FA 9).symm.trans ev9
    replace ev9 := Lib.hid ev9
    clear hO hD
    refine wanted_if rfl ?_
    refine wp_ld1 3 (.tmp 9) rfl ev9.out (hS.later (below_plus _ _ _)) h0 Try.underlying3 rfl ?_
    exact hK.out _ _ (Ex.refl _) rfl
  apply Steps.one (MP.eq _) 6 rfl
  · intro o ho FA x hO hD K hK
    obtain rfl := Option.some.inj ho.symm
    clear ho
    have e1 := hO 1 (by kernel_rfl)
    simp only [eval_tmp, List.getElem?_toArray, List.getElem?_cons_succ, List.getElem?_cons_zero, Option.getD_some] at e1
    have ev1 := Lib.hid ((eval_tmp FA 1).trans e1)
    clear hO hD
    go_simp
    exact hK.out _ _ (Ex.refl _) rfl
  apply Steps.one (MP.eq _) 7 rfl
  · intro o ho FA x hO hD K hK
    obtain rfl := Option.some.inj ho.symm
    clear ho
    have e5 := hO 5 (by kernel_rfl)
    simp only [eval_tmp, List.getElem?_toArray, List.getElem?_cons_succ, List.getElem?_cons_zero, Option.getD_some] at e5
    have ev5 := Lib.hid ((eval_tmp FA 5).trans e5)
    clear hO hD
    refine wanted_if rfl ?_
    refine wp_ldA 54 (.tmp 5) rfl (tabC t) ev5.out (b5.later (below_plus _ _ _)) (whole_ _) vt1 vt2 (by rw [tabC_len0]; kernel_rfl) ?_
    exact hK.out _ _ (Ex.refl _) rfl
  apply Steps.one (MP.eq _) 8 rfl
  · intro o ho FA x hO hD K hK
    obtain rfl := Option.some.inj ho.symm
    clear ho
    have ev11 : FA.eval (.tmp 11) = _ := hD 5 11 (by kernel_rfl)
    have e11 := (eval_tmp FA 11).symm.trans ev11
    replace ev11 := Lib.hid ev11
    have ev12 : FA.eval (.tmp 12) = _ := hD 6 12 (by kernel_rfl)
    have e12 := (eval_tmp FA 12).symm.trans ev12
    replace ev12 := Lib.hid ev12
    clear hO hD
    refine wanted_if rfl ?_
    refine wp_buildV 56 [(0, .tmp 11), (1, .tmp 12)] rfl (.agg (levC (v, t)).toArray) (by simp only [List.map_cons, List.map_nil, ev11.out, ev12.out]; exact run_buildLev v t _) ?_
    exact hK.out _ _ (Ex.refl _) rfl
  apply Steps.one (MP.eq _) 9 rfl
  · intro o ho FA x hO hD K hK
    obtain rfl := Option.some.inj ho.symm
    clear ho
    have ev6 : FA.eval (.tmp 6) = _ := hD 0 6 (by kernel_rfl)
    have e6 := (eval_tmp FA 6).symm.trans ev6
    replace ev6 := Lib.hid ev6
    clear hO hD
    go_simp
    exact hK.out _ _ (Ex.refl _) rfl
  apply Steps.one (MP.eq _) 10 rfl
  · intro o ho FA x hO hD K hK
    obtain rfl := Option.some.inj ho.symm
    clear ho
    have ev14 : FA.eval (.tmp 14) = _ := hD 8 14 (by kernel_rfl)
    have e14 := (eval_tmp FA 14).symm.trans ev14
    replace ev14 := Lib.hid ev14
    clear hO hD
    go_simp
    exact hK.out _ _ (Ex.refl _) rfl
  apply Steps.one (MP.eq _) 11 rfl
  · intro o ho FA x hO hD K hK
    obtain rfl := Option.some.inj ho.symm
    clear ho
    have ev15 : FA.eval (.tmp 15) = _ := hD 9 15 (by kernel_rfl)
    have e15 := (eval_tmp FA 15).symm.trans ev15
    replace ev15 := Lib.hid ev15
    have ev10 : FA.eval (.tmp 10) = _ := hD 4 10 (by kernel_rfl)
    have e10 := (eval_tmp FA 10).symm.trans ev10
    replace ev10 := Lib.hid ev10
    clear hO hD
    go_simp
    exact hK.out _ _ (Ex.refl _) rfl
  refine Steps.fin_ (fun vs x hp => ?_)
  have p0 : vs 0 = _ := hp 0 (by omega)
  have p1 : vs 1 = _ := hp 1 (by omega)
  have p2 : vs 2 = _ := hp 2 (by omega)
  have p3 : vs 3 = _ := hp 3 (by omega)
  have p4 : vs 4 = _ := hp 4 (by omega)
  have p5 : vs 5 = _ := hp 5 (by omega)
  have p6 : vs 6 = _ := hp 6 (by omega)
  have p7 : vs 7 = _ := hp 7 (by omega)
  have p8 : vs 8 = _ := hp 8 (by omega)
  have p9 : vs 9 = _ := hp 9 (by omega)
  have p10 : vs 10 = _ := hp 10 (by omega)
  clear hp
  simp only [List.take_succ_cons, List.take_zero, List.drop_succ_cons, List.drop_zero, putAll, Nat.zero_add, Nat.reduceAdd, Act.put, List.setIfInBounds_toArray, List.set_cons_zero, List.set_cons_succ, p0, p1, p2, p3, p4, p5, p6, p7, p8, p9, p10]
  clear p0 p1 p2 p3 p4 p5 p6 p7 p8 p9 p10
  clear vs
  have be2 := be.trans ((below_plus V x.bs x.d).mono be.size)
  replace hS := hS.later (below_plus V x.bs x.d)
  clear b5
  generalize plus V x.bs x.d = W at *
  refine wpList_stM (off := 1 + n * 130) 56 (.tmp 16) (.tmp 13) rfl rfl (levC (v, t)) (stkC S) (by rw [stkC_len, levC_len]; omega) (levC_one _) rfl rfl hS (szLev _) ?_
  intro W4 h4 g4
  simp only [Act.put, List.setIfInBounds_toArray, List.set_cons_zero, List.set_cons_succ]
  have q4 : W4.cell? ⟨g, 0, none⟩ = some (.int .i64 (n : Int)) := by
    rw [h4.cell]
    show (splice (.int .i64 (S.lv.length : Int) :: _) (1 + n * 130) (levC (v, t)))[0]? = _
    rw [splice_cons, HN.out]
    rfl
  go_upto_region 2 with (fail)
  refine wp_region_lit ?_
  iterate 7 (refine wpList_plain rfl (fun K hK => ?_); go_simp; with_reducible refine hK _ _ ?_; clear hK K)
  refine wpList_st1 3 (.tmp 23) (.tmp 21) rfl rfl rfl rfl h4 (by rw [length_splice _ _ _ (by rw [stkC_len, levC_len]; omega), stkC_len]; omega) rfl (by kernel_rfl) ?_
  intro W5 h5 g5
  simp only [Act.put, List.setIfInBounds_toArray, List.set_cons_zero, List.set_cons_succ]
  go_wp2
  go_end0
  refine ⟨rfl, ?_, (Chg.of_below be2).trans ((Chg.one (D := fun b => b = g) g4 rfl).trans (Chg.one (D := fun b => b = g) g5 rfl))⟩
  rw [← hset.out]
  exact h5
set_option maxHeartbeats 4000000 in
set_option maxRecDepth 100000 in
theorem push_any (S : Stk) (hok : StkOk S) (g : Nat) (t : Tab) (w : World) (hS : Bk w g 59 (stkC S)) : Calls Try.prog 50 #[.pointer (some ⟨g, 0, none⟩), .agg (tabC t).toArray] w (RetSt w g (pushS S t) (.tuple #[.int .i64 (pushV S : Nat), .int .i64 (pushE S : Nat)])) := by
  obtain ⟨dvt, vt1, vt2⟩ := rowTab
  have HF := Lib.hid (fun w h => free_any S hok g w h)
  obtain ⟨PS, hPS⟩ : ∃ x, pushS S t = x := ⟨_, rfl⟩
  obtain ⟨PV, hPV⟩ : ∃ x, pushV S = x := ⟨_, rfl⟩
  obtain ⟨PE, hPE⟩ : ∃ x, pushE S = x := ⟨_, rfl⟩
  rw [hPS, hPV, hPE]
  have HPS := Lib.hid hPS
  have HPV := Lib.hid hPV
  have HPE := Lib.hid hPE
  clear hPS hPV hPE
  have hlen : freeS S < 8 → S.lv.length < 8 := fun h => by
    rcases Nat.lt_or_ge S.lv.length 8 with h2 | h2
    · exact h2
    · have h3 := (hok.push (t := []) ⟨by simp, by simp⟩).len
      unfold pushS at h3
      rw [if_pos h] at h3
      simp at h3
      omega
  have b3 : Bk (w.alloc (.cells (tabC t).toArray 54)) w.heap.size 54 (tabC t) := Bk.new w 54 (tabC t).toArray
  have be : Below w.heap.size w (w.alloc (.cells (tabC t).toArray 54)) := Below.allocS (Below.refl _ _) _
  replace hS := hS.alloc (.cells (tabC t).toArray 54)
  by_cases hf : freeS S < 8
  · have e1 : frV S = (freeS S : Int) := if_pos hf
    have e2 : frB S = true := decide_eq_true hf
    rw [e1, e2] at HF
    have hs := Lib.hid (show PS = { S with lv := S.lv ++ [(freeS S, t)] } by rw [← HPS.out]; exact if_pos hf)
    have hv := Lib.hid (show PV = freeS S by rw [← HPV.out]; exact if_pos hf)
    have he := Lib.hid (show PE = 0 by rw [← HPE.out]; exact if_pos hf)
    have HA := Lib.hid (fun w h => stkAdd_any S (hlen hf) g (freeS S) t w h)
    generalize freeS S = fv at *
    clear e1 e2 hf hlen
    go_enter Try.func50, Try.ntmps50
    go_upto_region 1 with (fail)
    generalize w.alloc (.cells (tabC t).toArray 54) = V at *
    go_upto_region 6 with (go_at_call 83; refine (HF.out _ hS).mono ?_; rintro e w1 ⟨bs1, d1, rfl, rfl⟩)
    replace hS := hS.later (below_plus V bs1 d1)
    replace b3 := b3.later (below_plus V bs1 d1)
    replace be := belowP be bs1 d1
    generalize plus V bs1 d1 = W at *
    refine wp_region_lit ?_
    iterate 2 (refine wpList_plain rfl (fun K hK => ?_); go_simp; with_reducible refine hK _ _ ?_; clear hK K)
    refine wpList_ldA (t := 54) 54 (.tmp 3) rfl rfl (tabC t) rfl (b3) (whole_ _) vt1 vt2 ((by rw [tabC_len0]; kernel_rfl)) ?_
    refine wpList_plain rfl (fun K hK => ?_)
    go_simp
    refine (HA.out _ hS).mono ?_
    rintro e w2 ⟨rfl, hS2, hc2⟩
    with_reducible refine hK _ _ ?_
    clear hK K
    go_wp2
    go_ret2
    exact RetSt.is_ (by rw [hv.out, he.out]; rfl) (by rw [hs.out]; exact hS2) ((Chg.of_below be).trans hc2)
  · have e1 : frV S = 0 := if_neg hf
    have e2 : frB S = false := decide_eq_false hf
    rw [e1, e2] at HF
    have hs := Lib.hid (show PS = S by rw [← HPS.out]; exact if_neg hf)
    have hv := Lib.hid (show PV = 0 by rw [← HPV.out]; exact if_neg hf)
    have he := Lib.hid (show PE = 23 by rw [← HPE.out]; exact if_neg hf)
    clear e1 e2 hf hlen
    go_enter Try.func50, Try.ntmps50
    go_upto_region 1 with (fail)
    generalize w.alloc (.cells (tabC t).toArray 54) = V at *
    go_wp2_with (go_at_call 83; refine (HF.out _ hS).mono ?_; rintro e w1 ⟨bs1, d1, rfl, rfl⟩)
    go_ret2
    exact RetSt.is_ (by rw [hv.out, he.out]; rfl) (by rw [hs.out]; exact hS.later (below_plus _ _ _)) (Chg.of_below (belowP be _ _))
end Go.Proofs.Ytepodflinhpejaa

/- Retire, Find (chapter 15). -/
namespace Go.Proofs.Ytepodflinhpejaa
open Go.RowKit
set_option linter.unusedVariables false
set_option linter.unusedSimpArgs false
attribute [local go_sem ↓] sliced_cut

attribute [local go_sem] cutA_zero

theorem wpList_copyS {P : Program} {w : World} {ops : Array Oper} {rest : List Oper} {o : Oper} {a : Act} {Q : Exit → Act → World → Prop} (hgd : o.guard = none) (d s : Operand) (dT sT : TypeId)
    (ho : o.op = .call { callee := .builtin .copy, args := #[d, s], argTypes := #[dT, sT] }) (e : TypeId) (sz : Nat) (hu : P.underlying dT = some (.slice e)) (hsz : (P.info? e).map (·.size) = some sz)
    {g off dLen dCap : Nat} {ad : Addr} {sLen sCap : Nat} (hd : a.eval d = .slice (some ⟨g, off, none⟩) dLen dCap) (hs : a.eval s = .slice (some ad) sLen sCap) {cur : List Value} {t : TypeId} (hb : Bk w g t cur) (cs : List Value) (hn : cs.length = Nat.min sLen dLen * sz)
    (hsrc : ∀ j v, cs[j]? = some v → w.cell? (ad.add j) = some v) (hfit : off + cs.length ≤ cur.length) (h1 : ∀ v ∈ cs, v.oneCell' = true)
    (h : ∀ w', Bk w' g t (splice cur off cs) → w.grownBy w' (some g) → wpList P ops Q rest (a.put o.dst (goInt (Nat.min sLen dLen))) w') : wpList P ops Q (o :: rest) a w := by
  refine wpList_plain hgd fun K hK => ?_
  have hl := run_firstCells_some (P := P) w sz (Nat.min sLen dLen) ad sLen sCap cs hn hsrc
  have hst := run_storeCells_at P g off t cs 0 cur.toArray w hb (by simpa using hfit) h1
  have hrun : (Builtin.copy_ #[dT, sT] o.type #[.slice (some ⟨g, off, none⟩) dLen dCap, .slice (some ad) sLen sCap]).run P w = .ok (goInt (Nat.min sLen dLen)) (w.setRow g (splice cur off cs).toArray) := by
    cases hq : P.info? e with
    | none => simp [hq] at hsz
    | some i =>
      have hi : i.size = sz := by simpa [hq] using hsz
      simp only [Builtin.copy_, Sem.run_bind, run_underlying hu, Builtin.lenOf, sizeOf, typeInfo, hq, hi, Result.andThen_ok, Sem.run_pure, List.getElem?_toArray, List.getElem?_cons_zero, List.getElem?_cons_succ, hl]
      simp [hq, hi, hl, hst, splice]
  unfold Oper.wp execOp
  simp only [ho, resolve, invoke, builtin, Sem.run_bind, Sem.run_pure, Result.andThen_ok, List.map_toArray, List.map_cons, List.map_nil, hd, hs, hrun]
  refine hK _ _ (h _ ?_ ⟨rfl, rfl, rfl, by simp [World.setRow], fun k hk hne => setRow_other w g k _ (fun e => hne (by rw [e]))⟩)
  exact setRow_heap w g _ _ t _ hb
theorem flat_splices {X : Type} (enc : X → List Value) (s : Nat) (hs : ∀ x, (enc x).length = s) (L M : List X) (i : Nat) : splice (L.flatMap enc) (i * s) (M.flatMap enc) = (L.take i ++ (M ++ L.drop (i + M.length))).flatMap enc := by
  unfold splice
  rw [flat_take enc s hs, flat_len enc s hs, ← Nat.add_mul, flat_drop enc s hs, List.flatMap_append, List.flatMap_append]
theorem splice_app (A B new : List Value) (o : Nat) (h : o + new.length ≤ A.length) : splice (A ++ B) o new = splice A o new ++ B := by
  unfold splice
  rw [List.take_append_of_le_length (by omega), List.drop_append_of_le_length h]
  simp only [List.append_assoc]
theorem stkC_retire (S : Stk) (h8 : S.lv.length ≤ 8) (i n : Nat) (hn : S.lv.length = n + 1) (hi : i < n) : splice ((splice (stkC S) (1 + i * 130) ((S.lv.drop (i + 1)).flatMap levC)).set 0 (.int .i64 (n : Int))) (1 + n * 130) (levC (0, [])) = stkC { S with lv := S.lv.eraseIdx i } := by
  have hL : (levels S).length = 8 := levels_len S
  have hfl : ((levels S).flatMap levC).length = 1040 := by rw [flat_len levC 130 levC_len, hL]
  have hdl : ((S.lv.drop (i + 1)).flatMap levC).length = (n - i) * 130 := by rw [flat_len levC 130 levC_len, List.length_drop, hn]; congr 1; omega
  have hml : (S.lv.drop (i + 1)).length = n - i := by rw [List.length_drop]; omega
  have hlen : ((levels S).take i ++ (S.lv.drop (i + 1) ++ (levels S).drop (i + (n - i)))).length = 8 := by simp [hL, hml]; omega
  have hb : i * 130 + (n - i) * 130 ≤ 1040 := by rw [← Nat.add_mul]; omega
  unfold stkC
  rw [splice_cons, List.set_cons_zero, splice_cons, splice_app _ _ _ _ (by rw [hdl, hfl]; exact hb), flat_splices levC 130 levC_len, hml, splice_app _ _ _ _ (by rw [flat_len levC 130 levC_len, hlen, levC_len]; omega),
    flat_splice levC 130 levC_len _ _ (by rw [hlen]; omega)]
  have e1 : (S.lv.eraseIdx i).length = n := by rw [List.length_eraseIdx_of_lt (by omega), hn]; rfl
  have e2 : ((levels S).take i ++ (S.lv.drop (i + 1) ++ (levels S).drop (i + (n - i)))).set n (0, []) = levels { S with lv := S.lv.eraseIdx i } := by
    have hlv : levels S = S.lv ++ List.replicate (8 - (n + 1)) (0, []) := by
      unfold levels
      rw [hn, List.take_of_length_le (by simp [hn]; omega)]
    have hlv2 : levels { S with lv := S.lv.eraseIdx i } = S.lv.eraseIdx i ++ List.replicate (8 - n) (0, []) := by
      unfold levels
      simp only [e1]
      rw [List.take_of_length_le (by simp [e1]; omega)]
    rw [hlv2, hlv, List.take_append_of_le_length (by omega), show i + (n - i) = n by omega, List.drop_append_of_le_length (by omega), ← List.append_assoc, ← List.eraseIdx_eq_take_drop_succ, List.set_append_right _ _ (by rw [e1]; exact Nat.le_refl _), e1, Nat.sub_self,
      List.drop_eq_getElem_cons (by omega), List.drop_of_length_le (by omega), show 8 - n = (8 - (n + 1)) + 1 by omega, List.replicate_succ]
    rfl
  rw [e2, e1]
theorem levels_eq (S : Stk) (h8 : S.lv.length ≤ 8) : levels S = S.lv ++ List.replicate (8 - S.lv.length) (0, []) := by
  unfold levels
  rw [List.take_of_length_le (by simp; omega)]
theorem stkC_drop (S : Stk) (h8 : S.lv.length ≤ 8) (j : Nat) (hj : j ≤ S.lv.length) (q : Nat) (u : Value) (h : ((S.lv.drop j).flatMap levC)[q]? = some u) : (stkC S)[1 + j * 130 + q]? = some u := by
  have e : S.lv.flatMap levC = (S.lv.take j).flatMap levC ++ (S.lv.drop j).flatMap levC := by rw [← List.flatMap_append, List.take_append_drop]
  have hl : ((S.lv.take j).flatMap levC).length = j * 130 := by rw [flat_len levC 130 levC_len, List.length_take]; congr 1; omega
  have hq := (List.getElem?_eq_some_iff.1 h).1
  unfold stkC
  rw [levels_eq S h8, List.flatMap_append, e, show 1 + j * 130 + q = (j * 130 + q) + 1 by omega, List.getElem?_cons_succ, List.append_assoc, List.append_assoc, List.getElem?_append_right (by omega), hl, Nat.add_sub_cancel_left, List.getElem?_append_left hq]
  exact h
set_option maxHeartbeats 4000000 in
set_option maxRecDepth 100000 in
theorem retire_any (S : Stk) (hok : StkOk S) (g : Nat) (v : Int) (hv : v ≤ 9223372036854775807) (w : World) (hS : Bk w g 59 (stkC S)) : Calls Try.prog 51 #[.pointer (some ⟨g, 0, none⟩), .int .i64 v] w (RetSt w g (retS S v) (.int .i64 (retE S v : Nat))) := by
  have h8 := hok.len
  have HI := Lib.hid (fun w h => index_any S h8 g v w h)
  obtain ⟨ES, hES⟩ : ∃ x, retS S v = x := ⟨_, rfl⟩
  obtain ⟨EE, hEE⟩ : ∃ x, retE S v = x := ⟨_, rfl⟩
  rw [hES, hEE]
  have HES := Lib.hid hES
  have HEE := Lib.hid hEE
  clear hES hEE
  by_cases hl : idxS S v < S.lv.length
  · have hix : ixS S v = (idxS S v : Int) := if_pos hl
    rw [hix] at HI
    obtain ⟨n, hn⟩ : ∃ n, S.lv.length = n + 1 := ⟨S.lv.length - 1, by omega⟩
    have q0 : w.cell? ⟨g, 0, none⟩ = some (.int .i64 ((n + 1 : Nat) : Int)) := by rw [hS.cell, ← hn]; rfl
    have nw : IntKind.i64.wrap (((n + 1 : Nat) : Int) - 1) = (n : Int) := by rw [IntWalk.i64_in _ (by omega)]; omega
    have nw2 : IntKind.i64.wrap ((n : Int) + 1 - 1) = (n : Int) := by rw [IntWalk.i64_in _ (by omega)]; omega
    by_cases hl2 : idxS S v + 1 < S.lv.length
    · have hbit := Lib.hid (show retS S v = { { S with lv := S.lv.eraseIdx (idxS S v) } with bz := S.bz ||| bitB v 0 8 } by
        have hat := idxS_at hl
        have h9 := (hok.rg _ (List.getElem_mem hl)).1
        rw [bitB_in v 0 8 (by omega) (by omega)]
        unfold retS
        rw [if_pos hl2, show v.toNat = (v - ((0 : Nat) : Int)).toNat by omega])
      have he := Lib.hid (show EE = 0 by rw [← HEE.out]; unfold retE; rw [if_pos hl2])
      have hret := Lib.hid (fun i (h : i < n) => stkC_retire S h8 i n hn h)
      have hlev := Lib.hid (fun i h h8 k u hk => stkC_lev S i h h8 k u hk)
      have hset := Lib.hid (stkC_setBz { S with lv := S.lv.eraseIdx (idxS S v) } (S.bz ||| bitB v 0 8))
      have hbz8 : S.bz < 18446744073709551616 := by have := hok.bz; omega
      have hor := u64_or_nat S.bz (bitB v 0 8) hbz8 (bitB_lt v 0 8 (by decide))
      have HB := Lib.hid (fun w => versionBit_any v hv w)
      have hbz := stkC_bz { S with lv := S.lv.eraseIdx (idxS S v) }
      simp only [] at hbz
      rw [HES.out] at hbit
      clear HES HEE hix
      generalize S.bz ||| bitB v 0 8 = Y at *
      generalize bitB v 0 8 = B at *
      have hb8 := hok.bz
      generalize idxS S v = i at *
      have i0 : ¬ (i : Int) < 0 := by omega
      have i1 : ((i : Int) == (n : Int)) = false := by simp; omega
      have i8 : (i : Int) ≤ 8 := by omega
      have i8' : ¬ 8 = i := by omega
      obtain ⟨j, hj⟩ : ∃ j, j = i + 1 := ⟨_, rfl⟩
      obtain ⟨m, hm⟩ : ∃ m, m = n + 1 := ⟨_, rfl⟩
      have HJ := Lib.hid hj
      have HM := Lib.hid hm
      have ji : (i : Int) + 1 = (j : Int) := by omega
      have mi : (n : Int) + 1 = (m : Int) := by omega
      have i9 : (j : Int) ≤ (m : Int) := by omega
      have i10 : (m : Int) ≤ 8 := by omega
      have i8j : ¬ 8 = j := by omega
      have i8m : j ≤ m := by omega
      have i1' : ((i : Int) == (m : Int) - 1) = false := by simp; omega
      have wj : IntKind.i64.wrap (j : Int) = (j : Int) := IntWalk.i64_in _ (by omega)
      clear hj hm
      have h0 : (stkC S)[0]? = some (.int .i64 (m : Int)) := by rw [HM.out, ← hn]; rfl
      clear hok q0
      go_enter Try.func51, Try.ntmps51
      go_upto_region 4 with (go_at_call 64; refine (HI.out _ hS).mono ?_; rintro e w1 ⟨bs1, d1, rfl, rfl⟩)
      have be := below_plus w bs1 d1
      replace hS := hS.later be
      clear HI
      generalize plus w bs1 d1 = V at *
      have q1 : V.cell? ⟨g, 0, none⟩ = some (.int .i64 (m : Int)) := by rw [hS.cell]; exact h0
      go_upto_region 8 with (fail)
      clear q1
      refine wp_relS 15 61 rfl (by kernel_rfl) (by kernel_rfl) ?_
      apply Steps.one (MP.eq _) 1 rfl
      · intro o ho FA x hO hD K hK
        obtain rfl := Option.some.inj ho.symm
        clear ho
        have e0 := hO 0 (by kernel_rfl)
        simp only [eval_tmp, List.getElem?_toArray, List.getElem?_cons_succ, List.getElem?_cons_zero, Option.getD_some] at e0
        have ev0 := Lib.hid ((eval_tmp FA 0).trans e0)
        clear hO hD
        go_simp
        exact hK.out _ _ (Ex.refl _) rfl
      apply Steps.one (MP.eq _) 2 rfl
      · intro o ho FA x hO hD K hK
        obtain rfl := Option.some.inj ho.symm
        clear ho
        have ev20 : FA.eval (.tmp 20) = _ := hD 0 20 (by kernel_rfl)
        have e20 := (eval_tmp FA 20).symm.trans ev20
        replace ev20 := Lib.hid ev20
        clear hO hD
        go_simp
        exact hK.out _ _ (Ex.refl _) rfl
      apply Steps.one (MP.eq _) 3 rfl
      · intro o ho FA x hO hD K hK
        obtain rfl := Option.some.inj ho.symm
        clear ho
        have ev21 : FA.eval (.tmp 21) = _ := hD 1 21 (by kernel_rfl)
        have e21 := (eval_tmp FA 21).symm.trans ev21
        replace ev21 := Lib.hid ev21
        clear hO hD
        go_simp
        exact hK.out _ _ (Ex.refl _) rfl
      apply Steps.one (MP.eq _) 4 rfl
      · intro o ho FA x hO hD K hK
        obtain rfl := Option.some.inj ho.symm
        clear ho
        have e5 := hO 5 (by kernel_rfl)
        simp only [eval_tmp, List.getElem?_toArray, List.getElem?_cons_succ, List.getElem?_cons_zero, Option.getD_some] at e5
        have ev5 := Lib.hid ((eval_tmp FA 5).trans e5)
        clear hO hD
        go_simp
        exact hK.out _ _ (Ex.refl _) rfl
      apply Steps.one (MP.eq _) 5 rfl
      · intro o ho FA x hO hD K hK
        obtain rfl := Option.some.inj ho.symm
        clear ho
        have ev22 : FA.eval (.tmp 22) = _ := hD 2 22 (by kernel_rfl)
        have e22 := (eval_tmp FA 22).symm.trans ev22
        replace ev22 := Lib.hid ev22
        have ev23 : FA.eval (.tmp 23) = _ := hD 3 23 (by kernel_rfl)
        have e23 := (eval_tmp FA 23).symm.trans ev23
        replace ev23 := Lib.hid ev23
        clear hO hD
        go_simp
        exact hK.out _ _ (Ex.refl _) rfl
      apply Steps.one (MP.eq _) 6 rfl
      · intro o ho FA x hO hD K hK
        obtain rfl := Option.some.inj ho.symm
        clear ho
        have e0 := hO 0 (by kernel_rfl)
        simp only [eval_tmp, List.getElem?_toArray, List.getElem?_cons_succ, List.getElem?_cons_zero, Option.getD_some] at e0
        have ev0 := Lib.hid ((eval_tmp FA 0).trans e0)
        clear hO hD
        go_simp
        exact hK.out _ _ (Ex.refl _) rfl
      apply Steps.one (MP.eq _) 7 rfl
      · intro o ho FA x hO hD K hK
        obtain rfl := Option.some.inj ho.symm
        clear ho
        have ev25 : FA.eval (.tmp 25) = _ := hD 5 25 (by kernel_rfl)
        have e25 := (eval_tmp FA 25).symm.trans ev25
        replace ev25 := Lib.hid ev25
        clear hO hD
        go_simp
        exact hK.out _ _ (Ex.refl _) rfl
      apply Steps.one (MP.eq _) 8 rfl
      · intro o ho FA x hO hD K hK
        obtain rfl := Option.some.inj ho.symm
        clear ho
        have ev26 : FA.eval (.tmp 26) = _ := hD 6 26 (by kernel_rfl)
        have e26 := (eval_tmp FA 26).symm.trans ev26
        replace ev26 := Lib.hid ev26
        clear hO hD
        go_simp
        exact hK.out _ _ (Ex.refl _) rfl
      apply Steps.one (MP.eq _) 9 rfl
      · intro o ho FA x hO hD K hK
        obtain rfl := Option.some.inj ho.symm
        clear ho
        have e5 := hO 5 (by kernel_rfl)
        simp only [eval_tmp, List.getElem?_toArray, List.getElem?_cons_succ, List.getElem?_cons_zero, Option.getD_some] at e5
        have ev5 := Lib.hid ((eval_tmp FA 5).trans e5)
        clear hO hD
        go_simp
        exact hK.out _ _ (Ex.refl _) rfl
      apply Steps.one (MP.eq _) 10 rfl
      · intro o ho FA x hO hD K hK
        obtain rfl := Option.some.inj ho.symm
        clear ho
        have ev28 : FA.eval (.tmp 28) = _ := hD 8 28 (by kernel_rfl)
        have e28 := (eval_tmp FA 28).symm.trans ev28
        replace ev28 := Lib.hid ev28
        clear hO hD
        go_simp
        exact hK.out _ _ (Ex.refl _) rfl
      apply Steps.one (MP.eq _) 11 rfl
      · intro o ho FA x hO hD K hK
        obtain rfl := Option.some.inj ho.symm
        clear ho
        have e0 := hO 0 (by kernel_rfl)
        simp only [eval_tmp, List.getElem?_toArray, List.getElem?_cons_succ, List.getElem?_cons_zero, Option.getD_some] at e0
        have ev0 := Lib.hid ((eval_tmp FA 0).trans e0)
        clear hO hD
        go_simp
        exact hK.out _ _ (Ex.refl _) rfl
      apply Steps.one (MP.eq _) 12 rfl
      · intro o ho FA x hO hD K hK
        obtain rfl := Option.some.inj ho.symm
        clear ho
        have ev30 : FA.eval (.tmp 30) = _ := hD 10 30 (by kernel_rfl)
        have e30 := (eval_tmp FA 30).symm.trans ev30
        replace ev30 := Lib.hid ev30
        clear hO hD
        go_simp
        exact hK.out _ _ (Ex.refl _) rfl
      apply Steps.one (MP.eq _) 13 rfl
      · intro o ho FA x hO hD K hK
        obtain rfl := Option.some.inj ho.symm
        clear ho
        have ev31 : FA.eval (.tmp 31) = _ := hD 11 31 (by kernel_rfl)
        have e31 := (eval_tmp FA 31).symm.trans ev31
        replace ev31 := Lib.hid ev31
        clear hO hD
        go_simp
        exact hK.out _ _ (Ex.refl _) rfl
      apply Steps.one (MP.eq _) 14 rfl
      · intro o ho FA x hO hD K hK
        obtain rfl := Option.some.inj ho.symm
        clear ho
        have ev32 : FA.eval (.tmp 32) = _ := hD 12 32 (by kernel_rfl)
        have e32 := (eval_tmp FA 32).symm.trans ev32
        replace ev32 := Lib.hid ev32
        clear hO hD
        refine wanted_if rfl ?_
        refine wp_ld1 3 (.tmp 32) rfl ev32.out (hS.later (below_plus _ _ _)) h0 Try.underlying3 rfl ?_
        exact hK.out _ _ (Ex.refl _) rfl
      apply Steps.one (MP.eq _) 15 rfl
      · intro o ho FA x hO hD K hK
        obtain rfl := Option.some.inj ho.symm
        clear ho
        have ev27 : FA.eval (.tmp 27) = _ := hD 7 27 (by kernel_rfl)
        have e27 := (eval_tmp FA 27).symm.trans ev27
        replace ev27 := Lib.hid ev27
        have ev29 : FA.eval (.tmp 29) = _ := hD 9 29 (by kernel_rfl)
        have e29 := (eval_tmp FA 29).symm.trans ev29
        replace ev29 := Lib.hid ev29
        have ev33 : FA.eval (.tmp 33) = _ := hD 13 33 (by kernel_rfl)
        have e33 := (eval_tmp FA 33).symm.trans ev33
        replace ev33 := Lib.hid ev33
        clear hO hD
        go_simp
        exact hK.out _ _ (Ex.refl _) rfl
      refine Steps.fin_ (fun vs x hp => ?_)
      have p0 : vs 0 = _ := hp 0 (by omega)
      have p1 : vs 1 = _ := hp 1 (by omega)
      have p2 : vs 2 = _ := hp 2 (by omega)
      have p3 : vs 3 = _ := hp 3 (by omega)
      have p4 : vs 4 = _ := hp 4 (by omega)
      have p5 : vs 5 = _ := hp 5 (by omega)
      have p6 : vs 6 = _ := hp 6 (by omega)
      have p7 : vs 7 = _ := hp 7 (by omega)
      have p8 : vs 8 = _ := hp 8 (by omega)
      have p9 : vs 9 = _ := hp 9 (by omega)
      have p10 : vs 10 = _ := hp 10 (by omega)
      have p11 : vs 11 = _ := hp 11 (by omega)
      have p12 : vs 12 = _ := hp 12 (by omega)
      have p13 : vs 13 = _ := hp 13 (by omega)
      have p14 : vs 14 = _ := hp 14 (by omega)
      clear hp
      simp only [List.take_succ_cons, List.take_zero, List.drop_succ_cons, List.drop_zero, putAll, Nat.zero_add, Nat.reduceAdd, Act.put, List.setIfInBounds_toArray, List.set_cons_zero, List.set_cons_succ, p0, p1, p2, p3, p4, p5, p6, p7, p8, p9, p10, p11, p12, p13, p14]
      clear p0 p1 p2 p3 p4 p5 p6 p7 p8 p9 p10 p11 p12 p13 p14
      clear vs
      have b1 := below_plus V x.bs x.d
      replace hS := hS.later b1
      replace be := be.trans (b1.mono be.size)
      clear b1
      generalize plus V x.bs x.d = W at *
      have hmin : Nat.min (m - j) (8 - i) = n - i := by
        have e : Nat.min (m - j) (8 - i) = min (m - j) (8 - i) := rfl
        have e1 := HJ.out
        have e2 := HM.out
        omega
      have hdl : ((S.lv.drop j).flatMap levC).length = Nat.min (m - j) (8 - i) * 130 := by
        rw [flat_len levC 130 levC_len, List.length_drop, hn, hmin, HJ.out]
        congr 1
        omega
      have hfit : 1 + i * 130 + ((S.lv.drop j).flatMap levC).length ≤ (stkC S).length := by
        rw [hdl, stkC_len, hmin, Nat.add_assoc, ← Nat.add_mul]
        omega
      refine wpList_copyS rfl (.tmp 24) (.tmp 34) 150 150 rfl 56 130 Try.underlying150 (by kernel_rfl) (g := g) (off := 1 + i * 130) (ad := ⟨g, 1 + j * 130, none⟩) rfl rfl hS ((S.lv.drop j).flatMap levC) hdl ?_ hfit (flat_one levC levC_one _) ?_
      · intro q u hu
        rw [add_plain, hS.cell]
        exact stkC_drop S h8 j (by have := HJ.out; omega) q u hu
      intro W4 h4 g4
      simp only [Act.put, List.setIfInBounds_toArray, List.set_cons_zero, List.set_cons_succ]
      have hj := HJ.out
      have hm := HM.out
      have hl4 : (splice (stkC S) (1 + i * 130) ((S.lv.drop j).flatMap levC)).length = 1043 := by rw [length_splice _ _ _ hfit, stkC_len]
      have q4 : W4.cell? ⟨g, 0, none⟩ = some (.int .i64 (m : Int)) := by
        rw [h4.cell]
        show (splice (Value.int .i64 (S.lv.length : Int) :: _) (1 + i * 130) _)[0]? = _
        rw [splice_cons, hn, ← hm]
        rfl
      have nwm : IntKind.i64.wrap ((m : Int) - 1) = (n : Int) := by rw [IntWalk.i64_in _ (by omega)]; omega
      have hr2 := hret.out i (by omega)
      rw [← hj] at hr2
      generalize splice (stkC S) (1 + i * 130) ((S.lv.drop j).flatMap levC) = C4 at *
      clear hfit hdl hmin hj hm
      go_upto_region 9 with (fail)
      refine wp_region_lit ?_
      iterate 7 (refine wpList_plain rfl (fun K hK => ?_); go_simp; with_reducible refine hK _ _ ?_; clear hK K)
      refine wpList_st1 3 (.tmp 42) (.tmp 40) rfl rfl rfl rfl h4 (by rw [hl4]; omega) rfl (by kernel_rfl) ?_
      intro W5 h5 g5
      simp only [Act.put, List.setIfInBounds_toArray, List.set_cons_zero, List.set_cons_succ]
      replace h5 : Bk W5 g 59 (C4.set 0 (.int .i64 (n : Int))) := h5
      have c5 : Chg (fun b => b = g) w W5 := (Chg.of_below be).trans ((Chg.one (D := fun b => b = g) g4 rfl).trans (Chg.one (D := fun b => b = g) g5 rfl))
      have q5 : (C4.set 0 (.int .i64 (n : Int)))[0]? = some (.int .i64 (n : Int)) := by
        rw [List.getElem?_set_self (by omega)]
      have hl5 : (C4.set 0 (.int .i64 (n : Int))).length = 1043 := by rw [List.length_set, hl4]
      generalize C4.set 0 (.int .i64 (n : Int)) = C5 at *
      clear q4 h4 g4 g5 hS be
      have n8 : (n : Int) < 8 := by omega
      have hbd : ∀ w, (Instr.build 56 #[]).run Try.prog w = .ok (.agg (levC (0, [])).toArray) w := fun _ => by kernel_rfl
      go_upto_region 10 with (fail)
      refine wp_relS 9 61 rfl (by kernel_rfl) (by kernel_rfl) ?_
      apply Steps.one (MP.eq _) 1 rfl
      · intro o ho FA x hO hD K hK
        obtain rfl := Option.some.inj ho.symm
        clear ho
        have e0 := hO 0 (by kernel_rfl)
        simp only [eval_tmp, List.getElem?_toArray, List.getElem?_cons_succ, List.getElem?_cons_zero, Option.getD_some] at e0
        have ev0 := Lib.hid ((eval_tmp FA 0).trans e0)
        clear hO hD
        go_simp
        exact hK.out _ _ (Ex.refl _) rfl
      apply Steps.one (MP.eq _) 2 rfl
      · intro o ho FA x hO hD K hK
        obtain rfl := Option.some.inj ho.symm
        clear ho
        have e0 := hO 0 (by kernel_rfl)
        simp only [eval_tmp, List.getElem?_toArray, List.getElem?_cons_succ, List.getElem?_cons_zero, Option.getD_some] at e0
        have ev0 := Lib.hid ((eval_tmp FA 0).trans e0)
        clear hO hD
        go_simp
        exact hK.out _ _ (Ex.refl _) rfl
      apply Steps.one (MP.eq _) 3 rfl
      · intro o ho FA x hO hD K hK
        obtain rfl := Option.some.inj ho.symm
        clear ho
        have ev44 : FA.eval (.tmp 44) = _ := hD 1 44 (by kernel_rfl)
        have e44 := (eval_tmp FA 44).symm.trans ev44
        replace ev44 := Lib.hid ev44
        clear hO hD
        go_simp
        exact hK.out _ _ (Ex.refl _) rfl
      apply Steps.one (MP.eq _) 4 rfl
      · intro o ho FA x hO hD K hK
        obtain rfl := Option.some.inj ho.symm
        clear ho
        have ev45 : FA.eval (.tmp 45) = _ := hD 2 45 (by kernel_rfl)
        have e45 := (eval_tmp FA 45).symm.trans ev45
        replace ev45 := Lib.hid ev45
        clear hO hD
        go_simp
        exact hK.out _ _ (Ex.refl _) rfl
      apply Steps.one (MP.eq _) 5 rfl
      · intro o ho FA x hO hD K hK
        obtain rfl := Option.some.inj ho.symm
        clear ho
        have ev46 : FA.eval (.tmp 46) = _ := hD 3 46 (by kernel_rfl)
        have e46 := (eval_tmp FA 46).symm.trans ev46
        replace ev46 := Lib.hid ev46
        clear hO hD
        refine wanted_if rfl ?_
        refine wp_ld1 3 (.tmp 46) rfl ev46.out (h5.later (below_plus _ _ _)) q5 Try.underlying3 rfl ?_
        exact hK.out _ _ (Ex.refl _) rfl
      apply Steps.one (MP.eq _) 6 rfl
      · intro o ho FA x hO hD K hK
        obtain rfl := Option.some.inj ho.symm
        clear ho
        clear hO hD
        refine wanted_if rfl ?_
        refine wp_buildV 56 [] rfl (.agg (levC (0, [])).toArray) (hbd _) ?_
        exact hK.out _ _ (Ex.refl _) rfl
      apply Steps.one (MP.eq _) 7 rfl
      · intro o ho FA x hO hD K hK
        obtain rfl := Option.some.inj ho.symm
        clear ho
        have ev43 : FA.eval (.tmp 43) = _ := hD 0 43 (by kernel_rfl)
        have e43 := (eval_tmp FA 43).symm.trans ev43
        replace ev43 := Lib.hid ev43
        clear hO hD
        go_simp
        exact hK.out _ _ (Ex.refl _) rfl
      apply Steps.one (MP.eq _) 8 rfl
      · intro o ho FA x hO hD K hK
        obtain rfl := Option.some.inj ho.symm
        clear ho
        have ev49 : FA.eval (.tmp 49) = _ := hD 6 49 (by kernel_rfl)
        have e49 := (eval_tmp FA 49).symm.trans ev49
        replace ev49 := Lib.hid ev49
        clear hO hD
        go_simp
        exact hK.out _ _ (Ex.refl _) rfl
      apply Steps.one (MP.eq _) 9 rfl
      · intro o ho FA x hO hD K hK
        obtain rfl := Option.some.inj ho.symm
        clear ho
        have ev50 : FA.eval (.tmp 50) = _ := hD 7 50 (by kernel_rfl)
        have e50 := (eval_tmp FA 50).symm.trans ev50
        replace ev50 := Lib.hid ev50
        have ev47 : FA.eval (.tmp 47) = _ := hD 4 47 (by kernel_rfl)
        have e47 := (eval_tmp FA 47).symm.trans ev47
        replace ev47 := Lib.hid ev47
        clear hO hD
        go_simp
        exact hK.out _ _ (Ex.refl _) rfl
      refine Steps.fin_ (fun vs x hp => ?_)
      have p0 : vs 0 = _ := hp 0 (by omega)
      have p1 : vs 1 = _ := hp 1 (by omega)
      have p2 : vs 2 = _ := hp 2 (by omega)
      have p3 : vs 3 = _ := hp 3 (by omega)
      have p4 : vs 4 = _ := hp 4 (by omega)
      have p5 : vs 5 = _ := hp 5 (by omega)
      have p6 : vs 6 = _ := hp 6 (by omega)
      have p7 : vs 7 = _ := hp 7 (by omega)
      have p8 : vs 8 = _ := hp 8 (by omega)
      clear hp
      simp only [List.take_succ_cons, List.take_zero, List.drop_succ_cons, List.drop_zero, putAll, Nat.zero_add, Nat.reduceAdd, Act.put, List.setIfInBounds_toArray, List.set_cons_zero, List.set_cons_succ, p0, p1, p2, p3, p4, p5, p6, p7, p8]
      clear p0 p1 p2 p3 p4 p5 p6 p7 p8
      clear vs
      have c6 := c5.trans (Chg.of_below (below_plus W5 x.bs x.d))
      replace h5 := h5.later (below_plus W5 x.bs x.d)
      clear c5
      generalize plus W5 x.bs x.d = W6 at *
      refine wpList_stM (off := 1 + n * 130) 56 (.tmp 51) (.tmp 48) rfl rfl (levC (0, [])) C5 (by rw [hl5, levC_len]; omega) (levC_one _) rfl rfl h5 (szLev _) ?_
      intro W7 h7 g7
      simp only [Act.put, List.setIfInBounds_toArray, List.set_cons_zero, List.set_cons_succ]
      rw [hr2] at h7
      have c7 := c6.trans (Chg.one (D := fun b => b = g) g7 rfl)
      clear c6 g7 h5
      go_upto_region 11 with (fail)
      refine wp_relS 7 61 rfl (by kernel_rfl) (by kernel_rfl) ?_
      apply Steps.one (MP.eq _) 1 rfl
      · intro o ho FA x hO hD K hK
        obtain rfl := Option.some.inj ho.symm
        clear ho
        have e0 := hO 0 (by kernel_rfl)
        simp only [eval_tmp, List.getElem?_toArray, List.getElem?_cons_succ, List.getElem?_cons_zero, Option.getD_some] at e0
        have ev0 := Lib.hid ((eval_tmp FA 0).trans e0)
        clear hO hD
        go_simp
        exact hK.out _ _ (Ex.refl _) rfl
      apply Steps.one (MP.eq _) 2 rfl
      · intro o ho FA x hO hD K hK
        obtain rfl := Option.some.inj ho.symm
        clear ho
        have ev52 : FA.eval (.tmp 52) = _ := hD 0 52 (by kernel_rfl)
        have e52 := (eval_tmp FA 52).symm.trans ev52
        replace ev52 := Lib.hid ev52
        clear hO hD
        go_simp
        exact hK.out _ _ (Ex.refl _) rfl
      apply Steps.one (MP.eq _) 3 rfl
      · intro o ho FA x hO hD K hK
        obtain rfl := Option.some.inj ho.symm
        clear ho
        have ev53 : FA.eval (.tmp 53) = _ := hD 1 53 (by kernel_rfl)
        have e53 := (eval_tmp FA 53).symm.trans ev53
        replace ev53 := Lib.hid ev53
        clear hO hD
        go_simp
        exact hK.out _ _ (Ex.refl _) rfl
      apply Steps.one (MP.eq _) 4 rfl
      · intro o ho FA x hO hD K hK
        obtain rfl := Option.some.inj ho.symm
        clear ho
        have ev54 : FA.eval (.tmp 54) = _ := hD 2 54 (by kernel_rfl)
        have e54 := (eval_tmp FA 54).symm.trans ev54
        replace ev54 := Lib.hid ev54
        clear hO hD
        refine wanted_if rfl ?_
        refine wp_ld1 22 (.tmp 54) rfl ev54.out (h7.later (below_plus _ _ _)) hbz Try.underlying22 rfl ?_
        exact hK.out _ _ (Ex.refl _) rfl
      apply Steps.one (MP.eq _) 5 rfl
      · intro o ho FA x hO hD K hK
        obtain rfl := Option.some.inj ho.symm
        clear ho
        have e1 := hO 1 (by kernel_rfl)
        simp only [eval_tmp, List.getElem?_toArray, List.getElem?_cons_succ, List.getElem?_cons_zero, Option.getD_some] at e1
        have ev1 := Lib.hid ((eval_tmp FA 1).trans e1)
        clear hO hD
        go_simp
        exact hK.out _ _ (Ex.refl _) rfl
      apply Steps.one (MP.eq _) 6 rfl
      · intro o ho FA x hO hD K hK
        obtain rfl := Option.some.inj ho.symm
        clear ho
        have ev56 : FA.eval (.tmp 56) = _ := hD 4 56 (by kernel_rfl)
        have e56 := (eval_tmp FA 56).symm.trans ev56
        replace ev56 := Lib.hid ev56
        clear hO hD
        go_simp
        refine (HB.out _).mono ?_
        rintro e w1 ⟨rfl, rfl⟩
        exact hK.out _ _ (Ex.refl _) rfl
      apply Steps.one (MP.eq _) 7 rfl
      · intro o ho FA x hO hD K hK
        obtain rfl := Option.some.inj ho.symm
        clear ho
        have ev55 : FA.eval (.tmp 55) = _ := hD 3 55 (by kernel_rfl)
        have e55 := (eval_tmp FA 55).symm.trans ev55
        replace ev55 := Lib.hid ev55
        have ev57 : FA.eval (.tmp 57) = _ := hD 5 57 (by kernel_rfl)
        have e57 := (eval_tmp FA 57).symm.trans ev57
        replace ev57 := Lib.hid ev57
        clear hO hD
        go_simp
        exact hK.out _ _ (Ex.refl _) rfl
      refine Steps.fin_ (fun vs x hp => ?_)
      have p0 : vs 0 = _ := hp 0 (by omega)
      have p1 : vs 1 = _ := hp 1 (by omega)
      have p2 : vs 2 = _ := hp 2 (by omega)
      have p3 : vs 3 = _ := hp 3 (by omega)
      have p4 : vs 4 = _ := hp 4 (by omega)
      have p5 : vs 5 = _ := hp 5 (by omega)
      have p6 : vs 6 = _ := hp 6 (by omega)
      clear hp
      simp only [List.take_succ_cons, List.take_zero, List.drop_succ_cons, List.drop_zero, putAll, Nat.zero_add, Nat.reduceAdd, Act.put, List.setIfInBounds_toArray, List.set_cons_zero, List.set_cons_succ, p0, p1, p2, p3, p4, p5, p6]
      clear p0 p1 p2 p3 p4 p5 p6
      clear vs
      have c8 := c7.trans (Chg.of_below (below_plus W7 x.bs x.d))
      replace h7 := h7.later (below_plus W7 x.bs x.d)
      clear c7
      generalize plus W7 x.bs x.d = W8 at *
      go_wp2_with (refine at_op (.store 22 (.tmp 60) (.tmp 58)) rfl ?_; refine wpList_st1 22 (.tmp 60) (.tmp 58) rfl rfl rfl rfl h7 (by rw [stkC_len]; omega) rfl (by kernel_rfl) ?_; intro W9 h9 g9)
      go_ret
      exact RetSt.is_ (by rw [he.out]; rfl) (by rw [hbit.out, ← hset.out]; exact h9) (c8.trans (Chg.one (D := fun b => b = g) g9 rfl))
    · have he := Lib.hid (show EE = 1 by rw [← HEE.out]; unfold retE; rw [if_neg hl2, if_pos (by omega)])
      have hs := Lib.hid (show ES = S by rw [← HES.out]; unfold retS; rw [if_neg hl2])
      have hin : idxS S v = n := by omega
      rw [hin] at HI
      clear hix hl hl2 hin
      go_enter Try.func51, Try.ntmps51
      go_upto_region 4 with (go_at_call 64; refine (HI.out _ hS).mono ?_; rintro e w1 ⟨bs1, d1, rfl, rfl⟩)
      have q1 : (plus w bs1 d1).cell? ⟨g, 0, none⟩ = some (.int .i64 ((n + 1 : Nat) : Int)) := by rw [(hS.later (below_plus _ _ _)).cell, ← hn]; rfl
      go_wp2
      go_ret
      exact RetSt.is_ (by rw [he.out]; rfl) (by rw [hs.out]; exact hS.later (below_plus _ _ _)) (Chg.of_below (below_plus _ _ _))
  · have hix : ixS S v = -1 := if_neg hl
    have he := Lib.hid (show EE = 24 by rw [← HEE.out]; unfold retE; rw [if_neg (by omega), if_neg (by have := idxS_le S v; omega)])
    have hs := Lib.hid (show ES = S by rw [← HES.out]; unfold retS; rw [if_neg (by omega)])
    rw [hix] at HI
    clear hix hl
    go_enter Try.func51, Try.ntmps51
    go_wp2_with (go_at_call 64; refine (HI.out _ hS).mono ?_; rintro e w1 ⟨bs1, d1, rfl, rfl⟩)
    go_ret
    exact RetSt.is_ (by rw [he.out]; rfl) (by rw [hs.out]; exact hS.later (below_plus _ _ _)) (Chg.of_below (below_plus _ _ _))
end Go.Proofs.Ytepodflinhpejaa

/- The reference's Evict, Admit, Release, Push, Retire (chapter 15). -/
namespace Go.Proofs.Ytepodflinhpejaa
open Go.RowKit
set_option linter.unusedVariables false
set_option linter.unusedSimpArgs false
attribute [local go_sem ↓] sliced_cut

attribute [local go_sem] cutA_zero

def stk0 : Stk := ⟨[], 0, 0⟩
/-- a call hands back a stack and more, and changes nothing that was there -/
def RetRS (D : Nat → Prop) (w : World) (S : Stk) (F : Value → Value) (e : Ending) (w' : World) : Prop := ∃ A n c bs d, e = .returned (F (.agg (rstC A n c S).toArray)) ∧ w' = plus w bs d ∧ RSt D (plus w bs d) S.lv A n c
theorem RetRS.mk {D : Nat → Prop} {w w' : World} {S S' : Stk} {F : Value → Value} {A : Option Addr} {n c : Nat} {v : Value} (hv : v = F (.agg (rstC A n c S).toArray)) (h : RSt D w' S.lv A n c) (hb : Below w.heap.size w w') : RetRS D w S F (.returned v) w' := by
  obtain ⟨bs, d, rfl⟩ := plus_of hb
  exact ⟨A, n, c, bs, d, by rw [hv], rfl, h⟩
theorem refBz_evi (S : Stk) (n : Int) : refBz (eviS S n) = refBz S := by unfold eviS; split <;> rfl
theorem lv_evi (S : Stk) (n : Int) : (eviS S n).lv = S.lv := by unfold eviS; split <;> rfl
theorem refBz_adm (S : Stk) (n : Int) : refBz (admS S n) = refBz S := by unfold admS; split <;> rfl
theorem lv_adm (S : Stk) (n : Int) : (admS S n).lv = S.lv := by unfold admS; split <;> rfl
theorem refEv_rls (S : Stk) (n : Int) : refEv (rlsS S n) = refEv S := by unfold rlsS; split <;> rfl
theorem lv_rls (S : Stk) (n : Int) : (rlsS S n).lv = S.lv := by unfold rlsS; split <;> rfl
set_option maxHeartbeats 4000000 in
set_option maxRecDepth 100000 in
theorem refEvict_any (S : Stk) (A : Option Addr) (n c : Nat) (v : Int) (w : World) {D : Nat → Prop} (hD : ∀ b, D b → b < w.heap.size) (hR : RSt D w S.lv A n c) : Calls Try.prog 57 #[.agg (rstC A n c S).toArray, .int .i64 v] w (RetRS D w (eviS S v) (fun x => .tuple #[x, .int .i64 (eviE S v : Nat)])) := by
  obtain ⟨EE, hEE⟩ : ∃ x, eviE S v = x := ⟨_, rfl⟩
  rw [hEE]
  have HEE := Lib.hid hEE
  clear hEE
  have hRR := Lib.hid (fun W (h : Below w.heap.size w W) => show RSt D W (eviS S v).lv A n c by rw [lv_evi]; exact hR.later h)
  cases hnb : numB v
  · have he := Lib.hid (show EE = 1 by rw [← HEE.out]; unfold eviE; rw [hnb]; rfl)
    have hs : eviS S v = S := by unfold eviS; rw [hnb]; rfl
    rw [hs] at hRR ⊢
    have hno : v < 1 ∨ 64 < v := by simp [numB] at hnb; omega
    clear hs hnb HEE
    have hzv : ∀ w, (zeroValue 64).run Try.prog w = .ok (.agg (rstC none 0 0 stk0).toArray) w := fun _ => by kernel_rfl
    obtain ⟨dvr1, vr1, vr2⟩ := rowRst
    have bs : Bk ((w.alloc (.cells (rstC A n c S).toArray 64)).alloc (.cells (rstC none 0 0 stk0).toArray 64)) w.heap.size 64 (rstC A n c S) := (Bk.new w 64 (rstC A n c S).toArray).alloc _
    have bz : Bk ((w.alloc (.cells (rstC A n c S).toArray 64)).alloc (.cells (rstC none 0 0 stk0).toArray 64)) (w.heap.size + 1) 64 (rstC none 0 0 stk0) := Bk.newK _ _ _ (by simp) rfl
    have be : Below w.heap.size w ((w.alloc (.cells (rstC A n c S).toArray 64)).alloc (.cells (rstC none 0 0 stk0).toArray 64)) := Below.allocS (Below.allocS (Below.refl _ _) _) _
    have zV : w.heap.size + 2 ≤ ((w.alloc (.cells (rstC A n c S).toArray 64)).alloc (.cells (rstC none 0 0 stk0).toArray 64)).heap.size := by simp
    go_enter Try.func57, Try.ntmps57
    go_upto_region 1 with (fail)
    generalize (w.alloc (.cells (rstC A n c S).toArray 64)).alloc (.cells (rstC none 0 0 stk0).toArray 64) = V at *
    by_cases h1 : v < 1
    · clear hno
      go_upto_region 2 with (fail)
      refine wp_region_lit ?_
      refine wpList_ldA (t := 64) 64 (.tmp 2) rfl rfl (rstC A n c S) rfl (bs) (whole_ _) vr1 vr2 (szRst A n c S) ?_
      simp only [Act.put, List.setIfInBounds_toArray, List.set_cons_zero, List.set_cons_succ]
      refine wpList_stA (t := 64) 64 (.tmp 4) (.tmp 12) rfl rfl (rstC A n c S) (rstC none 0 0 stk0) (by rw [rstC_len, rstC_len]) (rstC_one _ _ _ _) rfl rfl bz (szRst _ _ _ _) ?_
      intro W9 h9 g9
      refine wpList_plain rfl (fun K hK => ?_); go_simp; with_reducible refine hK _ _ ?_; clear hK K
      go_wp2
      refine bodyPost_agg2 Try.results57 rfl rfl h9.range vr1 vr2 (szRst _ _ _ _) rfl ?_
      exact RetRS.mk (S' := S) (by rw [he.out]; rfl) (hRR.out _ (below_grown be g9 (by omega))) (below_grown be g9 (by omega))
    · have h2 : 64 < v := by omega
      clear hno
      go_upto_region 2 with (fail)
      refine wp_region_lit ?_
      refine wpList_ldA (t := 64) 64 (.tmp 2) rfl rfl (rstC A n c S) rfl (bs) (whole_ _) vr1 vr2 (szRst A n c S) ?_
      simp only [Act.put, List.setIfInBounds_toArray, List.set_cons_zero, List.set_cons_succ]
      refine wpList_stA (t := 64) 64 (.tmp 4) (.tmp 12) rfl rfl (rstC A n c S) (rstC none 0 0 stk0) (by rw [rstC_len, rstC_len]) (rstC_one _ _ _ _) rfl rfl bz (szRst _ _ _ _) ?_
      intro W9 h9 g9
      refine wpList_plain rfl (fun K hK => ?_); go_simp; with_reducible refine hK _ _ ?_; clear hK K
      go_wp2
      refine bodyPost_agg2 Try.results57 rfl rfl h9.range vr1 vr2 (szRst _ _ _ _) rfl ?_
      exact RetRS.mk (S' := S) (by rw [he.out]; rfl) (hRR.out _ (below_grown be g9 (by omega))) (below_grown be g9 (by omega))
  · have hr := numB_rg hnb
    obtain ⟨i, rfl⟩ : ∃ i : Nat, v = i := ⟨v.toNat, by omega⟩
    have i1 : ¬ (i : Int) < 1 := by omega
    have i2 : ¬ 64 < (i : Int) := by omega
    have i3 : (i : Int) < 65 := by omega
    have hc := rstC_ev A n c S i (by omega)
    cases hd : deadS S (i : Int)
    · have he := Lib.hid (show EE = 0 by rw [← HEE.out]; unfold eviE; rw [hnb, hd]; rfl)
      have hset := Lib.hid (rstC_setEv A n c S (eviS S (i : Int)) i (by omega) true (by have := refEv_evi (S := S) (n := (i : Int)) (by rw [hnb, hd]; rfl); simpa using this) (refBz_evi S _))
      rw [hd] at hc
      clear HEE hnb hd
      generalize eviS S (i : Int) = ES at *
      have hzv : ∀ w, (zeroValue 64).run Try.prog w = .ok (.agg (rstC none 0 0 stk0).toArray) w := fun _ => by kernel_rfl
      obtain ⟨dvr1, vr1, vr2⟩ := rowRst
      have bs : Bk ((w.alloc (.cells (rstC A n c S).toArray 64)).alloc (.cells (rstC none 0 0 stk0).toArray 64)) w.heap.size 64 (rstC A n c S) := (Bk.new w 64 (rstC A n c S).toArray).alloc _
      have bz : Bk ((w.alloc (.cells (rstC A n c S).toArray 64)).alloc (.cells (rstC none 0 0 stk0).toArray 64)) (w.heap.size + 1) 64 (rstC none 0 0 stk0) := Bk.newK _ _ _ (by simp) rfl
      have be : Below w.heap.size w ((w.alloc (.cells (rstC A n c S).toArray 64)).alloc (.cells (rstC none 0 0 stk0).toArray 64)) := Below.allocS (Below.allocS (Below.refl _ _) _) _
      have zV : w.heap.size + 2 ≤ ((w.alloc (.cells (rstC A n c S).toArray 64)).alloc (.cells (rstC none 0 0 stk0).toArray 64)).heap.size := by simp
      go_enter Try.func57, Try.ntmps57
      go_upto_region 1 with (fail)
      generalize (w.alloc (.cells (rstC A n c S).toArray 64)).alloc (.cells (rstC none 0 0 stk0).toArray 64) = V at *
      have q0 : V.cell? ⟨w.heap.size, 1 + i, none⟩ = some (.bool false) := (bs.cell _).trans hc
      go_upto_region 5 with (fail)
      refine wp_region_lit ?_
      iterate 3 (refine wpList_plain rfl (fun K hK => ?_); go_simp; with_reducible refine hK _ _ ?_; clear hK K)
      refine wpList_st1 4 (.tmp 20) (.const (.bool true)) rfl rfl rfl rfl bs (by rw [rstC_len]; omega) rfl (by kernel_rfl) ?_
      intro W4 h4 g4
      simp only [Act.put, List.setIfInBounds_toArray, List.set_cons_zero, List.set_cons_succ]
      replace bs : Bk W4 w.heap.size 64 (rstC A n c ES) := by rw [← hset.out]; exact h4
      replace bz := bz.grown g4 (fun e => by injection e with e; omega)
      replace be := below_grown be g4 (Nat.le_refl _)
      clear h4 g4 q0
      go_upto_region 6 with (fail)
      refine wp_region_lit ?_
      refine wpList_ldA (t := 64) 64 (.tmp 2) rfl rfl (rstC A n c ES) rfl (bs) (whole_ _) vr1 vr2 (szRst A n c ES) ?_
      simp only [Act.put, List.setIfInBounds_toArray, List.set_cons_zero, List.set_cons_succ]
      refine wpList_stA (t := 64) 64 (.tmp 4) (.tmp 21) rfl rfl (rstC A n c ES) (rstC none 0 0 stk0) (by rw [rstC_len, rstC_len]) (rstC_one _ _ _ _) rfl rfl bz (szRst _ _ _ _) ?_
      intro W9 h9 g9
      refine wpList_plain rfl (fun K hK => ?_); go_simp; with_reducible refine hK _ _ ?_; clear hK K
      go_wp2
      refine bodyPost_agg2 Try.results57 rfl rfl h9.range vr1 vr2 (szRst _ _ _ _) rfl ?_
      exact RetRS.mk (S' := S) (by rw [he.out]; rfl) (hRR.out _ (below_grown be g9 (by omega))) (below_grown be g9 (by omega))
    · have he := Lib.hid (show EE = 7 by rw [← HEE.out]; unfold eviE; rw [hnb, hd]; rfl)
      have hs : eviS S (i : Int) = S := by unfold eviS; rw [hnb, hd]; rfl
      rw [hs] at hRR ⊢
      rw [hd] at hc
      clear HEE hnb hd hs
      have hzv : ∀ w, (zeroValue 64).run Try.prog w = .ok (.agg (rstC none 0 0 stk0).toArray) w := fun _ => by kernel_rfl
      obtain ⟨dvr1, vr1, vr2⟩ := rowRst
      have bs : Bk ((w.alloc (.cells (rstC A n c S).toArray 64)).alloc (.cells (rstC none 0 0 stk0).toArray 64)) w.heap.size 64 (rstC A n c S) := (Bk.new w 64 (rstC A n c S).toArray).alloc _
      have bz : Bk ((w.alloc (.cells (rstC A n c S).toArray 64)).alloc (.cells (rstC none 0 0 stk0).toArray 64)) (w.heap.size + 1) 64 (rstC none 0 0 stk0) := Bk.newK _ _ _ (by simp) rfl
      have be : Below w.heap.size w ((w.alloc (.cells (rstC A n c S).toArray 64)).alloc (.cells (rstC none 0 0 stk0).toArray 64)) := Below.allocS (Below.allocS (Below.refl _ _) _) _
      have zV : w.heap.size + 2 ≤ ((w.alloc (.cells (rstC A n c S).toArray 64)).alloc (.cells (rstC none 0 0 stk0).toArray 64)).heap.size := by simp
      go_enter Try.func57, Try.ntmps57
      go_upto_region 1 with (fail)
      generalize (w.alloc (.cells (rstC A n c S).toArray 64)).alloc (.cells (rstC none 0 0 stk0).toArray 64) = V at *
      have q0 : V.cell? ⟨w.heap.size, 1 + i, none⟩ = some (.bool true) := (bs.cell _).trans hc
      go_upto_region 4 with (fail)
      refine wp_region_lit ?_
      refine wpList_ldA (t := 64) 64 (.tmp 2) rfl rfl (rstC A n c S) rfl (bs) (whole_ _) vr1 vr2 (szRst A n c S) ?_
      simp only [Act.put, List.setIfInBounds_toArray, List.set_cons_zero, List.set_cons_succ]
      refine wpList_stA (t := 64) 64 (.tmp 4) (.tmp 17) rfl rfl (rstC A n c S) (rstC none 0 0 stk0) (by rw [rstC_len, rstC_len]) (rstC_one _ _ _ _) rfl rfl bz (szRst _ _ _ _) ?_
      intro W9 h9 g9
      refine wpList_plain rfl (fun K hK => ?_); go_simp; with_reducible refine hK _ _ ?_; clear hK K
      go_wp2
      refine bodyPost_agg2 Try.results57 rfl rfl h9.range vr1 vr2 (szRst _ _ _ _) rfl ?_
      exact RetRS.mk (S' := S) (by rw [he.out]; rfl) (hRR.out _ (below_grown be g9 (by omega))) (below_grown be g9 (by omega))
set_option maxHeartbeats 4000000 in
set_option maxRecDepth 100000 in
theorem refAdmit_any (S : Stk) (hok : StkOk S) (A : Option Addr) (n c : Nat) (v : Int) (w : World) {D : Nat → Prop} (hD : ∀ b, D b → b < w.heap.size) (hR : RSt D w S.lv A n c) : Calls Try.prog 59 #[.agg (rstC A n c S).toArray, .int .i64 v] w (RetRS D w (admS S v) (fun x => .tuple #[x, .int .i64 (admE S v : Nat)])) := by
  obtain ⟨EE, hEE⟩ : ∃ x, admE S v = x := ⟨_, rfl⟩
  rw [hEE]
  have HEE := Lib.hid hEE
  clear hEE
  have hRR := Lib.hid (fun W (h : Below w.heap.size w W) => show RSt D W (admS S v).lv A n c by rw [lv_adm]; exact hR.later h)
  have HD := Lib.hid (fun w => refDead_any S A n c v w)
  cases hd : deadS S v
  · have he := Lib.hid (show EE = 6 by rw [← HEE.out]; unfold admE; rw [hd]; rfl)
    have hs : admS S v = S := by unfold admS; rw [hd]; rfl
    rw [hs] at hRR ⊢
    rw [hd] at HD
    clear HEE hs hd
    have hzv : ∀ w, (zeroValue 64).run Try.prog w = .ok (.agg (rstC none 0 0 stk0).toArray) w := fun _ => by kernel_rfl
    obtain ⟨dvr1, vr1, vr2⟩ := rowRst
    have bs : Bk ((w.alloc (.cells (rstC A n c S).toArray 64)).alloc (.cells (rstC none 0 0 stk0).toArray 64)) w.heap.size 64 (rstC A n c S) := (Bk.new w 64 (rstC A n c S).toArray).alloc _
    have bz : Bk ((w.alloc (.cells (rstC A n c S).toArray 64)).alloc (.cells (rstC none 0 0 stk0).toArray 64)) (w.heap.size + 1) 64 (rstC none 0 0 stk0) := Bk.newK _ _ _ (by simp) rfl
    have be : Below w.heap.size w ((w.alloc (.cells (rstC A n c S).toArray 64)).alloc (.cells (rstC none 0 0 stk0).toArray 64)) := Below.allocS (Below.allocS (Below.refl _ _) _) _
    have zV : w.heap.size + 2 ≤ ((w.alloc (.cells (rstC A n c S).toArray 64)).alloc (.cells (rstC none 0 0 stk0).toArray 64)).heap.size := by simp
    go_enter Try.func59, Try.ntmps59
    go_upto_region 1 with (fail)
    generalize (w.alloc (.cells (rstC A n c S).toArray 64)).alloc (.cells (rstC none 0 0 stk0).toArray 64) = V at *
    go_upto_region 1 with (fail)
    refine wp_region_lit ?_
    refine wpList_ldA (t := 64) 64 (.tmp 2) rfl rfl (rstC A n c S) rfl (bs) (whole_ _) vr1 vr2 (szRst A n c S) ?_
    refine wpList_plain rfl (fun K hK => ?_); go_simp; with_reducible refine hK _ _ ?_; clear hK K
    refine wpList_plain rfl (fun K hK => ?_)
    go_simp
    refine (HD.out _).mono ?_
    rintro e w1 ⟨bs1, d1, rfl, rfl⟩
    with_reducible refine hK _ _ ?_
    clear hK K
    replace bs := bs.later (below_plus V bs1 d1)
    replace bz := bz.later (below_plus V bs1 d1)
    replace be := belowP be bs1 d1
    replace zV : w.heap.size + 2 ≤ (plus V bs1 d1).heap.size := by simp [size_plus]; omega
    generalize plus V bs1 d1 = V1 at *
    refine wpList_plain rfl (fun K hK => ?_); go_simp; with_reducible refine hK _ _ ?_; clear hK K
    go_upto_region 2 with (fail)
    refine wp_region_lit ?_
    refine wpList_ldA (t := 64) 64 (.tmp 2) rfl rfl (rstC A n c S) rfl (bs) (whole_ _) vr1 vr2 (szRst A n c S) ?_
    simp only [Act.put, List.setIfInBounds_toArray, List.set_cons_zero, List.set_cons_succ]
    refine wpList_stA (t := 64) 64 (.tmp 4) (.tmp 10) rfl rfl (rstC A n c S) (rstC none 0 0 stk0) (by rw [rstC_len, rstC_len]) (rstC_one _ _ _ _) rfl rfl bz (szRst _ _ _ _) ?_
    intro W9 h9 g9
    refine wpList_plain rfl (fun K hK => ?_); go_simp; with_reducible refine hK _ _ ?_; clear hK K
    go_wp2
    refine bodyPost_agg2 Try.results59 rfl rfl h9.range vr1 vr2 (szRst _ _ _ _) rfl ?_
    exact RetRS.mk (S' := S) (by rw [he.out]; rfl) (hRR.out _ (below_grown be g9 (by omega))) (below_grown be g9 (by omega))
  · have hr := hasB_rg hd
    obtain ⟨i, rfl⟩ : ∃ i : Nat, v = i := ⟨v.toNat, by omega⟩
    have i3 : (i : Int) < 65 := by omega
    have he := Lib.hid (show EE = 0 by rw [← HEE.out]; unfold admE; rw [hd]; rfl)
    have hset := Lib.hid (rstC_setEv A n c S (admS S (i : Int)) i (by omega) false (by have := refEv_adm (S := S) (n := (i : Int)) hok.ev hd; simpa using this) (refBz_adm S _))
    rw [hd] at HD
    clear HEE hd hr
    generalize admS S (i : Int) = ES at *
    have hzv : ∀ w, (zeroValue 64).run Try.prog w = .ok (.agg (rstC none 0 0 stk0).toArray) w := fun _ => by kernel_rfl
    obtain ⟨dvr1, vr1, vr2⟩ := rowRst
    have bs : Bk ((w.alloc (.cells (rstC A n c S).toArray 64)).alloc (.cells (rstC none 0 0 stk0).toArray 64)) w.heap.size 64 (rstC A n c S) := (Bk.new w 64 (rstC A n c S).toArray).alloc _
    have bz : Bk ((w.alloc (.cells (rstC A n c S).toArray 64)).alloc (.cells (rstC none 0 0 stk0).toArray 64)) (w.heap.size + 1) 64 (rstC none 0 0 stk0) := Bk.newK _ _ _ (by simp) rfl
    have be : Below w.heap.size w ((w.alloc (.cells (rstC A n c S).toArray 64)).alloc (.cells (rstC none 0 0 stk0).toArray 64)) := Below.allocS (Below.allocS (Below.refl _ _) _) _
    have zV : w.heap.size + 2 ≤ ((w.alloc (.cells (rstC A n c S).toArray 64)).alloc (.cells (rstC none 0 0 stk0).toArray 64)).heap.size := by simp
    go_enter Try.func59, Try.ntmps59
    go_upto_region 1 with (fail)
    generalize (w.alloc (.cells (rstC A n c S).toArray 64)).alloc (.cells (rstC none 0 0 stk0).toArray 64) = V at *
    go_upto_region 1 with (fail)
    refine wp_region_lit ?_
    refine wpList_ldA (t := 64) 64 (.tmp 2) rfl rfl (rstC A n c S) rfl (bs) (whole_ _) vr1 vr2 (szRst A n c S) ?_
    refine wpList_plain rfl (fun K hK => ?_); go_simp; with_reducible refine hK _ _ ?_; clear hK K
    refine wpList_plain rfl (fun K hK => ?_)
    go_simp
    refine (HD.out _).mono ?_
    rintro e w1 ⟨bs1, d1, rfl, rfl⟩
    with_reducible refine hK _ _ ?_
    clear hK K
    replace bs := bs.later (below_plus V bs1 d1)
    replace bz := bz.later (below_plus V bs1 d1)
    replace be := belowP be bs1 d1
    replace zV : w.heap.size + 2 ≤ (plus V bs1 d1).heap.size := by simp [size_plus]; omega
    generalize plus V bs1 d1 = V1 at *
    refine wpList_plain rfl (fun K hK => ?_); go_simp; with_reducible refine hK _ _ ?_; clear hK K
    go_upto_region 3 with (fail)
    refine wp_region_lit ?_
    iterate 3 (refine wpList_plain rfl (fun K hK => ?_); go_simp; with_reducible refine hK _ _ ?_; clear hK K)
    refine wpList_st1 4 (.tmp 13) (.const (.bool false)) rfl rfl rfl rfl bs (by rw [rstC_len]; omega) rfl (by kernel_rfl) ?_
    intro W4 h4 g4
    simp only [Act.put, List.setIfInBounds_toArray, List.set_cons_zero, List.set_cons_succ]
    replace bs : Bk W4 w.heap.size 64 (rstC A n c ES) := by rw [← hset.out]; exact h4
    replace bz := bz.grown g4 (fun e => by injection e with e; omega)
    replace be := below_grown be g4 (Nat.le_refl _)
    clear h4 g4
    go_upto_region 4 with (fail)
    refine wp_region_lit ?_
    refine wpList_ldA (t := 64) 64 (.tmp 2) rfl rfl (rstC A n c ES) rfl (bs) (whole_ _) vr1 vr2 (szRst A n c ES) ?_
    simp only [Act.put, List.setIfInBounds_toArray, List.set_cons_zero, List.set_cons_succ]
    refine wpList_stA (t := 64) 64 (.tmp 4) (.tmp 14) rfl rfl (rstC A n c ES) (rstC none 0 0 stk0) (by rw [rstC_len, rstC_len]) (rstC_one _ _ _ _) rfl rfl bz (szRst _ _ _ _) ?_
    intro W9 h9 g9
    refine wpList_plain rfl (fun K hK => ?_); go_simp; with_reducible refine hK _ _ ?_; clear hK K
    go_wp2
    refine bodyPost_agg2 Try.results59 rfl rfl h9.range vr1 vr2 (szRst _ _ _ _) rfl ?_
    exact RetRS.mk (S' := S) (by rw [he.out]; rfl) (hRR.out _ (below_grown be g9 (by omega))) (below_grown be g9 (by omega))
set_option maxHeartbeats 4000000 in
set_option maxRecDepth 100000 in
theorem refRelease_any (S : Stk) (hok : StkOk S) (A : Option Addr) (n c : Nat) (v : Int) (w : World) {D : Nat → Prop} (hD : ∀ b, D b → b < w.heap.size) (hR : RSt D w S.lv A n c) : Calls Try.prog 55 #[.agg (rstC A n c S).toArray, .int .i64 v] w (RetRS D w (rlsS S v) (fun x => .tuple #[x, .int .i64 (rlsE S v : Nat)])) := by
  obtain ⟨EE, hEE⟩ : ∃ x, rlsE S v = x := ⟨_, rfl⟩
  rw [hEE]
  have HEE := Lib.hid hEE
  clear hEE
  have hRR := Lib.hid (fun W (h : Below w.heap.size w W) => show RSt D W (rlsS S v).lv A n c by rw [lv_rls]; exact hR.later h)
  cases hd : hasB S.bz v 0 8
  · have he := Lib.hid (show EE = 6 by rw [← HEE.out]; unfold rlsE; rw [hd]; rfl)
    have hs : rlsS S v = S := by unfold rlsS; rw [hd]; rfl
    rw [hs] at hRR ⊢
    clear HEE hs
    by_cases h1 : v < 0
    · clear hd
      have hzv : ∀ w, (zeroValue 64).run Try.prog w = .ok (.agg (rstC none 0 0 stk0).toArray) w := fun _ => by kernel_rfl
      obtain ⟨dvr1, vr1, vr2⟩ := rowRst
      have bs : Bk ((w.alloc (.cells (rstC A n c S).toArray 64)).alloc (.cells (rstC none 0 0 stk0).toArray 64)) w.heap.size 64 (rstC A n c S) := (Bk.new w 64 (rstC A n c S).toArray).alloc _
      have bz : Bk ((w.alloc (.cells (rstC A n c S).toArray 64)).alloc (.cells (rstC none 0 0 stk0).toArray 64)) (w.heap.size + 1) 64 (rstC none 0 0 stk0) := Bk.newK _ _ _ (by simp) rfl
      have be : Below w.heap.size w ((w.alloc (.cells (rstC A n c S).toArray 64)).alloc (.cells (rstC none 0 0 stk0).toArray 64)) := Below.allocS (Below.allocS (Below.refl _ _) _) _
      have zV : w.heap.size + 2 ≤ ((w.alloc (.cells (rstC A n c S).toArray 64)).alloc (.cells (rstC none 0 0 stk0).toArray 64)).heap.size := by simp
      go_enter Try.func55, Try.ntmps55
      go_upto_region 1 with (fail)
      generalize (w.alloc (.cells (rstC A n c S).toArray 64)).alloc (.cells (rstC none 0 0 stk0).toArray 64) = V at *
      go_upto_region 2 with (fail)
      refine wp_region_lit ?_
      refine wpList_ldA (t := 64) 64 (.tmp 2) rfl rfl (rstC A n c S) rfl (bs) (whole_ _) vr1 vr2 (szRst A n c S) ?_
      simp only [Act.put, List.setIfInBounds_toArray, List.set_cons_zero, List.set_cons_succ]
      refine wpList_stA (t := 64) 64 (.tmp 4) (.tmp 19) rfl rfl (rstC A n c S) (rstC none 0 0 stk0) (by rw [rstC_len, rstC_len]) (rstC_one _ _ _ _) rfl rfl bz (szRst _ _ _ _) ?_
      intro W9 h9 g9
      refine wpList_plain rfl (fun K hK => ?_); go_simp; with_reducible refine hK _ _ ?_; clear hK K
      go_wp2
      refine bodyPost_agg2 Try.results55 rfl rfl h9.range vr1 vr2 (szRst _ _ _ _) rfl ?_
      exact RetRS.mk (S' := S) (by rw [he.out]; rfl) (hRR.out _ (below_grown be g9 (by omega))) (below_grown be g9 (by omega))
    · by_cases h2 : 7 < v
      · clear hd
        have hzv : ∀ w, (zeroValue 64).run Try.prog w = .ok (.agg (rstC none 0 0 stk0).toArray) w := fun _ => by kernel_rfl
        obtain ⟨dvr1, vr1, vr2⟩ := rowRst
        have bs : Bk ((w.alloc (.cells (rstC A n c S).toArray 64)).alloc (.cells (rstC none 0 0 stk0).toArray 64)) w.heap.size 64 (rstC A n c S) := (Bk.new w 64 (rstC A n c S).toArray).alloc _
        have bz : Bk ((w.alloc (.cells (rstC A n c S).toArray 64)).alloc (.cells (rstC none 0 0 stk0).toArray 64)) (w.heap.size + 1) 64 (rstC none 0 0 stk0) := Bk.newK _ _ _ (by simp) rfl
        have be : Below w.heap.size w ((w.alloc (.cells (rstC A n c S).toArray 64)).alloc (.cells (rstC none 0 0 stk0).toArray 64)) := Below.allocS (Below.allocS (Below.refl _ _) _) _
        have zV : w.heap.size + 2 ≤ ((w.alloc (.cells (rstC A n c S).toArray 64)).alloc (.cells (rstC none 0 0 stk0).toArray 64)).heap.size := by simp
        go_enter Try.func55, Try.ntmps55
        go_upto_region 1 with (fail)
        generalize (w.alloc (.cells (rstC A n c S).toArray 64)).alloc (.cells (rstC none 0 0 stk0).toArray 64) = V at *
        go_upto_region 2 with (fail)
        refine wp_region_lit ?_
        refine wpList_ldA (t := 64) 64 (.tmp 2) rfl rfl (rstC A n c S) rfl (bs) (whole_ _) vr1 vr2 (szRst A n c S) ?_
        simp only [Act.put, List.setIfInBounds_toArray, List.set_cons_zero, List.set_cons_succ]
        refine wpList_stA (t := 64) 64 (.tmp 4) (.tmp 19) rfl rfl (rstC A n c S) (rstC none 0 0 stk0) (by rw [rstC_len, rstC_len]) (rstC_one _ _ _ _) rfl rfl bz (szRst _ _ _ _) ?_
        intro W9 h9 g9
        refine wpList_plain rfl (fun K hK => ?_); go_simp; with_reducible refine hK _ _ ?_; clear hK K
        go_wp2
        refine bodyPost_agg2 Try.results55 rfl rfl h9.range vr1 vr2 (szRst _ _ _ _) rfl ?_
        exact RetRS.mk (S' := S) (by rw [he.out]; rfl) (hRR.out _ (below_grown be g9 (by omega))) (below_grown be g9 (by omega))
      · obtain ⟨i, rfl⟩ : ∃ i : Nat, v = i := ⟨v.toNat, by omega⟩
        have i3 : (i : Int) < 8 := by omega
        have hc := rstC_bz A n c S i (by omega)
        have hb : S.bz.testBit i = false := by
          unfold hasB at hd
          rw [decide_eq_true (show ((0 : Nat) : Int) ≤ (i : Int) by omega), decide_eq_true (show (i : Int) < ((0 : Nat) : Int) + (8 : Nat) by omega), show ((i : Int) - ((0 : Nat) : Int)).toNat = i by omega] at hd
          simpa using hd
        rw [hb] at hc
        clear hd hb
        have hzv : ∀ w, (zeroValue 64).run Try.prog w = .ok (.agg (rstC none 0 0 stk0).toArray) w := fun _ => by kernel_rfl
        obtain ⟨dvr1, vr1, vr2⟩ := rowRst
        have bs : Bk ((w.alloc (.cells (rstC A n c S).toArray 64)).alloc (.cells (rstC none 0 0 stk0).toArray 64)) w.heap.size 64 (rstC A n c S) := (Bk.new w 64 (rstC A n c S).toArray).alloc _
        have bz : Bk ((w.alloc (.cells (rstC A n c S).toArray 64)).alloc (.cells (rstC none 0 0 stk0).toArray 64)) (w.heap.size + 1) 64 (rstC none 0 0 stk0) := Bk.newK _ _ _ (by simp) rfl
        have be : Below w.heap.size w ((w.alloc (.cells (rstC A n c S).toArray 64)).alloc (.cells (rstC none 0 0 stk0).toArray 64)) := Below.allocS (Below.allocS (Below.refl _ _) _) _
        have zV : w.heap.size + 2 ≤ ((w.alloc (.cells (rstC A n c S).toArray 64)).alloc (.cells (rstC none 0 0 stk0).toArray 64)).heap.size := by simp
        go_enter Try.func55, Try.ntmps55
        go_upto_region 1 with (fail)
        generalize (w.alloc (.cells (rstC A n c S).toArray 64)).alloc (.cells (rstC none 0 0 stk0).toArray 64) = V at *
        have q0 : V.cell? ⟨w.heap.size, 66 + i, none⟩ = some (.bool false) := (bs.cell _).trans hc
        go_upto_region 2 with (fail)
        refine wp_region_lit ?_
        refine wpList_ldA (t := 64) 64 (.tmp 2) rfl rfl (rstC A n c S) rfl (bs) (whole_ _) vr1 vr2 (szRst A n c S) ?_
        simp only [Act.put, List.setIfInBounds_toArray, List.set_cons_zero, List.set_cons_succ]
        refine wpList_stA (t := 64) 64 (.tmp 4) (.tmp 19) rfl rfl (rstC A n c S) (rstC none 0 0 stk0) (by rw [rstC_len, rstC_len]) (rstC_one _ _ _ _) rfl rfl bz (szRst _ _ _ _) ?_
        intro W9 h9 g9
        refine wpList_plain rfl (fun K hK => ?_); go_simp; with_reducible refine hK _ _ ?_; clear hK K
        go_wp2
        refine bodyPost_agg2 Try.results55 rfl rfl h9.range vr1 vr2 (szRst _ _ _ _) rfl ?_
        exact RetRS.mk (S' := S) (by rw [he.out]; rfl) (hRR.out _ (below_grown be g9 (by omega))) (below_grown be g9 (by omega))
  · have hr := hasB_rg hd
    obtain ⟨i, rfl⟩ : ∃ i : Nat, v = i := ⟨v.toNat, by omega⟩
    have i1 : ¬ (i : Int) < 0 := by omega
    have i2 : ¬ 7 < (i : Int) := by omega
    have i3 : (i : Int) < 8 := by omega
    have hc := rstC_bz A n c S i (by omega)
    have hb : S.bz.testBit i = true := by have := hr.2.2; rwa [show ((i : Int) - ((0 : Nat) : Int)).toNat = i by omega] at this
    rw [hb] at hc
    have he := Lib.hid (show EE = 0 by rw [← HEE.out]; unfold rlsE; rw [hd]; rfl)
    have hset := Lib.hid (rstC_setBz A n c S (rlsS S (i : Int)) i false (by have := refBz_rel (S := S) (v := (i : Int)) hd hok; simpa using this) (refEv_rls S _))
    clear HEE hd hr hb
    generalize rlsS S (i : Int) = ES at *
    have hzv : ∀ w, (zeroValue 64).run Try.prog w = .ok (.agg (rstC none 0 0 stk0).toArray) w := fun _ => by kernel_rfl
    obtain ⟨dvr1, vr1, vr2⟩ := rowRst
    have bs : Bk ((w.alloc (.cells (rstC A n c S).toArray 64)).alloc (.cells (rstC none 0 0 stk0).toArray 64)) w.heap.size 64 (rstC A n c S) := (Bk.new w 64 (rstC A n c S).toArray).alloc _
    have bz : Bk ((w.alloc (.cells (rstC A n c S).toArray 64)).alloc (.cells (rstC none 0 0 stk0).toArray 64)) (w.heap.size + 1) 64 (rstC none 0 0 stk0) := Bk.newK _ _ _ (by simp) rfl
    have be : Below w.heap.size w ((w.alloc (.cells (rstC A n c S).toArray 64)).alloc (.cells (rstC none 0 0 stk0).toArray 64)) := Below.allocS (Below.allocS (Below.refl _ _) _) _
    have zV : w.heap.size + 2 ≤ ((w.alloc (.cells (rstC A n c S).toArray 64)).alloc (.cells (rstC none 0 0 stk0).toArray 64)).heap.size := by simp
    go_enter Try.func55, Try.ntmps55
    go_upto_region 1 with (fail)
    generalize (w.alloc (.cells (rstC A n c S).toArray 64)).alloc (.cells (rstC none 0 0 stk0).toArray 64) = V at *
    have q0 : V.cell? ⟨w.heap.size, 66 + i, none⟩ = some (.bool true) := (bs.cell _).trans hc
    go_upto_region 3 with (fail)
    refine wp_region_lit ?_
    iterate 3 (refine wpList_plain rfl (fun K hK => ?_); go_simp; with_reducible refine hK _ _ ?_; clear hK K)
    refine wpList_st1 4 (.tmp 22) (.const (.bool false)) rfl rfl rfl rfl bs (by rw [rstC_len]; omega) rfl (by kernel_rfl) ?_
    intro W4 h4 g4
    simp only [Act.put, List.setIfInBounds_toArray, List.set_cons_zero, List.set_cons_succ]
    replace bs : Bk W4 w.heap.size 64 (rstC A n c ES) := by rw [← hset.out]; exact h4
    replace bz := bz.grown g4 (fun e => by injection e with e; omega)
    replace be := below_grown be g4 (Nat.le_refl _)
    clear h4 g4 q0
    go_upto_region 4 with (fail)
    refine wp_region_lit ?_
    refine wpList_ldA (t := 64) 64 (.tmp 2) rfl rfl (rstC A n c ES) rfl (bs) (whole_ _) vr1 vr2 (szRst A n c ES) ?_
    simp only [Act.put, List.setIfInBounds_toArray, List.set_cons_zero, List.set_cons_succ]
    refine wpList_stA (t := 64) 64 (.tmp 4) (.tmp 23) rfl rfl (rstC A n c ES) (rstC none 0 0 stk0) (by rw [rstC_len, rstC_len]) (rstC_one _ _ _ _) rfl rfl bz (szRst _ _ _ _) ?_
    intro W9 h9 g9
    refine wpList_plain rfl (fun K hK => ?_); go_simp; with_reducible refine hK _ _ ?_; clear hK K
    go_wp2
    refine bodyPost_agg2 Try.results55 rfl rfl h9.range vr1 vr2 (szRst _ _ _ _) rfl ?_
    exact RetRS.mk (S' := S) (by rw [he.out]; rfl) (hRR.out _ (below_grown be g9 (by omega))) (below_grown be g9 (by omega))
theorem etE : ET Try.prog 60 123 (.agg #[.int .i64 0, .slice none 0 0]) 2 32 := ⟨Try.underlying60, by kernel_rfl, rfl, by decide, by decide⟩
theorem bodyPost_agg3s {P : Program} {fn : Func} {R : Ending → World → Prop} {a : Act} {w : World} {slot slot2 slot3 ty g : Nat} {d : TypeDesc} {cs : List Value} {u u' : Value} (hfr : fn.results = #[.cell slot ty, .tmp slot2, .tmp slot3]) (hs : a.tmps.getD slot undef = .pointer (some ⟨g, 0, none⟩)) (hs2 : a.tmps.getD slot2 undef = u) (hs3 : a.tmps.getD slot3 undef = u')
    (hb : w.rangeAt g 0 cs) (hu : P.underlying ty = some d) (hd : d.isRow = true) (hi : (P.info? ty).map (·.size) = some cs.length) (hdf : a.defers = []) (hR : R (.returned (.tuple #[.agg cs.toArray, u, u'])) w) : bodyPost P fn R .ret a w := by
  refine bodyPost_ret (v := .tuple #[.agg cs.toArray, u, u']) ?_ hdf hR
  have h1 := run_loadVar_mid (P := P) w g 0 ty cs d hb hu hd hi
  have hs' : a.tmps[slot]?.getD undef = .pointer (some ⟨g, 0, none⟩) := by simpa using hs
  have hs2' : a.tmps[slot2]?.getD undef = u := by simpa using hs2
  have hs3' : a.tmps[slot3]?.getD undef = u' := by simpa using hs3
  simp [results, hfr, hs', hs2', hs3', asAddr, h1]
theorem rstC_setL (A : Option Addr) (n c : Nat) (B : Option Addr) (m d : Nat) (S S' : Stk) (h1 : S'.ev = S.ev) (h2 : S'.bz = S.bz) : (rstC A n c S).set 0 (.slice B m d) = rstC B m d S' := by
  unfold rstC refEv refBz deadS
  rw [h1, h2]
  rfl
set_option maxHeartbeats 4000000 in
set_option maxRecDepth 100000 in
theorem refPush_any (S : Stk) (hok : StkOk S) (A : Option Addr) (n c : Nat) (t : Tab) (B : Option Addr) (m d : Nat) (w : World) {D : Nat → Prop} (hD : ∀ b, D b → b < w.heap.size) (hR : RSt D w S.lv A n c) (hT : Rs 1 w B m d (itK (refT t))) (hB : Off D w B) : Calls Try.prog 62 #[.agg (rstC A n c S).toArray, .slice B m d] w (RetRS D w (pushS S t) (fun x => .tuple #[x, .int .i64 (pushV S : Nat), .int .i64 (pushE S : Nat)])) := by
  have HF := Lib.hid (fun w h => refFree_any S hok.len A n c w (D := D) h)
  have HR0 := Lib.hid (And.intro hR hT)
  obtain ⟨PV, hPV⟩ : ∃ x, pushV S = x := ⟨_, rfl⟩
  obtain ⟨PE, hPE⟩ : ∃ x, pushE S = x := ⟨_, rfl⟩
  rw [hPV, hPE]
  have HPV := Lib.hid hPV
  have HPE := Lib.hid hPE
  clear hPV hPE
  have hn8 : n ≤ 8 := by have := hR.len; have := hok.len; omega
  by_cases hf : freeS S < 8
  · have e1 : frR S = (freeS S : Int) := if_pos hf
    rw [e1] at HF
    have hs : pushS S t = { S with lv := S.lv ++ [(freeS S, t)] } := if_pos hf
    rw [hs]
    have hv := Lib.hid (show PV = freeS S by rw [← HPV.out]; exact if_pos hf)
    have he := Lib.hid (show PE = 0 by rw [← HPE.out]; exact if_pos hf)
    clear HPV HPE e1 hs
    generalize freeS S = fv at *
    have i0 : ¬ (fv : Int) < 0 := by omega
    have hzv : ∀ w, (zeroValue 64).run Try.prog w = .ok (.agg (rstC none 0 0 stk0).toArray) w := fun _ => by kernel_rfl
    obtain ⟨dvr1, vr1, vr2⟩ := rowRst
    have bs : Bk ((w.alloc (.cells (rstC A n c S).toArray 64)).alloc (.cells (rstC none 0 0 stk0).toArray 64)) w.heap.size 64 (rstC A n c S) := (Bk.new w 64 (rstC A n c S).toArray).alloc _
    have bz : Bk ((w.alloc (.cells (rstC A n c S).toArray 64)).alloc (.cells (rstC none 0 0 stk0).toArray 64)) (w.heap.size + 1) 64 (rstC none 0 0 stk0) := Bk.newK _ _ _ (by simp) rfl
    have be : Below w.heap.size w ((w.alloc (.cells (rstC A n c S).toArray 64)).alloc (.cells (rstC none 0 0 stk0).toArray 64)) := Below.allocS (Below.allocS (Below.refl _ _) _) _
    have zV : w.heap.size + 2 ≤ ((w.alloc (.cells (rstC A n c S).toArray 64)).alloc (.cells (rstC none 0 0 stk0).toArray 64)).heap.size := by simp
    go_enter Try.func62, Try.ntmps62
    go_upto_region 1 with (fail)
    generalize (w.alloc (.cells (rstC A n c S).toArray 64)).alloc (.cells (rstC none 0 0 stk0).toArray 64) = V at *
    go_upto_region 1 with (fail)
    obtain ⟨E, hE0, hrE0, -, hEd⟩ := HR0.out.1
    have HE0 := Lib.hid hE0
    have HrE0 := Lib.hid hrE0
    clear hE0 hrE0
    replace hR := hR.later be
    replace hT := hT.later be
    refine wp_region_lit ?_
    refine wpList_ldA (t := 64) 64 (.tmp 2) rfl rfl (rstC A n c S) rfl (bs) (whole_ _) vr1 vr2 (szRst A n c S) ?_
    refine wpList_plain rfl (fun K hK => ?_)
    go_simp
    refine (HF.out _ hR).mono ?_
    rintro e w1 ⟨bs1, d1, rfl, rfl⟩
    with_reducible refine hK _ _ ?_
    clear hK K
    refine wpList_plain rfl (fun K hK => ?_); go_simp; with_reducible refine hK _ _ ?_; clear hK K
    replace hR := hR.later (below_plus V bs1 d1)
    replace hT := hT.later (below_plus V bs1 d1)
    replace bs := bs.later (below_plus V bs1 d1)
    replace bz := bz.later (below_plus V bs1 d1)
    replace be := belowP be bs1 d1
    clear HF zV
    generalize plus V bs1 d1 = W at *
    have zW := bz.lt
    have hE := HE0.out.later be
    have hrE := HrE0.out.later be
    have hnE : n ≤ 8 := hn8
    go_upto_region 4 with (fail)
    refine wp_region_lit ?_
    iterate 2 (refine wpList_plain rfl (fun K hK => ?_); go_simp; with_reducible refine hK _ _ ?_; clear hK K)
    refine wpList_ld1 (t := 64) (cs := rstC A n c S) 60 (.tmp 14) rfl (by rfl) rfl (bs.alloc _) rfl Try.underlying60 rfl ?_
    simp only [Act.put, List.setIfInBounds_toArray, List.set_cons_zero, List.set_cons_succ]
    refine wpList_appS etE rfl (.tmp 13) (.tmp 15) rfl rfl (Os.lit W (Nat.le_refl _) #[] 0 rfl (Nat.zero_le _)) rfl (hrE.alloc _) (flat_one enE enE_one _) (by omega) (by simp) ?_
    intro A2 n2 c2 w4 hn2 hO4 hb4 hg4
    subst hn2
    simp only [Act.put, List.setIfInBounds_toArray, List.set_cons_zero, List.set_cons_succ]
    have hb4W : Below W.heap.size W w4 := (Below.allocS (Below.refl _ _) _).trans hb4
    simp only [List.nil_append, Nat.zero_add] at hO4
    iterate 4 (refine wpList_plain rfl (fun K hK => ?_); go_simp; with_reducible refine hK _ _ ?_; clear hK K)
    have belowW : Below W.heap.size W (w4.alloc (.cells #[.int .i64 (fv : Int), .slice B m d] 123)) := Below.allocS hb4W _
    refine wpList_appS etE rfl (.tmp 16) (.tmp 20) rfl rfl (hO4.later (Below.allocS (Below.refl _ _) _)) rfl (Rs.of_bk (n := 1) (c := 1) (Bk.new w4 _ _) rfl (Nat.le_refl _)) (by simp [Value.oneCell']) (by omega) belowW.size ?_
    intro A3 n3 c3 w5 hn3 hO5 hb5 hg5
    subst hn3
    simp only [Act.put, List.setIfInBounds_toArray, List.set_cons_zero, List.set_cons_succ]
    have hbw := belowW.trans hb5
    replace bs := bs.later hbw
    replace bz := bz.later hbw
    replace be := be.trans (hbw.mono be.size)
    have zw := hbw.size
    clear belowW hO4 hb4 hg4 hb4W hb5 hg5 hE hrE hT hbw
    have hset := rstC_setL A n c A3 (n + 1) c3 S { S with lv := S.lv ++ [(fv, t)] } rfl rfl
    refine wpList_plain rfl (fun K hK => ?_); go_simp; with_reducible refine hK _ _ ?_; clear hK K
    refine wpList_st1 60 (.tmp 22) (.tmp 21) rfl rfl rfl rfl bs (by rw [rstC_len]; omega) rfl (by kernel_rfl) ?_
    intro W6 h6 g6
    simp only [Act.put, List.setIfInBounds_toArray, List.set_cons_zero, List.set_cons_succ]
    replace bs : Bk W6 w.heap.size 64 (rstC A3 (n + 1) c3 { S with lv := S.lv ++ [(fv, t)] }) := by rw [← hset]; exact h6
    replace bz := bz.grown g6 (fun e => by injection e with e; omega)
    have hO6 := hO5.grown g6 (fun k hk e => by have := (hO5.blk k hk).1; injection e with e; omega)
    replace be := below_grown be g6 (Nat.le_refl _)
    clear h6 g6 hO5 hset
    generalize hES : ({ S with lv := S.lv ++ [(fv, t)] } : Stk) = ES at *
    go_upto_region 5 with (fail)
    refine wp_region_lit ?_
    refine wpList_ldA (t := 64) 64 (.tmp 2) rfl rfl (rstC A3 (n + 1) c3 ES) rfl (bs) (whole_ _) vr1 vr2 (szRst A3 (n + 1) c3 ES) ?_
    refine wpList_plain rfl (fun K hK => ?_); go_simp; with_reducible refine hK _ _ ?_; clear hK K
    refine wpList_stA (t := 64) 64 (.tmp 4) (.tmp 23) rfl rfl (rstC A3 (n + 1) c3 ES) (rstC none 0 0 stk0) (by rw [rstC_len, rstC_len]) (rstC_one _ _ _ _) rfl rfl bz (szRst _ _ _ _) ?_
    intro W9 h9 g9
    iterate 2 (refine wpList_plain rfl (fun K hK => ?_); go_simp; with_reducible refine hK _ _ ?_; clear hK K)
    go_wp2
    refine bodyPost_agg3s Try.results62 rfl rfl rfl h9.range vr1 vr2 (szRst _ _ _ _) rfl ?_
    have be9 := below_grown be g9 (by omega)
    have hO9 := hO6.grown g9 (fun k hk e => by have := (hO6.blk k hk).1; injection e with e; omega)
    refine RetRS.mk (S' := S) (by rw [hv.out, he.out]; rfl) ?_ be9
    rw [← hES]
    refine ⟨E ++ [(fv, B, m, d)], (HE0.out.later be9).snoc fv t B m d (HR0.out.2.later be9), ?_, Off.own hO9 (fun b hb => by have := hD b hb; omega), fun e he => ?_⟩
    · have := hO9.rs
      rw [List.flatMap_append]
      simpa [enE] using this
    · rcases List.mem_append.1 he with he | he
      · exact (hEd e he).size be9.size
      · simp only [List.mem_cons, List.not_mem_nil, or_false] at he
        subst he
        exact hB.size be9.size
  · have e1 : frR S = -1 := if_neg hf
    rw [e1] at HF
    have hs : pushS S t = S := if_neg hf
    rw [hs]
    have hv := Lib.hid (show PV = 0 by rw [← HPV.out]; exact if_neg hf)
    have he := Lib.hid (show PE = 23 by rw [← HPE.out]; exact if_neg hf)
    clear HPV HPE e1 hs
    have hzv : ∀ w, (zeroValue 64).run Try.prog w = .ok (.agg (rstC none 0 0 stk0).toArray) w := fun _ => by kernel_rfl
    obtain ⟨dvr1, vr1, vr2⟩ := rowRst
    have bs : Bk ((w.alloc (.cells (rstC A n c S).toArray 64)).alloc (.cells (rstC none 0 0 stk0).toArray 64)) w.heap.size 64 (rstC A n c S) := (Bk.new w 64 (rstC A n c S).toArray).alloc _
    have bz : Bk ((w.alloc (.cells (rstC A n c S).toArray 64)).alloc (.cells (rstC none 0 0 stk0).toArray 64)) (w.heap.size + 1) 64 (rstC none 0 0 stk0) := Bk.newK _ _ _ (by simp) rfl
    have be : Below w.heap.size w ((w.alloc (.cells (rstC A n c S).toArray 64)).alloc (.cells (rstC none 0 0 stk0).toArray 64)) := Below.allocS (Below.allocS (Below.refl _ _) _) _
    have zV : w.heap.size + 2 ≤ ((w.alloc (.cells (rstC A n c S).toArray 64)).alloc (.cells (rstC none 0 0 stk0).toArray 64)).heap.size := by simp
    go_enter Try.func62, Try.ntmps62
    go_upto_region 1 with (fail)
    generalize (w.alloc (.cells (rstC A n c S).toArray 64)).alloc (.cells (rstC none 0 0 stk0).toArray 64) = V at *
    go_upto_region 1 with (fail)
    replace hR := hR.later be
    refine wp_region_lit ?_
    refine wpList_ldA (t := 64) 64 (.tmp 2) rfl rfl (rstC A n c S) rfl (bs) (whole_ _) vr1 vr2 (szRst A n c S) ?_
    refine wpList_plain rfl (fun K hK => ?_)
    go_simp
    refine (HF.out _ hR).mono ?_
    rintro e w1 ⟨bs1, d1, rfl, rfl⟩
    with_reducible refine hK _ _ ?_
    clear hK K
    refine wpList_plain rfl (fun K hK => ?_); go_simp; with_reducible refine hK _ _ ?_; clear hK K
    replace hR := hR.later (below_plus V bs1 d1)
    replace bs := bs.later (below_plus V bs1 d1)
    replace bz := bz.later (below_plus V bs1 d1)
    replace be := belowP be bs1 d1
    clear HF zV
    generalize plus V bs1 d1 = W at *
    have zW := bz.lt
    go_upto_region 3 with (fail)
    refine wp_region_lit ?_
    refine wpList_ldA (t := 64) 64 (.tmp 2) rfl rfl (rstC A n c S) rfl (bs) (whole_ _) vr1 vr2 (szRst A n c S) ?_
    simp only [Act.put, List.setIfInBounds_toArray, List.set_cons_zero, List.set_cons_succ]
    refine wpList_stA (t := 64) 64 (.tmp 4) (.tmp 12) rfl rfl (rstC A n c S) (rstC none 0 0 stk0) (by rw [rstC_len, rstC_len]) (rstC_one _ _ _ _) rfl rfl bz (szRst _ _ _ _) ?_
    intro W9 h9 g9
    iterate 2 (refine wpList_plain rfl (fun K hK => ?_); go_simp; with_reducible refine hK _ _ ?_; clear hK K)
    go_wp2
    refine bodyPost_agg3s Try.results62 rfl rfl rfl h9.range vr1 vr2 (szRst _ _ _ _) rfl ?_
    exact RetRS.mk (S' := S) (by rw [hv.out, he.out]; rfl) (HR0.out.1.later (below_grown be g9 (by omega))) (below_grown be g9 (by omega))
theorem refEv_ret (S : Stk) (v : Int) : refEv (retS S v) = refEv S := by unfold retS; split <;> rfl
set_option maxHeartbeats 4000000 in
set_option maxRecDepth 100000 in
theorem refRetire_any (S : Stk) (hok : StkOk S) (A : Option Addr) (n c : Nat) (v : Int) (w : World) {D : Nat → Prop} (hD : ∀ b, D b → b < w.heap.size) (hR : RSt D w S.lv A n c) : Calls Try.prog 54 #[.agg (rstC A n c S).toArray, .int .i64 v] w (RetRS D w (retS S v) (fun x => .tuple #[x, .int .i64 (retE S v : Nat)])) := by
  have h8 := hok.len
  have HI := Lib.hid (fun w h => refIndexS_any S h8 A n c v w (D := D) h)
  obtain ⟨EE, hEE⟩ : ∃ x, retE S v = x := ⟨_, rfl⟩
  rw [hEE]
  have HEE := Lib.hid hEE
  clear hEE
  have hn := hR.len
  have hcap := hR.cap
  have HR0 := Lib.hid hR
  by_cases hl : idxS S v < S.lv.length
  · have hix : ixS S v = (idxS S v : Int) := if_pos hl
    rw [hix] at HI
    by_cases hl2 : idxS S v + 1 < S.lv.length
    · have he := Lib.hid (show EE = 0 by rw [← HEE.out]; unfold retE; rw [if_pos hl2])
      obtain ⟨E, hE0, hrE0, -, hEd⟩ := hR
      have hat := idxS_at hl
      have hv8 := (hok.rg _ (List.getElem_mem hl)).1
      obtain ⟨i, rfl⟩ : ∃ i : Nat, v = i := ⟨v.toNat, by omega⟩
      have hi8 : i < 8 := by omega
      have hlv : (retS S (i : Int)).lv = S.lv.eraseIdx (idxS S (i : Int)) := by unfold retS; rw [if_pos hl2]
      have hEE0 : EnOk w (retS S (i : Int)).lv (E.eraseIdx (idxS S (i : Int))) := by rw [hlv]; exact hE0.erase _
      have hbz : refBz (retS S (i : Int)) = (refBz S).set i true := by have := refBz_ret hl2 hok; simpa using this
      have hev := refEv_ret S (i : Int)
      have hEl := hE0.1
      clear hat hv8 hix hE0
      generalize idxS S (i : Int) = k at *
      generalize retS S (i : Int) = RS at *
      clear HEE hlv
      have HEE0 := Lib.hid hEE0
      have HBZ := Lib.hid hbz
      have HEV := Lib.hid hev
      obtain ⟨xb, xo, rfl, hxb, -⟩ := hrE0.at_ (by omega) (by decide)
      have htake0 : Rs 2 w (some ⟨xb, xo, none⟩) k c ((E.take k).flatMap enE) := by have h := hrE0.take (k := k) (by omega); rw [flat_take enE 2 enE_len] at h; exact h
      have hcut0 : Rs 2 w (cutA (some ⟨xb, xo, none⟩) c (k + 1) 2) (n - (k + 1)) (c - (k + 1)) ((E.drop (k + 1)).flatMap enE) := by have h := hrE0.cut (k := k + 1) (by omega); rw [flat_drop enE 2 enE_len] at h; exact h
      have l1 : k ≤ n := by omega
      have l2 : (k : Int) ≤ (n : Int) := by omega
      have l3 : (n : Int) ≤ (c : Int) := by omega
      have l4 : k ≤ c := by omega
      have l5 : (k : Int) ≤ (c : Int) := by omega
      have l6 : k + 1 ≤ n := by omega
      have l7 : ((k + 1 : Nat) : Int) ≤ (n : Int) := by omega
      have l8 : IntKind.i64.wrap ((k : Int) + 1) = ((k + 1 : Nat) : Int) := by rw [IntWalk.i64_in _ (by omega)]; simp
      have l9 : ((k + 1 : Nat) : Int) ≤ (c : Int) := by omega
      have l10 : k + 1 ≤ c := by omega
      have l11 : 0 ≤ (k : Int) + 1 := by omega
      have l12 : (k : Int) + 1 ≤ (n : Int) := by omega
      have l13 : ¬ (k : Int) < 0 := by omega
      have l14 : IntKind.i64.wrap ((n : Int) - 1) = (n : Int) - 1 := IntWalk.i64_in _ (by omega)
      have l15 : ((k : Int) == (n : Int) - 1) = false := by simp; omega
      have n8 : n ≤ 8 := by omega
      have ii8 : (i : Int) < 8 := by omega
      clear hn hEE0 hbz hev hEl hrE0 hcap
      have hzv : ∀ w, (zeroValue 64).run Try.prog w = .ok (.agg (rstC none 0 0 stk0).toArray) w := fun _ => by kernel_rfl
      obtain ⟨dvr1, vr1, vr2⟩ := rowRst
      have bs : Bk ((w.alloc (.cells (rstC (some ⟨xb, xo, none⟩) n c S).toArray 64)).alloc (.cells (rstC none 0 0 stk0).toArray 64)) w.heap.size 64 (rstC (some ⟨xb, xo, none⟩) n c S) := (Bk.new w 64 (rstC (some ⟨xb, xo, none⟩) n c S).toArray).alloc _
      have bz : Bk ((w.alloc (.cells (rstC (some ⟨xb, xo, none⟩) n c S).toArray 64)).alloc (.cells (rstC none 0 0 stk0).toArray 64)) (w.heap.size + 1) 64 (rstC none 0 0 stk0) := Bk.newK _ _ _ (by simp) rfl
      have be : Below w.heap.size w ((w.alloc (.cells (rstC (some ⟨xb, xo, none⟩) n c S).toArray 64)).alloc (.cells (rstC none 0 0 stk0).toArray 64)) := Below.allocS (Below.allocS (Below.refl _ _) _) _
      have zV : w.heap.size + 2 ≤ ((w.alloc (.cells (rstC (some ⟨xb, xo, none⟩) n c S).toArray 64)).alloc (.cells (rstC none 0 0 stk0).toArray 64)).heap.size := by simp
      go_enter Try.func54, Try.ntmps54
      go_upto_region 1 with (fail)
      generalize (w.alloc (.cells (rstC (some ⟨xb, xo, none⟩) n c S).toArray 64)).alloc (.cells (rstC none 0 0 stk0).toArray 64) = V at *
      go_upto_region 1 with (fail)
      refine wp_region_lit ?_
      refine wpList_ldA (t := 64) 64 (.tmp 2) rfl rfl (rstC (some ⟨xb, xo, none⟩) n c S) rfl (bs) (whole_ _) vr1 vr2 (szRst _ _ _ _) ?_
      refine wpList_plain rfl (fun K hK => ?_); go_simp; with_reducible refine hK _ _ ?_; clear hK K
      refine wpList_plain rfl (fun K hK => ?_)
      go_simp
      refine (HI.out _ (HR0.out.later be)).mono ?_
      rintro e w1 ⟨bs1, d1, rfl, rfl⟩
      with_reducible refine hK _ _ ?_
      clear hK K
      replace bs := bs.later (below_plus V bs1 d1)
      replace bz := bz.later (below_plus V bs1 d1)
      replace be := belowP be bs1 d1
      have zW := bz.lt
      clear HI zV
      generalize plus V bs1 d1 = W at *
      refine wpList_plain rfl (fun K hK => ?_); go_simp; with_reducible refine hK _ _ ?_; clear hK K
      have htake := htake0.later be
      have hcut := hcut0.later be
      have q0 : W.cell? ⟨w.heap.size, 0, none⟩ = some (.slice (some ⟨xb, xo, none⟩) n c) := bs.cell 0
      go_upto_region 6 with (fail)
      clear q0
      refine wp_relS 11 37 rfl (by kernel_rfl) (by kernel_rfl) ?_
      apply Steps.one (MP.ofs 123 2 W.heap.size []) 1 rfl
      · intro o ho FA x hO hD K hK
        obtain rfl := Option.some.inj ho.symm
        clear ho
        clear hO hD
        go_simp
        refine hK.out _ _ (Ex.alloc _ _) ⟨_, _, rfl, ?_⟩
        have h := Os.lit (s := 2) (e := 123) (base := W.heap.size) (plus W x.bs x.d) (by simp [size_plus]) #[] 0 rfl (Nat.zero_le _)
        rw [size_plus] at h
        exact h
      apply Steps.one (MP.eq _) 2 rfl
      · intro o ho FA x hO hD K hK
        obtain rfl := Option.some.inj ho.symm
        clear ho
        have e2 := hO 2 (by kernel_rfl)
        simp only [eval_tmp, List.getElem?_toArray, List.getElem?_cons_succ, List.getElem?_cons_zero, Option.getD_some] at e2
        have ev2 := Lib.hid ((eval_tmp FA 2).trans e2)
        clear hO hD
        go_simp
        exact hK.out _ _ (Ex.refl _) rfl
      apply Steps.one (MP.eq _) 3 rfl
      · intro o ho FA x hO hD K hK
        obtain rfl := Option.some.inj ho.symm
        clear ho
        have ev21 : FA.eval (.tmp 21) = _ := hD 1 21 (by kernel_rfl)
        have e21 := (eval_tmp FA 21).symm.trans ev21
        replace ev21 := Lib.hid ev21
        clear hO hD
        refine wanted_if rfl ?_
        refine wp_ld1 60 (.tmp 21) rfl ev21.out (bs.later (below_plus _ _ _)) rfl Try.underlying60 rfl ?_
        exact hK.out _ _ (Ex.refl _) rfl
      apply Steps.one (MP.eq _) 4 rfl
      · intro o ho FA x hO hD K hK
        obtain rfl := Option.some.inj ho.symm
        clear ho
        have e6 := hO 6 (by kernel_rfl)
        simp only [eval_tmp, List.getElem?_toArray, List.getElem?_cons_succ, List.getElem?_cons_zero, Option.getD_some] at e6
        have ev6 := Lib.hid ((eval_tmp FA 6).trans e6)
        clear hO hD
        go_simp
        exact hK.out _ _ (Ex.refl _) rfl
      apply Steps.one (MP.eq _) 5 rfl
      · intro o ho FA x hO hD K hK
        obtain rfl := Option.some.inj ho.symm
        clear ho
        have ev22 : FA.eval (.tmp 22) = _ := hD 2 22 (by kernel_rfl)
        have e22 := (eval_tmp FA 22).symm.trans ev22
        replace ev22 := Lib.hid ev22
        have ev23 : FA.eval (.tmp 23) = _ := hD 3 23 (by kernel_rfl)
        have e23 := (eval_tmp FA 23).symm.trans ev23
        replace ev23 := Lib.hid ev23
        clear hO hD
        go_simp
        exact hK.out _ _ (Ex.refl _) rfl
      apply Steps.one (MP.os 123 2 W.heap.size ([] ++ (E.take k).flatMap enE)) 6 rfl
      · intro o ho FA x hO hD K hK
        obtain rfl := Option.some.inj ho.symm
        clear ho
        have f20 := hD 0 20 (by kernel_rfl)
        generalize eu20 : FA.eval (.tmp 20) = u20 at f20
        have e20 := (eval_tmp FA 20).symm.trans eu20
        have ev20 := Lib.hid eu20
        clear eu20
        have ev24 : FA.eval (.tmp 24) = _ := hD 4 24 (by kernel_rfl)
        have e24 := (eval_tmp FA 24).symm.trans ev24
        replace ev24 := Lib.hid ev24
        clear hO hD
        obtain ⟨A1, n1, hv1, h1⟩ := f20
        have hn1 : n1 = 0 := by have := h1.rs.1; simp at this; omega
        subst hn1
        refine wanted_if rfl ?_
        refine wp_appFS etE (.tmp 20) (.tmp 24) rfl (ev20.out.trans hv1) h1 ev24.out (htake.plus_ x.bs x.d) (flat_one enE enE_one _) (by omega) (by simp [size_plus]) ?_
        intro A3 n3 c3 w3 hn3 ho3 hex
        exact hK.out _ _ hex ⟨_, _, _, rfl, ho3⟩
      apply Steps.one (MP.eq _) 7 rfl
      · intro o ho FA x hO hD K hK
        obtain rfl := Option.some.inj ho.symm
        clear ho
        have e2 := hO 2 (by kernel_rfl)
        simp only [eval_tmp, List.getElem?_toArray, List.getElem?_cons_succ, List.getElem?_cons_zero, Option.getD_some] at e2
        have ev2 := Lib.hid ((eval_tmp FA 2).trans e2)
        clear hO hD
        go_simp
        exact hK.out _ _ (Ex.refl _) rfl
      apply Steps.one (MP.eq _) 8 rfl
      · intro o ho FA x hO hD K hK
        obtain rfl := Option.some.inj ho.symm
        clear ho
        have ev26 : FA.eval (.tmp 26) = _ := hD 6 26 (by kernel_rfl)
        have e26 := (eval_tmp FA 26).symm.trans ev26
        replace ev26 := Lib.hid ev26
        clear hO hD
        refine wanted_if rfl ?_
        refine wp_ld1 60 (.tmp 26) rfl ev26.out (bs.later (below_plus _ _ _)) rfl Try.underlying60 rfl ?_
        exact hK.out _ _ (Ex.refl _) rfl
      apply Steps.one (MP.eq _) 9 rfl
      · intro o ho FA x hO hD K hK
        obtain rfl := Option.some.inj ho.symm
        clear ho
        have e6 := hO 6 (by kernel_rfl)
        simp only [eval_tmp, List.getElem?_toArray, List.getElem?_cons_succ, List.getElem?_cons_zero, Option.getD_some] at e6
        have ev6 := Lib.hid ((eval_tmp FA 6).trans e6)
        clear hO hD
        go_simp
        exact hK.out _ _ (Ex.refl _) rfl
      apply Steps.one (MP.eq _) 10 rfl
      · intro o ho FA x hO hD K hK
        obtain rfl := Option.some.inj ho.symm
        clear ho
        have ev28 : FA.eval (.tmp 28) = _ := hD 8 28 (by kernel_rfl)
        have e28 := (eval_tmp FA 28).symm.trans ev28
        replace ev28 := Lib.hid ev28
        clear hO hD
        go_simp
        exact hK.out _ _ (Ex.refl _) rfl
      apply Steps.one (MP.eq _) 11 rfl
      · intro o ho FA x hO hD K hK
        obtain rfl := Option.some.inj ho.symm
        clear ho
        have ev27 : FA.eval (.tmp 27) = _ := hD 7 27 (by kernel_rfl)
        have e27 := (eval_tmp FA 27).symm.trans ev27
        replace ev27 := Lib.hid ev27
        have ev29 : FA.eval (.tmp 29) = _ := hD 9 29 (by kernel_rfl)
        have e29 := (eval_tmp FA 29).symm.trans ev29
        replace ev29 := Lib.hid ev29
        clear hO hD
        go_simp
        exact hK.out _ _ (Ex.refl _) rfl
      refine Steps.fin_ (fun vs x hp => ?_)
      have p0 := hp 0 (by omega)
      have p1 : vs 1 = _ := hp 1 (by omega)
      have p2 : vs 2 = _ := hp 2 (by omega)
      have p3 : vs 3 = _ := hp 3 (by omega)
      have p4 : vs 4 = _ := hp 4 (by omega)
      have p5 := hp 5 (by omega)
      have p6 : vs 6 = _ := hp 6 (by omega)
      have p7 : vs 7 = _ := hp 7 (by omega)
      have p8 : vs 8 = _ := hp 8 (by omega)
      have p9 : vs 9 = _ := hp 9 (by omega)
      have p10 : vs 10 = _ := hp 10 (by omega)
      clear hp
      simp only [List.take_succ_cons, List.take_zero, List.drop_succ_cons, List.drop_zero, putAll, Nat.zero_add, Nat.reduceAdd, Act.put, List.setIfInBounds_toArray, List.set_cons_zero, List.set_cons_succ, p1, p2, p3, p4, p6, p7, p8, p9, p10]
      clear p1 p2 p3 p4 p6 p7 p8 p9 p10
      generalize vs 0 = y0 at *
      generalize vs 5 = y5 at *
      clear vs
      obtain ⟨A4, n4, c4, rfl, h4⟩ := p5
      have hbx := below_plus W x.bs x.d
      replace hcut := hcut.later hbx
      replace bs := bs.later hbx
      replace bz := bz.later hbx
      replace be := be.trans (hbx.mono be.size)
      have zX := hbx.size
      have hl4 := h4.rs.1
      simp only [List.nil_append] at h4 hl4
      rw [flat_len enE 2 enE_len, List.length_take] at hl4
      have hn4 : n4 ≤ 100 := by omega
      clear hl4 hbx htake
      generalize plus W x.bs x.d = X at *
      refine wpList_appS etE rfl (.tmp 25) (.tmp 30) rfl rfl h4 rfl hcut (flat_one enE enE_one _) (by omega) zX ?_
      intro A5 n5 c5 w5 hn5 hO5 hb5 hg5
      simp only [Act.put, List.setIfInBounds_toArray, List.set_cons_zero, List.set_cons_succ]
      have hlen5 := hO5.1
      rw [← List.flatMap_append, ← List.eraseIdx_eq_take_drop_succ] at hO5 hlen5
      replace bs := bs.below hb5 (by omega)
      replace bz := bz.below hb5 (by omega)
      replace be := be.trans (hb5.mono (by omega))
      have z5 := hb5.size
      have hset := rstC_setL (some ⟨xb, xo, none⟩) n c A5 n5 c5 S { S with lv := RS.lv } rfl rfl
      clear h4 hcut hb5 hg5 hlen5 hn5
      refine wpList_plain rfl (fun K hK => ?_); go_simp; with_reducible refine hK _ _ ?_; clear hK K
      refine wpList_st1 60 (.tmp 32) (.tmp 31) rfl rfl rfl rfl bs (by rw [rstC_len]; omega) rfl (by kernel_rfl) ?_
      intro W6 h6 g6
      simp only [Act.put, List.setIfInBounds_toArray, List.set_cons_zero, List.set_cons_succ]
      replace bs : Bk W6 w.heap.size 64 (rstC A5 n5 c5 { S with lv := RS.lv }) := by rw [← hset]; exact h6
      replace bz := bz.grown g6 (fun e => by injection e with e; omega)
      have hO6 := hO5.grown g6 (fun k hk e => by have := (hO5.blk k hk).1; injection e with e; omega)
      replace be := below_grown be g6 (Nat.le_refl _)
      clear h6 g6 hO5 hset
      have hset := rstC_setBz A5 n5 c5 { S with lv := RS.lv } RS i true HBZ.out HEV.out
      go_upto_region 7 with (fail)
      refine wp_region_lit ?_
      iterate 3 (refine wpList_plain rfl (fun K hK => ?_); go_simp; with_reducible refine hK _ _ ?_; clear hK K)
      refine wpList_st1 4 (.tmp 35) (.const (.bool true)) rfl rfl rfl rfl bs (by rw [rstC_len]; omega) rfl (by kernel_rfl) ?_
      intro W7 h7 g7
      simp only [Act.put, List.setIfInBounds_toArray, List.set_cons_zero, List.set_cons_succ]
      replace bs : Bk W7 w.heap.size 64 (rstC A5 n5 c5 RS) := by rw [← hset]; exact h7
      replace bz := bz.grown g7 (fun e => by injection e with e; omega)
      have hO7 := hO6.grown g7 (fun k hk e => by have := (hO6.blk k hk).1; injection e with e; omega)
      replace be := below_grown be g7 (Nat.le_refl _)
      clear h7 g7 hO6 hset
      go_upto_region 8 with (fail)
      refine wp_region_lit ?_
      refine wpList_ldA (t := 64) 64 (.tmp 2) rfl rfl (rstC A5 n5 c5 RS) rfl (bs) (whole_ _) vr1 vr2 (szRst A5 n5 c5 RS) ?_
      simp only [Act.put, List.setIfInBounds_toArray, List.set_cons_zero, List.set_cons_succ]
      refine wpList_stA (t := 64) 64 (.tmp 4) (.tmp 36) rfl rfl (rstC A5 n5 c5 RS) (rstC none 0 0 stk0) (by rw [rstC_len, rstC_len]) (rstC_one _ _ _ _) rfl rfl bz (szRst _ _ _ _) ?_
      intro W9 h9 g9
      refine wpList_plain rfl (fun K hK => ?_); go_simp; with_reducible refine hK _ _ ?_; clear hK K
      go_wp2
      refine bodyPost_agg2 Try.results54 rfl rfl h9.range vr1 vr2 (szRst _ _ _ _) rfl ?_
      have be9 := below_grown be g9 (by omega)
      have hO9 := hO7.grown g9 (fun k hk e => by have := (hO7.blk k hk).1; injection e with e; omega)
      refine RetRS.mk (S' := S) (by rw [he.out]; rfl) ⟨_, HEE0.out.later be9, hO9.rs, Off.own hO9 (fun b hb => by have := hD b hb; have := be9.size; omega), fun e he2 => (hEd e (List.mem_of_mem_eraseIdx he2)).size be9.size⟩ be9
    · have he := Lib.hid (show EE = 1 by rw [← HEE.out]; unfold retE; rw [if_neg hl2, if_pos (by omega)])
      have hs : retS S v = S := by unfold retS; rw [if_neg hl2]
      rw [hs]
      clear HEE hs
      obtain ⟨m, hm⟩ : ∃ m, n = m + 1 := ⟨n - 1, by omega⟩
      subst hm
      rw [show idxS S v = m by omega] at HI
      have l1 : IntKind.i64.wrap (((m + 1 : Nat) : Int) - 1) = (m : Int) := by rw [IntWalk.i64_in _ (by omega)]; omega
      have l2 : IntKind.i64.wrap ((m : Int) + 1 - 1) = (m : Int) := by rw [IntWalk.i64_in _ (by omega)]; omega
      have l3 : IntKind.i64.wrap (m : Int) = (m : Int) := IntWalk.i64_in _ (by omega)
      clear hn hix hl hl2
      have hzv : ∀ w, (zeroValue 64).run Try.prog w = .ok (.agg (rstC none 0 0 stk0).toArray) w := fun _ => by kernel_rfl
      obtain ⟨dvr1, vr1, vr2⟩ := rowRst
      have bs : Bk ((w.alloc (.cells (rstC A (m + 1) c S).toArray 64)).alloc (.cells (rstC none 0 0 stk0).toArray 64)) w.heap.size 64 (rstC A (m + 1) c S) := (Bk.new w 64 (rstC A (m + 1) c S).toArray).alloc _
      have bz : Bk ((w.alloc (.cells (rstC A (m + 1) c S).toArray 64)).alloc (.cells (rstC none 0 0 stk0).toArray 64)) (w.heap.size + 1) 64 (rstC none 0 0 stk0) := Bk.newK _ _ _ (by simp) rfl
      have be : Below w.heap.size w ((w.alloc (.cells (rstC A (m + 1) c S).toArray 64)).alloc (.cells (rstC none 0 0 stk0).toArray 64)) := Below.allocS (Below.allocS (Below.refl _ _) _) _
      have zV : w.heap.size + 2 ≤ ((w.alloc (.cells (rstC A (m + 1) c S).toArray 64)).alloc (.cells (rstC none 0 0 stk0).toArray 64)).heap.size := by simp
      go_enter Try.func54, Try.ntmps54
      go_upto_region 1 with (fail)
      generalize (w.alloc (.cells (rstC A (m + 1) c S).toArray 64)).alloc (.cells (rstC none 0 0 stk0).toArray 64) = V at *
      go_upto_region 1 with (fail)
      refine wp_region_lit ?_
      refine wpList_ldA (t := 64) 64 (.tmp 2) rfl rfl (rstC A (m + 1) c S) rfl (bs) (whole_ _) vr1 vr2 (szRst _ _ _ _) ?_
      refine wpList_plain rfl (fun K hK => ?_); go_simp; with_reducible refine hK _ _ ?_; clear hK K
      refine wpList_plain rfl (fun K hK => ?_)
      go_simp
      refine (HI.out _ (HR0.out.later be)).mono ?_
      rintro e w1 ⟨bs1, d1, rfl, rfl⟩
      with_reducible refine hK _ _ ?_
      clear hK K
      replace bs := bs.later (below_plus V bs1 d1)
      replace bz := bz.later (below_plus V bs1 d1)
      replace be := belowP be bs1 d1
      have zW := bz.lt
      clear HI zV
      generalize plus V bs1 d1 = W at *
      refine wpList_plain rfl (fun K hK => ?_); go_simp; with_reducible refine hK _ _ ?_; clear hK K
      have q0 : W.cell? ⟨w.heap.size, 0, none⟩ = some (.slice A (m + 1) c) := bs.cell 0
      go_upto_region 5 with (fail)
      refine wp_region_lit ?_
      refine wpList_ldA (t := 64) 64 (.tmp 2) rfl rfl (rstC A (m + 1) c S) rfl (bs) (whole_ _) vr1 vr2 (szRst A (m + 1) c S) ?_
      simp only [Act.put, List.setIfInBounds_toArray, List.set_cons_zero, List.set_cons_succ]
      refine wpList_stA (t := 64) 64 (.tmp 4) (.tmp 19) rfl rfl (rstC A (m + 1) c S) (rstC none 0 0 stk0) (by rw [rstC_len, rstC_len]) (rstC_one _ _ _ _) rfl rfl bz (szRst _ _ _ _) ?_
      intro W9 h9 g9
      refine wpList_plain rfl (fun K hK => ?_); go_simp; with_reducible refine hK _ _ ?_; clear hK K
      go_wp2
      refine bodyPost_agg2 Try.results54 rfl rfl h9.range vr1 vr2 (szRst _ _ _ _) rfl ?_
      exact RetRS.mk (S' := S) (by rw [he.out]; rfl) (HR0.out.later (below_grown be g9 (by omega))) (below_grown be g9 (by omega))
  · have hix : ixS S v = -1 := if_neg hl
    have he := Lib.hid (show EE = 24 by rw [← HEE.out]; unfold retE; rw [if_neg (by omega), if_neg (by have := idxS_le S v; omega)])
    have hs : retS S v = S := by unfold retS; rw [if_neg (by omega)]
    rw [hs]
    rw [hix] at HI
    clear hix hl HEE hs hn
    have hzv : ∀ w, (zeroValue 64).run Try.prog w = .ok (.agg (rstC none 0 0 stk0).toArray) w := fun _ => by kernel_rfl
    obtain ⟨dvr1, vr1, vr2⟩ := rowRst
    have bs : Bk ((w.alloc (.cells (rstC A n c S).toArray 64)).alloc (.cells (rstC none 0 0 stk0).toArray 64)) w.heap.size 64 (rstC A n c S) := (Bk.new w 64 (rstC A n c S).toArray).alloc _
    have bz : Bk ((w.alloc (.cells (rstC A n c S).toArray 64)).alloc (.cells (rstC none 0 0 stk0).toArray 64)) (w.heap.size + 1) 64 (rstC none 0 0 stk0) := Bk.newK _ _ _ (by simp) rfl
    have be : Below w.heap.size w ((w.alloc (.cells (rstC A n c S).toArray 64)).alloc (.cells (rstC none 0 0 stk0).toArray 64)) := Below.allocS (Below.allocS (Below.refl _ _) _) _
    have zV : w.heap.size + 2 ≤ ((w.alloc (.cells (rstC A n c S).toArray 64)).alloc (.cells (rstC none 0 0 stk0).toArray 64)).heap.size := by simp
    go_enter Try.func54, Try.ntmps54
    go_upto_region 1 with (fail)
    generalize (w.alloc (.cells (rstC A n c S).toArray 64)).alloc (.cells (rstC none 0 0 stk0).toArray 64) = V at *
    go_upto_region 1 with (fail)
    refine wp_region_lit ?_
    refine wpList_ldA (t := 64) 64 (.tmp 2) rfl rfl (rstC A n c S) rfl (bs) (whole_ _) vr1 vr2 (szRst A n c S) ?_
    refine wpList_plain rfl (fun K hK => ?_); go_simp; with_reducible refine hK _ _ ?_; clear hK K
    refine wpList_plain rfl (fun K hK => ?_)
    go_simp
    refine (HI.out _ (HR0.out.later be)).mono ?_
    rintro e w1 ⟨bs1, d1, rfl, rfl⟩
    with_reducible refine hK _ _ ?_
    clear hK K
    replace bs := bs.later (below_plus V bs1 d1)
    replace bz := bz.later (below_plus V bs1 d1)
    replace be := belowP be bs1 d1
    have zW := bz.lt
    clear HI zV
    generalize plus V bs1 d1 = W at *
    refine wpList_plain rfl (fun K hK => ?_); go_simp; with_reducible refine hK _ _ ?_; clear hK K
    go_upto_region 3 with (fail)
    refine wp_region_lit ?_
    refine wpList_ldA (t := 64) 64 (.tmp 2) rfl rfl (rstC A n c S) rfl (bs) (whole_ _) vr1 vr2 (szRst A n c S) ?_
    simp only [Act.put, List.setIfInBounds_toArray, List.set_cons_zero, List.set_cons_succ]
    refine wpList_stA (t := 64) 64 (.tmp 4) (.tmp 12) rfl rfl (rstC A n c S) (rstC none 0 0 stk0) (by rw [rstC_len, rstC_len]) (rstC_one _ _ _ _) rfl rfl bz (szRst _ _ _ _) ?_
    intro W9 h9 g9
    refine wpList_plain rfl (fun K hK => ?_); go_simp; with_reducible refine hK _ _ ?_; clear hK K
    go_wp2
    refine bodyPost_agg2 Try.results54 rfl rfl h9.range vr1 vr2 (szRst _ _ _ _) rfl ?_
    exact RetRS.mk (S' := S) (by rw [he.out]; rfl) (HR0.out.later (below_grown be g9 (by omega))) (below_grown be g9 (by omega))
end Go.Proofs.Ytepodflinhpejaa

/- Find, the program's and the reference's (chapter 15). -/
namespace Go.Proofs.Ytepodflinhpejaa
open Go.RowKit
set_option linter.unusedVariables false
set_option linter.unusedSimpArgs false
attribute [local go_sem ↓] sliced_cut

attribute [local go_sem] cutA_zero

theorem find_none {S : Stk} {v : Int} (slot : Int) (h : ¬ idxS S v < S.lv.length) : findS S v slot = 0 ∧ findE S v slot = 24 := by
  unfold findS findE
  rw [List.getElem?_eq_none (by omega)]
  exact ⟨rfl, rfl⟩
theorem find_some {S : Stk} {v : Int} (slot : Int) (h : idxS S v < S.lv.length) : findS S v slot = (if atT S.lv[idxS S v].2 slot = 0 then 0 else if deadS S (atT S.lv[idxS S v].2 slot : Nat) then 0 else atT S.lv[idxS S v].2 slot) ∧ findE S v slot = (if atT S.lv[idxS S v].2 slot = 0 then 25 else if deadS S (atT S.lv[idxS S v].2 slot : Nat) then 28 else 0) := by
  unfold findS findE
  rw [List.getElem?_eq_getElem h]
  exact ⟨rfl, rfl⟩
theorem atT_rg (t : Tab) (ht : TabOk t) (s : Int) : atT t s ≤ 64 := by
  rw [atT_get]
  have := getT_rg t ht s
  split
  · exact this
  · exact Nat.zero_le _
set_option maxHeartbeats 4000000 in
set_option maxRecDepth 100000 in
theorem stkFind_any (S : Stk) (hok : StkOk S) (g : Nat) (v slot : Int) (w : World) (hS : Bk w g 59 (stkC S)) : Calls Try.prog 18 #[.pointer (some ⟨g, 0, none⟩), .int .i64 v, .int .i64 slot] w (RetV w (.tuple #[.int .i64 (findS S v slot : Nat), .int .i64 (findE S v slot : Nat)])) := by
  obtain ⟨dvt, vt1, vt2⟩ := rowTab
  have h8 := hok.len
  have HI := Lib.hid (fun w h => index_any S h8 g v w h)
  obtain ⟨FS, hFS⟩ : ∃ x, findS S v slot = x := ⟨_, rfl⟩
  obtain ⟨FE, hFE⟩ : ∃ x, findE S v slot = x := ⟨_, rfl⟩
  rw [hFS, hFE]
  by_cases hl : idxS S v < S.lv.length
  · have hix : ixS S v = (idxS S v : Int) := if_pos hl
    rw [hix] at HI
    obtain ⟨f1, f2⟩ := find_some slot hl
    rw [hFS] at f1
    rw [hFE] at f2
    have hp := stkC_tab S (idxS S v) hl (by omega)
    have htok := (hok.rg _ (List.getElem_mem hl)).2
    generalize idxS S v = i at *
    obtain ⟨e0, he0⟩ : ∃ e0, S.lv[i] = e0 := ⟨_, rfl⟩
    rw [he0] at hp htok f1 f2
    have HA := Lib.hid (fun w => at_any e0.2 htok slot w)
    have hx64 := atT_rg e0.2 htok slot
    generalize atT e0.2 slot = X at *
    have i0 : ¬ (i : Int) < 0 := by omega
    have i8 : (i : Int) < 8 := by omega
    have HE := Lib.hid (fun w h => evicted_any S hok.ev g (X : Int) (by omega) w h)
    clear he0 hix hFS hFE htok
    have F1 := Lib.hid f1
    have F2 := Lib.hid f2
    clear f1 f2
    go_enter Try.func18, Try.ntmps18
    go_upto_region 4 with (go_at_call 64; refine (HI.out _ hS).mono ?_; rintro e w1 ⟨bs1, d1, rfl, rfl⟩)
    have be := below_plus w bs1 d1
    replace hS := hS.later be
    clear HI
    generalize plus w bs1 d1 = V at *
    refine wp_region_lit ?_
    iterate 6 (refine wpList_plain rfl (fun K hK => ?_); go_simp; with_reducible refine hK _ _ ?_; clear hK K)
    refine wpList_ldA (t := 59) (off := 1 + i * 130 + 1) 54 (.tmp 20) rfl rfl (tabC e0.2) rfl hS hp vt1 vt2 (by rw [tabC_len0]; kernel_rfl) ?_
    refine wpList_plain rfl (fun K hK => ?_); go_simp; with_reducible refine hK _ _ ?_; clear hK K
    refine wpList_plain rfl (fun K hK => ?_)
    go_simp
    refine (HA.out _).mono ?_
    rintro e w1 ⟨bs2, d2, rfl, rfl⟩
    with_reducible refine hK _ _ ?_
    clear hK K
    refine wpList_plain rfl (fun K hK => ?_); go_simp; with_reducible refine hK _ _ ?_; clear hK K
    replace be := belowP be bs2 d2
    replace hS := hS.later (below_plus V bs2 d2)
    clear HA
    generalize plus V bs2 d2 = W at *
    by_cases hX : X = 0
    · subst hX
      go_wp2
      go_ret2
      exact RetV.is_ (by rw [F1.out, F2.out]; rfl) be
    · have x0 : ((X : Int) == 0) = false := by simpa using hX
      cases hd : deadS S (X : Int)
      · rw [hd] at HE
        go_wp2_with (go_at_call 66; refine (HE.out _ hS).mono ?_; rintro e w1 ⟨bs3, d3, rfl, rfl⟩)
        go_ret2
        exact RetV.is_ (by rw [F1.out, F2.out, if_neg hX, if_neg hX, hd]; rfl) (belowP be _ _)
      · rw [hd] at HE
        go_wp2_with (go_at_call 66; refine (HE.out _ hS).mono ?_; rintro e w1 ⟨bs3, d3, rfl, rfl⟩)
        go_ret2
        exact RetV.is_ (by rw [F1.out, F2.out, if_neg hX, if_neg hX, hd]; rfl) (belowP be _ _)
  · have hix : ixS S v = -1 := if_neg hl
    obtain ⟨f1, f2⟩ := find_none slot hl
    rw [hix] at HI
    have F1 := Lib.hid (hFS.symm.trans f1)
    have F2 := Lib.hid (hFE.symm.trans f2)
    clear hFS hFE f1 f2 hix
    go_enter Try.func18, Try.ntmps18
    go_wp2_with (go_at_call 64; refine (HI.out _ hS).mono ?_; rintro e w1 ⟨bs1, d1, rfl, rfl⟩)
    go_ret2
    exact RetV.is_ (by rw [F1.out, F2.out]; rfl) (below_plus _ _ _)
set_option maxHeartbeats 4000000 in
set_option maxRecDepth 100000 in
theorem refFind_any (S : Stk) (hok : StkOk S) (A : Option Addr) (n c : Nat) (v slot : Int) (w : World) {D : Nat → Prop} (hR : RSt D w S.lv A n c) : Calls Try.prog 19 #[.agg (rstC A n c S).toArray, .int .i64 v, .int .i64 slot] w (RetV w (.tuple #[.int .i64 (findS S v slot : Nat), .int .i64 (findE S v slot : Nat)])) := by
  have h8 := hok.len
  have HI := Lib.hid (fun w h => refIndexS_any S h8 A n c v w (D := D) h)
  obtain ⟨FS, hFS⟩ : ∃ x, findS S v slot = x := ⟨_, rfl⟩
  obtain ⟨FE, hFE⟩ : ∃ x, findE S v slot = x := ⟨_, rfl⟩
  rw [hFS, hFE]
  by_cases hl : idxS S v < S.lv.length
  · have hix : ixS S v = (idxS S v : Int) := if_pos hl
    rw [hix] at HI
    obtain ⟨f1, f2⟩ := find_some slot hl
    rw [hFS] at f1
    rw [hFE] at f2
    have htok := (hok.rg _ (List.getElem_mem hl)).2
    have hn1 : S.lv.length ≤ n := Nat.le_of_eq hR.len.symm
    generalize idxS S v = i at *
    obtain ⟨b, o, A', n', c', rfl, -, -, -, -⟩ := hR.at_ i hl
    have hat := Lib.hid (fun W (h : Below w.heap.size w W) => (hR.later h).at_ i hl)
    obtain ⟨e0, he0⟩ : ∃ e0, S.lv[i] = e0 := ⟨_, rfl⟩
    rw [he0] at htok f1 f2 hat
    have hx64 := atT_rg e0.2 htok slot
    have hatr := atL_ref e0.2 slot
    have htl := htok.len
    generalize atT e0.2 slot = X at *
    have i0 : ¬ (i : Int) < 0 := by omega
    have i8 : (i : Int) < (n : Int) := by omega
    have hev := rstC_ev (some ⟨b, o, none⟩) n c S X (by omega)
    clear he0 hix hFS hFE htok
    have F1 := Lib.hid f1
    have F2 := Lib.hid f2
    clear f1 f2
    obtain ⟨dvr1, vr1, vr2⟩ := rowRst
    have bs : Bk (w.alloc (.cells (rstC (some ⟨b, o, none⟩) n c S).toArray 64)) w.heap.size 64 (rstC (some ⟨b, o, none⟩) n c S) := Bk.new w 64 (rstC (some ⟨b, o, none⟩) n c S).toArray
    have be : Below w.heap.size w (w.alloc (.cells (rstC (some ⟨b, o, none⟩) n c S).toArray 64)) := Below.allocS (Below.refl _ _) _
    have zV : w.heap.size + 1 ≤ (w.alloc (.cells (rstC (some ⟨b, o, none⟩) n c S).toArray 64)).heap.size := by simp
    go_enter Try.func19, Try.ntmps19
    go_upto_region 1 with (fail)
    generalize w.alloc (.cells (rstC (some ⟨b, o, none⟩) n c S).toArray 64) = V at *
    refine wp_region_lit ?_
    refine wpList_ldA (t := 64) 64 (.tmp 3) rfl rfl (rstC (some ⟨b, o, none⟩) n c S) rfl (bs) (whole_ _) vr1 vr2 (szRst _ _ _ _) ?_
    refine wpList_plain rfl (fun K hK => ?_); go_simp; with_reducible refine hK _ _ ?_; clear hK K
    refine wpList_plain rfl (fun K hK => ?_)
    go_simp
    refine (HI.out _ (hR.later be)).mono ?_
    rintro e w1 ⟨bs1, d1, rfl, rfl⟩
    with_reducible refine hK _ _ ?_
    clear hK K
    replace bs := bs.later (below_plus V bs1 d1)
    replace be := belowP be bs1 d1
    clear HI zV
    generalize plus V bs1 d1 = W at *
    refine wpList_plain rfl (fun K hK => ?_); go_simp; with_reducible refine hK _ _ ?_; clear hK K
    obtain ⟨b', o', A1, n1, c1, hbo, -, hc1, hT, -⟩ := hat.out W be
    injection hbo with hbo
    injection hbo with hb1 hb2
    subst hb1 hb2
    have q0 : W.cell? ⟨w.heap.size, 0, none⟩ = some (.slice (some ⟨b, o, none⟩) n c) := bs.cell 0
    have hn1' : n1 ≤ 64 := by have := hT.1; rw [itK_len] at this; simp [refT] at this; omega
    have HA := Lib.hid (fun w h => refTabAt_any (refT e0.2) slot A1 n1 c1 w h (by omega))
    rw [hatr] at HA
    go_upto_region 4 with (fail)
    refine wp_region_lit ?_
    refine wpList_plain rfl (fun K hK => ?_); go_simp; with_reducible refine hK _ _ ?_; clear hK K
    refine wpList_ld1 (t := 64) (cs := rstC (some ⟨b, o, none⟩) n c S) 60 (.tmp 15) rfl (by rfl) rfl (bs) rfl Try.underlying60 rfl ?_
    iterate 5 (refine wpList_plain rfl (fun K hK => ?_); go_simp; with_reducible refine hK _ _ ?_; clear hK K)
    refine wpList_plain rfl (fun K hK => ?_)
    go_simp
    refine (HA.out _ hT).mono ?_
    rintro e w1 ⟨rfl, rfl⟩
    with_reducible refine hK _ _ ?_
    clear hK K
    refine wpList_plain rfl (fun K hK => ?_); go_simp; with_reducible refine hK _ _ ?_; clear hK K
    by_cases hX : X = 0
    · subst hX
      go_wp2
      go_ret2
      exact RetV.is_ (by rw [F1.out, F2.out]; rfl) be
    · have x0 : ((X : Int) == 0) = false := by simpa using hX
      have x65 : (X : Int) < 65 := by omega
      have q1 : W.cell? ⟨w.heap.size, 1 + X, none⟩ = some (.bool (deadS S (X : Int))) := (bs.cell _).trans hev
      cases hd : deadS S (X : Int)
      · rw [hd] at q1
        go_wp2
        go_ret2
        exact RetV.is_ (by rw [F1.out, F2.out, if_neg hX, if_neg hX, hd]; rfl) be
      · rw [hd] at q1
        go_wp2
        go_ret2
        exact RetV.is_ (by rw [F1.out, F2.out, if_neg hX, if_neg hX, hd]; rfl) be
  · have hix : ixS S v = -1 := if_neg hl
    obtain ⟨f1, f2⟩ := find_none slot hl
    rw [hix] at HI
    have F1 := Lib.hid (hFS.symm.trans f1)
    have F2 := Lib.hid (hFE.symm.trans f2)
    clear hFS hFE f1 f2 hix
    obtain ⟨dvr1, vr1, vr2⟩ := rowRst
    have bs : Bk (w.alloc (.cells (rstC A n c S).toArray 64)) w.heap.size 64 (rstC A n c S) := Bk.new w 64 (rstC A n c S).toArray
    have be : Below w.heap.size w (w.alloc (.cells (rstC A n c S).toArray 64)) := Below.allocS (Below.refl _ _) _
    have zV : w.heap.size + 1 ≤ (w.alloc (.cells (rstC A n c S).toArray 64)).heap.size := by simp
    go_enter Try.func19, Try.ntmps19
    go_upto_region 1 with (fail)
    generalize w.alloc (.cells (rstC A n c S).toArray 64) = V at *
    refine wp_region_lit ?_
    refine wpList_ldA (t := 64) 64 (.tmp 3) rfl rfl (rstC A n c S) rfl (bs) (whole_ _) vr1 vr2 (szRst A n c S) ?_
    refine wpList_plain rfl (fun K hK => ?_); go_simp; with_reducible refine hK _ _ ?_; clear hK K
    refine wpList_plain rfl (fun K hK => ?_)
    go_simp
    refine (HI.out _ (hR.later be)).mono ?_
    rintro e w1 ⟨bs1, d1, rfl, rfl⟩
    with_reducible refine hK _ _ ?_
    clear hK K
    replace bs := bs.later (below_plus V bs1 d1)
    replace be := belowP be bs1 d1
    clear HI zV
    generalize plus V bs1 d1 = W at *
    refine wpList_plain rfl (fun K hK => ?_); go_simp; with_reducible refine hK _ _ ?_; clear hK K
    go_wp2
    go_ret2
    exact RetV.is_ (by rw [F1.out, F2.out]; rfl) be
end Go.Proofs.Ytepodflinhpejaa

/- The law's awake and does (chapter 15). -/
namespace Go.Proofs.Ytepodflinhpejaa
open Go.RowKit
set_option linter.unusedVariables false
set_option linter.unusedSimpArgs false
attribute [local go_sem ↓] sliced_cut

attribute [local go_sem] cutA_zero

set_option maxHeartbeats 4000000 in
set_option maxRecDepth 100000 in
theorem awake15 (w : World) : Calls Try.prog 16 #[] w (RetV w (.bool true)) := by
  have hbt : ∀ w, (Instr.build 54 #[]).run Try.prog w = .ok (.agg (tabC []).toArray) w := fun _ => by kernel_rfl
  have hbd : ∀ w, (Instr.build 59 #[]).run Try.prog w = .ok (.agg (stkC stk0).toArray) w := fun _ => by kernel_rfl
  have k0 : StkOk stk0 := StkOk.empty
  have t0 : TabOk [] := ⟨by simp, by simp⟩
  have H1 := Lib.hid (fun W (h : Bk W w.heap.size 59 (stkC stk0)) => push_any stk0 k0 w.heap.size [] W h)
  have k1 := k0.push t0
  have v1 : pushV stk0 = 0 ∧ pushE stk0 = 0 := by decide +kernel
  have H2 := Lib.hid (fun W (h : Bk W w.heap.size 59 (stkC (pushS stk0 []))) => push_any (pushS stk0 []) k1 w.heap.size [] W h)
  have k2 := k1.push t0
  have v2 : pushV (pushS stk0 []) = 1 ∧ pushE (pushS stk0 []) = 0 := by decide +kernel
  have H3 := Lib.hid (fun W (h : Bk W w.heap.size 59 (stkC (pushS (pushS stk0 []) []))) => retire_any (pushS (pushS stk0 []) []) k2 w.heap.size 0 (by omega) W h)
  have k3 := k2.ret 0
  have v3 : retE (pushS (pushS stk0 []) []) 0 = 0 := by decide +kernel
  have H4 := Lib.hid (fun W (h : Bk W w.heap.size 59 (stkC (retS (pushS (pushS stk0 []) []) 0))) => push_any (retS (pushS (pushS stk0 []) []) 0) k3 w.heap.size [] W h)
  have k4 := k3.push t0
  have v4 : pushV (retS (pushS (pushS stk0 []) []) 0) = 2 ∧ pushE (retS (pushS (pushS stk0 []) []) 0) = 0 := by decide +kernel
  have H5 := Lib.hid (fun W (h : Bk W w.heap.size 59 (stkC (pushS (retS (pushS (pushS stk0 []) []) 0) []))) => release_any (pushS (retS (pushS (pushS stk0 []) []) 0) []) k4 w.heap.size 0 (by omega) W h)
  have k5 := k4.rls 0
  have v5 : rlsE (pushS (retS (pushS (pushS stk0 []) []) 0) []) 0 = 0 ∧ (rlsS (pushS (retS (pushS (pushS stk0 []) []) 0) []) 0).lv.length = 2 := by decide +kernel
  have H6 := Lib.hid (fun W (h : Bk W w.heap.size 59 (stkC (rlsS (pushS (retS (pushS (pushS stk0 []) []) 0) []) 0))) => stkLen_any _ k5.len w.heap.size W h)
  rw [v1.1, v1.2] at H1
  rw [v2.1, v2.2] at H2
  rw [v3] at H3
  rw [v4.1, v4.2] at H4
  rw [v5.1] at H5
  rw [v5.2] at H6
  clear v1 v2 v3 v4 v5 k0 k1 k2 k3 k4 k5
  generalize rlsS (pushS (retS (pushS (pushS stk0 []) []) 0) []) 0 = s5 at *
  generalize pushS (retS (pushS (pushS stk0 []) []) 0) [] = s4 at *
  generalize retS (pushS (pushS stk0 []) []) 0 = s3 at *
  generalize pushS (pushS stk0 []) [] = s2 at *
  generalize pushS stk0 [] = s1 at *
  go_enter Try.func16, Try.ntmps16
  go_upto_region 1 with (fail)
  refine wp_region_lit ?_
  refine wpList_build 59 [] rfl rfl (.agg (stkC stk0).toArray) ?_ ?_
  · exact hbd _
  iterate 2 (refine wpList_plain rfl (fun K hK => ?_); go_simp; with_reducible refine hK _ _ ?_; clear hK K)
  have hS : Bk (w.alloc (.cells (stkC stk0).toArray 59)) w.heap.size 59 (stkC stk0) := Bk.new w 59 (stkC stk0).toArray
  have be : Below w.heap.size w (w.alloc (.cells (stkC stk0).toArray 59)) := Below.allocS (Below.refl _ _) _
  generalize w.alloc (.cells (stkC stk0).toArray 59) = V at *
  go_upto_region 2 with (fail)
  refine wp_region_lit ?_
  refine wpList_plain rfl (fun K hK => ?_); go_simp; with_reducible refine hK _ _ ?_; clear hK K
  refine wpList_build 54 [] rfl rfl (.agg (tabC []).toArray) ?_ ?_
  · exact hbt _
  refine wpList_plain rfl (fun K hK => ?_)
  go_simp
  refine (H1.out _ hS).mono ?_
  rintro e w1 ⟨rfl, h1, hc⟩
  with_reducible refine hK _ _ ?_
  clear hK K
  replace be := be.trans (hc.below (B := w.heap.size) (fun b hb => by have : b = w.heap.size := hb; omega) be.size)
  clear hS hc
  have hS := h1
  clear h1
  iterate 5 (refine wpList_plain rfl (fun K hK => ?_); go_simp; with_reducible refine hK _ _ ?_; clear hK K)
  go_upto_region 3 with (fail)
  refine wp_region_lit ?_
  refine wpList_plain rfl (fun K hK => ?_); go_simp; with_reducible refine hK _ _ ?_; clear hK K
  refine wpList_build 54 [] rfl rfl (.agg (tabC []).toArray) ?_ ?_
  · exact hbt _
  refine wpList_plain rfl (fun K hK => ?_)
  go_simp
  refine (H2.out _ hS).mono ?_
  rintro e w1 ⟨rfl, h1, hc⟩
  with_reducible refine hK _ _ ?_
  clear hK K
  replace be := be.trans (hc.below (B := w.heap.size) (fun b hb => by have : b = w.heap.size := hb; omega) be.size)
  clear hS hc
  have hS := h1
  clear h1
  iterate 5 (refine wpList_plain rfl (fun K hK => ?_); go_simp; with_reducible refine hK _ _ ?_; clear hK K)
  go_upto_region 4 with (fail)
  refine wp_region_lit ?_
  refine wpList_plain rfl (fun K hK => ?_); go_simp; with_reducible refine hK _ _ ?_; clear hK K
  refine wpList_plain rfl (fun K hK => ?_)
  go_simp
  refine (H3.out _ hS).mono ?_
  rintro e w1 ⟨rfl, hs, hc⟩
  with_reducible refine hK _ _ ?_
  clear hK K
  replace be := be.trans (hc.below (B := w.heap.size) (fun b hb => by have : b = w.heap.size := hb; omega) be.size)
  clear hS hc
  have hS := hs
  clear hs
  refine wpList_plain rfl (fun K hK => ?_); go_simp; with_reducible refine hK _ _ ?_; clear hK K
  go_upto_region 5 with (fail)
  refine wp_region_lit ?_
  refine wpList_plain rfl (fun K hK => ?_); go_simp; with_reducible refine hK _ _ ?_; clear hK K
  refine wpList_build 54 [] rfl rfl (.agg (tabC []).toArray) ?_ ?_
  · exact hbt _
  refine wpList_plain rfl (fun K hK => ?_)
  go_simp
  refine (H4.out _ hS).mono ?_
  rintro e w1 ⟨rfl, h1, hc⟩
  with_reducible refine hK _ _ ?_
  clear hK K
  replace be := be.trans (hc.below (B := w.heap.size) (fun b hb => by have : b = w.heap.size := hb; omega) be.size)
  clear hS hc
  have hS := h1
  clear h1
  iterate 5 (refine wpList_plain rfl (fun K hK => ?_); go_simp; with_reducible refine hK _ _ ?_; clear hK K)
  go_upto_region 6 with (fail)
  go_wp2_with (first
    | (go_at_call 52; refine (H5.out _ hS).mono ?_; rintro e w5 ⟨rfl, hS5, hc5⟩)
    | (go_at_call 53; refine (H6.out _ hS5).mono ?_; rintro e w6 ⟨bs6, d6, rfl, rfl⟩))
  go_ret
  exact RetV.is_ rfl (belowP (be.trans (hc5.below (B := w.heap.size) (fun b hb => by have : b = w.heap.size := hb; omega) be.size)) _ _)
end Go.Proofs.Ytepodflinhpejaa

