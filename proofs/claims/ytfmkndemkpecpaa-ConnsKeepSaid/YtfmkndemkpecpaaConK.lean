/- awake, ConnsKeep (chapter 31). -/
import Derived.Test.YtfmkndemkpecpaaConD
import Derived.Test.YtfmkndemkpecpaaRowS
namespace Go.Proofs.Ytfmkndemkpecpaa
open Go.RowKit
set_option linter.unusedVariables false
set_option linter.unusedSimpArgs false
attribute [local go_sem ↓] sliced_cut
attribute [local go_sem] cutA_zero

theorem eql_fv (w : World) (f g : Fw) : (binOp .eql 29 (.agg f.c.toArray) (.agg g.c.toArray)).run Try.prog w = .ok (.bool (decide (f = g))) w := eql_fw w f g
theorem eqI_fv (w : World) (f g : Fw) : (Op.equalIn 10000 29 (.agg f.c.toArray) (.agg g.c.toArray)).run Try.prog w = .ok (decide (f = g)) w := eqI_fw 9999 (.inr rfl) w f g
attribute [local go_sem] eql_fv eqI_fv
def fw1 : Fw := ⟨false, 0, 0, false, 0, 0, 1, 0, 0⟩
def fw2 : Fw := ⟨false, 0, 0, false, 0, 0, 2, 0, 0⟩
theorem run_buildF1 (w : World) : (Instr.build 29 #[(2, .int .u16 1)]).run Try.prog w = .ok (.agg fw1.c.toArray) w := by kernel_rfl
theorem run_buildF2 (w : World) : (Instr.build 29 #[(2, .int .u16 2)]).run Try.prog w = .ok (.agg fw2.c.toArray) w := by kernel_rfl
theorem fw12 : fw1 ≠ fw2 := by intro h; have := congrArg Fw.sp h; simp [fw1, fw2] at this

set_option maxHeartbeats 4000000 in
set_option maxRecDepth 100000 in
theorem awake31 (w : World) : Calls Try.prog 37 #[] w (RetV w (.bool true)) := by
  obtain ⟨dv1, v1, v2⟩ := rowFw
  have h11 : decide (fw1 = fw1) = true := by simp
  go_enter Try.func37, Try.ntmps37
  go_upto_region 2 with (go_at_call 38; refine (new_any _ 1 (by omega)).mono ?_; rintro e w1 ⟨cb, m, rfl, be, hco, hcb, hm⟩)
  rw [show min (max (1 : Int) 1) 1024 = 1 by decide] at hco
  have hlt := hco.lt
  have dcb := hlt cb (.inl rfl)
  have dm := hlt m (.inr (.inl rfl))
  go_upto_region 3 with (first
    | (refine at_op (.build 29 #[(2, .const (.int .u16 1))]) rfl ?_; refine wpList_build 29 [(2, .const (.int .u16 1))] rfl rfl (.agg fw1.c.toArray) ?_ ?_; exact run_buildF1 _)
    | (refine at_op (.build 29 #[(2, .const (.int .u16 2))]) rfl ?_; refine wpList_build 29 [(2, .const (.int .u16 2))] rfl rfl (.agg fw2.c.toArray) ?_ ?_; exact run_buildF2 _)
    | (refine at_op (.store 29 (.tmp 2) (.tmp 9)) rfl ?_; refine wpList_stA (t := 29) 29 (.tmp 2) (.tmp 9) rfl rfl (fw1.c) ([.bool false, .int .u64 0, .int .u64 0, .bool false, .int .u64 0, .int .u64 0, .int .u16 0, .int .u16 0, .int .u8 0]) rfl (Fw.c_one _) rfl rfl (((Bk.new w1 29 ([.bool false, .int .u64 0, .int .u64 0, .bool false, .int .u64 0, .int .u64 0, .int .u16 0, .int .u16 0, .int .u8 0]).toArray).alloc (.cells ([.bool false, .int .u64 0, .int .u64 0, .bool false, .int .u64 0, .int .u64 0, .int .u16 0, .int .u16 0, .int .u8 0]).toArray 29))) (szFw _) ?_; intro W2 ha hga)
    | (refine at_op (.store 29 (.tmp 3) (.tmp 10)) rfl ?_; refine wpList_stA (t := 29) 29 (.tmp 3) (.tmp 10) rfl rfl (fw2.c) ([.bool false, .int .u64 0, .int .u64 0, .bool false, .int .u64 0, .int .u64 0, .int .u16 0, .int .u16 0, .int .u8 0]) rfl (Fw.c_one _) rfl rfl (((Bk.newK (W := w1.alloc (.cells ([.bool false, .int .u64 0, .int .u64 0, .bool false, .int .u64 0, .int .u64 0, .int .u16 0, .int .u16 0, .int .u8 0]).toArray 29)) (k := w1.heap.size + 1) 29 ([.bool false, .int .u64 0, .int .u64 0, .bool false, .int .u64 0, .int .u64 0, .int .u16 0, .int .u16 0, .int .u8 0]).toArray [.bool false, .int .u64 0, .int .u64 0, .bool false, .int .u64 0, .int .u64 0, .int .u16 0, .int .u16 0, .int .u8 0] (by simp) rfl).grown hga (by simp))) (szFw _) ?_; intro W3 hb hgb))
  replace ha := ha.grown hgb (by simp)
  have hb2 : Below w1.heap.size w1 ((w1.alloc (.cells ([.bool false, .int .u64 0, .int .u64 0, .bool false, .int .u64 0, .int .u64 0, .int .u16 0, .int .u16 0, .int .u8 0]).toArray 29)).alloc (.cells ([.bool false, .int .u64 0, .int .u64 0, .bool false, .int .u64 0, .int .u64 0, .int .u16 0, .int .u16 0, .int .u8 0]).toArray 29)) := Below.allocS (Below.allocS (Below.refl _ _) _) _
  have be3 : Below w1.heap.size w1 W3 := below_grown (below_grown hb2 hga (Nat.le_refl _)) hgb (by omega)
  replace hco := hco.later be3
  replace be := be.trans (be3.mono be.size)
  obtain ⟨ga, hga0⟩ : ∃ g, g = w1.heap.size := ⟨_, rfl⟩
  rw [← hga0] at ha hb hlt dcb dm ⊢
  clear hb2 be3 hga hgb
  have zga : w.heap.size ≤ ga := by omega
  clear hga0
  have hb1lt := hb.lt
  go_upto_region 4 with (first
    | (refine at_op (.load 29 (.tmp 2)) rfl ?_; refine wpList_ldA (t := 29) 29 (.tmp 2) rfl rfl (fw1.c) rfl (ha) (whole_ _) v1 v2 (szFw _) ?_)
    | (go_at_call 39; refine (put_adds W3 cb m 1 [] fw1 5 hco (by simp) (by simp) (by simp)).mono ?_; rintro e w1 ⟨rfl, hc1, b1, hb1, hco1⟩)
    | (refine at_op (.store 29 (.tmp 4) (.tmp 15)) rfl ?_; refine wpList_stA (t := 29) 29 (.tmp 4) (.tmp 15) rfl rfl (fw0.c) ([.bool false, .int .u64 0, .int .u64 0, .bool false, .int .u64 0, .int .u64 0, .int .u16 0, .int .u16 0, .int .u8 0]) rfl (Fw.c_one _) rfl rfl ((Bk.new w1 29 ([.bool false, .int .u64 0, .int .u64 0, .bool false, .int .u64 0, .int .u64 0, .int .u16 0, .int .u16 0, .int .u8 0]).toArray)) (szFw _) ?_; intro W5 hx hgx))
  have be5 : Below w1.heap.size w1 W5 := below_grown (Below.allocS (Below.refl _ _) (.cells ([.bool false, .int .u64 0, .int .u64 0, .bool false, .int .u64 0, .int .u64 0, .int .u16 0, .int .u16 0, .int .u8 0]).toArray 29)) hgx (Nat.le_refl _)
  replace ha := (ha.chg hc1 (fun hd => by have := hlt _ hd; omega)).later be5
  replace hb := (hb.chg hc1 (fun hd => by have := hlt _ hd; omega)).later be5
  have hco2 := hco1.later be5
  have z1 := be.size
  have hD1 : ∀ b, Dm cb m [] b → w.heap.size ≤ b := by
    rintro b (rfl | rfl | ⟨x, hx, rfl⟩)
    · exact hcb
    · exact hm
    · simp at hx
  replace be := (be.trans (hc1.below hD1 z1)).trans (be5.mono (Nat.le_trans z1 hc1.size))
  clear hx hgx be5
  simp only [List.nil_append] at hco2
  have hD2 : ∀ b, Dm cb m [(⟨fw1, 5, b1⟩ : En)] b → w.heap.size ≤ b ∧ b ≠ ga ∧ b ≠ ga + 1 := by
    rintro b (rfl | rfl | ⟨x, hx, rfl⟩)
    · omega
    · omega
    · simp only [List.mem_cons, List.not_mem_nil, or_false] at hx
      subst hx
      simp only []
      omega
  go_upto_region 5 with (first
    | (refine at_op (.load 29 (.tmp 3)) rfl ?_; refine wpList_ldA (t := 29) 29 (.tmp 3) rfl rfl (fw2.c) rfl (hb) (whole_ _) v1 v2 (szFw _) ?_)
    | (go_at_call 39; refine (put_evicts W5 cb m 1 ⟨fw1, 5, b1⟩ [] fw2 6 hco2 (by simp; exact fw12) (by simp) (by simp)).mono ?_; rintro e w1 ⟨rfl, hc2, b2, hb2, hco3⟩)
    | (refine at_op (.store 29 (.tmp 6) (.tmp 21)) rfl ?_; refine wpList_stA (t := 29) 29 (.tmp 6) (.tmp 21) rfl rfl (fw1.c) ([.bool false, .int .u64 0, .int .u64 0, .bool false, .int .u64 0, .int .u64 0, .int .u16 0, .int .u16 0, .int .u8 0]) rfl (Fw.c_one _) rfl rfl ((Bk.new w1 29 ([.bool false, .int .u64 0, .int .u64 0, .bool false, .int .u64 0, .int .u64 0, .int .u16 0, .int .u16 0, .int .u8 0]).toArray)) (szFw _) ?_; intro W6 hx hgx))
  have be6 : Below w1.heap.size w1 W6 := below_grown (Below.allocS (Below.refl _ _) (.cells ([.bool false, .int .u64 0, .int .u64 0, .bool false, .int .u64 0, .int .u64 0, .int .u16 0, .int .u16 0, .int .u8 0]).toArray 29)) hgx (Nat.le_refl _)
  have z2 := be.size
  replace ha := (ha.chg hc2 (fun hd => by have := hD2 _ hd; omega)).later be6
  replace be := (be.trans (hc2.below (fun b hd => (hD2 b hd).1) z2)).trans (be6.mono (Nat.le_trans z2 hc2.size))
  go_wp2_with (first
    | (refine at_op (.load 29 (.tmp 6)) rfl ?_; refine wpList_ldG (t := 29) 29 (.tmp 6) rfl rfl (fw1.c) rfl (hx) (whole_ _) v1 v2 (szFw _) ?_)
    | (refine at_op (.load 29 (.tmp 2)) rfl ?_; refine wpList_ldG (t := 29) 29 (.tmp 2) rfl rfl (fw1.c) rfl (ha) (whole_ _) v1 v2 (szFw _) ?_))
  go_ret
  exact RetV.is_ (by simp) be
/-- what holds at the loop's head -/
structure KS (w wr : World) (cb m : Nat) (N : Int) (f : Fw) (wd : Nat) (A' : Option Addr) (n' c' : Nat) (M : List Fw) (lst : List En) : Prop where
  os : Os 29 9 wr w.heap.size A' n' c' (M.flatMap Fw.c)
  ob : ∀ k, (Value.slice A' n' c').ownBlock = some k → w.heap.size + 1 ≤ k ∧ ¬ Dm cb m lst k
  co : Co wr cb m N lst
  pm : (lst.map (·.f)).Perm (f :: M)
  en : ∃ en ∈ lst, en.f = f ∧ en.wd = wd
  ml : (M.length : Int) < N
  dw : ∀ b, Dm cb m lst b → w.heap.size + 1 ≤ b
  hf : Bk wr w.heap.size 29 f.c
  be : Below w.heap.size w wr
theorem KS.later {w wr w2 : World} {cb m : Nat} {N : Int} {f : Fw} {wd : Nat} {A' : Option Addr} {n' c' : Nat} {M : List Fw} {lst : List En} (h : KS w wr cb m N f wd A' n' c' M lst) (hb : Below wr.heap.size wr w2) : KS w w2 cb m N f wd A' n' c' M lst :=
  ⟨h.os.later hb, h.ob, h.co.later hb, h.pm, h.en, h.ml, h.dw, h.hf.later hb, h.be.trans (hb.mono h.be.size)⟩
set_option maxRecDepth 100000 in
theorem foldFw (f : Fw) : List.foldl (fun (cs : Array Value) (x : Value × Nat) => cs.setIfInBounds x.snd x.fst) ([.bool false, .int .u64 0, .int .u64 0, .bool false, .int .u64 0, .int .u64 0, .int .u16 0, .int .u16 0, .int .u8 0]).toArray f.c.zipIdx = f.c.toArray := by
  obtain ⟨a1, a2, a3, a4, a5, a6, a7, a8, a9⟩ := f
  kernel_rfl
attribute [local go_sem] foldFw Fw.c_len
theorem etFw : ET Try.prog 111 29 (.agg ([.bool false, .int .u64 0, .int .u64 0, .bool false, .int .u64 0, .int .u64 0, .int .u16 0, .int .u16 0, .int .u8 0]).toArray) 9 56 := ⟨Try.underlying111, by kernel_rfl, rfl, by decide, by decide⟩
theorem mem_take_succ (M : List Fw) (k : Nat) (h : k < M.length) (y : Fw) : decide (y ∈ M.take (k + 1)) = (decide (y ∈ M.take k) || decide (M[k] = y)) := by
  have e : (y ∈ M.take (k + 1)) ↔ (y ∈ M.take k ∨ M[k] = y) := by
    rw [show M.take (k + 1) = M.take k ++ [M[k]] by simp, List.mem_append]
    simp only [List.mem_cons, List.not_mem_nil, or_false]
    exact or_congr_right eq_comm
  rw [decide_eq_decide.2 e, Bool.decide_or]
set_option maxHeartbeats 4000000 in
set_option maxRecDepth 100000 in
theorem connsKeep_walk (w : World) (mo : Nat) (hmo : mo ≤ 255) (f : Fw) (wd : Nat) (A : Option Addr) (n c : Nat) (Lf : List Fw) (hl : Rs 9 w A n c (Lf.flatMap Fw.c)) (hnm : n ≤ 9223372036854775807) :
    Calls Try.prog 10 #[.int .u8 (mo : Int), .agg f.c.toArray, .int .u16 (wd : Int), .slice A n c] w (RetV w (.bool true)) := by
  have hln : Lf.length = n := by have := hl.1; rw [flat_len Fw.c 9 Fw.c_len] at this; omega
  obtain ⟨dv1, v1, v2⟩ := rowFw
  have hf : Bk (w.alloc (.cells (f.c).toArray 29)) w.heap.size 29 (f.c) := Bk.new w 29 (f.c).toArray
  have be : Below w.heap.size w (w.alloc (.cells (f.c).toArray 29)) := Below.allocS (Below.refl _ _) _
  have zV : w.heap.size + 1 ≤ (w.alloc (.cells (f.c).toArray 29)).heap.size := by simp
  go_enter Try.func10, Try.ntmps10
  go_upto_region 1 with (fail)
  generalize w.alloc (.cells (f.c).toArray 29) = V at *
  go_upto_region 3 with (go_at_call 37; refine (awake31 _).mono ?_; rintro e w1 ⟨bs3, d3, rfl, rfl⟩)
  replace hf := hf.later (below_plus _ bs3 d3)
  replace be := belowP be bs3 d3
  have zV2 : w.heap.size + 1 ≤ (plus V bs3 d3).heap.size := by simp only [size_plus]; omega
  generalize plus V bs3 d3 = V at *
  obtain ⟨q, hq⟩ : ∃ q, q = mo % 40 := ⟨_, rfl⟩
  have hq40 : q < 40 := by rw [hq]; exact Nat.mod_lt _ (by decide)
  have ht : Int.tmod (mo : Int) 40 = (q : Int) := by rw [hq]; rfl
  clear hq
  have hmn : min (max (1 + (q : Int)) 1) 1024 = 1 + (q : Int) := by omega
  have HN := Lib.hid hmn
  clear hmn
  go_upto_region 5 with (go_at_call 38; refine (new_any _ (1 + (q : Int)) (by omega)).mono ?_; rintro e w1 ⟨cb, m, rfl, be1, hco, hcb, hm⟩)
  rw [HN.out] at hco
  clear HN ht
  have hN1 : 1 ≤ 1 + (q : Int) := by omega
  have hN2 : 1 + (q : Int) ≤ 40 := by omega
  generalize 1 + (q : Int) = N at *
  replace hf := hf.later be1
  replace be := be.trans (be1.mono be.size)
  have hDw0 : ∀ b, Dm cb m [] b → w.heap.size + 1 ≤ b := by
    rintro b (rfl | rfl | ⟨x, hx, rfl⟩)
    · omega
    · omega
    · simp at hx
  go_upto_region 6 with (first
    | (refine at_op (.load 29 (.tmp 5)) rfl ?_; refine wpList_ldA (t := 29) 29 (.tmp 5) rfl rfl (f.c) rfl (hf) (whole_ _) v1 v2 (szFw _) ?_)
    | (go_at_call 39; refine (put_adds _ cb m N [] f wd hco (by simp) (by simp; omega) (by simp)).mono ?_; rintro e w1 ⟨rfl, hc1, b1, hb1, hco1⟩))
  simp only [List.nil_append] at hco1
  have zb1 := be1.size
  have hK0 : KS w w1 cb m N f wd none 0 0 [] [⟨f, wd, b1⟩] := by
    refine ⟨Os.nil_, fun k hk => by simp [Value.ownBlock] at hk, hco1, List.Perm.refl _, ⟨⟨f, wd, b1⟩, by simp, rfl, rfl⟩, by simp; omega, ?_, hf.chg hc1 (fun hd => by have := hDw0 _ hd; omega), be.trans (hc1.below (fun b hb => by have := hDw0 b hb; omega) be.size)⟩
    rintro b (rfl | rfl | ⟨x, hx, rfl⟩)
    · exact hDw0 _ (.inl rfl)
    · exact hDw0 _ (.inr (.inl rfl))
    · simp only [List.mem_cons, List.not_mem_nil, or_false] at hx
      subst hx
      simp only []
      omega
  have HK := Lib.hid hK0
  clear hK0 hco hc1 hco1 hf be be1 hDw0 hb1 zb1 zV zV2 hcb hm
  go_upto_region 8 with (fail)
  go_loopw [11, 12] (fun s i wr => ∃ (j : Nat) (A' : Option Addr) (n' c' : Nat) (M : List Fw) (lst : List En), j ≤ n ∧ i = .int .i64 (j : Int) ∧ s = .slice A' n' c' ∧ KS w wr cb m N f wd A' n' c' M lst) (fun _ i _ => n - (intOf i).toNat)
  case atStart => exact ⟨0, none, 0, 0, [], _, Nat.zero_le _, rfl, rfl, HK.out⟩
  case round =>
    clear HK
    obtain ⟨j, A', n', c', M, lst, hj, rfl, rfl, hK⟩ := hrel
    have hln' : M.length = n' := by have := hK.os.rs.1; rw [flat_len Fw.c 9 Fw.c_len] at this; omega
    by_cases hlt : j < n ∧ j < 60
    · have ij : (j : Int) < (n : Int) := by omega
      have ij2 : (j : Int) < 60 := by omega
      have hjL : j < Lf.length := by omega
      obtain ⟨bl, ol, rfl, hbl, -⟩ := hl.at_ (by omega) (by decide)
      have hrg := fun W (h : Below w.heap.size w W) => (hl.later h).rangeE Fw.c_len j hjL
      have hbe := hK.be
      generalize Lf[j] = y at hrg
      have HRG := Lib.hid hrg
      have hf := hK.hf
      have hbw := hK.be.size
      clear hrg
      by_cases hyf : y = f
      · have hyy : decide (y = f) = true := by simp [hyf]
        replace hyf := Lib.hid hyf
        go_upto_region 10 with (fail)
        go_wp2
        refine wp_relS 6 101 rfl (by kernel_rfl) (by kernel_rfl) ?_
        apply Steps.one (MP.eq _) 1 rfl
        · intro o ho FA x hO hD K hK
          obtain rfl := Option.some.inj ho.symm
          clear ho
          have e3 := hO 3 (by kernel_rfl)
          simp only [eval_tmp, List.getElem?_toArray, List.getElem?_cons_succ, List.getElem?_cons_zero, Option.getD_some] at e3
          have ev3 := Lib.hid ((eval_tmp FA 3).trans e3)
          clear hO hD
          go_simp
          exact hK.out _ _ (Ex.refl _) rfl
        apply Steps.one (MP.eq _) 2 rfl
        · intro o ho FA x hO hD K hK
          obtain rfl := Option.some.inj ho.symm
          clear ho
          have e12 := hO 12 (by kernel_rfl)
          simp only [eval_tmp, List.getElem?_toArray, List.getElem?_cons_succ, List.getElem?_cons_zero, Option.getD_some] at e12
          have ev12 := Lib.hid ((eval_tmp FA 12).trans e12)
          clear hO hD
          go_simp
          exact hK.out _ _ (Ex.refl _) rfl
        apply Steps.one (MP.eq _) 3 rfl
        · intro o ho FA x hO hD K hK
          obtain rfl := Option.some.inj ho.symm
          clear ho
          have ev39 : FA.eval (.tmp 39) = _ := hD 0 39 (by kernel_rfl)
          have e39 := (eval_tmp FA 39).symm.trans ev39
          replace ev39 := Lib.hid ev39
          have ev40 : FA.eval (.tmp 40) = _ := hD 1 40 (by kernel_rfl)
          have e40 := (eval_tmp FA 40).symm.trans ev40
          replace ev40 := Lib.hid ev40
          clear hO hD
          go_simp
          exact hK.out _ _ (Ex.refl _) rfl
        apply Steps.one (MP.eq _) 4 rfl
        · intro o ho FA x hO hD K hK
          obtain rfl := Option.some.inj ho.symm
          clear ho
          have ev41 : FA.eval (.tmp 41) = _ := hD 2 41 (by kernel_rfl)
          have e41 := (eval_tmp FA 41).symm.trans ev41
          replace ev41 := Lib.hid ev41
          clear hO hD
          refine wanted_if rfl ?_
          refine wp_load_mid 29 (.tmp 41) rfl (bl) (ol + j * 9) ev41.out ((y).c) _ (HRG.out (plus wr x.bs x.d) (belowP hbe x.bs x.d)) v1 v2 (szFw _) ?_
          exact hK.out _ _ (Ex.refl _) rfl
        apply Steps.one (MP.eq _) 5 rfl
        · intro o ho FA x hO hD K hK
          obtain rfl := Option.some.inj ho.symm
          clear ho
          have e5 := hO 5 (by kernel_rfl)
          simp only [eval_tmp, List.getElem?_toArray, List.getElem?_cons_succ, List.getElem?_cons_zero, Option.getD_some] at e5
          have ev5 := Lib.hid ((eval_tmp FA 5).trans e5)
          clear hO hD
          refine wanted_if rfl ?_
          refine wp_ldA 29 (.tmp 5) rfl (f.c) ev5.out (hf.later (below_plus _ _ _)) (whole_ _) v1 v2 (szFw f) ?_
          exact hK.out _ _ (Ex.refl _) rfl
        apply Steps.one (MP.eq _) 6 rfl
        · intro o ho FA x hO hD K hK
          obtain rfl := Option.some.inj ho.symm
          clear ho
          have ev42 : FA.eval (.tmp 42) = _ := hD 3 42 (by kernel_rfl)
          have e42 := (eval_tmp FA 42).symm.trans ev42
          replace ev42 := Lib.hid ev42
          have ev43 : FA.eval (.tmp 43) = _ := hD 4 43 (by kernel_rfl)
          have e43 := (eval_tmp FA 43).symm.trans ev43
          replace ev43 := Lib.hid ev43
          clear hO hD
          go_simp
          exact hK.out _ _ (Ex.refl _) rfl
        refine Steps.fin_ (fun vs x hp => ?_)
        have p0 : vs 0 = _ := hp 0 (by omega)
        have p1 : vs 1 = _ := hp 1 (by omega)
        have p2 : vs 2 = _ := hp 2 (by omega)
        have p3 : vs 3 = _ := hp 3 (by omega)
        have p4 : vs 4 = _ := hp 4 (by omega)
        have p5 : vs 5 = _ := hp 5 (by omega)
        clear hp
        simp only [List.take_succ_cons, List.take_zero, List.drop_succ_cons, List.drop_zero, putAll, Nat.zero_add, Nat.reduceAdd, Act.put, List.setIfInBounds_toArray, List.set_cons_zero, List.set_cons_succ, p0, p1, p2, p3, p4, p5]
        clear p0 p1 p2 p3 p4 p5
        clear vs
        go_wp2
        exact ⟨⟨j + 1, A', n', c', M, lst, by omega, by go_num, rfl, hK.later (below_plus _ _ _)⟩, by simp [intOf]; omega⟩
      · have hyy : decide (y = f) = false := by simp [hyf]
        have HYF := Lib.hid hyf
        clear hyf
        go_upto_region 10 with (fail)
        go_wp2
        refine wp_relS 6 101 rfl (by kernel_rfl) (by kernel_rfl) ?_
        apply Steps.one (MP.eq _) 1 rfl
        · intro o ho FA x hO hD K hK
          obtain rfl := Option.some.inj ho.symm
          clear ho
          have e3 := hO 3 (by kernel_rfl)
          simp only [eval_tmp, List.getElem?_toArray, List.getElem?_cons_succ, List.getElem?_cons_zero, Option.getD_some] at e3
          have ev3 := Lib.hid ((eval_tmp FA 3).trans e3)
          clear hO hD
          go_simp
          exact hK.out _ _ (Ex.refl _) rfl
        apply Steps.one (MP.eq _) 2 rfl
        · intro o ho FA x hO hD K hK
          obtain rfl := Option.some.inj ho.symm
          clear ho
          have e12 := hO 12 (by kernel_rfl)
          simp only [eval_tmp, List.getElem?_toArray, List.getElem?_cons_succ, List.getElem?_cons_zero, Option.getD_some] at e12
          have ev12 := Lib.hid ((eval_tmp FA 12).trans e12)
          clear hO hD
          go_simp
          exact hK.out _ _ (Ex.refl _) rfl
        apply Steps.one (MP.eq _) 3 rfl
        · intro o ho FA x hO hD K hK
          obtain rfl := Option.some.inj ho.symm
          clear ho
          have ev39 : FA.eval (.tmp 39) = _ := hD 0 39 (by kernel_rfl)
          have e39 := (eval_tmp FA 39).symm.trans ev39
          replace ev39 := Lib.hid ev39
          have ev40 : FA.eval (.tmp 40) = _ := hD 1 40 (by kernel_rfl)
          have e40 := (eval_tmp FA 40).symm.trans ev40
          replace ev40 := Lib.hid ev40
          clear hO hD
          go_simp
          exact hK.out _ _ (Ex.refl _) rfl
        apply Steps.one (MP.eq _) 4 rfl
        · intro o ho FA x hO hD K hK
          obtain rfl := Option.some.inj ho.symm
          clear ho
          have ev41 : FA.eval (.tmp 41) = _ := hD 2 41 (by kernel_rfl)
          have e41 := (eval_tmp FA 41).symm.trans ev41
          replace ev41 := Lib.hid ev41
          clear hO hD
          refine wanted_if rfl ?_
          refine wp_load_mid 29 (.tmp 41) rfl (bl) (ol + j * 9) ev41.out ((y).c) _ (HRG.out (plus wr x.bs x.d) (belowP hbe x.bs x.d)) v1 v2 (szFw _) ?_
          exact hK.out _ _ (Ex.refl _) rfl
        apply Steps.one (MP.eq _) 5 rfl
        · intro o ho FA x hO hD K hK
          obtain rfl := Option.some.inj ho.symm
          clear ho
          have e5 := hO 5 (by kernel_rfl)
          simp only [eval_tmp, List.getElem?_toArray, List.getElem?_cons_succ, List.getElem?_cons_zero, Option.getD_some] at e5
          have ev5 := Lib.hid ((eval_tmp FA 5).trans e5)
          clear hO hD
          refine wanted_if rfl ?_
          refine wp_ldA 29 (.tmp 5) rfl (f.c) ev5.out (hf.later (below_plus _ _ _)) (whole_ _) v1 v2 (szFw f) ?_
          exact hK.out _ _ (Ex.refl _) rfl
        apply Steps.one (MP.eq _) 6 rfl
        · intro o ho FA x hO hD K hK
          obtain rfl := Option.some.inj ho.symm
          clear ho
          have ev42 : FA.eval (.tmp 42) = _ := hD 3 42 (by kernel_rfl)
          have e42 := (eval_tmp FA 42).symm.trans ev42
          replace ev42 := Lib.hid ev42
          have ev43 : FA.eval (.tmp 43) = _ := hD 4 43 (by kernel_rfl)
          have e43 := (eval_tmp FA 43).symm.trans ev43
          replace ev43 := Lib.hid ev43
          clear hO hD
          go_simp
          exact hK.out _ _ (Ex.refl _) rfl
        refine Steps.fin_ (fun vs x hp => ?_)
        have p0 : vs 0 = _ := hp 0 (by omega)
        have p1 : vs 1 = _ := hp 1 (by omega)
        have p2 : vs 2 = _ := hp 2 (by omega)
        have p3 : vs 3 = _ := hp 3 (by omega)
        have p4 : vs 4 = _ := hp 4 (by omega)
        have p5 : vs 5 = _ := hp 5 (by omega)
        clear hp
        simp only [List.take_succ_cons, List.take_zero, List.drop_succ_cons, List.drop_zero, putAll, Nat.zero_add, Nat.reduceAdd, Act.put, List.setIfInBounds_toArray, List.set_cons_zero, List.set_cons_succ, p0, p1, p2, p3, p4, p5]
        clear p0 p1 p2 p3 p4 p5
        clear vs
        go_upto_region 13 with (fail)
        replace hK := hK.later (below_plus wr x.bs x.d)
        clear hbe
        generalize plus wr x.bs x.d = wr at *
        clear hf hbw
        have HK := Lib.hid hK
        clear hK
        go_loopw [13, 14] (fun mt ki w4 => ∃ k : Nat, k ≤ n' ∧ ki = .int .i64 (k : Int) ∧ mt = .bool (decide (y ∈ M.take k)) ∧ Below wr.heap.size wr w4) (fun _ ki _ => n' - (intOf ki).toNat)
        case atStart => exact ⟨0, Nat.zero_le _, rfl, by simp, Below.refl _ _⟩
        case round =>
          obtain ⟨k, hk, rfl, rfl, hE⟩ := hrel
          have hK := HK.out.later hE
          have hbe := hK.be
          clear HK
          have hml := hK.ml
          have hmlN : (n' : Int) < N := by omega
          have hn40 : n' < 40 := by omega
          by_cases hkn : k < n'
          · have ik : (k : Int) < (n' : Int) := by omega
            obtain ⟨bo, oo, hA, zk, -⟩ := hK.os.rs.at_ (by omega) (by decide)
            subst hA
            have hrs := fun W (h : Below wr.heap.size wr W) => (hK.os.later h).rs.rangeE Fw.c_len k (by omega)
            have hms := mem_take_succ M k (by omega) y
            generalize M[k]'(by omega) = z at hrs hms
            generalize decide (y ∈ M.take k) = met at *
            have HRS := Lib.hid hrs
            have HMS := Lib.hid hms
            clear hrs hms hK
            cases met with
            | true =>
              go_upto_region 15 with (fail)
              go_wp2
              refine wp_relS 13 101 rfl (by kernel_rfl) (by kernel_rfl) ?_
              apply Steps.one (MP.eq _) 1 rfl
              · intro o ho FA x hO hD K hK
                obtain rfl := Option.some.inj ho.symm
                clear ho
                have e13 := hO 13 (by kernel_rfl)
                simp only [eval_tmp, List.getElem?_toArray, List.getElem?_cons_succ, List.getElem?_cons_zero, Option.getD_some] at e13
                have ev13 := Lib.hid ((eval_tmp FA 13).trans e13)
                clear hO hD
                go_simp
                exact hK.out _ _ (Ex.refl _) rfl
              apply Steps.one (MP.eq _) 2 rfl
              · intro o ho FA x hO hD K hK
                obtain rfl := Option.some.inj ho.symm
                clear ho
                have ev51 : FA.eval (.tmp 51) = _ := hD 0 51 (by kernel_rfl)
                have e51 := (eval_tmp FA 51).symm.trans ev51
                replace ev51 := Lib.hid ev51
                clear hO hD
                go_simp
                exact hK.out _ _ (Ex.refl _) rfl
              apply Steps.one (MP.eq _) 3 rfl
              · intro o ho FA x hO hD K hK
                obtain rfl := Option.some.inj ho.symm
                clear ho
                have e11 := hO 11 (by kernel_rfl)
                simp only [eval_tmp, List.getElem?_toArray, List.getElem?_cons_succ, List.getElem?_cons_zero, Option.getD_some] at e11
                have ev11 := Lib.hid ((eval_tmp FA 11).trans e11)
                have ev52 : FA.eval (.tmp 52) = _ := hD 1 52 (by kernel_rfl)
                have e52 := (eval_tmp FA 52).symm.trans ev52
                replace ev52 := Lib.hid ev52
                first | have ge52 := slot_of e52 | have ge52 := slot_un e52
                clear hO hD
                go_simp
                exact hK.out _ _ (Ex.refl _) rfl
              apply Steps.one (MP.eq _) 4 rfl
              · intro o ho FA x hO hD K hK
                obtain rfl := Option.some.inj ho.symm
                clear ho
                have e14 := hO 14 (by kernel_rfl)
                simp only [eval_tmp, List.getElem?_toArray, List.getElem?_cons_succ, List.getElem?_cons_zero, Option.getD_some] at e14
                have ev14 := Lib.hid ((eval_tmp FA 14).trans e14)
                have ev52 : FA.eval (.tmp 52) = _ := hD 1 52 (by kernel_rfl)
                have e52 := (eval_tmp FA 52).symm.trans ev52
                replace ev52 := Lib.hid ev52
                first | have ge52 := slot_of e52 | have ge52 := slot_un e52
                clear hO hD
                go_simp
                exact hK.out _ _ (Ex.refl _) rfl
              apply Steps.one (MP.eq _) 5 rfl
              · intro o ho FA x hO hD K hK
                obtain rfl := Option.some.inj ho.symm
                clear ho
                have ev53 : FA.eval (.tmp 53) = _ := hD 2 53 (by kernel_rfl)
                have e53 := (eval_tmp FA 53).symm.trans ev53
                replace ev53 := Lib.hid ev53
                have ev54 : FA.eval (.tmp 54) = _ := hD 3 54 (by kernel_rfl)
                have e54 := (eval_tmp FA 54).symm.trans ev54
                replace ev54 := Lib.hid ev54
                have ev52 : FA.eval (.tmp 52) = _ := hD 1 52 (by kernel_rfl)
                have e52 := (eval_tmp FA 52).symm.trans ev52
                replace ev52 := Lib.hid ev52
                first | have ge52 := slot_of e52 | have ge52 := slot_un e52
                clear hO hD
                go_simp
                exact hK.out _ _ (Ex.refl _) rfl
              apply Steps.one (MP.eq _) 6 rfl
              · intro o ho FA x hO hD K hK
                obtain rfl := Option.some.inj ho.symm
                clear ho
                have ev55 : FA.eval (.tmp 55) = _ := hD 4 55 (by kernel_rfl)
                have e55 := (eval_tmp FA 55).symm.trans ev55
                replace ev55 := Lib.hid ev55
                have ev52 : FA.eval (.tmp 52) = _ := hD 1 52 (by kernel_rfl)
                have e52 := (eval_tmp FA 52).symm.trans ev52
                replace ev52 := Lib.hid ev52
                first | have ge52 := slot_of e52 | have ge52 := slot_un e52
                clear hO hD
                first | (refine wanted_ifG ?_ ?_; (· go_simp); refine wp_load_mid 29 (.tmp 55) rfl (bo) (oo + k * 9) ev55.out ((z).c) _ (HRS.out (plus wr x.bs x.d) (below_plus _ _ _)) v1 v2 (szFw _) ?_; exact hK.out _ _ (Ex.refl _) rfl) | (go_simp; exact hK.out _ _ (Ex.refl _) rfl)
              apply Steps.one (MP.eq _) 7 rfl
              · intro o ho FA x hO hD K hK
                obtain rfl := Option.some.inj ho.symm
                clear ho
                have e3 := hO 3 (by kernel_rfl)
                simp only [eval_tmp, List.getElem?_toArray, List.getElem?_cons_succ, List.getElem?_cons_zero, Option.getD_some] at e3
                have ev3 := Lib.hid ((eval_tmp FA 3).trans e3)
                have ev52 : FA.eval (.tmp 52) = _ := hD 1 52 (by kernel_rfl)
                have e52 := (eval_tmp FA 52).symm.trans ev52
                replace ev52 := Lib.hid ev52
                first | have ge52 := slot_of e52 | have ge52 := slot_un e52
                clear hO hD
                go_simp
                exact hK.out _ _ (Ex.refl _) rfl
              apply Steps.one (MP.eq _) 8 rfl
              · intro o ho FA x hO hD K hK
                obtain rfl := Option.some.inj ho.symm
                clear ho
                have e12 := hO 12 (by kernel_rfl)
                simp only [eval_tmp, List.getElem?_toArray, List.getElem?_cons_succ, List.getElem?_cons_zero, Option.getD_some] at e12
                have ev12 := Lib.hid ((eval_tmp FA 12).trans e12)
                have ev52 : FA.eval (.tmp 52) = _ := hD 1 52 (by kernel_rfl)
                have e52 := (eval_tmp FA 52).symm.trans ev52
                replace ev52 := Lib.hid ev52
                first | have ge52 := slot_of e52 | have ge52 := slot_un e52
                clear hO hD
                go_simp
                exact hK.out _ _ (Ex.refl _) rfl
              apply Steps.one (MP.eq _) 9 rfl
              · intro o ho FA x hO hD K hK
                obtain rfl := Option.some.inj ho.symm
                clear ho
                have ev57 : FA.eval (.tmp 57) = _ := hD 6 57 (by kernel_rfl)
                have e57 := (eval_tmp FA 57).symm.trans ev57
                replace ev57 := Lib.hid ev57
                have ev58 : FA.eval (.tmp 58) = _ := hD 7 58 (by kernel_rfl)
                have e58 := (eval_tmp FA 58).symm.trans ev58
                replace ev58 := Lib.hid ev58
                have ev52 : FA.eval (.tmp 52) = _ := hD 1 52 (by kernel_rfl)
                have e52 := (eval_tmp FA 52).symm.trans ev52
                replace ev52 := Lib.hid ev52
                first | have ge52 := slot_of e52 | have ge52 := slot_un e52
                clear hO hD
                go_simp
                exact hK.out _ _ (Ex.refl _) rfl
              apply Steps.one (MP.eq _) 10 rfl
              · intro o ho FA x hO hD K hK
                obtain rfl := Option.some.inj ho.symm
                clear ho
                have ev59 : FA.eval (.tmp 59) = _ := hD 8 59 (by kernel_rfl)
                have e59 := (eval_tmp FA 59).symm.trans ev59
                replace ev59 := Lib.hid ev59
                have ev52 : FA.eval (.tmp 52) = _ := hD 1 52 (by kernel_rfl)
                have e52 := (eval_tmp FA 52).symm.trans ev52
                replace ev52 := Lib.hid ev52
                first | have ge52 := slot_of e52 | have ge52 := slot_un e52
                clear hO hD
                first | (refine wanted_ifG ?_ ?_; (· go_simp); refine wp_load_mid 29 (.tmp 59) rfl (bl) (ol + j * 9) ev59.out ((y).c) _ (HRG.out (plus wr x.bs x.d) (belowP hbe x.bs x.d)) v1 v2 (szFw _) ?_; exact hK.out _ _ (Ex.refl _) rfl) | (go_simp; exact hK.out _ _ (Ex.refl _) rfl)
              apply Steps.one (MP.eq _) 11 rfl
              · intro o ho FA x hO hD K hK
                obtain rfl := Option.some.inj ho.symm
                clear ho
                have ev56 : FA.eval (.tmp 56) = _ := hD 5 56 (by kernel_rfl)
                have e56 := (eval_tmp FA 56).symm.trans ev56
                replace ev56 := Lib.hid ev56
                have ev60 : FA.eval (.tmp 60) = _ := hD 9 60 (by kernel_rfl)
                have e60 := (eval_tmp FA 60).symm.trans ev60
                replace ev60 := Lib.hid ev60
                have ev52 : FA.eval (.tmp 52) = _ := hD 1 52 (by kernel_rfl)
                have e52 := (eval_tmp FA 52).symm.trans ev52
                replace ev52 := Lib.hid ev52
                first | have ge52 := slot_of e52 | have ge52 := slot_un e52
                clear hO hD
                go_simp
                exact hK.out _ _ (Ex.refl _) rfl
              apply Steps.one (MP.eq _) 12 rfl
              · intro o ho FA x hO hD K hK
                obtain rfl := Option.some.inj ho.symm
                clear ho
                have ev52 : FA.eval (.tmp 52) = _ := hD 1 52 (by kernel_rfl)
                have e52 := (eval_tmp FA 52).symm.trans ev52
                replace ev52 := Lib.hid ev52
                have ev61 : FA.eval (.tmp 61) = _ := hD 10 61 (by kernel_rfl)
                have e61 := (eval_tmp FA 61).symm.trans ev61
                replace ev61 := Lib.hid ev61
                clear hO hD
                go_simp
                exact hK.out _ _ (Ex.refl _) rfl
              apply Steps.one (MP.eq _) 13 rfl
              · intro o ho FA x hO hD K hK
                obtain rfl := Option.some.inj ho.symm
                clear ho
                have ev62 : FA.eval (.tmp 62) = _ := hD 11 62 (by kernel_rfl)
                have e62 := (eval_tmp FA 62).symm.trans ev62
                replace ev62 := Lib.hid ev62
                clear hO hD
                go_simp
                exact hK.out _ _ (Ex.refl _) rfl
              refine Steps.fin_ (fun vs x hp => ?_)
              have p0 : vs 0 = _ := hp 0 (by omega)
              have p1 : vs 1 = _ := hp 1 (by omega)
              have p2 : vs 2 = _ := hp 2 (by omega)
              have p3 : vs 3 = _ := hp 3 (by omega)
              have p4 : vs 4 = _ := hp 4 (by omega)
              have p5 : vs 5 = _ := hp 5 (by omega)
              have p6 : vs 6 = _ := hp 6 (by omega)
              have p7 : vs 7 = _ := hp 7 (by omega)
              have p8 : vs 8 = _ := hp 8 (by omega)
              have p9 : vs 9 = _ := hp 9 (by omega)
              have p10 : vs 10 = _ := hp 10 (by omega)
              have p11 : vs 11 = _ := hp 11 (by omega)
              have p12 : vs 12 = _ := hp 12 (by omega)
              clear hp
              simp only [List.take_succ_cons, List.take_zero, List.drop_succ_cons, List.drop_zero, putAll, Nat.zero_add, Nat.reduceAdd, Act.put, List.setIfInBounds_toArray, List.set_cons_zero, List.set_cons_succ, p0, p1, p2, p3, p4, p5, p6, p7, p8, p9, p10, p11, p12]
              clear p0 p1 p2 p3 p4 p5 p6 p7 p8 p9 p10 p11 p12
              clear vs
              go_wp2
              exact ⟨⟨k + 1, by omega, by go_num, by rw [HMS.out]; rfl, hE.trans ((below_plus _ _ _).mono hE.size)⟩, by simp [intOf]; omega⟩
            | false =>
              go_upto_region 15 with (fail)
              go_wp2
              refine wp_relS 13 101 rfl (by kernel_rfl) (by kernel_rfl) ?_
              apply Steps.one (MP.eq _) 1 rfl
              · intro o ho FA x hO hD K hK
                obtain rfl := Option.some.inj ho.symm
                clear ho
                have e13 := hO 13 (by kernel_rfl)
                simp only [eval_tmp, List.getElem?_toArray, List.getElem?_cons_succ, List.getElem?_cons_zero, Option.getD_some] at e13
                have ev13 := Lib.hid ((eval_tmp FA 13).trans e13)
                clear hO hD
                go_simp
                exact hK.out _ _ (Ex.refl _) rfl
              apply Steps.one (MP.eq _) 2 rfl
              · intro o ho FA x hO hD K hK
                obtain rfl := Option.some.inj ho.symm
                clear ho
                have ev51 : FA.eval (.tmp 51) = _ := hD 0 51 (by kernel_rfl)
                have e51 := (eval_tmp FA 51).symm.trans ev51
                replace ev51 := Lib.hid ev51
                clear hO hD
                go_simp
                exact hK.out _ _ (Ex.refl _) rfl
              apply Steps.one (MP.eq _) 3 rfl
              · intro o ho FA x hO hD K hK
                obtain rfl := Option.some.inj ho.symm
                clear ho
                have e11 := hO 11 (by kernel_rfl)
                simp only [eval_tmp, List.getElem?_toArray, List.getElem?_cons_succ, List.getElem?_cons_zero, Option.getD_some] at e11
                have ev11 := Lib.hid ((eval_tmp FA 11).trans e11)
                have ev52 : FA.eval (.tmp 52) = _ := hD 1 52 (by kernel_rfl)
                have e52 := (eval_tmp FA 52).symm.trans ev52
                replace ev52 := Lib.hid ev52
                first | have ge52 := slot_of e52 | have ge52 := slot_un e52
                clear hO hD
                go_simp
                exact hK.out _ _ (Ex.refl _) rfl
              apply Steps.one (MP.eq _) 4 rfl
              · intro o ho FA x hO hD K hK
                obtain rfl := Option.some.inj ho.symm
                clear ho
                have e14 := hO 14 (by kernel_rfl)
                simp only [eval_tmp, List.getElem?_toArray, List.getElem?_cons_succ, List.getElem?_cons_zero, Option.getD_some] at e14
                have ev14 := Lib.hid ((eval_tmp FA 14).trans e14)
                have ev52 : FA.eval (.tmp 52) = _ := hD 1 52 (by kernel_rfl)
                have e52 := (eval_tmp FA 52).symm.trans ev52
                replace ev52 := Lib.hid ev52
                first | have ge52 := slot_of e52 | have ge52 := slot_un e52
                clear hO hD
                go_simp
                exact hK.out _ _ (Ex.refl _) rfl
              apply Steps.one (MP.eq _) 5 rfl
              · intro o ho FA x hO hD K hK
                obtain rfl := Option.some.inj ho.symm
                clear ho
                have ev53 : FA.eval (.tmp 53) = _ := hD 2 53 (by kernel_rfl)
                have e53 := (eval_tmp FA 53).symm.trans ev53
                replace ev53 := Lib.hid ev53
                have ev54 : FA.eval (.tmp 54) = _ := hD 3 54 (by kernel_rfl)
                have e54 := (eval_tmp FA 54).symm.trans ev54
                replace ev54 := Lib.hid ev54
                have ev52 : FA.eval (.tmp 52) = _ := hD 1 52 (by kernel_rfl)
                have e52 := (eval_tmp FA 52).symm.trans ev52
                replace ev52 := Lib.hid ev52
                first | have ge52 := slot_of e52 | have ge52 := slot_un e52
                clear hO hD
                go_simp
                exact hK.out _ _ (Ex.refl _) rfl
              apply Steps.one (MP.eq _) 6 rfl
              · intro o ho FA x hO hD K hK
                obtain rfl := Option.some.inj ho.symm
                clear ho
                have ev55 : FA.eval (.tmp 55) = _ := hD 4 55 (by kernel_rfl)
                have e55 := (eval_tmp FA 55).symm.trans ev55
                replace ev55 := Lib.hid ev55
                have ev52 : FA.eval (.tmp 52) = _ := hD 1 52 (by kernel_rfl)
                have e52 := (eval_tmp FA 52).symm.trans ev52
                replace ev52 := Lib.hid ev52
                first | have ge52 := slot_of e52 | have ge52 := slot_un e52
                clear hO hD
                first | (refine wanted_ifG ?_ ?_; (· go_simp); refine wp_load_mid 29 (.tmp 55) rfl (bo) (oo + k * 9) ev55.out ((z).c) _ (HRS.out (plus wr x.bs x.d) (below_plus _ _ _)) v1 v2 (szFw _) ?_; exact hK.out _ _ (Ex.refl _) rfl) | (go_simp; exact hK.out _ _ (Ex.refl _) rfl)
              apply Steps.one (MP.eq _) 7 rfl
              · intro o ho FA x hO hD K hK
                obtain rfl := Option.some.inj ho.symm
                clear ho
                have e3 := hO 3 (by kernel_rfl)
                simp only [eval_tmp, List.getElem?_toArray, List.getElem?_cons_succ, List.getElem?_cons_zero, Option.getD_some] at e3
                have ev3 := Lib.hid ((eval_tmp FA 3).trans e3)
                have ev52 : FA.eval (.tmp 52) = _ := hD 1 52 (by kernel_rfl)
                have e52 := (eval_tmp FA 52).symm.trans ev52
                replace ev52 := Lib.hid ev52
                first | have ge52 := slot_of e52 | have ge52 := slot_un e52
                clear hO hD
                go_simp
                exact hK.out _ _ (Ex.refl _) rfl
              apply Steps.one (MP.eq _) 8 rfl
              · intro o ho FA x hO hD K hK
                obtain rfl := Option.some.inj ho.symm
                clear ho
                have e12 := hO 12 (by kernel_rfl)
                simp only [eval_tmp, List.getElem?_toArray, List.getElem?_cons_succ, List.getElem?_cons_zero, Option.getD_some] at e12
                have ev12 := Lib.hid ((eval_tmp FA 12).trans e12)
                have ev52 : FA.eval (.tmp 52) = _ := hD 1 52 (by kernel_rfl)
                have e52 := (eval_tmp FA 52).symm.trans ev52
                replace ev52 := Lib.hid ev52
                first | have ge52 := slot_of e52 | have ge52 := slot_un e52
                clear hO hD
                go_simp
                exact hK.out _ _ (Ex.refl _) rfl
              apply Steps.one (MP.eq _) 9 rfl
              · intro o ho FA x hO hD K hK
                obtain rfl := Option.some.inj ho.symm
                clear ho
                have ev57 : FA.eval (.tmp 57) = _ := hD 6 57 (by kernel_rfl)
                have e57 := (eval_tmp FA 57).symm.trans ev57
                replace ev57 := Lib.hid ev57
                have ev58 : FA.eval (.tmp 58) = _ := hD 7 58 (by kernel_rfl)
                have e58 := (eval_tmp FA 58).symm.trans ev58
                replace ev58 := Lib.hid ev58
                have ev52 : FA.eval (.tmp 52) = _ := hD 1 52 (by kernel_rfl)
                have e52 := (eval_tmp FA 52).symm.trans ev52
                replace ev52 := Lib.hid ev52
                first | have ge52 := slot_of e52 | have ge52 := slot_un e52
                clear hO hD
                go_simp
                exact hK.out _ _ (Ex.refl _) rfl
              apply Steps.one (MP.eq _) 10 rfl
              · intro o ho FA x hO hD K hK
                obtain rfl := Option.some.inj ho.symm
                clear ho
                have ev59 : FA.eval (.tmp 59) = _ := hD 8 59 (by kernel_rfl)
                have e59 := (eval_tmp FA 59).symm.trans ev59
                replace ev59 := Lib.hid ev59
                have ev52 : FA.eval (.tmp 52) = _ := hD 1 52 (by kernel_rfl)
                have e52 := (eval_tmp FA 52).symm.trans ev52
                replace ev52 := Lib.hid ev52
                first | have ge52 := slot_of e52 | have ge52 := slot_un e52
                clear hO hD
                first | (refine wanted_ifG ?_ ?_; (· go_simp); refine wp_load_mid 29 (.tmp 59) rfl (bl) (ol + j * 9) ev59.out ((y).c) _ (HRG.out (plus wr x.bs x.d) (belowP hbe x.bs x.d)) v1 v2 (szFw _) ?_; exact hK.out _ _ (Ex.refl _) rfl) | (go_simp; exact hK.out _ _ (Ex.refl _) rfl)
              apply Steps.one (MP.eq _) 11 rfl
              · intro o ho FA x hO hD K hK
                obtain rfl := Option.some.inj ho.symm
                clear ho
                have ev56 : FA.eval (.tmp 56) = _ := hD 5 56 (by kernel_rfl)
                have e56 := (eval_tmp FA 56).symm.trans ev56
                replace ev56 := Lib.hid ev56
                have ev60 : FA.eval (.tmp 60) = _ := hD 9 60 (by kernel_rfl)
                have e60 := (eval_tmp FA 60).symm.trans ev60
                replace ev60 := Lib.hid ev60
                have ev52 : FA.eval (.tmp 52) = _ := hD 1 52 (by kernel_rfl)
                have e52 := (eval_tmp FA 52).symm.trans ev52
                replace ev52 := Lib.hid ev52
                first | have ge52 := slot_of e52 | have ge52 := slot_un e52
                clear hO hD
                go_simp
                exact hK.out _ _ (Ex.refl _) rfl
              apply Steps.one (MP.eq _) 12 rfl
              · intro o ho FA x hO hD K hK
                obtain rfl := Option.some.inj ho.symm
                clear ho
                have ev52 : FA.eval (.tmp 52) = _ := hD 1 52 (by kernel_rfl)
                have e52 := (eval_tmp FA 52).symm.trans ev52
                replace ev52 := Lib.hid ev52
                have ev61 : FA.eval (.tmp 61) = _ := hD 10 61 (by kernel_rfl)
                have e61 := (eval_tmp FA 61).symm.trans ev61
                replace ev61 := Lib.hid ev61
                clear hO hD
                go_simp
                exact hK.out _ _ (Ex.refl _) rfl
              apply Steps.one (MP.eq _) 13 rfl
              · intro o ho FA x hO hD K hK
                obtain rfl := Option.some.inj ho.symm
                clear ho
                have ev62 : FA.eval (.tmp 62) = _ := hD 11 62 (by kernel_rfl)
                have e62 := (eval_tmp FA 62).symm.trans ev62
                replace ev62 := Lib.hid ev62
                clear hO hD
                go_simp
                exact hK.out _ _ (Ex.refl _) rfl
              refine Steps.fin_ (fun vs x hp => ?_)
              have p0 : vs 0 = _ := hp 0 (by omega)
              have p1 : vs 1 = _ := hp 1 (by omega)
              have p2 : vs 2 = _ := hp 2 (by omega)
              have p3 : vs 3 = _ := hp 3 (by omega)
              have p4 : vs 4 = _ := hp 4 (by omega)
              have p5 : vs 5 = _ := hp 5 (by omega)
              have p6 : vs 6 = _ := hp 6 (by omega)
              have p7 : vs 7 = _ := hp 7 (by omega)
              have p8 : vs 8 = _ := hp 8 (by omega)
              have p9 : vs 9 = _ := hp 9 (by omega)
              have p10 : vs 10 = _ := hp 10 (by omega)
              have p11 : vs 11 = _ := hp 11 (by omega)
              have p12 : vs 12 = _ := hp 12 (by omega)
              clear hp
              simp only [List.take_succ_cons, List.take_zero, List.drop_succ_cons, List.drop_zero, putAll, Nat.zero_add, Nat.reduceAdd, Act.put, List.setIfInBounds_toArray, List.set_cons_zero, List.set_cons_succ, p0, p1, p2, p3, p4, p5, p6, p7, p8, p9, p10, p11, p12]
              clear p0 p1 p2 p3 p4 p5 p6 p7 p8 p9 p10 p11 p12
              clear vs
              go_wp2
              exact ⟨⟨k + 1, by omega, by go_num, by rw [HMS.out]; rfl, hE.trans ((below_plus _ _ _).mono hE.size)⟩, by simp [intOf]; omega⟩
          · have ik : ¬ (k : Int) < (n' : Int) := by omega
            have hme : decide (y ∈ M.take k) = decide (y ∈ M) := by rw [List.take_of_length_le (by omega)]
            rw [hme]
            clear hme
            generalize hmt : decide (y ∈ M) = met at *
            cases met with
            | true =>
              have hm := of_decide_eq_true hmt
              have nn : ¬ N ≤ (n' : Int) := by omega
              clear hmt
              obtain ⟨x, hx, hxf⟩ := List.mem_map.1 (hK.pm.mem_iff.2 (List.mem_cons_of_mem f hm))
              obtain ⟨p, s, rfl⟩ := List.append_of_mem hx
              subst hxf
              have hzl := hK.co.lt
              go_upto_region 20 with (first
                | (refine at_op (.load 29 (.tmp 79)) rfl ?_; refine wpList_load_mid rfl _ (.tmp 79) rfl bl (ol + j * 9) rfl (x.f.c) _ (HRG.out _ hbe) v1 v2 (szFw _) ?_)
                | (go_at_call 39; refine (put_is wr cb m N p s x 0 hK.co).mono ?_; rintro e w1 ⟨rfl, hcp, hcop⟩))
              have dsub : ∀ b, Dm cb m (p ++ s ++ [(⟨x.f, 0, x.b⟩ : En)]) b → Dm cb m (p ++ x :: s) b := by
                rintro b (e | e | ⟨z, hz, e⟩)
                · exact .inl e
                · exact .inr (.inl e)
                · simp only [List.mem_append, List.mem_cons, List.not_mem_nil, or_false] at hz
                  rcases hz with (h1 | h1) | rfl
                  · exact .inr (.inr ⟨z, by simp [h1], e⟩)
                  · exact .inr (.inr ⟨z, by simp [h1], e⟩)
                  · exact .inr (.inr ⟨x, by simp, e⟩)
              have hpm : ((p ++ s ++ [(⟨x.f, 0, x.b⟩ : En)]).map (·.f)).Perm (f :: M) := by
                refine List.Perm.trans ?_ hK.pm
                simp only [List.map_append, List.map_cons, List.map_nil]
                rw [← List.map_append]
                refine List.perm_append_comm.trans ?_
                simp only [List.map_append, List.cons_append, List.nil_append]
                exact List.perm_middle.symm
              have hen : ∃ en ∈ p ++ s ++ [(⟨x.f, 0, x.b⟩ : En)], en.f = f ∧ en.wd = wd := by
                obtain ⟨en, h1, h2, h3⟩ := hK.en
                refine ⟨en, ?_, h2, h3⟩
                simp only [List.mem_append, List.mem_cons] at h1 ⊢
                rcases h1 with h1 | rfl | h1
                · simp [h1]
                · exact absurd h2 HYF.out
                · simp [h1]
              have hK2 : KS w w1 cb m N f wd A' n' c' M (p ++ s ++ [(⟨x.f, 0, x.b⟩ : En)]) :=
                ⟨hK.os.chg hcp (fun k hk => (hK.ob k hk).2), fun k hk => ⟨(hK.ob k hk).1, fun hd => (hK.ob k hk).2 (dsub k hd)⟩, hcop, hpm, hen, hK.ml, fun b hb => hK.dw b (dsub b hb), hK.hf.chg hcp (fun hd => by have := hK.dw _ hd; omega), hK.be.trans (hcp.below (fun b hb => by have := hK.dw b hb; omega) hK.be.size)⟩
              generalize p ++ s ++ [(⟨x.f, 0, x.b⟩ : En)] = lst at *
              have hlen : lst.length = 1 + M.length := by have := hpm.length_eq; simp at this; omega
              have hgt : ¬ N < (lst.length : Int) := by omega
              clear hcp hcop dsub hpm hen hzl
              go_upto_region 9 with (go_at_call 40; refine (len_any w1 cb m N lst hK2.co).mono ?_; rintro e w1 ⟨bs5, d5, rfl, rfl⟩)
              go_wp2
              exact ⟨⟨j + 1, A', n', c', M, lst, by omega, by go_num, rfl, hK2.later (below_plus _ _ _)⟩, by simp [intOf]; omega⟩
            | false =>
              have hm := of_decide_eq_false hmt
              clear hmt
              have hzl := hK.co.lt
              have hal : Below wr.heap.size wr (wr.alloc (.cells y.c.toArray 29)) := Below.allocS (Below.refl wr.heap.size wr) (.cells y.c.toArray 29)
              go_upto_region 18 with (first
                | (refine at_op (.load 29 (.tmp 68)) rfl ?_; refine wpList_load_mid rfl _ (.tmp 68) rfl bl (ol + j * 9) rfl (y.c) _ (HRG.out _ hbe) v1 v2 (szFw _) ?_)
                | (at_builtin; refine wpList_appS2 etFw rfl (.tmp 65) (.tmp 70) rfl rfl (hK.os.later hal) rfl (Rs.of_bk (n := 1) (c := 1) (Bk.new wr _ _) rfl (Nat.le_refl _)) (Fw.c_one y) (by omega) (by have := hK.be.size; simp; omega) ?_; intro A2 n2 c2 w5 hn2 hO2 hb2 hg2 hob2; subst hn2))
              have hO3 : Os 29 9 w5 w.heap.size A2 (n' + 1) c2 ((M ++ [y]).flatMap Fw.c) := by rw [List.flatMap_append]; simpa using hO2
              have hco5 := (hK.co.later hal).chg (D := fun b => (Value.slice A' n' c').ownBlock = some b) (Chg.grown hg2 (fun k hk => hk)) (fun b hb e => (hK.ob b e).2 hb)
              have hf5 := (hK.hf.later hal).grown hg2 (fun e => by have := (hK.ob _ e).1; omega)
              have be5 := (hK.be.trans (hal.mono hK.be.size)).trans hb2
              have hwl := hK.hf.lt
              have ob5 : ∀ k, (Value.slice A2 (n' + 1) c2).ownBlock = some k → w.heap.size + 1 ≤ k ∧ ¬ Dm cb m lst k := by
                intro k hk
                rcases hob2 with e | e
                · exact hK.ob k (e ▸ hk)
                · rw [hk] at e
                  injection e with e
                  simp at e
                  exact ⟨by omega, fun hd => by have := hzl k hd; omega⟩
              clear hO2 hg2 hob2 hb2 hal hzl hbe
              have hin := hK.en
              have hDw := hK.dw
              have hpm := hK.pm
              clear hK
              by_cases hbr : N ≤ (n' : Int) + 1
              · have hbr2 : N ≤ ((n' + 1 : Nat) : Int) := by omega
                have hco := hco5
                have hf := hf5
                have be := be5
                clear hco5 hf5 be5 hO3 ob5
                clear HRG
                obtain ⟨en, hen, hef, hew⟩ := hin
                obtain ⟨p, s, rfl⟩ := List.append_of_mem hen
                subst hef hew
                have hzl := hco.lt
                go_upto_region 23 with (first
                  | (refine at_op (.load 29 (.tmp 5)) rfl ?_; refine wpList_ldA (t := 29) 29 (.tmp 5) rfl rfl (en.f.c) rfl (hf) (whole_ _) v1 v2 (szFw _) ?_)
                  | (go_at_call 41; refine (get_is w5 cb m N p s en hco).mono ?_; rintro e w1 ⟨rfl, hcg, hcog⟩))
                have be2 := be.trans (hcg.below (fun b hb => by have := hDw b hb; omega) be.size)
                go_wp2_with (go_at_call 37; refine (awake31 _).mono ?_; rintro e w1 ⟨bs3, d3, rfl, rfl⟩)
                go_ret
                exact RetV.is_ (by simp) (belowP be2 _ _)
              · have hbr2 : ¬ N ≤ ((n' + 1 : Nat) : Int) := by omega
                have hlen0 : lst.length = 1 + M.length := by have := hpm.length_eq; simp at this; omega
                have hnw : ∀ x ∈ lst, x.f ≠ y := by
                  intro x hx e
                  have h1 := hpm.mem_iff.1 (List.mem_map_of_mem (f := fun x : En => x.f) hx)
                  rcases List.mem_cons.1 h1 with h2 | h2
                  · exact HYF.out (e ▸ h2)
                  · exact hm (e ▸ h2)
                have HPA := Lib.hid (put_adds w5 cb m N lst y 0 hco5 hnw (by omega) (by omega))
                go_upto_region 20 with (first
                  | (refine at_op (.load 29 (.tmp 79)) rfl ?_; refine wpList_load_mid rfl _ (.tmp 79) rfl bl (ol + j * 9) rfl (y.c) _ (HRG.out _ be5) v1 v2 (szFw _) ?_)
                  | (go_at_call 39; refine (HPA.out).mono ?_; rintro e w1 ⟨rfl, hcp, b, hb, hcop⟩))
                clear HPA
                have hK2 : KS w w1 cb m N f wd A2 (n' + 1) c2 (M ++ [y]) (lst ++ [(⟨y, 0, b⟩ : En)]) := by
                  have hw5 := hf5.lt
                  refine ⟨hO3.chg hcp (fun k hk => (ob5 k hk).2), fun k hk => ⟨(ob5 k hk).1, ?_⟩, hcop, ?_, ?_, by simp; omega, ?_, hf5.chg hcp (fun hd => by have := hDw _ hd; omega), be5.trans (hcp.below (fun b hb => by have := hDw b hb; omega) be5.size)⟩
                  · rintro (e | e | ⟨z, hz, e⟩)
                    · exact (ob5 k hk).2 (.inl e)
                    · exact (ob5 k hk).2 (.inr (.inl e))
                    · rcases List.mem_append.1 hz with h1 | h1
                      · exact (ob5 k hk).2 (.inr (.inr ⟨z, h1, e⟩))
                      · simp only [List.mem_cons, List.not_mem_nil, or_false] at h1
                        subst h1
                        simp only [] at e
                        have := (hO3.blk k hk).2
                        omega
                  · rw [List.map_append]
                    exact hpm.append_right _
                  · obtain ⟨en, h1, h2⟩ := hin
                    exact ⟨en, List.mem_append.2 (.inl h1), h2⟩
                  · rintro k (e | e | ⟨z, hz, e⟩)
                    · exact hDw k (.inl e)
                    · exact hDw k (.inr (.inl e))
                    · rcases List.mem_append.1 hz with h1 | h1
                      · exact hDw k (.inr (.inr ⟨z, h1, e⟩))
                      · simp only [List.mem_cons, List.not_mem_nil, or_false] at h1
                        subst h1
                        simp only [] at e
                        omega
                have hlen : (lst ++ [(⟨y, 0, b⟩ : En)]).length = n' + 2 := by simp; omega
                generalize lst ++ [(⟨y, 0, b⟩ : En)] = lst2 at *
                have hgt : ¬ N < (lst2.length : Int) := by omega
                clear hcp hcop hco5 hO3 ob5 hpm hin hDw hnw hf5 be5
                go_upto_region 9 with (go_at_call 40; refine (len_any w1 cb m N lst2 hK2.co).mono ?_; rintro e w1 ⟨bs5, d5, rfl, rfl⟩)
                go_wp2
                exact ⟨⟨j + 1, A2, n' + 1, c2, M ++ [y], lst2, by omega, by go_num, rfl, hK2.later (below_plus _ _ _)⟩, by simp [intOf]; omega⟩
    · have hco := hK.co
      have hin := hK.en
      have hf := hK.hf
      have be := hK.be
      have hDw := hK.dw
      clear hK
      by_cases hj1 : j < n
      · have ij : (j : Int) < (n : Int) := by omega
        have ij2 : ¬ (j : Int) < 60 := by omega
        obtain ⟨en, hen, hef, hew⟩ := hin
        obtain ⟨p, s, rfl⟩ := List.append_of_mem hen
        subst hef hew
        have hzl := hco.lt
        go_upto_region 23 with (first
          | (refine at_op (.load 29 (.tmp 5)) rfl ?_; refine wpList_ldA (t := 29) 29 (.tmp 5) rfl rfl (en.f.c) rfl (hf) (whole_ _) v1 v2 (szFw _) ?_)
          | (go_at_call 41; refine (get_is wr cb m N p s en hco).mono ?_; rintro e w1 ⟨rfl, hcg, hcog⟩))
        have be2 := be.trans (hcg.below (fun b hb => by have := hDw b hb; omega) be.size)
        go_wp2_with (go_at_call 37; refine (awake31 _).mono ?_; rintro e w1 ⟨bs3, d3, rfl, rfl⟩)
        go_ret
        exact RetV.is_ (by simp) (belowP be2 _ _)
      · have ij : ¬ (j : Int) < (n : Int) := by omega
        obtain ⟨en, hen, hef, hew⟩ := hin
        obtain ⟨p, s, rfl⟩ := List.append_of_mem hen
        subst hef hew
        have hzl := hco.lt
        go_upto_region 23 with (first
          | (refine at_op (.load 29 (.tmp 5)) rfl ?_; refine wpList_ldA (t := 29) 29 (.tmp 5) rfl rfl (en.f.c) rfl (hf) (whole_ _) v1 v2 (szFw _) ?_)
          | (go_at_call 41; refine (get_is wr cb m N p s en hco).mono ?_; rintro e w1 ⟨rfl, hcg, hcog⟩))
        have be2 := be.trans (hcg.below (fun b hb => by have := hDw b hb; omega) be.size)
        go_wp2_with (go_at_call 37; refine (awake31 _).mono ?_; rintro e w1 ⟨bs3, d3, rfl, rfl⟩)
        go_ret
        exact RetV.is_ (by simp) (belowP be2 _ _)
end Go.Proofs.Ytfmkndemkpecpaa
