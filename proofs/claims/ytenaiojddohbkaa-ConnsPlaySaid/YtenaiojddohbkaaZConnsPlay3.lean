/- Texts of the law ConnsPlay, part 3. -/
import Derived.Test.YtenaiojddohbkaaZConnsPlay2
/- ConnsPlay's walk (chapter 31). -/
namespace Go.Proofs.Ytenaiojddohbkaa
open Go.RowKit
set_option linter.unusedVariables false
set_option linter.unusedSimpArgs false
attribute [local go_sem ↓] sliced_cut

attribute [local go_sem] cutA_zero

theorem neq_fv (w : World) (f g : Fw) : (binOp .neq 28 (.agg f.c.toArray) (.agg g.c.toArray)).run Try.prog w = .ok (.bool (!decide (f = g))) w := neq_fw w f g
attribute [local go_sem] eql_fv eqI_fv neq_fv foldCn cnR_len

set_option maxRecDepth 100000 in
theorem run_buildCn (w : World) (f : Fw) (wd : Nat) : (Instr.build 45 #[(0, .agg f.c.toArray), (1, .int .u16 (wd : Int))]).run Try.prog w = .ok (.agg (cnR (f, wd)).toArray) w := by
  obtain ⟨a1, a2, a3, a4, a5, a6, a7, a8, a9⟩ := f
  kernel_rfl
theorem Ac.c_one (a : Ac) : ∀ u ∈ a.c, u.oneCell' = true := by
  intro u hu
  rcases List.mem_cons.1 hu with rfl | h
  · rfl
  · rcases List.mem_append.1 h with h | h
    · exact Fw.c_one _ u h
    · simp only [List.mem_cons, List.not_mem_nil, or_false] at h
      subst h
      rfl
theorem szAc (a : Ac) : (Try.prog.info? 34).map (·.size) = some a.c.length := by rw [Ac.c_len]; kernel_rfl
theorem rowAc : ∃ d, Try.prog.underlying 34 = some d ∧ d.isRow = true := ⟨_, Try.underlying34, rfl⟩
/-- the reference's list -/
def Rl (l : List En) : List (Fw × Nat) := l.map fun e => (e.f, e.wd)
theorem Rl_len (l : List En) : (Rl l).length = l.length := by simp [Rl]
theorem Rl_ex (f : Fw) (l : List En) : decide (∃ x ∈ Rl l, x.1 = f) = decide (∃ x ∈ l, x.f = f) := by
  rw [decide_eq_decide]
  constructor
  · rintro ⟨x, hx, e⟩
    obtain ⟨y, hy, rfl⟩ := List.mem_map.1 hx
    exact ⟨y, hy, e⟩
  · rintro ⟨y, hy, e⟩
    exact ⟨(y.f, y.wd), List.mem_map_of_mem hy, e⟩
theorem Rl_app (a b : List En) : Rl (a ++ b) = Rl a ++ Rl b := by simp [Rl]
theorem Rl_drop (p s : List En) (x : En) : (Rl (p ++ x :: s)).drop ((Rl p).length + 1) = Rl s := by
  rw [Rl_app, List.drop_append, List.drop_of_length_le (by omega), List.nil_append, show (Rl p).length + 1 - (Rl p).length = 1 by omega]
  rfl
/-- what holds at the loop's head -/
structure PS (w wr : World) (cb m : Nat) (N : Int) (f : Fw) (A : Option Addr) (n c : Nat) (lst : List En) : Prop where
  rs : Rs 10 wr A n c (fC (Rl lst))
  ra : ∀ a, A = some a → w.heap.size + 1 ≤ a.block ∧ ¬ Dm cb m lst a.block ∧ a.block < wr.heap.size
  ll : (lst.length : Int) ≤ N
  co : Co wr cb m N lst
  dw : ∀ b, Dm cb m lst b → w.heap.size + 1 ≤ b
  hf : Bk wr w.heap.size 28 f.c
  be : Below w.heap.size w wr
section
variable {w wr w2 : World} {cb m : Nat} {N : Int} {f : Fw} {A A' : Option Addr} {n c n' c' : Nat} {lst lst' : List En}
theorem PS.later (h : PS w wr cb m N f A n c lst) (hb : Below wr.heap.size wr w2) : PS w w2 cb m N f A n c lst :=
  ⟨h.rs.later hb, fun a e => ⟨(h.ra a e).1, (h.ra a e).2.1, Nat.lt_of_lt_of_le (h.ra a e).2.2 hb.size⟩, h.ll, h.co.later hb, h.dw, h.hf.later hb, h.be.trans (hb.mono h.be.size)⟩
theorem PS.go (h : PS w wr cb m N f A n c lst) {B : Nat} (hc : Chg (Dm cb m lst) wr w2) (hB1 : wr.heap.size ≤ B) (hB2 : B ≤ w2.heap.size) (rs : Rs 10 w2 A' n' c' (fC (Rl lst'))) (ra : ∀ a, A' = some a → wr.heap.size ≤ a.block ∧ a.block < B)
    (hco : Co w2 cb m N lst') (hd : ∀ b, Dm cb m lst' b → Dm cb m lst b ∨ B ≤ b) (hl : (lst'.length : Int) ≤ N) : PS w w2 cb m N f A' n' c' lst' := by
  have hlt := h.hf.lt
  refine ⟨rs, fun a e => ⟨by have := ra a e; omega, fun hx => ?_, by have := ra a e; omega⟩, hl, hco, fun b hb => ?_, h.hf.chg hc (fun hd => by have := h.dw _ hd; omega), h.be.trans (hc.below (fun b hb => by have := h.dw b hb; omega) h.be.size)⟩
  · rcases hd _ hx with h1 | h1
    · have := h.co.lt _ h1
      have := ra a e
      omega
    · have := ra a e
      omega
  · rcases hd _ hb with h1 | h1
    · exact h.dw b h1
    · omega
theorem PS.len (h : PS w wr cb m N f A n c lst) : n = lst.length := by
  have := h.rs.1
  rw [flat_len cnR 10 cnR_len, Rl_len] at this
  omega
theorem dm_sub (hs : ∀ x ∈ lst', ∃ y ∈ lst, y.b = x.b) : ∀ b, Dm cb m lst' b → Dm cb m lst b := by
  rintro b (e | e | ⟨x, hx, e⟩)
  · exact .inl e
  · exact .inr (.inl e)
  · obtain ⟨y, hy, e2⟩ := hs x hx
    exact .inr (.inr ⟨y, hy, e2.trans e⟩)
theorem Co.parts {p s : List En} {x : En} (h : Co wr cb m N (p ++ x :: s)) : ∀ z ∈ Rl p, z.1 ≠ x.f := by
  intro z hz
  obtain ⟨y, hy, rfl⟩ := List.mem_map.1 hz
  have := h.nf
  rw [List.map_append, List.nodup_append] at this
  exact this.2.2 _ (List.mem_map_of_mem hy) _ (by simp)
end
set_option maxHeartbeats 4000000 in
set_option maxRecDepth 100000 in
theorem connsPlay_walk (w : World) (most : Int) (hmo : -9223372036854775808 ≤ most ∧ most ≤ 9223372036854775807) (f : Fw) (A : Option Addr) (n c : Nat) (La : List Ac) (hl : Rs 11 w A n c (La.flatMap Ac.c)) (hnm : n ≤ 9223372036854775807) :
    Calls Try.prog 3 #[.int .i64 most, .slice A n c, .agg f.c.toArray] w (RetV w (.bool true)) := by
  have hln : La.length = n := by have := hl.1; rw [flat_len Ac.c 11 Ac.c_len] at this; omega
  obtain ⟨du1, u1, u2⟩ := rowAc
  obtain ⟨dv1, v1, v2⟩ := rowFw
  have hf : Bk (w.alloc (.cells (f.c).toArray 28)) w.heap.size 28 (f.c) := Bk.new w 28 (f.c).toArray
  have be : Below w.heap.size w (w.alloc (.cells (f.c).toArray 28)) := Below.allocS (Below.refl _ _) _
  have zV : w.heap.size + 1 ≤ (w.alloc (.cells (f.c).toArray 28)).heap.size := by simp
  go_enter Try.func3, Try.ntmps3
  go_upto_region 1 with (fail)
  generalize w.alloc (.cells (f.c).toArray 28) = V at *
  go_upto_region 3 with (go_at_call 11; refine (awake31 _).mono ?_; rintro e w1 ⟨bs3, d3, rfl, rfl⟩)
  replace hf := hf.later (below_plus _ bs3 d3)
  replace be := belowP be bs3 d3
  have zV2 : w.heap.size + 1 ≤ (plus V bs3 d3).heap.size := by simp only [size_plus]; omega
  generalize plus V bs3 d3 = V at *
  go_upto_region 4 with (go_at_call 12; refine (new_any _ most hmo).mono ?_; rintro e w1 ⟨cb, m, rfl, be1, hco, hcb, hm⟩)
  replace hf := hf.later be1
  have be0 := be
  replace be := be.trans (be1.mono be.size)
  obtain ⟨N0, hN⟩ : ∃ N0 : Int, (if 1024 < (if most < 1 then 1 else most) then 1024 else (if most < 1 then 1 else most)) = N0 := ⟨_, rfl⟩
  rw [show min (max most 1) 1024 = N0 by rw [← hN]; omega] at hco
  have hN1 : (1 : Int) ≤ N0 := by rw [← hN]; omega
  have hN2 : N0 ≤ 1024 := by rw [← hN]; omega
  have hS0 : PS w w1 cb m N0 f none 0 0 [] := by
    refine ⟨Rs.nil_, fun a e => (by cases e), by simp; omega, hco, ?_, hf, be⟩
    rintro b (rfl | rfl | ⟨x, hx, rfl⟩)
    · omega
    · omega
    · simp at hx
  have HS0 := Lib.hid hS0
  clear hS0 hf be be0 be1 hco hcb hm zV zV2
  clear hmo
  refine wp_region_lit ?_
  iterate 2 (refine wpList_plain rfl (fun K hK => ?_); go_simp; with_reducible refine hK _ _ ?_; clear hK K)
  generalize (if most < 1 then (1 : Int) else most) = M at *
  refine wpList_plain rfl (fun K hK => ?_); go_simp; with_reducible refine hK _ _ ?_; clear hK K
  generalize (if 1024 < M then (1024 : Int) else M) = N at *
  subst hN
  refine wpList_plain rfl (fun K hK => ?_); go_simp; with_reducible refine hK _ _ ?_; clear hK K
  go_upto_region 7 with (fail)
  go_loopw [8, 9] (fun s i wr => ∃ (j : Nat) (A' : Option Addr) (n' c' : Nat) (lst : List En), j ≤ n ∧ i = .int .i64 (j : Int) ∧ s = .slice A' n' c' ∧ PS w wr cb m N f A' n' c' lst ∧ lst.length ≤ j) (fun _ i _ => n - (intOf i).toNat)
  case atStart => exact ⟨0, none, 0, 0, [], Nat.zero_le _, rfl, rfl, HS0.out, Nat.le_refl _⟩
  case round =>
    clear HS0
    obtain ⟨j, A', n', c', lst, hj, rfl, rfl, hS, hlj⟩ := hrel
    by_cases hlt : j < n ∧ j < 60
    · have ij : (j : Int) < (n : Int) := by omega
      have ij2 : (j : Int) < 60 := by omega
      obtain ⟨bl, ol, rfl, hbl, -⟩ := hl.at_ (by omega) (by decide)
      have hrg := fun W (h : Below w.heap.size w W) => (hl.later h).rangeE Ac.c_len j (by omega)
      generalize La[j]'(by omega) = act at hrg
      obtain ⟨ak, af, aw⟩ := act
      have HRG := Lib.hid hrg
      clear hrg
      go_upto_region 9 with (fail)
      refine wp_region_lit ?_
      iterate 3 (refine wpList_plain rfl (fun K hK => ?_); go_simp; with_reducible refine hK _ _ ?_; clear hK K)
      refine wpList_load_mid rfl _ (.tmp 48) rfl bl (ol + j * 11) rfl (Ac.c ⟨ak, af, aw⟩) _ (HRG.out _ hS.be) u1 u2 (szAc _) ?_
      refine wpList_plain rfl (fun K hK => ?_); go_simp; with_reducible refine hK _ _ ?_; clear hK K
      refine wpList_stA (t := 34) 34 (.tmp 10) (.tmp 49) rfl rfl (Ac.c ⟨ak, af, aw⟩) ([.int .i64 0, .bool false, .int .u64 0, .int .u64 0, .bool false, .int .u64 0, .int .u64 0, .int .u16 0, .int .u16 0, .int .u8 0, .int .u16 0]) rfl (Ac.c_one _) rfl rfl (Bk.new wr 34 ([.int .i64 0, .bool false, .int .u64 0, .int .u64 0, .bool false, .int .u64 0, .int .u64 0, .int .u16 0, .int .u16 0, .int .u8 0, .int .u16 0]).toArray) (szAc _) ?_
      intro W9 hA hg9
      have be9 : Below wr.heap.size wr W9 := below_grown (Below.allocS (Below.refl _ _) _) hg9 (Nat.le_refl _)
      replace hS := hS.later be9
      have hnl : n' ≤ lst.length := Nat.le_of_eq hS.len
      have hnl2 : lst.length ≤ n' := Nat.le_of_eq hS.len.symm
      have hq10 : W9.cell? ⟨wr.heap.size, 0, none⟩ = some (.int .i64 ak) := hA.cell 0
      generalize wr.heap.size = g at *
      clear be9 HRG
      go_upto_region 16 with (fail)
      clear hq10
      by_cases hex : ∃ x ∈ lst, x.f = af
      · obtain ⟨x, hx1, hx2⟩ := hex
        obtain ⟨p, s, rfl⟩ := List.append_of_mem hx1
        subst hx2
        clear hx1
        by_cases k1 : ak = 1
        · subst k1
          go_upto_region 17 with (fail)
          refine wp_region_lit ?_
          iterate 2 (refine wpList_plain rfl (fun K hK => ?_); go_simp; with_reducible refine hK _ _ ?_; clear hK K)
          refine wpList_ldA (t := 34) (cs := Ac.c ⟨1, x.f, aw⟩) 28 (.tmp 86) rfl rfl (x.f.c) rfl (hA) rfl v1 v2 (szFw _) ?_
          refine wpList_plain rfl (fun K hK => ?_)
          go_simp
          refine (rget_is (Rl p) (Rl s) (x.f, x.wd) (Rl (p ++ x :: s)) (by simp [Rl]) hS.co.parts A' n' c' x.f W9 hS.rs (by omega) rfl).mono ?_
          rintro e w1 ⟨A2, n2, c2, bs2, d2, rfl, rfl, hO2⟩
          with_reducible refine hK _ _ ?_
          clear hK K
          iterate 7 (refine wpList_plain rfl (fun K hK => ?_); go_simp; with_reducible refine hK _ _ ?_; clear hK K)
          have hco1 := hS.co.later (below_plus W9 bs2 d2)
          have be9 := below_plus W9 bs2 d2
          replace hA := hA.later be9
          generalize plus W9 bs2 d2 = W1 at *
          go_upto_region 19 with (fail)
          refine wp_region_lit ?_
          iterate 2 (refine wpList_plain rfl (fun K hK => ?_); go_simp; with_reducible refine hK _ _ ?_; clear hK K)
          refine wpList_ldA (t := 34) (cs := Ac.c ⟨1, x.f, aw⟩) 28 (.tmp 95) rfl rfl (x.f.c) rfl (hA) rfl v1 v2 (szFw _) ?_
          refine wpList_plain rfl (fun K hK => ?_)
          go_simp
          refine (get_is W1 cb m N p s x hco1).mono ?_
          rintro e w1 ⟨rfl, hcg, hco2⟩
          with_reducible refine hK _ _ ?_
          clear hK K
          iterate 5 (refine wpList_plain rfl (fun K hK => ?_); go_simp; with_reducible refine hK _ _ ?_; clear hK K)
          have hS2 : PS w w1 cb m N f A2 n2 c2 (p ++ s ++ [x]) := by
            rw [show Rl p ++ Rl s ++ [(x.f, x.wd)] = Rl (p ++ s ++ [x]) by simp [Rl]] at hO2
            have hlt := hS.co.lt
            refine hS.go (B := W1.heap.size) ((Chg.of_below be9).trans hcg) be9.size hcg.size (hO2.rs.chg hcg (fun a e hd => ?_)) (fun a e => hO2.blk a.block (by rw [e]; rfl)) hco2 (fun b hb => .inl (dm_sub (fun y hy => ⟨y, by simp only [List.mem_append, List.mem_cons, List.not_mem_nil, or_false] at hy ⊢; rcases hy with (h1 | h1) | h1 <;> simp [h1], rfl⟩) b hb)) (by have := hS.ll; simp at this ⊢; omega)
            have h1 := hO2.blk a.block (by rw [e]; rfl)
            have h2 := hlt _ hd
            omega
          have hj2 : (p ++ s ++ [x]).length ≤ j + 1 := by simp at hlj ⊢; omega
          generalize p ++ s ++ [x] = lst2 at hS2 hj2
          clear hS hco1 be9 hO2 hcg hco2 hA hg9
          go_upto_region 28 with (fail)
          generalize w1 = W at *
          obtain ⟨v, hv, hix⟩ := index_is f (Rl lst2)
          obtain rfl := hS2.len
          have HL := Lib.hid (fun V (h : Below W.heap.size W V) => len_any V cb m N lst2 (hS2.co.later h))
          have HH := Lib.hid (fun V (h : Below W.heap.size W V) => has_any V cb m N lst2 f (hS2.co.later h))
          have HI := Lib.hid (fun V (h : Below W.heap.size W V) => hix A2 lst2.length c2 V (hS2.rs.later h) (by omega))
          have hvb : decide (0 ≤ v) = decide (∃ x ∈ lst2, x.f = f) := hv.trans (Rl_ex f lst2)
          generalize decide (∃ x ∈ lst2, x.f = f) = bb at *
          have hf := hS2.hf
          have HS := Lib.hid hS2
          clear hS2 hv hix
          go_wp2
          refine wp_relS 15 190 rfl (by kernel_rfl) (by kernel_rfl) ?_
          apply Steps.one (MP.eq _) 1 rfl
          · intro o ho FA x hO hD K hK
            obtain rfl := Option.some.inj ho.symm
            clear ho
            have e7 := hO 7 (by kernel_rfl)
            simp only [eval_tmp, List.getElem?_toArray, List.getElem?_cons_succ, List.getElem?_cons_zero, Option.getD_some] at e7
            have ev7 := Lib.hid ((eval_tmp FA 7).trans e7)
            clear hO hD
            go_simp
            exact hK.out _ _ (Ex.refl _) rfl
          apply Steps.one (MP.eq _) 2 rfl
          · intro o ho FA x hO hD K hK
            obtain rfl := Option.some.inj ho.symm
            clear ho
            have ev126 : FA.eval (.tmp 126) = _ := hD 0 126 (by kernel_rfl)
            have e126 := (eval_tmp FA 126).symm.trans ev126
            replace ev126 := Lib.hid ev126
            clear hO hD
            go_simp
            refine (HL.out _ (below_plus _ _ _)).mono ?_
            rintro e w1 ⟨bs2, d2, rfl, rfl⟩
            exact hK.out _ _ (Ex.plus_ _ _ _) rfl
          apply Steps.one (MP.eq _) 3 rfl
          · intro o ho FA x hO hD K hK
            obtain rfl := Option.some.inj ho.symm
            clear ho
            have e8 := hO 8 (by kernel_rfl)
            simp only [eval_tmp, List.getElem?_toArray, List.getElem?_cons_succ, List.getElem?_cons_zero, Option.getD_some] at e8
            have ev8 := Lib.hid ((eval_tmp FA 8).trans e8)
            clear hO hD
            go_simp
            exact hK.out _ _ (Ex.refl _) rfl
          apply Steps.one (MP.eq _) 4 rfl
          · intro o ho FA x hO hD K hK
            obtain rfl := Option.some.inj ho.symm
            clear ho
            have ev128 : FA.eval (.tmp 128) = _ := hD 2 128 (by kernel_rfl)
            have e128 := (eval_tmp FA 128).symm.trans ev128
            replace ev128 := Lib.hid ev128
            clear hO hD
            go_simp
            exact hK.out _ _ (Ex.refl _) rfl
          apply Steps.one (MP.eq _) 5 rfl
          · intro o ho FA x hO hD K hK
            obtain rfl := Option.some.inj ho.symm
            clear ho
            have ev127 : FA.eval (.tmp 127) = _ := hD 1 127 (by kernel_rfl)
            have e127 := (eval_tmp FA 127).symm.trans ev127
            replace ev127 := Lib.hid ev127
            have ev129 : FA.eval (.tmp 129) = _ := hD 3 129 (by kernel_rfl)
            have e129 := (eval_tmp FA 129).symm.trans ev129
            replace ev129 := Lib.hid ev129
            clear hO hD
            go_simp
            exact hK.out _ _ (Ex.refl _) rfl
          apply Steps.one (MP.eq _) 6 rfl
          · intro o ho FA x hO hD K hK
            obtain rfl := Option.some.inj ho.symm
            clear ho
            have ev130 : FA.eval (.tmp 130) = _ := hD 4 130 (by kernel_rfl)
            have e130 := (eval_tmp FA 130).symm.trans ev130
            replace ev130 := Lib.hid ev130
            clear hO hD
            go_simp
            exact hK.out _ _ (Ex.refl _) rfl
          apply Steps.one (MP.eq _) 7 rfl
          · intro o ho FA x hO hD K hK
            obtain rfl := Option.some.inj ho.symm
            clear ho
            have e7 := hO 7 (by kernel_rfl)
            simp only [eval_tmp, List.getElem?_toArray, List.getElem?_cons_succ, List.getElem?_cons_zero, Option.getD_some] at e7
            have ev7 := Lib.hid ((eval_tmp FA 7).trans e7)
            have ev131 : FA.eval (.tmp 131) = _ := hD 5 131 (by kernel_rfl)
            have e131 := (eval_tmp FA 131).symm.trans ev131
            replace ev131 := Lib.hid ev131
            first | have ge131 := slot_of e131 | have ge131 := slot_un e131
            clear hO hD
            go_simp
            exact hK.out _ _ (Ex.refl _) rfl
          apply Steps.one (MP.eq _) 8 rfl
          · intro o ho FA x hO hD K hK
            obtain rfl := Option.some.inj ho.symm
            clear ho
            have e5 := hO 5 (by kernel_rfl)
            simp only [eval_tmp, List.getElem?_toArray, List.getElem?_cons_succ, List.getElem?_cons_zero, Option.getD_some] at e5
            have ev5 := Lib.hid ((eval_tmp FA 5).trans e5)
            have ev131 : FA.eval (.tmp 131) = _ := hD 5 131 (by kernel_rfl)
            have e131 := (eval_tmp FA 131).symm.trans ev131
            replace ev131 := Lib.hid ev131
            first | have ge131 := slot_of e131 | have ge131 := slot_un e131
            clear hO hD
            first | (refine wanted_ifG ?_ ?_; (· go_simp); refine wp_ldA 28 (.tmp 5) rfl (f.c) ev5.out (hf.later (below_plus _ _ _)) (whole_ _) v1 v2 (szFw f) ?_; exact hK.out _ _ (Ex.refl _) rfl) | (go_simp; exact hK.out _ _ (Ex.refl _) rfl)
          apply Steps.one (MP.eq _) 9 rfl
          · intro o ho FA x hO hD K hK
            obtain rfl := Option.some.inj ho.symm
            clear ho
            have ev132 : FA.eval (.tmp 132) = _ := hD 6 132 (by kernel_rfl)
            have e132 := (eval_tmp FA 132).symm.trans ev132
            replace ev132 := Lib.hid ev132
            have ev133 : FA.eval (.tmp 133) = _ := hD 7 133 (by kernel_rfl)
            have e133 := (eval_tmp FA 133).symm.trans ev133
            replace ev133 := Lib.hid ev133
            have ev131 : FA.eval (.tmp 131) = _ := hD 5 131 (by kernel_rfl)
            have e131 := (eval_tmp FA 131).symm.trans ev131
            replace ev131 := Lib.hid ev131
            first | have ge131 := slot_of e131 | have ge131 := slot_un e131
            clear hO hD
            first | (go_simp; exact hK.out _ _ (Ex.refl _) rfl) | (go_simp; refine (HH.out _ (below_plus _ _ _)).mono ?_; rintro e w1 ⟨bs2, d2, rfl, rfl⟩; exact hK.out _ _ (Ex.plus_ _ _ _) rfl)
          apply Steps.one (MP.eq _) 10 rfl
          · intro o ho FA x hO hD K hK
            obtain rfl := Option.some.inj ho.symm
            clear ho
            have e8 := hO 8 (by kernel_rfl)
            simp only [eval_tmp, List.getElem?_toArray, List.getElem?_cons_succ, List.getElem?_cons_zero, Option.getD_some] at e8
            have ev8 := Lib.hid ((eval_tmp FA 8).trans e8)
            have ev131 : FA.eval (.tmp 131) = _ := hD 5 131 (by kernel_rfl)
            have e131 := (eval_tmp FA 131).symm.trans ev131
            replace ev131 := Lib.hid ev131
            first | have ge131 := slot_of e131 | have ge131 := slot_un e131
            clear hO hD
            go_simp
            exact hK.out _ _ (Ex.refl _) rfl
          apply Steps.one (MP.eq _) 11 rfl
          · intro o ho FA x hO hD K hK
            obtain rfl := Option.some.inj ho.symm
            clear ho
            have e5 := hO 5 (by kernel_rfl)
            simp only [eval_tmp, List.getElem?_toArray, List.getElem?_cons_succ, List.getElem?_cons_zero, Option.getD_some] at e5
            have ev5 := Lib.hid ((eval_tmp FA 5).trans e5)
            have ev131 : FA.eval (.tmp 131) = _ := hD 5 131 (by kernel_rfl)
            have e131 := (eval_tmp FA 131).symm.trans ev131
            replace ev131 := Lib.hid ev131
            first | have ge131 := slot_of e131 | have ge131 := slot_un e131
            clear hO hD
            first | (refine wanted_ifG ?_ ?_; (· go_simp); refine wp_ldA 28 (.tmp 5) rfl (f.c) ev5.out (hf.later (below_plus _ _ _)) (whole_ _) v1 v2 (szFw f) ?_; exact hK.out _ _ (Ex.refl _) rfl) | (go_simp; exact hK.out _ _ (Ex.refl _) rfl)
          apply Steps.one (MP.eq _) 12 rfl
          · intro o ho FA x hO hD K hK
            obtain rfl := Option.some.inj ho.symm
            clear ho
            have ev135 : FA.eval (.tmp 135) = _ := hD 9 135 (by kernel_rfl)
            have e135 := (eval_tmp FA 135).symm.trans ev135
            replace ev135 := Lib.hid ev135
            have ev136 : FA.eval (.tmp 136) = _ := hD 10 136 (by kernel_rfl)
            have e136 := (eval_tmp FA 136).symm.trans ev136
            replace ev136 := Lib.hid ev136
            have ev131 : FA.eval (.tmp 131) = _ := hD 5 131 (by kernel_rfl)
            have e131 := (eval_tmp FA 131).symm.trans ev131
            replace ev131 := Lib.hid ev131
            first | have ge131 := slot_of e131 | have ge131 := slot_un e131
            clear hO hD
            first | (go_simp; exact hK.out _ _ (Ex.refl _) rfl) | (go_simp; refine (HI.out _ (below_plus _ _ _)).mono ?_; rintro e w1 ⟨bs2, d2, rfl, rfl⟩; exact hK.out _ _ (Ex.plus_ _ _ _) rfl)
          apply Steps.one (MP.eq _) 13 rfl
          · intro o ho FA x hO hD K hK
            obtain rfl := Option.some.inj ho.symm
            clear ho
            have ev137 : FA.eval (.tmp 137) = _ := hD 11 137 (by kernel_rfl)
            have e137 := (eval_tmp FA 137).symm.trans ev137
            replace ev137 := Lib.hid ev137
            have ev131 : FA.eval (.tmp 131) = _ := hD 5 131 (by kernel_rfl)
            have e131 := (eval_tmp FA 131).symm.trans ev131
            replace ev131 := Lib.hid ev131
            first | have ge131 := slot_of e131 | have ge131 := slot_un e131
            clear hO hD
            go_simp
            exact hK.out _ _ (Ex.refl _) rfl
          apply Steps.one (MP.eq _) 14 rfl
          · intro o ho FA x hO hD K hK
            obtain rfl := Option.some.inj ho.symm
            clear ho
            have ev134 : FA.eval (.tmp 134) = _ := hD 8 134 (by kernel_rfl)
            have e134 := (eval_tmp FA 134).symm.trans ev134
            replace ev134 := Lib.hid ev134
            have ev138 : FA.eval (.tmp 138) = _ := hD 12 138 (by kernel_rfl)
            have e138 := (eval_tmp FA 138).symm.trans ev138
            replace ev138 := Lib.hid ev138
            have ev131 : FA.eval (.tmp 131) = _ := hD 5 131 (by kernel_rfl)
            have e131 := (eval_tmp FA 131).symm.trans ev131
            replace ev131 := Lib.hid ev131
            first | have ge131 := slot_of e131 | have ge131 := slot_un e131
            clear hO hD
            go_simp
            exact hK.out _ _ (Ex.refl _) rfl
          apply Steps.one (MP.eq _) 15 rfl
          · intro o ho FA x hO hD K hK
            obtain rfl := Option.some.inj ho.symm
            clear ho
            have ev131 : FA.eval (.tmp 131) = _ := hD 5 131 (by kernel_rfl)
            have e131 := (eval_tmp FA 131).symm.trans ev131
            replace ev131 := Lib.hid ev131
            have ev139 : FA.eval (.tmp 139) = _ := hD 13 139 (by kernel_rfl)
            have e139 := (eval_tmp FA 139).symm.trans ev139
            replace ev139 := Lib.hid ev139
            clear hO hD
            go_simp
            exact hK.out _ _ (Ex.refl _) rfl
          refine Steps.fin_ (fun vs x hp => ?_)
          have p0 : vs 0 = _ := hp 0 (by omega)
          have p1 : vs 1 = _ := hp 1 (by omega)
          have p2 : vs 2 = _ := hp 2 (by omega)
          have p3 : vs 3 = _ := hp 3 (by omega)
          have p4 : vs 4 = _ := hp 4 (by omega)
          have p5 : vs 5 = _ := hp 5 (by omega)
          have p6 : vs 6 = _ := hp 6 (by omega)
          have p7 : vs 7 = _ := hp 7 (by omega)
          have p8 : vs 8 = _ := hp 8 (by omega)
          have p9 : vs 9 = _ := hp 9 (by omega)
          have p10 : vs 10 = _ := hp 10 (by omega)
          have p11 : vs 11 = _ := hp 11 (by omega)
          have p12 : vs 12 = _ := hp 12 (by omega)
          have p13 : vs 13 = _ := hp 13 (by omega)
          have p14 : vs 14 = _ := hp 14 (by omega)
          clear hp
          simp only [List.take_succ_cons, List.take_zero, List.drop_succ_cons, List.drop_zero, putAll, Nat.zero_add, Nat.reduceAdd, Act.put, List.setIfInBounds_toArray, List.set_cons_zero, List.set_cons_succ, p0, p1, p2, p3, p4, p5, p6, p7, p8, p9, p10, p11, p12, p13, p14]
          clear p0 p1 p2 p3 p4 p5 p6 p7 p8 p9 p10 p11 p12 p13 p14
          clear vs
          go_wp2
          exact ⟨⟨j + 1, A2, lst2.length, c2, lst2, by omega, by go_num, rfl, HS.out.later (below_plus _ _ _), hj2⟩, by simp [intOf]; omega⟩
        · have b1 : (ak == 1) = false := by simpa using k1
          by_cases k2 : ak = 2
          · subst k2
            obtain ⟨k, hk⟩ : ∃ k, k = (Rl p).length := ⟨_, rfl⟩
            have hkR : k < (Rl (p ++ x :: s)).length := by rw [hk]; simp [Rl]
            have hres : (Rl (p ++ x :: s)).take k = Rl p := by rw [hk, Rl_app]; simp
            have hres2 : (Rl (p ++ x :: s)).drop (k + 1) = Rl s := by rw [hk]; exact Rl_drop p s x
            have HIX := Lib.hid (index_at x.f (Rl (p ++ x :: s)) A' n' c' W9 hS.rs (by omega) ((Rl p).length : Int) (.inr ⟨Rl p, (x.f, x.wd), Rl s, by simp [Rl], rfl, hS.co.parts, rfl⟩))
            rw [← hk] at HIX
            clear hk
            have hk0 : 0 ≤ (k : Int) := by omega
            go_upto_region 23 with (fail)
            refine wp_region_lit ?_
            iterate 2 (refine wpList_plain rfl (fun K hK => ?_); go_simp; with_reducible refine hK _ _ ?_; clear hK K)
            refine wpList_ldA (t := 34) (cs := Ac.c ⟨2, x.f, aw⟩) 28 (.tmp 111) rfl rfl (x.f.c) rfl (hA) rfl v1 v2 (szFw _) ?_
            refine wpList_plain rfl (fun K hK => ?_)
            go_simp
            refine (HIX.out).mono ?_
            rintro e w1 ⟨bs2, d2, rfl, rfl⟩
            with_reducible refine hK _ _ ?_
            clear hK K
            refine wpList_plain rfl (fun K hK => ?_); go_simp; with_reducible refine hK _ _ ?_; clear hK K
            clear HIX
            replace hS := hS.later (below_plus W9 bs2 d2)
            replace hA := hA.later (below_plus W9 bs2 d2)
            generalize plus W9 bs2 d2 = W1 at *
            go_upto_region 24 with (fail)
            refine wp_region_lit ?_
            iterate 2 (refine wpList_plain rfl (fun K hK => ?_); go_simp; with_reducible refine hK _ _ ?_; clear hK K)
            refine wpList_ldA (t := 34) (cs := Ac.c ⟨2, x.f, aw⟩) 28 (.tmp 115) rfl rfl (x.f.c) rfl (hA) rfl v1 v2 (szFw _) ?_
            refine wpList_plain rfl (fun K hK => ?_)
            go_simp
            refine (drop_is W1 cb m N p s x hS.co).mono ?_
            rintro e w1 ⟨rfl, hcg, hco2, -⟩
            with_reducible refine hK _ _ ?_
            clear hK K
            iterate 3 (refine wpList_plain rfl (fun K hK => ?_); go_simp; with_reducible refine hK _ _ ?_; clear hK K)
            have hR1 := hS.rs.chg hcg (fun a e => (hS.ra a e).2.1)
            have HCU := Lib.hid (cut_any (Rl (p ++ x :: s)) k hkR A' n' c' w1 hR1 (by omega))
            go_upto_region 27 with (fail)
            refine wp_region_lit ?_
            iterate 2 (refine wpList_plain rfl (fun K hK => ?_); go_simp; with_reducible refine hK _ _ ?_; clear hK K)
            refine wpList_plain rfl (fun K hK => ?_)
            go_simp
            refine (HCU.out).mono ?_
            rintro e w1 ⟨A2, n2, c2, bs2, d2, rfl, rfl, hO2⟩
            with_reducible refine hK _ _ ?_
            clear hK K
            refine wpList_plain rfl (fun K hK => ?_); go_simp; with_reducible refine hK _ _ ?_; clear hK K
            have hS2 : PS w (plus w1 bs2 d2) cb m N f A2 n2 c2 (p ++ s) := by
              rw [hres, hres2, ← Rl_app] at hO2
              refine hS.go (B := (plus w1 bs2 d2).heap.size) (hcg.trans (Chg.of_below (below_plus _ _ _))) (Nat.le_trans hcg.size (below_plus _ _ _).size) (Nat.le_refl _) hO2.rs (fun a e => ?_) (hco2.later (below_plus _ _ _)) (fun b hb => .inl (dm_sub (fun y hy => ⟨y, by simp only [List.mem_append, List.mem_cons] at hy ⊢; rcases hy with h1 | h1 <;> simp [h1], rfl⟩) b hb)) (by have := hS.ll; simp at this ⊢; omega)
              have h1 := hO2.blk a.block (by rw [e]; rfl)
              have h2 := hcg.size
              exact ⟨by omega, h1.2⟩
            have hj2 : (p ++ s).length ≤ j + 1 := by simp at hlj ⊢; omega
            generalize p ++ s = lst2 at hS2 hj2
            clear hS hO2 hcg hco2 hA hg9 hR1 HCU hres hres2 hkR
            go_upto_region 28 with (fail)
            generalize plus w1 bs2 d2 = W at *
            obtain ⟨v, hv, hix⟩ := index_is f (Rl lst2)
            obtain rfl := hS2.len
            have HL := Lib.hid (fun V (h : Below W.heap.size W V) => len_any V cb m N lst2 (hS2.co.later h))
            have HH := Lib.hid (fun V (h : Below W.heap.size W V) => has_any V cb m N lst2 f (hS2.co.later h))
            have HI := Lib.hid (fun V (h : Below W.heap.size W V) => hix A2 lst2.length c2 V (hS2.rs.later h) (by omega))
            have hvb : decide (0 ≤ v) = decide (∃ x ∈ lst2, x.f = f) := hv.trans (Rl_ex f lst2)
            generalize decide (∃ x ∈ lst2, x.f = f) = bb at *
            have hf := hS2.hf
            have HS := Lib.hid hS2
            clear hS2 hv hix
            go_wp2
            refine wp_relS 15 190 rfl (by kernel_rfl) (by kernel_rfl) ?_
            apply Steps.one (MP.eq _) 1 rfl
            · intro o ho FA x hO hD K hK
              obtain rfl := Option.some.inj ho.symm
              clear ho
              have e7 := hO 7 (by kernel_rfl)
              simp only [eval_tmp, List.getElem?_toArray, List.getElem?_cons_succ, List.getElem?_cons_zero, Option.getD_some] at e7
              have ev7 := Lib.hid ((eval_tmp FA 7).trans e7)
              clear hO hD
              go_simp
              exact hK.out _ _ (Ex.refl _) rfl
            apply Steps.one (MP.eq _) 2 rfl
            · intro o ho FA x hO hD K hK
              obtain rfl := Option.some.inj ho.symm
              clear ho
              have ev126 : FA.eval (.tmp 126) = _ := hD 0 126 (by kernel_rfl)
              have e126 := (eval_tmp FA 126).symm.trans ev126
              replace ev126 := Lib.hid ev126
              clear hO hD
              go_simp
              refine (HL.out _ (below_plus _ _ _)).mono ?_
              rintro e w1 ⟨bs2, d2, rfl, rfl⟩
              exact hK.out _ _ (Ex.plus_ _ _ _) rfl
            apply Steps.one (MP.eq _) 3 rfl
            · intro o ho FA x hO hD K hK
              obtain rfl := Option.some.inj ho.symm
              clear ho
              have e8 := hO 8 (by kernel_rfl)
              simp only [eval_tmp, List.getElem?_toArray, List.getElem?_cons_succ, List.getElem?_cons_zero, Option.getD_some] at e8
              have ev8 := Lib.hid ((eval_tmp FA 8).trans e8)
              clear hO hD
              go_simp
              exact hK.out _ _ (Ex.refl _) rfl
            apply Steps.one (MP.eq _) 4 rfl
            · intro o ho FA x hO hD K hK
              obtain rfl := Option.some.inj ho.symm
              clear ho
              have ev128 : FA.eval (.tmp 128) = _ := hD 2 128 (by kernel_rfl)
              have e128 := (eval_tmp FA 128).symm.trans ev128
              replace ev128 := Lib.hid ev128
              clear hO hD
              go_simp
              exact hK.out _ _ (Ex.refl _) rfl
            apply Steps.one (MP.eq _) 5 rfl
            · intro o ho FA x hO hD K hK
              obtain rfl := Option.some.inj ho.symm
              clear ho
              have ev127 : FA.eval (.tmp 127) = _ := hD 1 127 (by kernel_rfl)
              have e127 := (eval_tmp FA 127).symm.trans ev127
              replace ev127 := Lib.hid ev127
              have ev129 : FA.eval (.tmp 129) = _ := hD 3 129 (by kernel_rfl)
              have e129 := (eval_tmp FA 129).symm.trans ev129
              replace ev129 := Lib.hid ev129
              clear hO hD
              go_simp
              exact hK.out _ _ (Ex.refl _) rfl
            apply Steps.one (MP.eq _) 6 rfl
            · intro o ho FA x hO hD K hK
              obtain rfl := Option.some.inj ho.symm
              clear ho
              have ev130 : FA.eval (.tmp 130) = _ := hD 4 130 (by kernel_rfl)
              have e130 := (eval_tmp FA 130).symm.trans ev130
              replace ev130 := Lib.hid ev130
              clear hO hD
              go_simp
              exact hK.out _ _ (Ex.refl _) rfl
            apply Steps.one (MP.eq _) 7 rfl
            · intro o ho FA x hO hD K hK
              obtain rfl := Option.some.inj ho.symm
              clear ho
              have e7 := hO 7 (by kernel_rfl)
              simp only [eval_tmp, List.getElem?_toArray, List.getElem?_cons_succ, List.getElem?_cons_zero, Option.getD_some] at e7
              have ev7 := Lib.hid ((eval_tmp FA 7).trans e7)
              have ev131 : FA.eval (.tmp 131) = _ := hD 5 131 (by kernel_rfl)
              have e131 := (eval_tmp FA 131).symm.trans ev131
              replace ev131 := Lib.hid ev131
              first | have ge131 := slot_of e131 | have ge131 := slot_un e131
              clear hO hD
              go_simp
              exact hK.out _ _ (Ex.refl _) rfl
            apply Steps.one (MP.eq _) 8 rfl
            · intro o ho FA x hO hD K hK
              obtain rfl := Option.some.inj ho.symm
              clear ho
              have e5 := hO 5 (by kernel_rfl)
              simp only [eval_tmp, List.getElem?_toArray, List.getElem?_cons_succ, List.getElem?_cons_zero, Option.getD_some] at e5
              have ev5 := Lib.hid ((eval_tmp FA 5).trans e5)
              have ev131 : FA.eval (.tmp 131) = _ := hD 5 131 (by kernel_rfl)
              have e131 := (eval_tmp FA 131).symm.trans ev131
              replace ev131 := Lib.hid ev131
              first | have ge131 := slot_of e131 | have ge131 := slot_un e131
              clear hO hD
              first | (refine wanted_ifG ?_ ?_; (· go_simp); refine wp_ldA 28 (.tmp 5) rfl (f.c) ev5.out (hf.later (below_plus _ _ _)) (whole_ _) v1 v2 (szFw f) ?_; exact hK.out _ _ (Ex.refl _) rfl) | (go_simp; exact hK.out _ _ (Ex.refl _) rfl)
            apply Steps.one (MP.eq _) 9 rfl
            · intro o ho FA x hO hD K hK
              obtain rfl := Option.some.inj ho.symm
              clear ho
              have ev132 : FA.eval (.tmp 132) = _ := hD 6 132 (by kernel_rfl)
              have e132 := (eval_tmp FA 132).symm.trans ev132
              replace ev132 := Lib.hid ev132
              have ev133 : FA.eval (.tmp 133) = _ := hD 7 133 (by kernel_rfl)
              have e133 := (eval_tmp FA 133).symm.trans ev133
              replace ev133 := Lib.hid ev133
              have ev131 : FA.eval (.tmp 131) = _ := hD 5 131 (by kernel_rfl)
              have e131 := (eval_tmp FA 131).symm.trans ev131
              replace ev131 := Lib.hid ev131
              first | have ge131 := slot_of e131 | have ge131 := slot_un e131
              clear hO hD
              first | (go_simp; exact hK.out _ _ (Ex.refl _) rfl) | (go_simp; refine (HH.out _ (below_plus _ _ _)).mono ?_; rintro e w1 ⟨bs2, d2, rfl, rfl⟩; exact hK.out _ _ (Ex.plus_ _ _ _) rfl)
            apply Steps.one (MP.eq _) 10 rfl
            · intro o ho FA x hO hD K hK
              obtain rfl := Option.some.inj ho.symm
              clear ho
              have e8 := hO 8 (by kernel_rfl)
              simp only [eval_tmp, List.getElem?_toArray, List.getElem?_cons_succ, List.getElem?_cons_zero, Option.getD_some] at e8
              have ev8 := Lib.hid ((eval_tmp FA 8).trans e8)
              have ev131 : FA.eval (.tmp 131) = _ := hD 5 131 (by kernel_rfl)
              have e131 := (eval_tmp FA 131).symm.trans ev131
              replace ev131 := Lib.hid ev131
              first | have ge131 := slot_of e131 | have ge131 := slot_un e131
              clear hO hD
              go_simp
              exact hK.out _ _ (Ex.refl _) rfl
            apply Steps.one (MP.eq _) 11 rfl
            · intro o ho FA x hO hD K hK
              obtain rfl := Option.some.inj ho.symm
              clear ho
              have e5 := hO 5 (by kernel_rfl)
              simp only [eval_tmp, List.getElem?_toArray, List.getElem?_cons_succ, List.getElem?_cons_zero, Option.getD_some] at e5
              have ev5 := Lib.hid ((eval_tmp FA 5).trans e5)
              have ev131 : FA.eval (.tmp 131) = _ := hD 5 131 (by kernel_rfl)
              have e131 := (eval_tmp FA 131).symm.trans ev131
              replace ev131 := Lib.hid ev131
              first | have ge131 := slot_of e131 | have ge131 := slot_un e131
              clear hO hD
              first | (refine wanted_ifG ?_ ?_; (· go_simp); refine wp_ldA 28 (.tmp 5) rfl (f.c) ev5.out (hf.later (below_plus _ _ _)) (whole_ _) v1 v2 (szFw f) ?_; exact hK.out _ _ (Ex.refl _) rfl) | (go_simp; exact hK.out _ _ (Ex.refl _) rfl)
            apply Steps.one (MP.eq _) 12 rfl
            · intro o ho FA x hO hD K hK
              obtain rfl := Option.some.inj ho.symm
              clear ho
              have ev135 : FA.eval (.tmp 135) = _ := hD 9 135 (by kernel_rfl)
              have e135 := (eval_tmp FA 135).symm.trans ev135
              replace ev135 := Lib.hid ev135
              have ev136 : FA.eval (.tmp 136) = _ := hD 10 136 (by kernel_rfl)
              have e136 := (eval_tmp FA 136).symm.trans ev136
              replace ev136 := Lib.hid ev136
              have ev131 : FA.eval (.tmp 131) = _ := hD 5 131 (by kernel_rfl)
              have e131 := (eval_tmp FA 131).symm.trans ev131
              replace ev131 := Lib.hid ev131
              first | have ge131 := slot_of e131 | have ge131 := slot_un e131
              clear hO hD
              first | (go_simp; exact hK.out _ _ (Ex.refl _) rfl) | (go_simp; refine (HI.out _ (below_plus _ _ _)).mono ?_; rintro e w1 ⟨bs2, d2, rfl, rfl⟩; exact hK.out _ _ (Ex.plus_ _ _ _) rfl)
            apply Steps.one (MP.eq _) 13 rfl
            · intro o ho FA x hO hD K hK
              obtain rfl := Option.some.inj ho.symm
              clear ho
              have ev137 : FA.eval (.tmp 137) = _ := hD 11 137 (by kernel_rfl)
              have e137 := (eval_tmp FA 137).symm.trans ev137
              replace ev137 := Lib.hid ev137
              have ev131 : FA.eval (.tmp 131) = _ := hD 5 131 (by kernel_rfl)
              have e131 := (eval_tmp FA 131).symm.trans ev131
              replace ev131 := Lib.hid ev131
              first | have ge131 := slot_of e131 | have ge131 := slot_un e131
              clear hO hD
              go_simp
              exact hK.out _ _ (Ex.refl _) rfl
            apply Steps.one (MP.eq _) 14 rfl
            · intro o ho FA x hO hD K hK
              obtain rfl := Option.some.inj ho.symm
              clear ho
              have ev134 : FA.eval (.tmp 134) = _ := hD 8 134 (by kernel_rfl)
              have e134 := (eval_tmp FA 134).symm.trans ev134
              replace ev134 := Lib.hid ev134
              have ev138 : FA.eval (.tmp 138) = _ := hD 12 138 (by kernel_rfl)
              have e138 := (eval_tmp FA 138).symm.trans ev138
              replace ev138 := Lib.hid ev138
              have ev131 : FA.eval (.tmp 131) = _ := hD 5 131 (by kernel_rfl)
              have e131 := (eval_tmp FA 131).symm.trans ev131
              replace ev131 := Lib.hid ev131
              first | have ge131 := slot_of e131 | have ge131 := slot_un e131
              clear hO hD
              go_simp
              exact hK.out _ _ (Ex.refl _) rfl
            apply Steps.one (MP.eq _) 15 rfl
            · intro o ho FA x hO hD K hK
              obtain rfl := Option.some.inj ho.symm
              clear ho
              have ev131 : FA.eval (.tmp 131) = _ := hD 5 131 (by kernel_rfl)
              have e131 := (eval_tmp FA 131).symm.trans ev131
              replace ev131 := Lib.hid ev131
              have ev139 : FA.eval (.tmp 139) = _ := hD 13 139 (by kernel_rfl)
              have e139 := (eval_tmp FA 139).symm.trans ev139
              replace ev139 := Lib.hid ev139
              clear hO hD
              go_simp
              exact hK.out _ _ (Ex.refl _) rfl
            refine Steps.fin_ (fun vs x hp => ?_)
            have p0 : vs 0 = _ := hp 0 (by omega)
            have p1 : vs 1 = _ := hp 1 (by omega)
            have p2 : vs 2 = _ := hp 2 (by omega)
            have p3 : vs 3 = _ := hp 3 (by omega)
            have p4 : vs 4 = _ := hp 4 (by omega)
            have p5 : vs 5 = _ := hp 5 (by omega)
            have p6 : vs 6 = _ := hp 6 (by omega)
            have p7 : vs 7 = _ := hp 7 (by omega)
            have p8 : vs 8 = _ := hp 8 (by omega)
            have p9 : vs 9 = _ := hp 9 (by omega)
            have p10 : vs 10 = _ := hp 10 (by omega)
            have p11 : vs 11 = _ := hp 11 (by omega)
            have p12 : vs 12 = _ := hp 12 (by omega)
            have p13 : vs 13 = _ := hp 13 (by omega)
            have p14 : vs 14 = _ := hp 14 (by omega)
            clear hp
            simp only [List.take_succ_cons, List.take_zero, List.drop_succ_cons, List.drop_zero, putAll, Nat.zero_add, Nat.reduceAdd, Act.put, List.setIfInBounds_toArray, List.set_cons_zero, List.set_cons_succ, p0, p1, p2, p3, p4, p5, p6, p7, p8, p9, p10, p11, p12, p13, p14]
            clear p0 p1 p2 p3 p4 p5 p6 p7 p8 p9 p10 p11 p12 p13 p14
            clear vs
            go_wp2
            exact ⟨⟨j + 1, A2, lst2.length, c2, lst2, by omega, by go_num, rfl, HS.out.later (below_plus _ _ _), hj2⟩, by simp [intOf]; omega⟩
          · have b2 : (ak == 2) = false := by simpa using k2
            go_upto_region 11 with (fail)
            refine wp_region_lit ?_
            iterate 3 (refine wpList_plain rfl (fun K hK => ?_); go_simp; with_reducible refine hK _ _ ?_; clear hK K)
            refine wpList_ldA (t := 34) (cs := Ac.c ⟨ak, x.f, aw⟩) 28 (.tmp 55) rfl rfl (x.f.c) rfl (hA) rfl v1 v2 (szFw _) ?_
            refine wpList_plain rfl (fun K hK => ?_); go_simp; with_reducible refine hK _ _ ?_; clear hK K
            refine wpList_ld1 (t := 34) (cs := Ac.c ⟨ak, x.f, aw⟩) 26 (.tmp 57) rfl (by rfl) rfl (hA) rfl Try.underlying26 rfl ?_
            simp only [Act.put, List.setIfInBounds_toArray, List.set_cons_zero, List.set_cons_succ]
            refine wpList_build 45 [(0, .tmp 56), (1, .tmp 58)] rfl rfl (.agg (cnR (x.f, aw)).toArray) ?_ ?_
            · exact run_buildCn _ _ _
            refine wpList_plain rfl (fun K hK => ?_)
            go_simp
            refine (rput_is (Rl p) (Rl s) (x.f, x.wd) (Rl (p ++ x :: s)) (by simp [Rl]) hS.co.parts A' n' c' N x.f aw W9 hS.rs (by omega) rfl).mono ?_
            rintro e w1 ⟨A2, n2, c2, bs2, d2, rfl, rfl, hO2⟩
            with_reducible refine hK _ _ ?_
            clear hK K
            iterate 6 (refine wpList_plain rfl (fun K hK => ?_); go_simp; with_reducible refine hK _ _ ?_; clear hK K)
            refine wpList_stA (t := 28) 28 (.tmp 18) (.tmp 62) rfl rfl (fw0.c) ([.bool false, .int .u64 0, .int .u64 0, .bool false, .int .u64 0, .int .u64 0, .int .u16 0, .int .u16 0, .int .u8 0]) rfl (Fw.c_one _) rfl rfl (Bk.newK (k := W9.heap.size + bs2.length) _ _ _ (by simp [size_plus]) rfl) (szFw _) ?_
            intro W1 hG hg1
            refine wpList_plain rfl (fun K hK => ?_); go_simp; with_reducible refine hK _ _ ?_; clear hK K
            have be9 : Below W9.heap.size W9 W1 := below_grown ((below_plus W9 bs2 d2).trans ((Below.allocS (Below.refl _ _) _).mono (below_plus W9 bs2 d2).size)) hg1 (by omega)
            have hO3 := hO2.later (below_grown (Below.allocS (Below.refl _ _) (.cells ([.bool false, .int .u64 0, .int .u64 0, .bool false, .int .u64 0, .int .u64 0, .int .u16 0, .int .u16 0, .int .u8 0]).toArray 28)) hg1 (by simp [size_plus]))
            have hlt := hS.co.lt
            have hGlt : W9.heap.size ≤ W9.heap.size + bs2.length := by omega
            have ha2 : ∀ a, A2 = some a → W9.heap.size ≤ a.block ∧ a.block < W9.heap.size + bs2.length := fun a e => by have h := hO2.blk a.block (by rw [e]; rfl); rw [size_plus] at h; exact h
            have hG1 := hG.lt
            generalize hgG : W9.heap.size + bs2.length = gG at *
            have hco1 := hS.co.later be9
            replace hA := hA.later be9
            clear hO2 hg1 hgG
            go_upto_region 13 with (fail)
            refine wp_region_lit ?_
            iterate 2 (refine wpList_plain rfl (fun K hK => ?_); go_simp; with_reducible refine hK _ _ ?_; clear hK K)
            refine wpList_ldA (t := 34) (cs := Ac.c ⟨ak, x.f, aw⟩) 28 (.tmp 67) rfl rfl (x.f.c) rfl (hA) rfl v1 v2 (szFw _) ?_
            refine wpList_plain rfl (fun K hK => ?_); go_simp; with_reducible refine hK _ _ ?_; clear hK K
            refine wpList_ld1 (t := 34) (cs := Ac.c ⟨ak, x.f, aw⟩) 26 (.tmp 69) rfl (by rfl) rfl (hA) rfl Try.underlying26 rfl ?_
            refine wpList_plain rfl (fun K hK => ?_)
            go_simp
            refine (put_is W1 cb m N p s x aw hco1).mono ?_
            rintro e w1 ⟨rfl, hcg, hco2⟩
            with_reducible refine hK _ _ ?_
            clear hK K
            iterate 4 (refine wpList_plain rfl (fun K hK => ?_); go_simp; with_reducible refine hK _ _ ?_; clear hK K)
            refine wpList_stA (t := 28) 28 (.tmp 20) (.tmp 72) rfl rfl (fw0.c) ([.bool false, .int .u64 0, .int .u64 0, .bool false, .int .u64 0, .int .u64 0, .int .u16 0, .int .u16 0, .int .u8 0]) rfl (Fw.c_one _) rfl rfl (Bk.new w1 28 ([.bool false, .int .u64 0, .int .u64 0, .bool false, .int .u64 0, .int .u64 0, .int .u16 0, .int .u16 0, .int .u8 0]).toArray) (szFw _) ?_
            intro W hG2 hg2
            refine wpList_plain rfl (fun K hK => ?_); go_simp; with_reducible refine hK _ _ ?_; clear hK K
            replace hG := (hG.chg hcg (fun hd => by have := hlt _ hd; omega)).later (below_grown (Below.allocS (Below.refl _ _) (.cells ([.bool false, .int .u64 0, .int .u64 0, .bool false, .int .u64 0, .int .u64 0, .int .u16 0, .int .u16 0, .int .u8 0]).toArray 28)) hg2 (Nat.le_refl _))
            have be2 : Below w1.heap.size w1 W := below_grown (Below.allocS (Below.refl _ _) _) hg2 (Nat.le_refl _)
            have hS2 : PS w W cb m N f A2 n2 c2 (p ++ s ++ [(⟨x.f, aw, x.b⟩ : En)]) := by
              rw [show Rl p ++ Rl s ++ [(x.f, aw)] = Rl (p ++ s ++ [⟨x.f, aw, x.b⟩]) by simp [Rl]] at hO3
              refine hS.go (B := W1.heap.size) (((Chg.of_below be9).trans hcg).trans (Chg.of_below be2)) be9.size (Nat.le_trans hcg.size be2.size) ((hO3.rs.chg hcg (fun a e hd => ?_)).later be2) (fun a e => ⟨(ha2 a e).1, by have := ha2 a e; omega⟩) (hco2.later be2) (fun b hb => ?_) ?_
              · have h1 := ha2 a e
                have h2 := hlt _ hd
                omega
              · refine .inl (dm_sub (fun y hy => ?_) b hb)
                simp only [List.mem_append, List.mem_cons, List.not_mem_nil, or_false] at hy
                rcases hy with (h1 | h1) | h1
                · exact ⟨y, by simp [h1], rfl⟩
                · exact ⟨y, by simp [h1], rfl⟩
                · exact ⟨x, by simp, by rw [h1]⟩
              · have := hS.ll
                simp at this ⊢
                omega
            have hj2 : (p ++ s ++ [(⟨x.f, aw, x.b⟩ : En)]).length ≤ j + 1 := by simp at hlj ⊢; omega
            generalize p ++ s ++ [(⟨x.f, aw, x.b⟩ : En)] = lst2 at hS2 hj2
            generalize w1.heap.size = gH at hG2
            clear hS hco1 be9 hO3 hcg hco2 hA hg9 hlt hGlt ha2 hG1 be2 hg2
            go_upto_region 14 with (fail)
            refine wp_region_lit ?_
            refine wpList_ldA (t := 28) 28 (.tmp 20) rfl rfl (fw0.c) rfl (hG2) (whole_ _) v1 v2 (szFw _) ?_
            simp only [Act.put, List.setIfInBounds_toArray, List.set_cons_zero, List.set_cons_succ]
            refine wpList_ldA (t := 28) 28 (.tmp 18) rfl rfl (fw0.c) rfl (hG) (whole_ _) v1 v2 (szFw _) ?_
            iterate 2 (refine wpList_plain rfl (fun K hK => ?_); go_simp; with_reducible refine hK _ _ ?_; clear hK K)
            iterate 3 (refine wpList_step (fun K hK => ?_); go_simp; with_reducible refine hK _ _ ?_; clear hK K)
            refine wpList_plain rfl (fun K hK => ?_); go_simp; with_reducible refine hK _ _ ?_; clear hK K
            go_upto_region 28 with (fail)
            clear hG hG2
            obtain ⟨v, hv, hix⟩ := index_is f (Rl lst2)
            obtain rfl := hS2.len
            have HL := Lib.hid (fun V (h : Below W.heap.size W V) => len_any V cb m N lst2 (hS2.co.later h))
            have HH := Lib.hid (fun V (h : Below W.heap.size W V) => has_any V cb m N lst2 f (hS2.co.later h))
            have HI := Lib.hid (fun V (h : Below W.heap.size W V) => hix A2 lst2.length c2 V (hS2.rs.later h) (by omega))
            have hvb : decide (0 ≤ v) = decide (∃ x ∈ lst2, x.f = f) := hv.trans (Rl_ex f lst2)
            generalize decide (∃ x ∈ lst2, x.f = f) = bb at *
            have hf := hS2.hf
            have HS := Lib.hid hS2
            clear hS2 hv hix
            go_wp2
            refine wp_relS 15 190 rfl (by kernel_rfl) (by kernel_rfl) ?_
            apply Steps.one (MP.eq _) 1 rfl
            · intro o ho FA x hO hD K hK
              obtain rfl := Option.some.inj ho.symm
              clear ho
              have e7 := hO 7 (by kernel_rfl)
              simp only [eval_tmp, List.getElem?_toArray, List.getElem?_cons_succ, List.getElem?_cons_zero, Option.getD_some] at e7
              have ev7 := Lib.hid ((eval_tmp FA 7).trans e7)
              clear hO hD
              go_simp
              exact hK.out _ _ (Ex.refl _) rfl
            apply Steps.one (MP.eq _) 2 rfl
            · intro o ho FA x hO hD K hK
              obtain rfl := Option.some.inj ho.symm
              clear ho
              have ev126 : FA.eval (.tmp 126) = _ := hD 0 126 (by kernel_rfl)
              have e126 := (eval_tmp FA 126).symm.trans ev126
              replace ev126 := Lib.hid ev126
              clear hO hD
              go_simp
              refine (HL.out _ (below_plus _ _ _)).mono ?_
              rintro e w1 ⟨bs2, d2, rfl, rfl⟩
              exact hK.out _ _ (Ex.plus_ _ _ _) rfl
            apply Steps.one (MP.eq _) 3 rfl
            · intro o ho FA x hO hD K hK
              obtain rfl := Option.some.inj ho.symm
              clear ho
              have e8 := hO 8 (by kernel_rfl)
              simp only [eval_tmp, List.getElem?_toArray, List.getElem?_cons_succ, List.getElem?_cons_zero, Option.getD_some] at e8
              have ev8 := Lib.hid ((eval_tmp FA 8).trans e8)
              clear hO hD
              go_simp
              exact hK.out _ _ (Ex.refl _) rfl
            apply Steps.one (MP.eq _) 4 rfl
            · intro o ho FA x hO hD K hK
              obtain rfl := Option.some.inj ho.symm
              clear ho
              have ev128 : FA.eval (.tmp 128) = _ := hD 2 128 (by kernel_rfl)
              have e128 := (eval_tmp FA 128).symm.trans ev128
              replace ev128 := Lib.hid ev128
              clear hO hD
              go_simp
              exact hK.out _ _ (Ex.refl _) rfl
            apply Steps.one (MP.eq _) 5 rfl
            · intro o ho FA x hO hD K hK
              obtain rfl := Option.some.inj ho.symm
              clear ho
              have ev127 : FA.eval (.tmp 127) = _ := hD 1 127 (by kernel_rfl)
              have e127 := (eval_tmp FA 127).symm.trans ev127
              replace ev127 := Lib.hid ev127
              have ev129 : FA.eval (.tmp 129) = _ := hD 3 129 (by kernel_rfl)
              have e129 := (eval_tmp FA 129).symm.trans ev129
              replace ev129 := Lib.hid ev129
              clear hO hD
              go_simp
              exact hK.out _ _ (Ex.refl _) rfl
            apply Steps.one (MP.eq _) 6 rfl
            · intro o ho FA x hO hD K hK
              obtain rfl := Option.some.inj ho.symm
              clear ho
              have ev130 : FA.eval (.tmp 130) = _ := hD 4 130 (by kernel_rfl)
              have e130 := (eval_tmp FA 130).symm.trans ev130
              replace ev130 := Lib.hid ev130
              clear hO hD
              go_simp
              exact hK.out _ _ (Ex.refl _) rfl
            apply Steps.one (MP.eq _) 7 rfl
            · intro o ho FA x hO hD K hK
              obtain rfl := Option.some.inj ho.symm
              clear ho
              have e7 := hO 7 (by kernel_rfl)
              simp only [eval_tmp, List.getElem?_toArray, List.getElem?_cons_succ, List.getElem?_cons_zero, Option.getD_some] at e7
              have ev7 := Lib.hid ((eval_tmp FA 7).trans e7)
              have ev131 : FA.eval (.tmp 131) = _ := hD 5 131 (by kernel_rfl)
              have e131 := (eval_tmp FA 131).symm.trans ev131
              replace ev131 := Lib.hid ev131
              first | have ge131 := slot_of e131 | have ge131 := slot_un e131
              clear hO hD
              go_simp
              exact hK.out _ _ (Ex.refl _) rfl
            apply Steps.one (MP.eq _) 8 rfl
            · intro o ho FA x hO hD K hK
              obtain rfl := Option.some.inj ho.symm
              clear ho
              have e5 := hO 5 (by kernel_rfl)
              simp only [eval_tmp, List.getElem?_toArray, List.getElem?_cons_succ, List.getElem?_cons_zero, Option.getD_some] at e5
              have ev5 := Lib.hid ((eval_tmp FA 5).trans e5)
              have ev131 : FA.eval (.tmp 131) = _ := hD 5 131 (by kernel_rfl)
              have e131 := (eval_tmp FA 131).symm.trans ev131
              replace ev131 := Lib.hid ev131
              first | have ge131 := slot_of e131 | have ge131 := slot_un e131
              clear hO hD
              first | (refine wanted_ifG ?_ ?_; (· go_simp); refine wp_ldA 28 (.tmp 5) rfl (f.c) ev5.out (hf.later (below_plus _ _ _)) (whole_ _) v1 v2 (szFw f) ?_; exact hK.out _ _ (Ex.refl _) rfl) | (go_simp; exact hK.out _ _ (Ex.refl _) rfl)
            apply Steps.one (MP.eq _) 9 rfl
            · intro o ho FA x hO hD K hK
              obtain rfl := Option.some.inj ho.symm
              clear ho
              have ev132 : FA.eval (.tmp 132) = _ := hD 6 132 (by kernel_rfl)
              have e132 := (eval_tmp FA 132).symm.trans ev132
              replace ev132 := Lib.hid ev132
              have ev133 : FA.eval (.tmp 133) = _ := hD 7 133 (by kernel_rfl)
              have e133 := (eval_tmp FA 133).symm.trans ev133
              replace ev133 := Lib.hid ev133
              have ev131 : FA.eval (.tmp 131) = _ := hD 5 131 (by kernel_rfl)
              have e131 := (eval_tmp FA 131).symm.trans ev131
              replace ev131 := Lib.hid ev131
              first | have ge131 := slot_of e131 | have ge131 := slot_un e131
              clear hO hD
              first | (go_simp; exact hK.out _ _ (Ex.refl _) rfl) | (go_simp; refine (HH.out _ (below_plus _ _ _)).mono ?_; rintro e w1 ⟨bs2, d2, rfl, rfl⟩; exact hK.out _ _ (Ex.plus_ _ _ _) rfl)
            apply Steps.one (MP.eq _) 10 rfl
            · intro o ho FA x hO hD K hK
              obtain rfl := Option.some.inj ho.symm
              clear ho
              have e8 := hO 8 (by kernel_rfl)
              simp only [eval_tmp, List.getElem?_toArray, List.getElem?_cons_succ, List.getElem?_cons_zero, Option.getD_some] at e8
              have ev8 := Lib.hid ((eval_tmp FA 8).trans e8)
              have ev131 : FA.eval (.tmp 131) = _ := hD 5 131 (by kernel_rfl)
              have e131 := (eval_tmp FA 131).symm.trans ev131
              replace ev131 := Lib.hid ev131
              first | have ge131 := slot_of e131 | have ge131 := slot_un e131
              clear hO hD
              go_simp
              exact hK.out _ _ (Ex.refl _) rfl
            apply Steps.one (MP.eq _) 11 rfl
            · intro o ho FA x hO hD K hK
              obtain rfl := Option.some.inj ho.symm
              clear ho
              have e5 := hO 5 (by kernel_rfl)
              simp only [eval_tmp, List.getElem?_toArray, List.getElem?_cons_succ, List.getElem?_cons_zero, Option.getD_some] at e5
              have ev5 := Lib.hid ((eval_tmp FA 5).trans e5)
              have ev131 : FA.eval (.tmp 131) = _ := hD 5 131 (by kernel_rfl)
              have e131 := (eval_tmp FA 131).symm.trans ev131
              replace ev131 := Lib.hid ev131
              first | have ge131 := slot_of e131 | have ge131 := slot_un e131
              clear hO hD
              first | (refine wanted_ifG ?_ ?_; (· go_simp); refine wp_ldA 28 (.tmp 5) rfl (f.c) ev5.out (hf.later (below_plus _ _ _)) (whole_ _) v1 v2 (szFw f) ?_; exact hK.out _ _ (Ex.refl _) rfl) | (go_simp; exact hK.out _ _ (Ex.refl _) rfl)
            apply Steps.one (MP.eq _) 12 rfl
            · intro o ho FA x hO hD K hK
              obtain rfl := Option.some.inj ho.symm
              clear ho
              have ev135 : FA.eval (.tmp 135) = _ := hD 9 135 (by kernel_rfl)
              have e135 := (eval_tmp FA 135).symm.trans ev135
              replace ev135 := Lib.hid ev135
              have ev136 : FA.eval (.tmp 136) = _ := hD 10 136 (by kernel_rfl)
              have e136 := (eval_tmp FA 136).symm.trans ev136
              replace ev136 := Lib.hid ev136
              have ev131 : FA.eval (.tmp 131) = _ := hD 5 131 (by kernel_rfl)
              have e131 := (eval_tmp FA 131).symm.trans ev131
              replace ev131 := Lib.hid ev131
              first | have ge131 := slot_of e131 | have ge131 := slot_un e131
              clear hO hD
              first | (go_simp; exact hK.out _ _ (Ex.refl _) rfl) | (go_simp; refine (HI.out _ (below_plus _ _ _)).mono ?_; rintro e w1 ⟨bs2, d2, rfl, rfl⟩; exact hK.out _ _ (Ex.plus_ _ _ _) rfl)
            apply Steps.one (MP.eq _) 13 rfl
            · intro o ho FA x hO hD K hK
              obtain rfl := Option.some.inj ho.symm
              clear ho
              have ev137 : FA.eval (.tmp 137) = _ := hD 11 137 (by kernel_rfl)
              have e137 := (eval_tmp FA 137).symm.trans ev137
              replace ev137 := Lib.hid ev137
              have ev131 : FA.eval (.tmp 131) = _ := hD 5 131 (by kernel_rfl)
              have e131 := (eval_tmp FA 131).symm.trans ev131
              replace ev131 := Lib.hid ev131
              first | have ge131 := slot_of e131 | have ge131 := slot_un e131
              clear hO hD
              go_simp
              exact hK.out _ _ (Ex.refl _) rfl
            apply Steps.one (MP.eq _) 14 rfl
            · intro o ho FA x hO hD K hK
              obtain rfl := Option.some.inj ho.symm
              clear ho
              have ev134 : FA.eval (.tmp 134) = _ := hD 8 134 (by kernel_rfl)
              have e134 := (eval_tmp FA 134).symm.trans ev134
              replace ev134 := Lib.hid ev134
              have ev138 : FA.eval (.tmp 138) = _ := hD 12 138 (by kernel_rfl)
              have e138 := (eval_tmp FA 138).symm.trans ev138
              replace ev138 := Lib.hid ev138
              have ev131 : FA.eval (.tmp 131) = _ := hD 5 131 (by kernel_rfl)
              have e131 := (eval_tmp FA 131).symm.trans ev131
              replace ev131 := Lib.hid ev131
              first | have ge131 := slot_of e131 | have ge131 := slot_un e131
              clear hO hD
              go_simp
              exact hK.out _ _ (Ex.refl _) rfl
            apply Steps.one (MP.eq _) 15 rfl
            · intro o ho FA x hO hD K hK
              obtain rfl := Option.some.inj ho.symm
              clear ho
              have ev131 : FA.eval (.tmp 131) = _ := hD 5 131 (by kernel_rfl)
              have e131 := (eval_tmp FA 131).symm.trans ev131
              replace ev131 := Lib.hid ev131
              have ev139 : FA.eval (.tmp 139) = _ := hD 13 139 (by kernel_rfl)
              have e139 := (eval_tmp FA 139).symm.trans ev139
              replace ev139 := Lib.hid ev139
              clear hO hD
              go_simp
              exact hK.out _ _ (Ex.refl _) rfl
            refine Steps.fin_ (fun vs x hp => ?_)
            have p0 : vs 0 = _ := hp 0 (by omega)
            have p1 : vs 1 = _ := hp 1 (by omega)
            have p2 : vs 2 = _ := hp 2 (by omega)
            have p3 : vs 3 = _ := hp 3 (by omega)
            have p4 : vs 4 = _ := hp 4 (by omega)
            have p5 : vs 5 = _ := hp 5 (by omega)
            have p6 : vs 6 = _ := hp 6 (by omega)
            have p7 : vs 7 = _ := hp 7 (by omega)
            have p8 : vs 8 = _ := hp 8 (by omega)
            have p9 : vs 9 = _ := hp 9 (by omega)
            have p10 : vs 10 = _ := hp 10 (by omega)
            have p11 : vs 11 = _ := hp 11 (by omega)
            have p12 : vs 12 = _ := hp 12 (by omega)
            have p13 : vs 13 = _ := hp 13 (by omega)
            have p14 : vs 14 = _ := hp 14 (by omega)
            clear hp
            simp only [List.take_succ_cons, List.take_zero, List.drop_succ_cons, List.drop_zero, putAll, Nat.zero_add, Nat.reduceAdd, Act.put, List.setIfInBounds_toArray, List.set_cons_zero, List.set_cons_succ, p0, p1, p2, p3, p4, p5, p6, p7, p8, p9, p10, p11, p12, p13, p14]
            clear p0 p1 p2 p3 p4 p5 p6 p7 p8 p9 p10 p11 p12 p13 p14
            clear vs
            go_wp2
            exact ⟨⟨j + 1, A2, lst2.length, c2, lst2, by omega, by go_num, rfl, HS.out.later (below_plus _ _ _), hj2⟩, by simp [intOf]; omega⟩
      · have hno : ∀ x ∈ lst, x.f ≠ af := fun x h1 h2 => hex ⟨x, h1, h2⟩
        have hnoR : ∀ x ∈ Rl lst, x.1 ≠ af := by
          intro z hz
          obtain ⟨y, hy, rfl⟩ := List.mem_map.1 hz
          exact hno y hy
        clear hex
        by_cases k1 : ak = 1
        · subst k1
          go_upto_region 17 with (fail)
          refine wp_region_lit ?_
          iterate 2 (refine wpList_plain rfl (fun K hK => ?_); go_simp; with_reducible refine hK _ _ ?_; clear hK K)
          refine wpList_ldA (t := 34) (cs := Ac.c ⟨1, af, aw⟩) 28 (.tmp 86) rfl rfl (af.c) rfl (hA) rfl v1 v2 (szFw _) ?_
          refine wpList_plain rfl (fun K hK => ?_)
          go_simp
          refine (rget_no (Rl lst) A' n' c' af W9 hS.rs (by omega) hnoR).mono ?_
          rintro e w1 ⟨bs2, d2, rfl, rfl⟩
          with_reducible refine hK _ _ ?_
          clear hK K
          iterate 7 (refine wpList_plain rfl (fun K hK => ?_); go_simp; with_reducible refine hK _ _ ?_; clear hK K)
          replace hS := hS.later (below_plus W9 bs2 d2)
          replace hA := hA.later (below_plus W9 bs2 d2)
          generalize plus W9 bs2 d2 = W1 at *
          go_upto_region 19 with (fail)
          refine wp_region_lit ?_
          iterate 2 (refine wpList_plain rfl (fun K hK => ?_); go_simp; with_reducible refine hK _ _ ?_; clear hK K)
          refine wpList_ldA (t := 34) (cs := Ac.c ⟨1, af, aw⟩) 28 (.tmp 95) rfl rfl (af.c) rfl (hA) rfl v1 v2 (szFw _) ?_
          refine wpList_plain rfl (fun K hK => ?_)
          go_simp
          refine (get_no W1 _ af (fun V hV => find_no V cb m N lst af (hS.co.later hV) hno)).mono ?_
          rintro e w1 ⟨bs4, d4, rfl, rfl⟩
          with_reducible refine hK _ _ ?_
          clear hK K
          iterate 5 (refine wpList_plain rfl (fun K hK => ?_); go_simp; with_reducible refine hK _ _ ?_; clear hK K)
          have hS2 := hS.later (below_plus W1 bs4 d4)
          have hj2 : lst.length ≤ j + 1 := by omega
          clear hS hA hg9 hno hnoR
          go_upto_region 28 with (fail)
          generalize plus W1 bs4 d4 = W at *
          obtain ⟨v, hv, hix⟩ := index_is f (Rl lst)
          obtain rfl := hS2.len
          have HL := Lib.hid (fun V (h : Below W.heap.size W V) => len_any V cb m N lst (hS2.co.later h))
          have HH := Lib.hid (fun V (h : Below W.heap.size W V) => has_any V cb m N lst f (hS2.co.later h))
          have HI := Lib.hid (fun V (h : Below W.heap.size W V) => hix A' lst.length c' V (hS2.rs.later h) (by omega))
          have hvb : decide (0 ≤ v) = decide (∃ x ∈ lst, x.f = f) := hv.trans (Rl_ex f lst)
          generalize decide (∃ x ∈ lst, x.f = f) = bb at *
          have hf := hS2.hf
          have HS := Lib.hid hS2
          clear hS2 hv hix
          go_wp2
          refine wp_relS 15 190 rfl (by kernel_rfl) (by kernel_rfl) ?_
          apply Steps.one (MP.eq _) 1 rfl
          · intro o ho FA x hO hD K hK
            obtain rfl := Option.some.inj ho.symm
            clear ho
            have e7 := hO 7 (by kernel_rfl)
            simp only [eval_tmp, List.getElem?_toArray, List.getElem?_cons_succ, List.getElem?_cons_zero, Option.getD_some] at e7
            have ev7 := Lib.hid ((eval_tmp FA 7).trans e7)
            clear hO hD
            go_simp
            exact hK.out _ _ (Ex.refl _) rfl
          apply Steps.one (MP.eq _) 2 rfl
          · intro o ho FA x hO hD K hK
            obtain rfl := Option.some.inj ho.symm
            clear ho
            have ev126 : FA.eval (.tmp 126) = _ := hD 0 126 (by kernel_rfl)
            have e126 := (eval_tmp FA 126).symm.trans ev126
            replace ev126 := Lib.hid ev126
            clear hO hD
            go_simp
            refine (HL.out _ (below_plus _ _ _)).mono ?_
            rintro e w1 ⟨bs2, d2, rfl, rfl⟩
            exact hK.out _ _ (Ex.plus_ _ _ _) rfl
          apply Steps.one (MP.eq _) 3 rfl
          · intro o ho FA x hO hD K hK
            obtain rfl := Option.some.inj ho.symm
            clear ho
            have e8 := hO 8 (by kernel_rfl)
            simp only [eval_tmp, List.getElem?_toArray, List.getElem?_cons_succ, List.getElem?_cons_zero, Option.getD_some] at e8
            have ev8 := Lib.hid ((eval_tmp FA 8).trans e8)
            clear hO hD
            go_simp
            exact hK.out _ _ (Ex.refl _) rfl
          apply Steps.one (MP.eq _) 4 rfl
          · intro o ho FA x hO hD K hK
            obtain rfl := Option.some.inj ho.symm
            clear ho
            have ev128 : FA.eval (.tmp 128) = _ := hD 2 128 (by kernel_rfl)
            have e128 := (eval_tmp FA 128).symm.trans ev128
            replace ev128 := Lib.hid ev128
            clear hO hD
            go_simp
            exact hK.out _ _ (Ex.refl _) rfl
          apply Steps.one (MP.eq _) 5 rfl
          · intro o ho FA x hO hD K hK
            obtain rfl := Option.some.inj ho.symm
            clear ho
            have ev127 : FA.eval (.tmp 127) = _ := hD 1 127 (by kernel_rfl)
            have e127 := (eval_tmp FA 127).symm.trans ev127
            replace ev127 := Lib.hid ev127
            have ev129 : FA.eval (.tmp 129) = _ := hD 3 129 (by kernel_rfl)
            have e129 := (eval_tmp FA 129).symm.trans ev129
            replace ev129 := Lib.hid ev129
            clear hO hD
            go_simp
            exact hK.out _ _ (Ex.refl _) rfl
          apply Steps.one (MP.eq _) 6 rfl
          · intro o ho FA x hO hD K hK
            obtain rfl := Option.some.inj ho.symm
            clear ho
            have ev130 : FA.eval (.tmp 130) = _ := hD 4 130 (by kernel_rfl)
            have e130 := (eval_tmp FA 130).symm.trans ev130
            replace ev130 := Lib.hid ev130
            clear hO hD
            go_simp
            exact hK.out _ _ (Ex.refl _) rfl
          apply Steps.one (MP.eq _) 7 rfl
          · intro o ho FA x hO hD K hK
            obtain rfl := Option.some.inj ho.symm
            clear ho
            have e7 := hO 7 (by kernel_rfl)
            simp only [eval_tmp, List.getElem?_toArray, List.getElem?_cons_succ, List.getElem?_cons_zero, Option.getD_some] at e7
            have ev7 := Lib.hid ((eval_tmp FA 7).trans e7)
            have ev131 : FA.eval (.tmp 131) = _ := hD 5 131 (by kernel_rfl)
            have e131 := (eval_tmp FA 131).symm.trans ev131
            replace ev131 := Lib.hid ev131
            first | have ge131 := slot_of e131 | have ge131 := slot_un e131
            clear hO hD
            go_simp
            exact hK.out _ _ (Ex.refl _) rfl
          apply Steps.one (MP.eq _) 8 rfl
          · intro o ho FA x hO hD K hK
            obtain rfl := Option.some.inj ho.symm
            clear ho
            have e5 := hO 5 (by kernel_rfl)
            simp only [eval_tmp, List.getElem?_toArray, List.getElem?_cons_succ, List.getElem?_cons_zero, Option.getD_some] at e5
            have ev5 := Lib.hid ((eval_tmp FA 5).trans e5)
            have ev131 : FA.eval (.tmp 131) = _ := hD 5 131 (by kernel_rfl)
            have e131 := (eval_tmp FA 131).symm.trans ev131
            replace ev131 := Lib.hid ev131
            first | have ge131 := slot_of e131 | have ge131 := slot_un e131
            clear hO hD
            first | (refine wanted_ifG ?_ ?_; (· go_simp); refine wp_ldA 28 (.tmp 5) rfl (f.c) ev5.out (hf.later (below_plus _ _ _)) (whole_ _) v1 v2 (szFw f) ?_; exact hK.out _ _ (Ex.refl _) rfl) | (go_simp; exact hK.out _ _ (Ex.refl _) rfl)
          apply Steps.one (MP.eq _) 9 rfl
          · intro o ho FA x hO hD K hK
            obtain rfl := Option.some.inj ho.symm
            clear ho
            have ev132 : FA.eval (.tmp 132) = _ := hD 6 132 (by kernel_rfl)
            have e132 := (eval_tmp FA 132).symm.trans ev132
            replace ev132 := Lib.hid ev132
            have ev133 : FA.eval (.tmp 133) = _ := hD 7 133 (by kernel_rfl)
            have e133 := (eval_tmp FA 133).symm.trans ev133
            replace ev133 := Lib.hid ev133
            have ev131 : FA.eval (.tmp 131) = _ := hD 5 131 (by kernel_rfl)
            have e131 := (eval_tmp FA 131).symm.trans ev131
            replace ev131 := Lib.hid ev131
            first | have ge131 := slot_of e131 | have ge131 := slot_un e131
            clear hO hD
            first | (go_simp; exact hK.out _ _ (Ex.refl _) rfl) | (go_simp; refine (HH.out _ (below_plus _ _ _)).mono ?_; rintro e w1 ⟨bs2, d2, rfl, rfl⟩; exact hK.out _ _ (Ex.plus_ _ _ _) rfl)
          apply Steps.one (MP.eq _) 10 rfl
          · intro o ho FA x hO hD K hK
            obtain rfl := Option.some.inj ho.symm
            clear ho
            have e8 := hO 8 (by kernel_rfl)
            simp only [eval_tmp, List.getElem?_toArray, List.getElem?_cons_succ, List.getElem?_cons_zero, Option.getD_some] at e8
            have ev8 := Lib.hid ((eval_tmp FA 8).trans e8)
            have ev131 : FA.eval (.tmp 131) = _ := hD 5 131 (by kernel_rfl)
            have e131 := (eval_tmp FA 131).symm.trans ev131
            replace ev131 := Lib.hid ev131
            first | have ge131 := slot_of e131 | have ge131 := slot_un e131
            clear hO hD
            go_simp
            exact hK.out _ _ (Ex.refl _) rfl
          apply Steps.one (MP.eq _) 11 rfl
          · intro o ho FA x hO hD K hK
            obtain rfl := Option.some.inj ho.symm
            clear ho
            have e5 := hO 5 (by kernel_rfl)
            simp only [eval_tmp, List.getElem?_toArray, List.getElem?_cons_succ, List.getElem?_cons_zero, Option.getD_some] at e5
            have ev5 := Lib.hid ((eval_tmp FA 5).trans e5)
            have ev131 : FA.eval (.tmp 131) = _ := hD 5 131 (by kernel_rfl)
            have e131 := (eval_tmp FA 131).symm.trans ev131
            replace ev131 := Lib.hid ev131
            first | have ge131 := slot_of e131 | have ge131 := slot_un e131
            clear hO hD
            first | (refine wanted_ifG ?_ ?_; (· go_simp); refine wp_ldA 28 (.tmp 5) rfl (f.c) ev5.out (hf.later (below_plus _ _ _)) (whole_ _) v1 v2 (szFw f) ?_; exact hK.out _ _ (Ex.refl _) rfl) | (go_simp; exact hK.out _ _ (Ex.refl _) rfl)
          apply Steps.one (MP.eq _) 12 rfl
          · intro o ho FA x hO hD K hK
            obtain rfl := Option.some.inj ho.symm
            clear ho
            have ev135 : FA.eval (.tmp 135) = _ := hD 9 135 (by kernel_rfl)
            have e135 := (eval_tmp FA 135).symm.trans ev135
            replace ev135 := Lib.hid ev135
            have ev136 : FA.eval (.tmp 136) = _ := hD 10 136 (by kernel_rfl)
            have e136 := (eval_tmp FA 136).symm.trans ev136
            replace ev136 := Lib.hid ev136
            have ev131 : FA.eval (.tmp 131) = _ := hD 5 131 (by kernel_rfl)
            have e131 := (eval_tmp FA 131).symm.trans ev131
            replace ev131 := Lib.hid ev131
            first | have ge131 := slot_of e131 | have ge131 := slot_un e131
            clear hO hD
            first | (go_simp; exact hK.out _ _ (Ex.refl _) rfl) | (go_simp; refine (HI.out _ (below_plus _ _ _)).mono ?_; rintro e w1 ⟨bs2, d2, rfl, rfl⟩; exact hK.out _ _ (Ex.plus_ _ _ _) rfl)
          apply Steps.one (MP.eq _) 13 rfl
          · intro o ho FA x hO hD K hK
            obtain rfl := Option.some.inj ho.symm
            clear ho
            have ev137 : FA.eval (.tmp 137) = _ := hD 11 137 (by kernel_rfl)
            have e137 := (eval_tmp FA 137).symm.trans ev137
            replace ev137 := Lib.hid ev137
            have ev131 : FA.eval (.tmp 131) = _ := hD 5 131 (by kernel_rfl)
            have e131 := (eval_tmp FA 131).symm.trans ev131
            replace ev131 := Lib.hid ev131
            first | have ge131 := slot_of e131 | have ge131 := slot_un e131
            clear hO hD
            go_simp
            exact hK.out _ _ (Ex.refl _) rfl
          apply Steps.one (MP.eq _) 14 rfl
          · intro o ho FA x hO hD K hK
            obtain rfl := Option.some.inj ho.symm
            clear ho
            have ev134 : FA.eval (.tmp 134) = _ := hD 8 134 (by kernel_rfl)
            have e134 := (eval_tmp FA 134).symm.trans ev134
            replace ev134 := Lib.hid ev134
            have ev138 : FA.eval (.tmp 138) = _ := hD 12 138 (by kernel_rfl)
            have e138 := (eval_tmp FA 138).symm.trans ev138
            replace ev138 := Lib.hid ev138
            have ev131 : FA.eval (.tmp 131) = _ := hD 5 131 (by kernel_rfl)
            have e131 := (eval_tmp FA 131).symm.trans ev131
            replace ev131 := Lib.hid ev131
            first | have ge131 := slot_of e131 | have ge131 := slot_un e131
            clear hO hD
            go_simp
            exact hK.out _ _ (Ex.refl _) rfl
          apply Steps.one (MP.eq _) 15 rfl
          · intro o ho FA x hO hD K hK
            obtain rfl := Option.some.inj ho.symm
            clear ho
            have ev131 : FA.eval (.tmp 131) = _ := hD 5 131 (by kernel_rfl)
            have e131 := (eval_tmp FA 131).symm.trans ev131
            replace ev131 := Lib.hid ev131
            have ev139 : FA.eval (.tmp 139) = _ := hD 13 139 (by kernel_rfl)
            have e139 := (eval_tmp FA 139).symm.trans ev139
            replace ev139 := Lib.hid ev139
            clear hO hD
            go_simp
            exact hK.out _ _ (Ex.refl _) rfl
          refine Steps.fin_ (fun vs x hp => ?_)
          have p0 : vs 0 = _ := hp 0 (by omega)
          have p1 : vs 1 = _ := hp 1 (by omega)
          have p2 : vs 2 = _ := hp 2 (by omega)
          have p3 : vs 3 = _ := hp 3 (by omega)
          have p4 : vs 4 = _ := hp 4 (by omega)
          have p5 : vs 5 = _ := hp 5 (by omega)
          have p6 : vs 6 = _ := hp 6 (by omega)
          have p7 : vs 7 = _ := hp 7 (by omega)
          have p8 : vs 8 = _ := hp 8 (by omega)
          have p9 : vs 9 = _ := hp 9 (by omega)
          have p10 : vs 10 = _ := hp 10 (by omega)
          have p11 : vs 11 = _ := hp 11 (by omega)
          have p12 : vs 12 = _ := hp 12 (by omega)
          have p13 : vs 13 = _ := hp 13 (by omega)
          have p14 : vs 14 = _ := hp 14 (by omega)
          clear hp
          simp only [List.take_succ_cons, List.take_zero, List.drop_succ_cons, List.drop_zero, putAll, Nat.zero_add, Nat.reduceAdd, Act.put, List.setIfInBounds_toArray, List.set_cons_zero, List.set_cons_succ, p0, p1, p2, p3, p4, p5, p6, p7, p8, p9, p10, p11, p12, p13, p14]
          clear p0 p1 p2 p3 p4 p5 p6 p7 p8 p9 p10 p11 p12 p13 p14
          clear vs
          go_wp2
          exact ⟨⟨j + 1, A', lst.length, c', lst, by omega, by go_num, rfl, HS.out.later (below_plus _ _ _), hj2⟩, by simp [intOf]; omega⟩
        · have b1 : (ak == 1) = false := by simpa using k1
          by_cases k2 : ak = 2
          · subst k2
            have HIX := Lib.hid (index_at af (Rl lst) A' n' c' W9 hS.rs (by omega) (-1) (.inl ⟨rfl, hnoR⟩))
            go_upto_region 23 with (fail)
            refine wp_region_lit ?_
            iterate 2 (refine wpList_plain rfl (fun K hK => ?_); go_simp; with_reducible refine hK _ _ ?_; clear hK K)
            refine wpList_ldA (t := 34) (cs := Ac.c ⟨2, af, aw⟩) 28 (.tmp 111) rfl rfl (af.c) rfl (hA) rfl v1 v2 (szFw _) ?_
            refine wpList_plain rfl (fun K hK => ?_)
            go_simp
            refine (HIX.out).mono ?_
            rintro e w1 ⟨bs2, d2, rfl, rfl⟩
            with_reducible refine hK _ _ ?_
            clear hK K
            refine wpList_plain rfl (fun K hK => ?_); go_simp; with_reducible refine hK _ _ ?_; clear hK K
            clear HIX
            replace hS := hS.later (below_plus W9 bs2 d2)
            replace hA := hA.later (below_plus W9 bs2 d2)
            generalize plus W9 bs2 d2 = W1 at *
            go_upto_region 24 with (fail)
            refine wp_region_lit ?_
            iterate 2 (refine wpList_plain rfl (fun K hK => ?_); go_simp; with_reducible refine hK _ _ ?_; clear hK K)
            refine wpList_ldA (t := 34) (cs := Ac.c ⟨2, af, aw⟩) 28 (.tmp 115) rfl rfl (af.c) rfl (hA) rfl v1 v2 (szFw _) ?_
            refine wpList_plain rfl (fun K hK => ?_)
            go_simp
            refine (drop_no W1 _ af (fun V hV => find_no V cb m N lst af (hS.co.later hV) hno)).mono ?_
            rintro e w1 ⟨bs4, d4, rfl, rfl⟩
            with_reducible refine hK _ _ ?_
            clear hK K
            iterate 3 (refine wpList_plain rfl (fun K hK => ?_); go_simp; with_reducible refine hK _ _ ?_; clear hK K)
            have hS2 := hS.later (below_plus W1 bs4 d4)
            have hj2 : lst.length ≤ j + 1 := by omega
            clear hS hA hg9 hno hnoR
            go_upto_region 28 with (fail)
            generalize plus W1 bs4 d4 = W at *
            obtain ⟨v, hv, hix⟩ := index_is f (Rl lst)
            obtain rfl := hS2.len
            have HL := Lib.hid (fun V (h : Below W.heap.size W V) => len_any V cb m N lst (hS2.co.later h))
            have HH := Lib.hid (fun V (h : Below W.heap.size W V) => has_any V cb m N lst f (hS2.co.later h))
            have HI := Lib.hid (fun V (h : Below W.heap.size W V) => hix A' lst.length c' V (hS2.rs.later h) (by omega))
            have hvb : decide (0 ≤ v) = decide (∃ x ∈ lst, x.f = f) := hv.trans (Rl_ex f lst)
            generalize decide (∃ x ∈ lst, x.f = f) = bb at *
            have hf := hS2.hf
            have HS := Lib.hid hS2
            clear hS2 hv hix
            go_wp2
            refine wp_relS 15 190 rfl (by kernel_rfl) (by kernel_rfl) ?_
            apply Steps.one (MP.eq _) 1 rfl
            · intro o ho FA x hO hD K hK
              obtain rfl := Option.some.inj ho.symm
              clear ho
              have e7 := hO 7 (by kernel_rfl)
              simp only [eval_tmp, List.getElem?_toArray, List.getElem?_cons_succ, List.getElem?_cons_zero, Option.getD_some] at e7
              have ev7 := Lib.hid ((eval_tmp FA 7).trans e7)
              clear hO hD
              go_simp
              exact hK.out _ _ (Ex.refl _) rfl
            apply Steps.one (MP.eq _) 2 rfl
            · intro o ho FA x hO hD K hK
              obtain rfl := Option.some.inj ho.symm
              clear ho
              have ev126 : FA.eval (.tmp 126) = _ := hD 0 126 (by kernel_rfl)
              have e126 := (eval_tmp FA 126).symm.trans ev126
              replace ev126 := Lib.hid ev126
              clear hO hD
              go_simp
              refine (HL.out _ (below_plus _ _ _)).mono ?_
              rintro e w1 ⟨bs2, d2, rfl, rfl⟩
              exact hK.out _ _ (Ex.plus_ _ _ _) rfl
            apply Steps.one (MP.eq _) 3 rfl
            · intro o ho FA x hO hD K hK
              obtain rfl := Option.some.inj ho.symm
              clear ho
              have e8 := hO 8 (by kernel_rfl)
              simp only [eval_tmp, List.getElem?_toArray, List.getElem?_cons_succ, List.getElem?_cons_zero, Option.getD_some] at e8
              have ev8 := Lib.hid ((eval_tmp FA 8).trans e8)
              clear hO hD
              go_simp
              exact hK.out _ _ (Ex.refl _) rfl
            apply Steps.one (MP.eq _) 4 rfl
            · intro o ho FA x hO hD K hK
              obtain rfl := Option.some.inj ho.symm
              clear ho
              have ev128 : FA.eval (.tmp 128) = _ := hD 2 128 (by kernel_rfl)
              have e128 := (eval_tmp FA 128).symm.trans ev128
              replace ev128 := Lib.hid ev128
              clear hO hD
              go_simp
              exact hK.out _ _ (Ex.refl _) rfl
            apply Steps.one (MP.eq _) 5 rfl
            · intro o ho FA x hO hD K hK
              obtain rfl := Option.some.inj ho.symm
              clear ho
              have ev127 : FA.eval (.tmp 127) = _ := hD 1 127 (by kernel_rfl)
              have e127 := (eval_tmp FA 127).symm.trans ev127
              replace ev127 := Lib.hid ev127
              have ev129 : FA.eval (.tmp 129) = _ := hD 3 129 (by kernel_rfl)
              have e129 := (eval_tmp FA 129).symm.trans ev129
              replace ev129 := Lib.hid ev129
              clear hO hD
              go_simp
              exact hK.out _ _ (Ex.refl _) rfl
            apply Steps.one (MP.eq _) 6 rfl
            · intro o ho FA x hO hD K hK
              obtain rfl := Option.some.inj ho.symm
              clear ho
              have ev130 : FA.eval (.tmp 130) = _ := hD 4 130 (by kernel_rfl)
              have e130 := (eval_tmp FA 130).symm.trans ev130
              replace ev130 := Lib.hid ev130
              clear hO hD
              go_simp
              exact hK.out _ _ (Ex.refl _) rfl
            apply Steps.one (MP.eq _) 7 rfl
            · intro o ho FA x hO hD K hK
              obtain rfl := Option.some.inj ho.symm
              clear ho
              have e7 := hO 7 (by kernel_rfl)
              simp only [eval_tmp, List.getElem?_toArray, List.getElem?_cons_succ, List.getElem?_cons_zero, Option.getD_some] at e7
              have ev7 := Lib.hid ((eval_tmp FA 7).trans e7)
              have ev131 : FA.eval (.tmp 131) = _ := hD 5 131 (by kernel_rfl)
              have e131 := (eval_tmp FA 131).symm.trans ev131
              replace ev131 := Lib.hid ev131
              first | have ge131 := slot_of e131 | have ge131 := slot_un e131
              clear hO hD
              go_simp
              exact hK.out _ _ (Ex.refl _) rfl
            apply Steps.one (MP.eq _) 8 rfl
            · intro o ho FA x hO hD K hK
              obtain rfl := Option.some.inj ho.symm
              clear ho
              have e5 := hO 5 (by kernel_rfl)
              simp only [eval_tmp, List.getElem?_toArray, List.getElem?_cons_succ, List.getElem?_cons_zero, Option.getD_some] at e5
              have ev5 := Lib.hid ((eval_tmp FA 5).trans e5)
              have ev131 : FA.eval (.tmp 131) = _ := hD 5 131 (by kernel_rfl)
              have e131 := (eval_tmp FA 131).symm.trans ev131
              replace ev131 := Lib.hid ev131
              first | have ge131 := slot_of e131 | have ge131 := slot_un e131
              clear hO hD
              first | (refine wanted_ifG ?_ ?_; (· go_simp); refine wp_ldA 28 (.tmp 5) rfl (f.c) ev5.out (hf.later (below_plus _ _ _)) (whole_ _) v1 v2 (szFw f) ?_; exact hK.out _ _ (Ex.refl _) rfl) | (go_simp; exact hK.out _ _ (Ex.refl _) rfl)
            apply Steps.one (MP.eq _) 9 rfl
            · intro o ho FA x hO hD K hK
              obtain rfl := Option.some.inj ho.symm
              clear ho
              have ev132 : FA.eval (.tmp 132) = _ := hD 6 132 (by kernel_rfl)
              have e132 := (eval_tmp FA 132).symm.trans ev132
              replace ev132 := Lib.hid ev132
              have ev133 : FA.eval (.tmp 133) = _ := hD 7 133 (by kernel_rfl)
              have e133 := (eval_tmp FA 133).symm.trans ev133
              replace ev133 := Lib.hid ev133
              have ev131 : FA.eval (.tmp 131) = _ := hD 5 131 (by kernel_rfl)
              have e131 := (eval_tmp FA 131).symm.trans ev131
              replace ev131 := Lib.hid ev131
              first | have ge131 := slot_of e131 | have ge131 := slot_un e131
              clear hO hD
              first | (go_simp; exact hK.out _ _ (Ex.refl _) rfl) | (go_simp; refine (HH.out _ (below_plus _ _ _)).mono ?_; rintro e w1 ⟨bs2, d2, rfl, rfl⟩; exact hK.out _ _ (Ex.plus_ _ _ _) rfl)
            apply Steps.one (MP.eq _) 10 rfl
            · intro o ho FA x hO hD K hK
              obtain rfl := Option.some.inj ho.symm
              clear ho
              have e8 := hO 8 (by kernel_rfl)
              simp only [eval_tmp, List.getElem?_toArray, List.getElem?_cons_succ, List.getElem?_cons_zero, Option.getD_some] at e8
              have ev8 := Lib.hid ((eval_tmp FA 8).trans e8)
              have ev131 : FA.eval (.tmp 131) = _ := hD 5 131 (by kernel_rfl)
              have e131 := (eval_tmp FA 131).symm.trans ev131
              replace ev131 := Lib.hid ev131
              first | have ge131 := slot_of e131 | have ge131 := slot_un e131
              clear hO hD
              go_simp
              exact hK.out _ _ (Ex.refl _) rfl
            apply Steps.one (MP.eq _) 11 rfl
            · intro o ho FA x hO hD K hK
              obtain rfl := Option.some.inj ho.symm
              clear ho
              have e5 := hO 5 (by kernel_rfl)
              simp only [eval_tmp, List.getElem?_toArray, List.getElem?_cons_succ, List.getElem?_cons_zero, Option.getD_some] at e5
              have ev5 := Lib.hid ((eval_tmp FA 5).trans e5)
              have ev131 : FA.eval (.tmp 131) = _ := hD 5 131 (by kernel_rfl)
              have e131 := (eval_tmp FA 131).symm.trans ev131
              replace ev131 := Lib.hid ev131
              first | have ge131 := slot_of e131 | have ge131 := slot_un e131
              clear hO hD
              first | (refine wanted_ifG ?_ ?_; (· go_simp); refine wp_ldA 28 (.tmp 5) rfl (f.c) ev5.out (hf.later (below_plus _ _ _)) (whole_ _) v1 v2 (szFw f) ?_; exact hK.out _ _ (Ex.refl _) rfl) | (go_simp; exact hK.out _ _ (Ex.refl _) rfl)
            apply Steps.one (MP.eq _) 12 rfl
            · intro o ho FA x hO hD K hK
              obtain rfl := Option.some.inj ho.symm
              clear ho
              have ev135 : FA.eval (.tmp 135) = _ := hD 9 135 (by kernel_rfl)
              have e135 := (eval_tmp FA 135).symm.trans ev135
              replace ev135 := Lib.hid ev135
              have ev136 : FA.eval (.tmp 136) = _ := hD 10 136 (by kernel_rfl)
              have e136 := (eval_tmp FA 136).symm.trans ev136
              replace ev136 := Lib.hid ev136
              have ev131 : FA.eval (.tmp 131) = _ := hD 5 131 (by kernel_rfl)
              have e131 := (eval_tmp FA 131).symm.trans ev131
              replace ev131 := Lib.hid ev131
              first | have ge131 := slot_of e131 | have ge131 := slot_un e131
              clear hO hD
              first | (go_simp; exact hK.out _ _ (Ex.refl _) rfl) | (go_simp; refine (HI.out _ (below_plus _ _ _)).mono ?_; rintro e w1 ⟨bs2, d2, rfl, rfl⟩; exact hK.out _ _ (Ex.plus_ _ _ _) rfl)
            apply Steps.one (MP.eq _) 13 rfl
            · intro o ho FA x hO hD K hK
              obtain rfl := Option.some.inj ho.symm
              clear ho
              have ev137 : FA.eval (.tmp 137) = _ := hD 11 137 (by kernel_rfl)
              have e137 := (eval_tmp FA 137).symm.trans ev137
              replace ev137 := Lib.hid ev137
              have ev131 : FA.eval (.tmp 131) = _ := hD 5 131 (by kernel_rfl)
              have e131 := (eval_tmp FA 131).symm.trans ev131
              replace ev131 := Lib.hid ev131
              first | have ge131 := slot_of e131 | have ge131 := slot_un e131
              clear hO hD
              go_simp
              exact hK.out _ _ (Ex.refl _) rfl
            apply Steps.one (MP.eq _) 14 rfl
            · intro o ho FA x hO hD K hK
              obtain rfl := Option.some.inj ho.symm
              clear ho
              have ev134 : FA.eval (.tmp 134) = _ := hD 8 134 (by kernel_rfl)
              have e134 := (eval_tmp FA 134).symm.trans ev134
              replace ev134 := Lib.hid ev134
              have ev138 : FA.eval (.tmp 138) = _ := hD 12 138 (by kernel_rfl)
              have e138 := (eval_tmp FA 138).symm.trans ev138
              replace ev138 := Lib.hid ev138
              have ev131 : FA.eval (.tmp 131) = _ := hD 5 131 (by kernel_rfl)
              have e131 := (eval_tmp FA 131).symm.trans ev131
              replace ev131 := Lib.hid ev131
              first | have ge131 := slot_of e131 | have ge131 := slot_un e131
              clear hO hD
              go_simp
              exact hK.out _ _ (Ex.refl _) rfl
            apply Steps.one (MP.eq _) 15 rfl
            · intro o ho FA x hO hD K hK
              obtain rfl := Option.some.inj ho.symm
              clear ho
              have ev131 : FA.eval (.tmp 131) = _ := hD 5 131 (by kernel_rfl)
              have e131 := (eval_tmp FA 131).symm.trans ev131
              replace ev131 := Lib.hid ev131
              have ev139 : FA.eval (.tmp 139) = _ := hD 13 139 (by kernel_rfl)
              have e139 := (eval_tmp FA 139).symm.trans ev139
              replace ev139 := Lib.hid ev139
              clear hO hD
              go_simp
              exact hK.out _ _ (Ex.refl _) rfl
            refine Steps.fin_ (fun vs x hp => ?_)
            have p0 : vs 0 = _ := hp 0 (by omega)
            have p1 : vs 1 = _ := hp 1 (by omega)
            have p2 : vs 2 = _ := hp 2 (by omega)
            have p3 : vs 3 = _ := hp 3 (by omega)
            have p4 : vs 4 = _ := hp 4 (by omega)
            have p5 : vs 5 = _ := hp 5 (by omega)
            have p6 : vs 6 = _ := hp 6 (by omega)
            have p7 : vs 7 = _ := hp 7 (by omega)
            have p8 : vs 8 = _ := hp 8 (by omega)
            have p9 : vs 9 = _ := hp 9 (by omega)
            have p10 : vs 10 = _ := hp 10 (by omega)
            have p11 : vs 11 = _ := hp 11 (by omega)
            have p12 : vs 12 = _ := hp 12 (by omega)
            have p13 : vs 13 = _ := hp 13 (by omega)
            have p14 : vs 14 = _ := hp 14 (by omega)
            clear hp
            simp only [List.take_succ_cons, List.take_zero, List.drop_succ_cons, List.drop_zero, putAll, Nat.zero_add, Nat.reduceAdd, Act.put, List.setIfInBounds_toArray, List.set_cons_zero, List.set_cons_succ, p0, p1, p2, p3, p4, p5, p6, p7, p8, p9, p10, p11, p12, p13, p14]
            clear p0 p1 p2 p3 p4 p5 p6 p7 p8 p9 p10 p11 p12 p13 p14
            clear vs
            go_wp2
            exact ⟨⟨j + 1, A', lst.length, c', lst, by omega, by go_num, rfl, HS.out.later (below_plus _ _ _), hj2⟩, by simp [intOf]; omega⟩
          · have b2 : (ak == 2) = false := by simpa using k2
            by_cases hfull : N ≤ (lst.length : Int)
            · rcases lst with _ | ⟨y, s⟩
              · simp at hfull
                omega
              · have hsl : s.length + 1 ≤ n' := by simpa using hnl2
                have hfl : N ≤ (s.length : Int) + 1 := by simp at hfull; omega
                go_upto_region 11 with (fail)
                refine wp_region_lit ?_
                iterate 3 (refine wpList_plain rfl (fun K hK => ?_); go_simp; with_reducible refine hK _ _ ?_; clear hK K)
                refine wpList_ldA (t := 34) (cs := Ac.c ⟨ak, af, aw⟩) 28 (.tmp 55) rfl rfl (af.c) rfl (hA) rfl v1 v2 (szFw _) ?_
                refine wpList_plain rfl (fun K hK => ?_); go_simp; with_reducible refine hK _ _ ?_; clear hK K
                refine wpList_ld1 (t := 34) (cs := Ac.c ⟨ak, af, aw⟩) 26 (.tmp 57) rfl (by rfl) rfl (hA) rfl Try.underlying26 rfl ?_
                simp only [Act.put, List.setIfInBounds_toArray, List.set_cons_zero, List.set_cons_succ]
                refine wpList_build 45 [(0, .tmp 56), (1, .tmp 58)] rfl rfl (.agg (cnR (af, aw)).toArray) ?_ ?_
                · exact run_buildCn _ _ _
                refine wpList_plain rfl (fun K hK => ?_)
                go_simp
                refine (rput_evicts (y.f, y.wd) (Rl s) (Rl (y :: s)) (by simp [Rl]) A' n' c' N af aw W9 hS.rs (by omega) hnoR (by omega)).mono ?_
                rintro e w1 ⟨A2, n2, c2, bs2, d2, rfl, rfl, hO2⟩
                with_reducible refine hK _ _ ?_
                clear hK K
                iterate 6 (refine wpList_plain rfl (fun K hK => ?_); go_simp; with_reducible refine hK _ _ ?_; clear hK K)
                refine wpList_stA (t := 28) 28 (.tmp 18) (.tmp 62) rfl rfl (y.f.c) ([.bool false, .int .u64 0, .int .u64 0, .bool false, .int .u64 0, .int .u64 0, .int .u16 0, .int .u16 0, .int .u8 0]) rfl (Fw.c_one _) rfl rfl (Bk.newK (k := W9.heap.size + bs2.length) _ _ _ (by simp [size_plus]) rfl) (szFw _) ?_
                intro W1 hG hg1
                refine wpList_plain rfl (fun K hK => ?_); go_simp; with_reducible refine hK _ _ ?_; clear hK K
                have be9 : Below W9.heap.size W9 W1 := below_grown ((below_plus W9 bs2 d2).trans ((Below.allocS (Below.refl _ _) _).mono (below_plus W9 bs2 d2).size)) hg1 (by omega)
                have hO3 := hO2.later (below_grown (Below.allocS (Below.refl _ _) (.cells ([.bool false, .int .u64 0, .int .u64 0, .bool false, .int .u64 0, .int .u64 0, .int .u16 0, .int .u16 0, .int .u8 0]).toArray 28)) hg1 (by simp [size_plus]))
                have hlt := hS.co.lt
                have hGlt : W9.heap.size ≤ W9.heap.size + bs2.length := by omega
                have ha2 : ∀ a, A2 = some a → W9.heap.size ≤ a.block ∧ a.block < W9.heap.size + bs2.length := fun a e => by have h := hO2.blk a.block (by rw [e]; rfl); rw [size_plus] at h; exact h
                have hG1 := hG.lt
                generalize hgG : W9.heap.size + bs2.length = gG at *
                have hco1 := hS.co.later be9
                replace hA := hA.later be9
                clear hO2 hg1 hgG
                go_upto_region 13 with (fail)
                refine wp_region_lit ?_
                iterate 2 (refine wpList_plain rfl (fun K hK => ?_); go_simp; with_reducible refine hK _ _ ?_; clear hK K)
                refine wpList_ldA (t := 34) (cs := Ac.c ⟨ak, af, aw⟩) 28 (.tmp 67) rfl rfl (af.c) rfl (hA) rfl v1 v2 (szFw _) ?_
                refine wpList_plain rfl (fun K hK => ?_); go_simp; with_reducible refine hK _ _ ?_; clear hK K
                refine wpList_ld1 (t := 34) (cs := Ac.c ⟨ak, af, aw⟩) 26 (.tmp 69) rfl (by rfl) rfl (hA) rfl Try.underlying26 rfl ?_
                refine wpList_plain rfl (fun K hK => ?_)
                go_simp
                refine (put_evicts W1 cb m N y s af aw hco1 hno (by omega) (by simp; omega)).mono ?_
                rintro e w1 ⟨rfl, hcg, bn, hbn, hco2⟩
                with_reducible refine hK _ _ ?_
                clear hK K
                iterate 4 (refine wpList_plain rfl (fun K hK => ?_); go_simp; with_reducible refine hK _ _ ?_; clear hK K)
                refine wpList_stA (t := 28) 28 (.tmp 20) (.tmp 72) rfl rfl (y.f.c) ([.bool false, .int .u64 0, .int .u64 0, .bool false, .int .u64 0, .int .u64 0, .int .u16 0, .int .u16 0, .int .u8 0]) rfl (Fw.c_one _) rfl rfl (Bk.new w1 28 ([.bool false, .int .u64 0, .int .u64 0, .bool false, .int .u64 0, .int .u64 0, .int .u16 0, .int .u16 0, .int .u8 0]).toArray) (szFw _) ?_
                intro W hG2 hg2
                refine wpList_plain rfl (fun K hK => ?_); go_simp; with_reducible refine hK _ _ ?_; clear hK K
                replace hG := (hG.chg hcg (fun hd => by have := hlt _ hd; omega)).later (below_grown (Below.allocS (Below.refl _ _) (.cells ([.bool false, .int .u64 0, .int .u64 0, .bool false, .int .u64 0, .int .u64 0, .int .u16 0, .int .u16 0, .int .u8 0]).toArray 28)) hg2 (Nat.le_refl _))
                have be2 : Below w1.heap.size w1 W := below_grown (Below.allocS (Below.refl _ _) _) hg2 (Nat.le_refl _)
                have hS2 : PS w W cb m N f A2 n2 c2 (s ++ [(⟨af, aw, bn⟩ : En)]) := by
                  rw [show Rl s ++ [(af, aw)] = Rl (s ++ [⟨af, aw, bn⟩]) by simp [Rl]] at hO3
                  refine hS.go (B := W1.heap.size) (((Chg.of_below be9).trans hcg).trans (Chg.of_below be2)) be9.size (Nat.le_trans hcg.size be2.size) ((hO3.rs.chg hcg (fun a e hd => ?_)).later be2) (fun a e => ⟨(ha2 a e).1, by have := ha2 a e; omega⟩) (hco2.later be2) (fun b hb => ?_) ?_
                  · have h1 := ha2 a e
                    have h2 := hlt _ hd
                    omega
                  · rcases hb with h1 | h1 | ⟨z, hz, e⟩
                    · exact .inl (.inl h1)
                    · exact .inl (.inr (.inl h1))
                    · rcases List.mem_append.1 hz with h1 | h1
                      · exact .inl (.inr (.inr ⟨z, by simp [h1], e⟩))
                      · simp only [List.mem_cons, List.not_mem_nil, or_false] at h1
                        subst h1
                        exact .inr (by rw [← e]; exact hbn)
                  · have := hS.ll
                    simp at this ⊢
                    omega
                have hj2 : (s ++ [(⟨af, aw, bn⟩ : En)]).length ≤ j + 1 := by simp at hlj ⊢; omega
                generalize s ++ [(⟨af, aw, bn⟩ : En)] = lst2 at hS2 hj2
                generalize w1.heap.size = gH at hG2
                clear hS hco1 be9 hO3 hcg hco2 hA hg9 hlt hGlt ha2 hG1 be2 hg2
                go_upto_region 14 with (fail)
                refine wp_region_lit ?_
                refine wpList_ldA (t := 28) 28 (.tmp 20) rfl rfl (y.f.c) rfl (hG2) (whole_ _) v1 v2 (szFw _) ?_
                simp only [Act.put, List.setIfInBounds_toArray, List.set_cons_zero, List.set_cons_succ]
                refine wpList_ldA (t := 28) 28 (.tmp 18) rfl rfl (y.f.c) rfl (hG) (whole_ _) v1 v2 (szFw _) ?_
                iterate 2 (refine wpList_plain rfl (fun K hK => ?_); go_simp; with_reducible refine hK _ _ ?_; clear hK K)
                iterate 3 (refine wpList_step (fun K hK => ?_); go_simp; with_reducible refine hK _ _ ?_; clear hK K)
                refine wpList_plain rfl (fun K hK => ?_); go_simp; with_reducible refine hK _ _ ?_; clear hK K
                go_upto_region 28 with (fail)
                clear hG hG2
                obtain ⟨v, hv, hix⟩ := index_is f (Rl lst2)
                obtain rfl := hS2.len
                have HL := Lib.hid (fun V (h : Below W.heap.size W V) => len_any V cb m N lst2 (hS2.co.later h))
                have HH := Lib.hid (fun V (h : Below W.heap.size W V) => has_any V cb m N lst2 f (hS2.co.later h))
                have HI := Lib.hid (fun V (h : Below W.heap.size W V) => hix A2 lst2.length c2 V (hS2.rs.later h) (by omega))
                have hvb : decide (0 ≤ v) = decide (∃ x ∈ lst2, x.f = f) := hv.trans (Rl_ex f lst2)
                generalize decide (∃ x ∈ lst2, x.f = f) = bb at *
                have hf := hS2.hf
                have HS := Lib.hid hS2
                clear hS2 hv hix
                go_wp2
                refine wp_relS 15 190 rfl (by kernel_rfl) (by kernel_rfl) ?_
                apply Steps.one (MP.eq _) 1 rfl
                · intro o ho FA x hO hD K hK
                  obtain rfl := Option.some.inj ho.symm
                  clear ho
                  have e7 := hO 7 (by kernel_rfl)
                  simp only [eval_tmp, List.getElem?_toArray, List.getElem?_cons_succ, List.getElem?_cons_zero, Option.getD_some] at e7
                  have ev7 := Lib.hid ((eval_tmp FA 7).trans e7)
                  clear hO hD
                  go_simp
                  exact hK.out _ _ (Ex.refl _) rfl
                apply Steps.one (MP.eq _) 2 rfl
                · intro o ho FA x hO hD K hK
                  obtain rfl := Option.some.inj ho.symm
                  clear ho
                  have ev126 : FA.eval (.tmp 126) = _ := hD 0 126 (by kernel_rfl)
                  have e126 := (eval_tmp FA 126).symm.trans ev126
                  replace ev126 := Lib.hid ev126
                  clear hO hD
                  go_simp
                  refine (HL.out _ (below_plus _ _ _)).mono ?_
                  rintro e w1 ⟨bs2, d2, rfl, rfl⟩
                  exact hK.out _ _ (Ex.plus_ _ _ _) rfl
                apply Steps.one (MP.eq _) 3 rfl
                · intro o ho FA x hO hD K hK
                  obtain rfl := Option.some.inj ho.symm
                  clear ho
                  have e8 := hO 8 (by kernel_rfl)
                  simp only [eval_tmp, List.getElem?_toArray, List.getElem?_cons_succ, List.getElem?_cons_zero, Option.getD_some] at e8
                  have ev8 := Lib.hid ((eval_tmp FA 8).trans e8)
                  clear hO hD
                  go_simp
                  exact hK.out _ _ (Ex.refl _) rfl
                apply Steps.one (MP.eq _) 4 rfl
                · intro o ho FA x hO hD K hK
                  obtain rfl := Option.some.inj ho.symm
                  clear ho
                  have ev128 : FA.eval (.tmp 128) = _ := hD 2 128 (by kernel_rfl)
                  have e128 := (eval_tmp FA 128).symm.trans ev128
                  replace ev128 := Lib.hid ev128
                  clear hO hD
                  go_simp
                  exact hK.out _ _ (Ex.refl _) rfl
                apply Steps.one (MP.eq _) 5 rfl
                · intro o ho FA x hO hD K hK
                  obtain rfl := Option.some.inj ho.symm
                  clear ho
                  have ev127 : FA.eval (.tmp 127) = _ := hD 1 127 (by kernel_rfl)
                  have e127 := (eval_tmp FA 127).symm.trans ev127
                  replace ev127 := Lib.hid ev127
                  have ev129 : FA.eval (.tmp 129) = _ := hD 3 129 (by kernel_rfl)
                  have e129 := (eval_tmp FA 129).symm.trans ev129
                  replace ev129 := Lib.hid ev129
                  clear hO hD
                  go_simp
                  exact hK.out _ _ (Ex.refl _) rfl
                apply Steps.one (MP.eq _) 6 rfl
                · intro o ho FA x hO hD K hK
                  obtain rfl := Option.some.inj ho.symm
                  clear ho
                  have ev130 : FA.eval (.tmp 130) = _ := hD 4 130 (by kernel_rfl)
                  have e130 := (eval_tmp FA 130).symm.trans ev130
                  replace ev130 := Lib.hid ev130
                  clear hO hD
                  go_simp
                  exact hK.out _ _ (Ex.refl _) rfl
                apply Steps.one (MP.eq _) 7 rfl
                · intro o ho FA x hO hD K hK
                  obtain rfl := Option.some.inj ho.symm
                  clear ho
                  have e7 := hO 7 (by kernel_rfl)
                  simp only [eval_tmp, List.getElem?_toArray, List.getElem?_cons_succ, List.getElem?_cons_zero, Option.getD_some] at e7
                  have ev7 := Lib.hid ((eval_tmp FA 7).trans e7)
                  have ev131 : FA.eval (.tmp 131) = _ := hD 5 131 (by kernel_rfl)
                  have e131 := (eval_tmp FA 131).symm.trans ev131
                  replace ev131 := Lib.hid ev131
                  first | have ge131 := slot_of e131 | have ge131 := slot_un e131
                  clear hO hD
                  go_simp
                  exact hK.out _ _ (Ex.refl _) rfl
                apply Steps.one (MP.eq _) 8 rfl
                · intro o ho FA x hO hD K hK
                  obtain rfl := Option.some.inj ho.symm
                  clear ho
                  have e5 := hO 5 (by kernel_rfl)
                  simp only [eval_tmp, List.getElem?_toArray, List.getElem?_cons_succ, List.getElem?_cons_zero, Option.getD_some] at e5
                  have ev5 := Lib.hid ((eval_tmp FA 5).trans e5)
                  have ev131 : FA.eval (.tmp 131) = _ := hD 5 131 (by kernel_rfl)
                  have e131 := (eval_tmp FA 131).symm.trans ev131
                  replace ev131 := Lib.hid ev131
                  first | have ge131 := slot_of e131 | have ge131 := slot_un e131
                  clear hO hD
                  first | (refine wanted_ifG ?_ ?_; (· go_simp); refine wp_ldA 28 (.tmp 5) rfl (f.c) ev5.out (hf.later (below_plus _ _ _)) (whole_ _) v1 v2 (szFw f) ?_; exact hK.out _ _ (Ex.refl _) rfl) | (go_simp; exact hK.out _ _ (Ex.refl _) rfl)
                apply Steps.one (MP.eq _) 9 rfl
                · intro o ho FA x hO hD K hK
                  obtain rfl := Option.some.inj ho.symm
                  clear ho
                  have ev132 : FA.eval (.tmp 132) = _ := hD 6 132 (by kernel_rfl)
                  have e132 := (eval_tmp FA 132).symm.trans ev132
                  replace ev132 := Lib.hid ev132
                  have ev133 : FA.eval (.tmp 133) = _ := hD 7 133 (by kernel_rfl)
                  have e133 := (eval_tmp FA 133).symm.trans ev133
                  replace ev133 := Lib.hid ev133
                  have ev131 : FA.eval (.tmp 131) = _ := hD 5 131 (by kernel_rfl)
                  have e131 := (eval_tmp FA 131).symm.trans ev131
                  replace ev131 := Lib.hid ev131
                  first | have ge131 := slot_of e131 | have ge131 := slot_un e131
                  clear hO hD
                  first | (go_simp; exact hK.out _ _ (Ex.refl _) rfl) | (go_simp; refine (HH.out _ (below_plus _ _ _)).mono ?_; rintro e w1 ⟨bs2, d2, rfl, rfl⟩; exact hK.out _ _ (Ex.plus_ _ _ _) rfl)
                apply Steps.one (MP.eq _) 10 rfl
                · intro o ho FA x hO hD K hK
                  obtain rfl := Option.some.inj ho.symm
                  clear ho
                  have e8 := hO 8 (by kernel_rfl)
                  simp only [eval_tmp, List.getElem?_toArray, List.getElem?_cons_succ, List.getElem?_cons_zero, Option.getD_some] at e8
                  have ev8 := Lib.hid ((eval_tmp FA 8).trans e8)
                  have ev131 : FA.eval (.tmp 131) = _ := hD 5 131 (by kernel_rfl)
                  have e131 := (eval_tmp FA 131).symm.trans ev131
                  replace ev131 := Lib.hid ev131
                  first | have ge131 := slot_of e131 | have ge131 := slot_un e131
                  clear hO hD
                  go_simp
                  exact hK.out _ _ (Ex.refl _) rfl
                apply Steps.one (MP.eq _) 11 rfl
                · intro o ho FA x hO hD K hK
                  obtain rfl := Option.some.inj ho.symm
                  clear ho
                  have e5 := hO 5 (by kernel_rfl)
                  simp only [eval_tmp, List.getElem?_toArray, List.getElem?_cons_succ, List.getElem?_cons_zero, Option.getD_some] at e5
                  have ev5 := Lib.hid ((eval_tmp FA 5).trans e5)
                  have ev131 : FA.eval (.tmp 131) = _ := hD 5 131 (by kernel_rfl)
                  have e131 := (eval_tmp FA 131).symm.trans ev131
                  replace ev131 := Lib.hid ev131
                  first | have ge131 := slot_of e131 | have ge131 := slot_un e131
                  clear hO hD
                  first | (refine wanted_ifG ?_ ?_; (· go_simp); refine wp_ldA 28 (.tmp 5) rfl (f.c) ev5.out (hf.later (below_plus _ _ _)) (whole_ _) v1 v2 (szFw f) ?_; exact hK.out _ _ (Ex.refl _) rfl) | (go_simp; exact hK.out _ _ (Ex.refl _) rfl)
                apply Steps.one (MP.eq _) 12 rfl
                · intro o ho FA x hO hD K hK
                  obtain rfl := Option.some.inj ho.symm
                  clear ho
                  have ev135 : FA.eval (.tmp 135) = _ := hD 9 135 (by kernel_rfl)
                  have e135 := (eval_tmp FA 135).symm.trans ev135
                  replace ev135 := Lib.hid ev135
                  have ev136 : FA.eval (.tmp 136) = _ := hD 10 136 (by kernel_rfl)
                  have e136 := (eval_tmp FA 136).symm.trans ev136
                  replace ev136 := Lib.hid ev136
                  have ev131 : FA.eval (.tmp 131) = _ := hD 5 131 (by kernel_rfl)
                  have e131 := (eval_tmp FA 131).symm.trans ev131
                  replace ev131 := Lib.hid ev131
                  first | have ge131 := slot_of e131 | have ge131 := slot_un e131
                  clear hO hD
                  first | (go_simp; exact hK.out _ _ (Ex.refl _) rfl) | (go_simp; refine (HI.out _ (below_plus _ _ _)).mono ?_; rintro e w1 ⟨bs2, d2, rfl, rfl⟩; exact hK.out _ _ (Ex.plus_ _ _ _) rfl)
                apply Steps.one (MP.eq _) 13 rfl
                · intro o ho FA x hO hD K hK
                  obtain rfl := Option.some.inj ho.symm
                  clear ho
                  have ev137 : FA.eval (.tmp 137) = _ := hD 11 137 (by kernel_rfl)
                  have e137 := (eval_tmp FA 137).symm.trans ev137
                  replace ev137 := Lib.hid ev137
                  have ev131 : FA.eval (.tmp 131) = _ := hD 5 131 (by kernel_rfl)
                  have e131 := (eval_tmp FA 131).symm.trans ev131
                  replace ev131 := Lib.hid ev131
                  first | have ge131 := slot_of e131 | have ge131 := slot_un e131
                  clear hO hD
                  go_simp
                  exact hK.out _ _ (Ex.refl _) rfl
                apply Steps.one (MP.eq _) 14 rfl
                · intro o ho FA x hO hD K hK
                  obtain rfl := Option.some.inj ho.symm
                  clear ho
                  have ev134 : FA.eval (.tmp 134) = _ := hD 8 134 (by kernel_rfl)
                  have e134 := (eval_tmp FA 134).symm.trans ev134
                  replace ev134 := Lib.hid ev134
                  have ev138 : FA.eval (.tmp 138) = _ := hD 12 138 (by kernel_rfl)
                  have e138 := (eval_tmp FA 138).symm.trans ev138
                  replace ev138 := Lib.hid ev138
                  have ev131 : FA.eval (.tmp 131) = _ := hD 5 131 (by kernel_rfl)
                  have e131 := (eval_tmp FA 131).symm.trans ev131
                  replace ev131 := Lib.hid ev131
                  first | have ge131 := slot_of e131 | have ge131 := slot_un e131
                  clear hO hD
                  go_simp
                  exact hK.out _ _ (Ex.refl _) rfl
                apply Steps.one (MP.eq _) 15 rfl
                · intro o ho FA x hO hD K hK
                  obtain rfl := Option.some.inj ho.symm
                  clear ho
                  have ev131 : FA.eval (.tmp 131) = _ := hD 5 131 (by kernel_rfl)
                  have e131 := (eval_tmp FA 131).symm.trans ev131
                  replace ev131 := Lib.hid ev131
                  have ev139 : FA.eval (.tmp 139) = _ := hD 13 139 (by kernel_rfl)
                  have e139 := (eval_tmp FA 139).symm.trans ev139
                  replace ev139 := Lib.hid ev139
                  clear hO hD
                  go_simp
                  exact hK.out _ _ (Ex.refl _) rfl
                refine Steps.fin_ (fun vs x hp => ?_)
                have p0 : vs 0 = _ := hp 0 (by omega)
                have p1 : vs 1 = _ := hp 1 (by omega)
                have p2 : vs 2 = _ := hp 2 (by omega)
                have p3 : vs 3 = _ := hp 3 (by omega)
                have p4 : vs 4 = _ := hp 4 (by omega)
                have p5 : vs 5 = _ := hp 5 (by omega)
                have p6 : vs 6 = _ := hp 6 (by omega)
                have p7 : vs 7 = _ := hp 7 (by omega)
                have p8 : vs 8 = _ := hp 8 (by omega)
                have p9 : vs 9 = _ := hp 9 (by omega)
                have p10 : vs 10 = _ := hp 10 (by omega)
                have p11 : vs 11 = _ := hp 11 (by omega)
                have p12 : vs 12 = _ := hp 12 (by omega)
                have p13 : vs 13 = _ := hp 13 (by omega)
                have p14 : vs 14 = _ := hp 14 (by omega)
                clear hp
                simp only [List.take_succ_cons, List.take_zero, List.drop_succ_cons, List.drop_zero, putAll, Nat.zero_add, Nat.reduceAdd, Act.put, List.setIfInBounds_toArray, List.set_cons_zero, List.set_cons_succ, p0, p1, p2, p3, p4, p5, p6, p7, p8, p9, p10, p11, p12, p13, p14]
                clear p0 p1 p2 p3 p4 p5 p6 p7 p8 p9 p10 p11 p12 p13 p14
                clear vs
                go_wp2
                exact ⟨⟨j + 1, A2, lst2.length, c2, lst2, by omega, by go_num, rfl, HS.out.later (below_plus _ _ _), hj2⟩, by simp [intOf]; omega⟩
            · skip
              go_upto_region 11 with (fail)
              refine wp_region_lit ?_
              iterate 3 (refine wpList_plain rfl (fun K hK => ?_); go_simp; with_reducible refine hK _ _ ?_; clear hK K)
              refine wpList_ldA (t := 34) (cs := Ac.c ⟨ak, af, aw⟩) 28 (.tmp 55) rfl rfl (af.c) rfl (hA) rfl v1 v2 (szFw _) ?_
              refine wpList_plain rfl (fun K hK => ?_); go_simp; with_reducible refine hK _ _ ?_; clear hK K
              refine wpList_ld1 (t := 34) (cs := Ac.c ⟨ak, af, aw⟩) 26 (.tmp 57) rfl (by rfl) rfl (hA) rfl Try.underlying26 rfl ?_
              simp only [Act.put, List.setIfInBounds_toArray, List.set_cons_zero, List.set_cons_succ]
              refine wpList_build 45 [(0, .tmp 56), (1, .tmp 58)] rfl rfl (.agg (cnR (af, aw)).toArray) ?_ ?_
              · exact run_buildCn _ _ _
              refine wpList_plain rfl (fun K hK => ?_)
              go_simp
              refine (rput_adds (Rl lst) A' n' c' N af aw W9 hS.rs (by omega) hnoR (by omega) (fun a e => (hS.ra a e).2.2)).mono ?_
              rintro e w1 ⟨A2, n2, c2, bs2, d2, rfl, rfl, hO2⟩
              with_reducible refine hK _ _ ?_
              clear hK K
              iterate 6 (refine wpList_plain rfl (fun K hK => ?_); go_simp; with_reducible refine hK _ _ ?_; clear hK K)
              refine wpList_stA (t := 28) 28 (.tmp 18) (.tmp 62) rfl rfl (fw0.c) ([.bool false, .int .u64 0, .int .u64 0, .bool false, .int .u64 0, .int .u64 0, .int .u16 0, .int .u16 0, .int .u8 0]) rfl (Fw.c_one _) rfl rfl (Bk.newK (k := W9.heap.size + bs2.length) _ _ _ (by simp [size_plus]) rfl) (szFw _) ?_
              intro W1 hG hg1
              refine wpList_plain rfl (fun K hK => ?_); go_simp; with_reducible refine hK _ _ ?_; clear hK K
              have be9 : Below W9.heap.size W9 W1 := below_grown ((below_plus W9 bs2 d2).trans ((Below.allocS (Below.refl _ _) _).mono (below_plus W9 bs2 d2).size)) hg1 (by omega)
              have hO3 := hO2.later (below_grown (Below.allocS (Below.refl _ _) (.cells ([.bool false, .int .u64 0, .int .u64 0, .bool false, .int .u64 0, .int .u64 0, .int .u16 0, .int .u16 0, .int .u8 0]).toArray 28)) hg1 (by simp [size_plus]))
              have hlt := hS.co.lt
              have hGlt : W9.heap.size ≤ W9.heap.size + bs2.length := by omega
              have ha2 : ∀ a, A2 = some a → W9.heap.size ≤ a.block ∧ a.block < W9.heap.size + bs2.length := fun a e => by have h := hO2.blk a.block (by rw [e]; rfl); rw [size_plus] at h; exact h
              have hG1 := hG.lt
              generalize hgG : W9.heap.size + bs2.length = gG at *
              have hco1 := hS.co.later be9
              replace hA := hA.later be9
              clear hO2 hg1 hgG
              go_upto_region 13 with (fail)
              refine wp_region_lit ?_
              iterate 2 (refine wpList_plain rfl (fun K hK => ?_); go_simp; with_reducible refine hK _ _ ?_; clear hK K)
              refine wpList_ldA (t := 34) (cs := Ac.c ⟨ak, af, aw⟩) 28 (.tmp 67) rfl rfl (af.c) rfl (hA) rfl v1 v2 (szFw _) ?_
              refine wpList_plain rfl (fun K hK => ?_); go_simp; with_reducible refine hK _ _ ?_; clear hK K
              refine wpList_ld1 (t := 34) (cs := Ac.c ⟨ak, af, aw⟩) 26 (.tmp 69) rfl (by rfl) rfl (hA) rfl Try.underlying26 rfl ?_
              refine wpList_plain rfl (fun K hK => ?_)
              go_simp
              refine (put_adds W1 cb m N lst af aw hco1 hno (by omega) (by omega)).mono ?_
              rintro e w1 ⟨rfl, hcg, bn, hbn, hco2⟩
              with_reducible refine hK _ _ ?_
              clear hK K
              iterate 4 (refine wpList_plain rfl (fun K hK => ?_); go_simp; with_reducible refine hK _ _ ?_; clear hK K)
              refine wpList_stA (t := 28) 28 (.tmp 20) (.tmp 72) rfl rfl (fw0.c) ([.bool false, .int .u64 0, .int .u64 0, .bool false, .int .u64 0, .int .u64 0, .int .u16 0, .int .u16 0, .int .u8 0]) rfl (Fw.c_one _) rfl rfl (Bk.new w1 28 ([.bool false, .int .u64 0, .int .u64 0, .bool false, .int .u64 0, .int .u64 0, .int .u16 0, .int .u16 0, .int .u8 0]).toArray) (szFw _) ?_
              intro W hG2 hg2
              refine wpList_plain rfl (fun K hK => ?_); go_simp; with_reducible refine hK _ _ ?_; clear hK K
              replace hG := (hG.chg hcg (fun hd => by have := hlt _ hd; omega)).later (below_grown (Below.allocS (Below.refl _ _) (.cells ([.bool false, .int .u64 0, .int .u64 0, .bool false, .int .u64 0, .int .u64 0, .int .u16 0, .int .u16 0, .int .u8 0]).toArray 28)) hg2 (Nat.le_refl _))
              have be2 : Below w1.heap.size w1 W := below_grown (Below.allocS (Below.refl _ _) _) hg2 (Nat.le_refl _)
              have hS2 : PS w W cb m N f A2 n2 c2 (lst ++ [(⟨af, aw, bn⟩ : En)]) := by
                rw [show Rl lst ++ [(af, aw)] = Rl (lst ++ [⟨af, aw, bn⟩]) by simp [Rl]] at hO3
                refine hS.go (B := W1.heap.size) (((Chg.of_below be9).trans hcg).trans (Chg.of_below be2)) be9.size (Nat.le_trans hcg.size be2.size) ((hO3.rs.chg hcg (fun a e hd => ?_)).later be2) (fun a e => ⟨(ha2 a e).1, by have := ha2 a e; omega⟩) (hco2.later be2) (fun b hb => ?_) ?_
                · have h1 := ha2 a e
                  have h2 := hlt _ hd
                  omega
                · rcases hb with h1 | h1 | ⟨y, hy, e⟩
                  · exact .inl (.inl h1)
                  · exact .inl (.inr (.inl h1))
                  · rcases List.mem_append.1 hy with h1 | h1
                    · exact .inl (.inr (.inr ⟨y, h1, e⟩))
                    · simp only [List.mem_cons, List.not_mem_nil, or_false] at h1
                      subst h1
                      exact .inr (by rw [← e]; exact hbn)
                · simp
                  omega
              have hj2 : (lst ++ [(⟨af, aw, bn⟩ : En)]).length ≤ j + 1 := by simp at hlj ⊢; omega
              generalize lst ++ [(⟨af, aw, bn⟩ : En)] = lst2 at hS2 hj2
              generalize w1.heap.size = gH at hG2
              clear hS hco1 be9 hO3 hcg hco2 hA hg9 hlt hGlt ha2 hG1 be2 hg2
              go_upto_region 14 with (fail)
              refine wp_region_lit ?_
              refine wpList_ldA (t := 28) 28 (.tmp 20) rfl rfl (fw0.c) rfl (hG2) (whole_ _) v1 v2 (szFw _) ?_
              simp only [Act.put, List.setIfInBounds_toArray, List.set_cons_zero, List.set_cons_succ]
              refine wpList_ldA (t := 28) 28 (.tmp 18) rfl rfl (fw0.c) rfl (hG) (whole_ _) v1 v2 (szFw _) ?_
              iterate 2 (refine wpList_plain rfl (fun K hK => ?_); go_simp; with_reducible refine hK _ _ ?_; clear hK K)
              iterate 3 (refine wpList_step (fun K hK => ?_); go_simp; with_reducible refine hK _ _ ?_; clear hK K)
              refine wpList_plain rfl (fun K hK => ?_); go_simp; with_reducible refine hK _ _ ?_; clear hK K
              go_upto_region 28 with (fail)
              clear hG hG2
              obtain ⟨v, hv, hix⟩ := index_is f (Rl lst2)
              obtain rfl := hS2.len
              have HL := Lib.hid (fun V (h : Below W.heap.size W V) => len_any V cb m N lst2 (hS2.co.later h))
              have HH := Lib.hid (fun V (h : Below W.heap.size W V) => has_any V cb m N lst2 f (hS2.co.later h))
              have HI := Lib.hid (fun V (h : Below W.heap.size W V) => hix A2 lst2.length c2 V (hS2.rs.later h) (by omega))
              have hvb : decide (0 ≤ v) = decide (∃ x ∈ lst2, x.f = f) := hv.trans (Rl_ex f lst2)
              generalize decide (∃ x ∈ lst2, x.f = f) = bb at *
              have hf := hS2.hf
              have HS := Lib.hid hS2
              clear hS2 hv hix
              go_wp2
              refine wp_relS 15 190 rfl (by kernel_rfl) (by kernel_rfl) ?_
              apply Steps.one (MP.eq _) 1 rfl
              · intro o ho FA x hO hD K hK
                obtain rfl := Option.some.inj ho.symm
                clear ho
                have e7 := hO 7 (by kernel_rfl)
                simp only [eval_tmp, List.getElem?_toArray, List.getElem?_cons_succ, List.getElem?_cons_zero, Option.getD_some] at e7
                have ev7 := Lib.hid ((eval_tmp FA 7).trans e7)
                clear hO hD
                go_simp
                exact hK.out _ _ (Ex.refl _) rfl
              apply Steps.one (MP.eq _) 2 rfl
              · intro o ho FA x hO hD K hK
                obtain rfl := Option.some.inj ho.symm
                clear ho
                have ev126 : FA.eval (.tmp 126) = _ := hD 0 126 (by kernel_rfl)
                have e126 := (eval_tmp FA 126).symm.trans ev126
                replace ev126 := Lib.hid ev126
                clear hO hD
                go_simp
                refine (HL.out _ (below_plus _ _ _)).mono ?_
                rintro e w1 ⟨bs2, d2, rfl, rfl⟩
                exact hK.out _ _ (Ex.plus_ _ _ _) rfl
              apply Steps.one (MP.eq _) 3 rfl
              · intro o ho FA x hO hD K hK
                obtain rfl := Option.some.inj ho.symm
                clear ho
                have e8 := hO 8 (by kernel_rfl)
                simp only [eval_tmp, List.getElem?_toArray, List.getElem?_cons_succ, List.getElem?_cons_zero, Option.getD_some] at e8
                have ev8 := Lib.hid ((eval_tmp FA 8).trans e8)
                clear hO hD
                go_simp
                exact hK.out _ _ (Ex.refl _) rfl
              apply Steps.one (MP.eq _) 4 rfl
              · intro o ho FA x hO hD K hK
                obtain rfl := Option.some.inj ho.symm
                clear ho
                have ev128 : FA.eval (.tmp 128) = _ := hD 2 128 (by kernel_rfl)
                have e128 := (eval_tmp FA 128).symm.trans ev128
                replace ev128 := Lib.hid ev128
                clear hO hD
                go_simp
                exact hK.out _ _ (Ex.refl _) rfl
              apply Steps.one (MP.eq _) 5 rfl
              · intro o ho FA x hO hD K hK
                obtain rfl := Option.some.inj ho.symm
                clear ho
                have ev127 : FA.eval (.tmp 127) = _ := hD 1 127 (by kernel_rfl)
                have e127 := (eval_tmp FA 127).symm.trans ev127
                replace ev127 := Lib.hid ev127
                have ev129 : FA.eval (.tmp 129) = _ := hD 3 129 (by kernel_rfl)
                have e129 := (eval_tmp FA 129).symm.trans ev129
                replace ev129 := Lib.hid ev129
                clear hO hD
                go_simp
                exact hK.out _ _ (Ex.refl _) rfl
              apply Steps.one (MP.eq _) 6 rfl
              · intro o ho FA x hO hD K hK
                obtain rfl := Option.some.inj ho.symm
                clear ho
                have ev130 : FA.eval (.tmp 130) = _ := hD 4 130 (by kernel_rfl)
                have e130 := (eval_tmp FA 130).symm.trans ev130
                replace ev130 := Lib.hid ev130
                clear hO hD
                go_simp
                exact hK.out _ _ (Ex.refl _) rfl
              apply Steps.one (MP.eq _) 7 rfl
              · intro o ho FA x hO hD K hK
                obtain rfl := Option.some.inj ho.symm
                clear ho
                have e7 := hO 7 (by kernel_rfl)
                simp only [eval_tmp, List.getElem?_toArray, List.getElem?_cons_succ, List.getElem?_cons_zero, Option.getD_some] at e7
                have ev7 := Lib.hid ((eval_tmp FA 7).trans e7)
                have ev131 : FA.eval (.tmp 131) = _ := hD 5 131 (by kernel_rfl)
                have e131 := (eval_tmp FA 131).symm.trans ev131
                replace ev131 := Lib.hid ev131
                first | have ge131 := slot_of e131 | have ge131 := slot_un e131
                clear hO hD
                go_simp
                exact hK.out _ _ (Ex.refl _) rfl
              apply Steps.one (MP.eq _) 8 rfl
              · intro o ho FA x hO hD K hK
                obtain rfl := Option.some.inj ho.symm
                clear ho
                have e5 := hO 5 (by kernel_rfl)
                simp only [eval_tmp, List.getElem?_toArray, List.getElem?_cons_succ, List.getElem?_cons_zero, Option.getD_some] at e5
                have ev5 := Lib.hid ((eval_tmp FA 5).trans e5)
                have ev131 : FA.eval (.tmp 131) = _ := hD 5 131 (by kernel_rfl)
                have e131 := (eval_tmp FA 131).symm.trans ev131
                replace ev131 := Lib.hid ev131
                first | have ge131 := slot_of e131 | have ge131 := slot_un e131
                clear hO hD
                first | (refine wanted_ifG ?_ ?_; (· go_simp); refine wp_ldA 28 (.tmp 5) rfl (f.c) ev5.out (hf.later (below_plus _ _ _)) (whole_ _) v1 v2 (szFw f) ?_; exact hK.out _ _ (Ex.refl _) rfl) | (go_simp; exact hK.out _ _ (Ex.refl _) rfl)
              apply Steps.one (MP.eq _) 9 rfl
              · intro o ho FA x hO hD K hK
                obtain rfl := Option.some.inj ho.symm
                clear ho
                have ev132 : FA.eval (.tmp 132) = _ := hD 6 132 (by kernel_rfl)
                have e132 := (eval_tmp FA 132).symm.trans ev132
                replace ev132 := Lib.hid ev132
                have ev133 : FA.eval (.tmp 133) = _ := hD 7 133 (by kernel_rfl)
                have e133 := (eval_tmp FA 133).symm.trans ev133
                replace ev133 := Lib.hid ev133
                have ev131 : FA.eval (.tmp 131) = _ := hD 5 131 (by kernel_rfl)
                have e131 := (eval_tmp FA 131).symm.trans ev131
                replace ev131 := Lib.hid ev131
                first | have ge131 := slot_of e131 | have ge131 := slot_un e131
                clear hO hD
                first | (go_simp; exact hK.out _ _ (Ex.refl _) rfl) | (go_simp; refine (HH.out _ (below_plus _ _ _)).mono ?_; rintro e w1 ⟨bs2, d2, rfl, rfl⟩; exact hK.out _ _ (Ex.plus_ _ _ _) rfl)
              apply Steps.one (MP.eq _) 10 rfl
              · intro o ho FA x hO hD K hK
                obtain rfl := Option.some.inj ho.symm
                clear ho
                have e8 := hO 8 (by kernel_rfl)
                simp only [eval_tmp, List.getElem?_toArray, List.getElem?_cons_succ, List.getElem?_cons_zero, Option.getD_some] at e8
                have ev8 := Lib.hid ((eval_tmp FA 8).trans e8)
                have ev131 : FA.eval (.tmp 131) = _ := hD 5 131 (by kernel_rfl)
                have e131 := (eval_tmp FA 131).symm.trans ev131
                replace ev131 := Lib.hid ev131
                first | have ge131 := slot_of e131 | have ge131 := slot_un e131
                clear hO hD
                go_simp
                exact hK.out _ _ (Ex.refl _) rfl
              apply Steps.one (MP.eq _) 11 rfl
              · intro o ho FA x hO hD K hK
                obtain rfl := Option.some.inj ho.symm
                clear ho
                have e5 := hO 5 (by kernel_rfl)
                simp only [eval_tmp, List.getElem?_toArray, List.getElem?_cons_succ, List.getElem?_cons_zero, Option.getD_some] at e5
                have ev5 := Lib.hid ((eval_tmp FA 5).trans e5)
                have ev131 : FA.eval (.tmp 131) = _ := hD 5 131 (by kernel_rfl)
                have e131 := (eval_tmp FA 131).symm.trans ev131
                replace ev131 := Lib.hid ev131
                first | have ge131 := slot_of e131 | have ge131 := slot_un e131
                clear hO hD
                first | (refine wanted_ifG ?_ ?_; (· go_simp); refine wp_ldA 28 (.tmp 5) rfl (f.c) ev5.out (hf.later (below_plus _ _ _)) (whole_ _) v1 v2 (szFw f) ?_; exact hK.out _ _ (Ex.refl _) rfl) | (go_simp; exact hK.out _ _ (Ex.refl _) rfl)
              apply Steps.one (MP.eq _) 12 rfl
              · intro o ho FA x hO hD K hK
                obtain rfl := Option.some.inj ho.symm
                clear ho
                have ev135 : FA.eval (.tmp 135) = _ := hD 9 135 (by kernel_rfl)
                have e135 := (eval_tmp FA 135).symm.trans ev135
                replace ev135 := Lib.hid ev135
                have ev136 : FA.eval (.tmp 136) = _ := hD 10 136 (by kernel_rfl)
                have e136 := (eval_tmp FA 136).symm.trans ev136
                replace ev136 := Lib.hid ev136
                have ev131 : FA.eval (.tmp 131) = _ := hD 5 131 (by kernel_rfl)
                have e131 := (eval_tmp FA 131).symm.trans ev131
                replace ev131 := Lib.hid ev131
                first | have ge131 := slot_of e131 | have ge131 := slot_un e131
                clear hO hD
                first | (go_simp; exact hK.out _ _ (Ex.refl _) rfl) | (go_simp; refine (HI.out _ (below_plus _ _ _)).mono ?_; rintro e w1 ⟨bs2, d2, rfl, rfl⟩; exact hK.out _ _ (Ex.plus_ _ _ _) rfl)
              apply Steps.one (MP.eq _) 13 rfl
              · intro o ho FA x hO hD K hK
                obtain rfl := Option.some.inj ho.symm
                clear ho
                have ev137 : FA.eval (.tmp 137) = _ := hD 11 137 (by kernel_rfl)
                have e137 := (eval_tmp FA 137).symm.trans ev137
                replace ev137 := Lib.hid ev137
                have ev131 : FA.eval (.tmp 131) = _ := hD 5 131 (by kernel_rfl)
                have e131 := (eval_tmp FA 131).symm.trans ev131
                replace ev131 := Lib.hid ev131
                first | have ge131 := slot_of e131 | have ge131 := slot_un e131
                clear hO hD
                go_simp
                exact hK.out _ _ (Ex.refl _) rfl
              apply Steps.one (MP.eq _) 14 rfl
              · intro o ho FA x hO hD K hK
                obtain rfl := Option.some.inj ho.symm
                clear ho
                have ev134 : FA.eval (.tmp 134) = _ := hD 8 134 (by kernel_rfl)
                have e134 := (eval_tmp FA 134).symm.trans ev134
                replace ev134 := Lib.hid ev134
                have ev138 : FA.eval (.tmp 138) = _ := hD 12 138 (by kernel_rfl)
                have e138 := (eval_tmp FA 138).symm.trans ev138
                replace ev138 := Lib.hid ev138
                have ev131 : FA.eval (.tmp 131) = _ := hD 5 131 (by kernel_rfl)
                have e131 := (eval_tmp FA 131).symm.trans ev131
                replace ev131 := Lib.hid ev131
                first | have ge131 := slot_of e131 | have ge131 := slot_un e131
                clear hO hD
                go_simp
                exact hK.out _ _ (Ex.refl _) rfl
              apply Steps.one (MP.eq _) 15 rfl
              · intro o ho FA x hO hD K hK
                obtain rfl := Option.some.inj ho.symm
                clear ho
                have ev131 : FA.eval (.tmp 131) = _ := hD 5 131 (by kernel_rfl)
                have e131 := (eval_tmp FA 131).symm.trans ev131
                replace ev131 := Lib.hid ev131
                have ev139 : FA.eval (.tmp 139) = _ := hD 13 139 (by kernel_rfl)
                have e139 := (eval_tmp FA 139).symm.trans ev139
                replace ev139 := Lib.hid ev139
                clear hO hD
                go_simp
                exact hK.out _ _ (Ex.refl _) rfl
              refine Steps.fin_ (fun vs x hp => ?_)
              have p0 : vs 0 = _ := hp 0 (by omega)
              have p1 : vs 1 = _ := hp 1 (by omega)
              have p2 : vs 2 = _ := hp 2 (by omega)
              have p3 : vs 3 = _ := hp 3 (by omega)
              have p4 : vs 4 = _ := hp 4 (by omega)
              have p5 : vs 5 = _ := hp 5 (by omega)
              have p6 : vs 6 = _ := hp 6 (by omega)
              have p7 : vs 7 = _ := hp 7 (by omega)
              have p8 : vs 8 = _ := hp 8 (by omega)
              have p9 : vs 9 = _ := hp 9 (by omega)
              have p10 : vs 10 = _ := hp 10 (by omega)
              have p11 : vs 11 = _ := hp 11 (by omega)
              have p12 : vs 12 = _ := hp 12 (by omega)
              have p13 : vs 13 = _ := hp 13 (by omega)
              have p14 : vs 14 = _ := hp 14 (by omega)
              clear hp
              simp only [List.take_succ_cons, List.take_zero, List.drop_succ_cons, List.drop_zero, putAll, Nat.zero_add, Nat.reduceAdd, Act.put, List.setIfInBounds_toArray, List.set_cons_zero, List.set_cons_succ, p0, p1, p2, p3, p4, p5, p6, p7, p8, p9, p10, p11, p12, p13, p14]
              clear p0 p1 p2 p3 p4 p5 p6 p7 p8 p9 p10 p11 p12 p13 p14
              clear vs
              go_wp2
              exact ⟨⟨j + 1, A2, lst2.length, c2, lst2, by omega, by go_num, rfl, HS.out.later (below_plus _ _ _), hj2⟩, by simp [intOf]; omega⟩
    · by_cases hj1 : j < n
      · have ij : (j : Int) < (n : Int) := by omega
        have ij2 : ¬ (j : Int) < 60 := by omega
        have hf := hS.hf
        have be := hS.be
        clear hS
        go_upto_region 31 with (fail)
        refine wp_region_lit ?_
        refine wpList_plain rfl (fun K hK => ?_); go_simp; with_reducible refine hK _ _ ?_; clear hK K
        refine wpList_ldA (t := 28) 28 (.tmp 5) rfl rfl (f.c) rfl (hf) (whole_ _) v1 v2 (szFw f) ?_
        refine wpList_plain rfl (fun K hK => ?_)
        go_simp
        refine (put_nil _ (.pointer none) (.inl rfl) f 1).mono ?_
        rintro e w1 ⟨bs2, d2, rfl, rfl⟩
        with_reducible refine hK _ _ ?_
        clear hK K
        iterate 4 (refine wpList_plain rfl (fun K hK => ?_); go_simp; with_reducible refine hK _ _ ?_; clear hK K)
        refine wpList_stA (t := 28) 28 (.tmp 23) (.tmp 145) rfl rfl (fw0.c) ([.bool false, .int .u64 0, .int .u64 0, .bool false, .int .u64 0, .int .u64 0, .int .u16 0, .int .u16 0, .int .u8 0]) rfl (Fw.c_one _) rfl rfl (Bk.newK (k := wr.heap.size + bs2.length) _ _ _ (by simp [size_plus]) rfl) (szFw _) ?_
        intro W1 hG hg1
        refine wpList_plain rfl (fun K hK => ?_); go_simp; with_reducible refine hK _ _ ?_; clear hK K
        have be2 : Below wr.heap.size wr W1 := below_grown ((below_plus wr bs2 d2).trans ((Below.allocS (Below.refl _ _) _).mono (below_plus wr bs2 d2).size)) hg1 (by omega)
        replace hf := hf.later be2
        replace be := be.trans (be2.mono be.size)
        clear hg1 hG be2
        go_upto_region 32 with (fail)
        refine wp_region_lit ?_
        refine wpList_plain rfl (fun K hK => ?_); go_simp; with_reducible refine hK _ _ ?_; clear hK K
        refine wpList_ldA (t := 28) 28 (.tmp 5) rfl rfl (f.c) rfl (hf) (whole_ _) v1 v2 (szFw f) ?_
        refine wpList_plain rfl (fun K hK => ?_)
        go_simp
        refine (get_no _ (.pointer none) f (fun V hV => find_nil V f)).mono ?_
        rintro e w1 ⟨bs4, d4, rfl, rfl⟩
        with_reducible refine hK _ _ ?_
        clear hK K
        iterate 5 (refine wpList_plain rfl (fun K hK => ?_); go_simp; with_reducible refine hK _ _ ?_; clear hK K)
        replace hf := hf.later (below_plus _ bs4 d4)
        replace be := belowP be bs4 d4
        generalize plus W1 bs4 d4 = W2 at *
        go_upto_region 33 with (fail)
        refine wp_region_lit ?_
        iterate 2 (refine wpList_plain rfl (fun K hK => ?_); go_simp; with_reducible refine hK _ _ ?_; clear hK K)
        have hcN : (W2.alloc (.cells #[.int .i64 0, .map none, .pointer none, .pointer none] 52)).cell? ⟨W2.heap.size, 1, none⟩ = some (.map none) := (Bk.new W2 52 _).cell 1
        refine wpList_ldA (t := 28) 28 (.tmp 5) rfl rfl (f.c) rfl (hf.alloc _) (whole_ _) v1 v2 (szFw f) ?_
        refine wpList_plain rfl (fun K hK => ?_)
        go_simp
        refine (put_nil _ (.pointer (some ⟨W2.heap.size, 0, none⟩)) (.inr ⟨_, rfl, hcN⟩) f 1).mono ?_
        rintro e w1 ⟨bs6, d6, rfl, rfl⟩
        with_reducible refine hK _ _ ?_
        clear hK K
        iterate 4 (refine wpList_plain rfl (fun K hK => ?_); go_simp; with_reducible refine hK _ _ ?_; clear hK K)
        refine wpList_stA (t := 28) 28 (.tmp 27) (.tmp 158) rfl rfl (fw0.c) ([.bool false, .int .u64 0, .int .u64 0, .bool false, .int .u64 0, .int .u64 0, .int .u16 0, .int .u16 0, .int .u8 0]) rfl (Fw.c_one _) rfl rfl (Bk.newK _ _ _ (by simp [size_plus]) rfl) (szFw _) ?_
        intro W3 hG hg1
        refine wpList_plain rfl (fun K hK => ?_); go_simp; with_reducible refine hK _ _ ?_; clear hK K
        have be3 : Below W2.heap.size W2 W3 := below_grown (Below.allocS (belowP (Below.allocS (Below.refl _ _) _) bs6 d6) _) hg1 (by omega)
        replace hf := hf.later be3
        replace be := be.trans (be3.mono be.size)
        clear hg1 hG be3 hcN
        go_upto_region 34 with (fail)
        refine wp_region_lit ?_
        iterate 3 (refine wpList_plain rfl (fun K hK => ?_); go_simp; with_reducible refine hK _ _ ?_; clear hK K)
        iterate 2 (refine wpList_step (fun K hK => ?_); go_simp; with_reducible refine hK _ _ ?_; clear hK K)
        iterate 2 (refine wpList_plain rfl (fun K hK => ?_); go_simp; with_reducible refine hK _ _ ?_; clear hK K)
        iterate 2 (refine wpList_step (fun K hK => ?_); go_simp; with_reducible refine hK _ _ ?_; clear hK K)
        iterate 2 (refine wpList_plain rfl (fun K hK => ?_); go_simp; with_reducible refine hK _ _ ?_; clear hK K)
        refine wpList_step (fun K hK => ?_); go_simp; with_reducible refine hK _ _ ?_; clear hK K
        refine wpList_ldG (t := 28) 28 (.tmp 5) rfl (by go_simp) (f.c) rfl (hf) (whole_ _) v1 v2 (szFw f) ?_
        refine wpList_step (fun K hK => ?_)
        go_simp
        refine (has_nil _ f).mono ?_
        rintro e w1 ⟨bsa1, da1, rfl, rfl⟩
        with_reducible refine hK _ _ ?_
        clear hK K
        replace hf := hf.later (below_plus _ bsa1 da1)
        replace be := belowP be bsa1 da1
        generalize plus W3 bsa1 da1 = W3 at *
        refine wpList_step (fun K hK => ?_); go_simp; with_reducible refine hK _ _ ?_; clear hK K
        iterate 2 (refine wpList_plain rfl (fun K hK => ?_); go_simp; with_reducible refine hK _ _ ?_; clear hK K)
        refine wpList_step (fun K hK => ?_); go_simp; with_reducible refine hK _ _ ?_; clear hK K
        refine wpList_ldG (t := 28) 28 (.tmp 5) rfl (by go_simp) (f.c) rfl (hf) (whole_ _) v1 v2 (szFw f) ?_
        refine wpList_step (fun K hK => ?_)
        go_simp
        refine (drop_no _ (.pointer none) f (fun V hV => find_nil V f)).mono ?_
        rintro e w1 ⟨bsa2, da2, rfl, rfl⟩
        with_reducible refine hK _ _ ?_
        clear hK K
        replace hf := hf.later (below_plus _ bsa2 da2)
        replace be := belowP be bsa2 da2
        generalize plus W3 bsa2 da2 = W3 at *
        refine wpList_step (fun K hK => ?_); go_simp; with_reducible refine hK _ _ ?_; clear hK K
        iterate 2 (refine wpList_plain rfl (fun K hK => ?_); go_simp; with_reducible refine hK _ _ ?_; clear hK K)
        refine wpList_step (fun K hK => ?_); go_simp; with_reducible refine hK _ _ ?_; clear hK K
        refine wpList_step (fun K hK => ?_)
        go_simp
        refine (len_nil _).mono ?_
        rintro e w1 ⟨bsa3, da3, rfl, rfl⟩
        with_reducible refine hK _ _ ?_
        clear hK K
        replace hf := hf.later (below_plus _ bsa3 da3)
        replace be := belowP be bsa3 da3
        generalize plus W3 bsa3 da3 = W3 at *
        refine wpList_step (fun K hK => ?_); go_simp; with_reducible refine hK _ _ ?_; clear hK K
        iterate 2 (refine wpList_plain rfl (fun K hK => ?_); go_simp; with_reducible refine hK _ _ ?_; clear hK K)
        refine wpList_step (fun K hK => ?_)
        go_simp
        refine (awake31 _).mono ?_
        rintro e w1 ⟨bsa4, da4, rfl, rfl⟩
        with_reducible refine hK _ _ ?_
        clear hK K
        replace hf := hf.later (below_plus _ bsa4 da4)
        replace be := belowP be bsa4 da4
        generalize plus W3 bsa4 da4 = W3 at *
        iterate 2 (refine wpList_plain rfl (fun K hK => ?_); go_simp; with_reducible refine hK _ _ ?_; clear hK K)
        go_wp2
        go_ret
        exact RetV.is_ rfl be
      · have ij : ¬ (j : Int) < (n : Int) := by omega
        have hf := hS.hf
        have be := hS.be
        clear hS
        go_upto_region 31 with (fail)
        refine wp_region_lit ?_
        refine wpList_plain rfl (fun K hK => ?_); go_simp; with_reducible refine hK _ _ ?_; clear hK K
        refine wpList_ldA (t := 28) 28 (.tmp 5) rfl rfl (f.c) rfl (hf) (whole_ _) v1 v2 (szFw f) ?_
        refine wpList_plain rfl (fun K hK => ?_)
        go_simp
        refine (put_nil _ (.pointer none) (.inl rfl) f 1).mono ?_
        rintro e w1 ⟨bs2, d2, rfl, rfl⟩
        with_reducible refine hK _ _ ?_
        clear hK K
        iterate 4 (refine wpList_plain rfl (fun K hK => ?_); go_simp; with_reducible refine hK _ _ ?_; clear hK K)
        refine wpList_stA (t := 28) 28 (.tmp 23) (.tmp 145) rfl rfl (fw0.c) ([.bool false, .int .u64 0, .int .u64 0, .bool false, .int .u64 0, .int .u64 0, .int .u16 0, .int .u16 0, .int .u8 0]) rfl (Fw.c_one _) rfl rfl (Bk.newK (k := wr.heap.size + bs2.length) _ _ _ (by simp [size_plus]) rfl) (szFw _) ?_
        intro W1 hG hg1
        refine wpList_plain rfl (fun K hK => ?_); go_simp; with_reducible refine hK _ _ ?_; clear hK K
        have be2 : Below wr.heap.size wr W1 := below_grown ((below_plus wr bs2 d2).trans ((Below.allocS (Below.refl _ _) _).mono (below_plus wr bs2 d2).size)) hg1 (by omega)
        replace hf := hf.later be2
        replace be := be.trans (be2.mono be.size)
        clear hg1 hG be2
        go_upto_region 32 with (fail)
        refine wp_region_lit ?_
        refine wpList_plain rfl (fun K hK => ?_); go_simp; with_reducible refine hK _ _ ?_; clear hK K
        refine wpList_ldA (t := 28) 28 (.tmp 5) rfl rfl (f.c) rfl (hf) (whole_ _) v1 v2 (szFw f) ?_
        refine wpList_plain rfl (fun K hK => ?_)
        go_simp
        refine (get_no _ (.pointer none) f (fun V hV => find_nil V f)).mono ?_
        rintro e w1 ⟨bs4, d4, rfl, rfl⟩
        with_reducible refine hK _ _ ?_
        clear hK K
        iterate 5 (refine wpList_plain rfl (fun K hK => ?_); go_simp; with_reducible refine hK _ _ ?_; clear hK K)
        replace hf := hf.later (below_plus _ bs4 d4)
        replace be := belowP be bs4 d4
        generalize plus W1 bs4 d4 = W2 at *
        go_upto_region 33 with (fail)
        refine wp_region_lit ?_
        iterate 2 (refine wpList_plain rfl (fun K hK => ?_); go_simp; with_reducible refine hK _ _ ?_; clear hK K)
        have hcN : (W2.alloc (.cells #[.int .i64 0, .map none, .pointer none, .pointer none] 52)).cell? ⟨W2.heap.size, 1, none⟩ = some (.map none) := (Bk.new W2 52 _).cell 1
        refine wpList_ldA (t := 28) 28 (.tmp 5) rfl rfl (f.c) rfl (hf.alloc _) (whole_ _) v1 v2 (szFw f) ?_
        refine wpList_plain rfl (fun K hK => ?_)
        go_simp
        refine (put_nil _ (.pointer (some ⟨W2.heap.size, 0, none⟩)) (.inr ⟨_, rfl, hcN⟩) f 1).mono ?_
        rintro e w1 ⟨bs6, d6, rfl, rfl⟩
        with_reducible refine hK _ _ ?_
        clear hK K
        iterate 4 (refine wpList_plain rfl (fun K hK => ?_); go_simp; with_reducible refine hK _ _ ?_; clear hK K)
        refine wpList_stA (t := 28) 28 (.tmp 27) (.tmp 158) rfl rfl (fw0.c) ([.bool false, .int .u64 0, .int .u64 0, .bool false, .int .u64 0, .int .u64 0, .int .u16 0, .int .u16 0, .int .u8 0]) rfl (Fw.c_one _) rfl rfl (Bk.newK _ _ _ (by simp [size_plus]) rfl) (szFw _) ?_
        intro W3 hG hg1
        refine wpList_plain rfl (fun K hK => ?_); go_simp; with_reducible refine hK _ _ ?_; clear hK K
        have be3 : Below W2.heap.size W2 W3 := below_grown (Below.allocS (belowP (Below.allocS (Below.refl _ _) _) bs6 d6) _) hg1 (by omega)
        replace hf := hf.later be3
        replace be := be.trans (be3.mono be.size)
        clear hg1 hG be3 hcN
        go_upto_region 34 with (fail)
        refine wp_region_lit ?_
        iterate 3 (refine wpList_plain rfl (fun K hK => ?_); go_simp; with_reducible refine hK _ _ ?_; clear hK K)
        iterate 2 (refine wpList_step (fun K hK => ?_); go_simp; with_reducible refine hK _ _ ?_; clear hK K)
        iterate 2 (refine wpList_plain rfl (fun K hK => ?_); go_simp; with_reducible refine hK _ _ ?_; clear hK K)
        iterate 2 (refine wpList_step (fun K hK => ?_); go_simp; with_reducible refine hK _ _ ?_; clear hK K)
        iterate 2 (refine wpList_plain rfl (fun K hK => ?_); go_simp; with_reducible refine hK _ _ ?_; clear hK K)
        refine wpList_step (fun K hK => ?_); go_simp; with_reducible refine hK _ _ ?_; clear hK K
        refine wpList_ldG (t := 28) 28 (.tmp 5) rfl (by go_simp) (f.c) rfl (hf) (whole_ _) v1 v2 (szFw f) ?_
        refine wpList_step (fun K hK => ?_)
        go_simp
        refine (has_nil _ f).mono ?_
        rintro e w1 ⟨bsa1, da1, rfl, rfl⟩
        with_reducible refine hK _ _ ?_
        clear hK K
        replace hf := hf.later (below_plus _ bsa1 da1)
        replace be := belowP be bsa1 da1
        generalize plus W3 bsa1 da1 = W3 at *
        refine wpList_step (fun K hK => ?_); go_simp; with_reducible refine hK _ _ ?_; clear hK K
        iterate 2 (refine wpList_plain rfl (fun K hK => ?_); go_simp; with_reducible refine hK _ _ ?_; clear hK K)
        refine wpList_step (fun K hK => ?_); go_simp; with_reducible refine hK _ _ ?_; clear hK K
        refine wpList_ldG (t := 28) 28 (.tmp 5) rfl (by go_simp) (f.c) rfl (hf) (whole_ _) v1 v2 (szFw f) ?_
        refine wpList_step (fun K hK => ?_)
        go_simp
        refine (drop_no _ (.pointer none) f (fun V hV => find_nil V f)).mono ?_
        rintro e w1 ⟨bsa2, da2, rfl, rfl⟩
        with_reducible refine hK _ _ ?_
        clear hK K
        replace hf := hf.later (below_plus _ bsa2 da2)
        replace be := belowP be bsa2 da2
        generalize plus W3 bsa2 da2 = W3 at *
        refine wpList_step (fun K hK => ?_); go_simp; with_reducible refine hK _ _ ?_; clear hK K
        iterate 2 (refine wpList_plain rfl (fun K hK => ?_); go_simp; with_reducible refine hK _ _ ?_; clear hK K)
        refine wpList_step (fun K hK => ?_); go_simp; with_reducible refine hK _ _ ?_; clear hK K
        refine wpList_step (fun K hK => ?_)
        go_simp
        refine (len_nil _).mono ?_
        rintro e w1 ⟨bsa3, da3, rfl, rfl⟩
        with_reducible refine hK _ _ ?_
        clear hK K
        replace hf := hf.later (below_plus _ bsa3 da3)
        replace be := belowP be bsa3 da3
        generalize plus W3 bsa3 da3 = W3 at *
        refine wpList_step (fun K hK => ?_); go_simp; with_reducible refine hK _ _ ?_; clear hK K
        iterate 2 (refine wpList_plain rfl (fun K hK => ?_); go_simp; with_reducible refine hK _ _ ?_; clear hK K)
        refine wpList_step (fun K hK => ?_)
        go_simp
        refine (awake31 _).mono ?_
        rintro e w1 ⟨bsa4, da4, rfl, rfl⟩
        with_reducible refine hK _ _ ?_
        clear hK K
        replace hf := hf.later (below_plus _ bsa4 da4)
        replace be := belowP be bsa4 da4
        generalize plus W3 bsa4 da4 = W3 at *
        iterate 2 (refine wpList_plain rfl (fun K hK => ?_); go_simp; with_reducible refine hK _ _ ?_; clear hK K)
        go_wp2
        go_ret
        exact RetV.is_ rfl be
end Go.Proofs.Ytenaiojddohbkaa

/- ConnsPlay's row. -/
namespace Go.Proofs.Ytenaiojddohbkaa
open Go.RowKit
set_option linter.unusedVariables false

theorem connsPlay_row (w : World) (a : Int) (ha : -9223372036854775808 ≤ a ∧ a ≤ 9223372036854775807) (A : Option Addr) (c : Nat) (L : List Ac) (hl : L.length ≤ c) (hc : c ≤ maxLen) (hr : Rd w w.heap.size A (L.flatMap Ac.c)) (f : Fw) :
    Calls Try.prog 3 #[.int .i64 a, .slice A L.length c, f.v] w fun e w' => e = .returned (.bool true) ∧ Below w.heap.size w w' := by
  simp only [maxLen] at hc
  refine (connsPlay_walk w a ha f A L.length c L ⟨flat_len Ac.c 11 Ac.c_len L, hl, hr⟩ (by omega)).mono ?_
  rintro e w1 ⟨bs, d, rfl, rfl⟩
  exact ⟨rfl, below_plus _ _ _⟩
end Go.Proofs.Ytenaiojddohbkaa

