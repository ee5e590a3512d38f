/- The law's light, to (chapter 16). -/
import Derived.Test.YtfmkndemkpecpaaHrwC
import Derived.Test.YtfmkndemkpecpaaRowO
namespace Go.Proofs.Ytfmkndemkpecpaa
open Go.RowKit
set_option linter.unusedVariables false
set_option linter.unusedSimpArgs false
attribute [local go_sem ↓] sliced_cut
attribute [local go_sem] cutA_zero

theorem etRm : ET Try.prog 75 190 (.agg #[.int .i64 0, .int .i64 0]) 2 16 := ⟨Try.underlying75, by kernel_rfl, rfl, by decide, by decide⟩
theorem etMb : ET Try.prog 76 82 (.agg #[.int .i64 0, .int .i64 0]) 2 16 := ⟨Try.underlying76, by kernel_rfl, rfl, by decide, by decide⟩
theorem cellPl {b off : Nat} (w : World) (bs : List Obj) (d : Nat) (h : b < w.heap.size) : (plus w bs d).cell? ⟨b, off, none⟩ = w.cell? ⟨b, off, none⟩ := (below_plus w bs d).cell (p := ⟨b, off, none⟩) h
theorem szRm (p : Int × Int) : (Try.prog.info? 190).map (·.size) = some (mbC p).length := by kernel_rfl
theorem rowRm : ∃ d, Try.prog.underlying 190 = some d ∧ d.isRow = true := ⟨_, Try.underlying190, rfl⟩
def RetLi (w : World) (e : Ending) (w' : World) : Prop := ∃ L, L.length ≤ 12 ∧ Light L ∧ RetRs 2 w (prs .i64 L) e w'
set_option maxHeartbeats 4000000 in
set_option maxRecDepth 100000 in
theorem light_any (L : List (Int × Int)) (hL : ∀ q ∈ L, (-9223372036854775808 ≤ q.1 ∧ q.1 ≤ 9223372036854775807) ∧ (-9223372036854775808 ≤ q.2 ∧ q.2 ≤ 9223372036854775807)) (Al : Option Addr) (nl cl : Nat) (w : World) (hl : Rs 2 w Al nl cl (prs .i64 L)) (hml : nl ≤ 9223372036854775807) :
    Calls Try.prog 30 #[.slice Al nl cl] w (RetLi w) := by
  obtain ⟨dm, m1, m2⟩ := rowRm
  have hln : L.length = nl := by have := hl.1; rw [prs_length] at this; omega
  have hcap := hl.2.1
  go_enter Try.func30, Try.ntmps30
  go_upto_region 3 with (fail)
  go_loopw [3, 4] (fun s i wr => ∃ (j : Nat) (A' : Option Addr) (n' c' : Nat) (M : List (Int × Int)), j ≤ nl ∧ j ≤ 12 ∧ i = .int .i64 (j : Int) ∧ s = .slice A' n' c' ∧ n' ≤ j ∧ Light M ∧ Os 190 2 wr w.heap.size A' n' c' (prs .i64 M) ∧ Below w.heap.size w wr) (fun _ i _ => 12 - (intOf i).toNat)
  case atStart => exact ⟨0, none, 0, 0, [], Nat.zero_le _, by omega, rfl, rfl, Nat.zero_le _, fun p hp => by simp at hp, Os.nil_, Below.refl _ _⟩
  case round =>
    obtain ⟨j, A', n', c', M, hj, hj2, rfl, rfl, hnj, hM, hO, hE⟩ := hrel
    have HM := Lib.hid hM
    have hE0 := hE.size
    clear hM
    by_cases hlt : j < nl ∧ j < 12
    · have ij : (j : Int) < (nl : Int) := by omega
      have ij2 : (j : Int) < 12 := by omega
      have hjL : j < L.length := by omega
      obtain ⟨bl, ol, rfl, hbl, -⟩ := hl.at_ (by omega) (by decide)
      obtain ⟨q0, q1⟩ := (hl.later hE).range2 j hjL
      have hp := hL L[j] (List.getElem_mem hjL)
      generalize L[j] = p at *
      obtain ⟨a, b⟩ := p
      simp only [] at q0 q1 hp
      have zq : bl < wr.heap.size := by omega
      obtain ⟨hp1, hp2⟩ := hp
      have hO0 := fun k hk => (hO.blk k hk).2
      go_upto_region 5 with (fail)
      go_wp2
      refine wp_relS 16 57 rfl (by kernel_rfl) (by kernel_rfl) ?_
      apply Steps.one (MP.eq _) 1 rfl
      · intro o ho FA x hO hD K hK
        obtain rfl := Option.some.inj ho.symm
        clear ho
        have e0 := hO 0 (by kernel_rfl)
        simp only [eval_tmp, List.getElem?_toArray, List.getElem?_cons_succ, List.getElem?_cons_zero, Option.getD_some] at e0
        have ev0 := Lib.hid ((eval_tmp FA 0).trans e0)
        clear hO hD
        go_simp
        exact hK.out _ _ (Ex.refl _) rfl
      apply Steps.one (MP.eq _) 2 rfl
      · intro o ho FA x hO hD K hK
        obtain rfl := Option.some.inj ho.symm
        clear ho
        have e4 := hO 4 (by kernel_rfl)
        simp only [eval_tmp, List.getElem?_toArray, List.getElem?_cons_succ, List.getElem?_cons_zero, Option.getD_some] at e4
        have ev4 := Lib.hid ((eval_tmp FA 4).trans e4)
        clear hO hD
        go_simp
        exact hK.out _ _ (Ex.refl _) rfl
      apply Steps.one (MP.eq _) 3 rfl
      · intro o ho FA x hO hD K hK
        obtain rfl := Option.some.inj ho.symm
        clear ho
        have ev18 : FA.eval (.tmp 18) = _ := hD 0 18 (by kernel_rfl)
        have e18 := (eval_tmp FA 18).symm.trans ev18
        replace ev18 := Lib.hid ev18
        have ev19 : FA.eval (.tmp 19) = _ := hD 1 19 (by kernel_rfl)
        have e19 := (eval_tmp FA 19).symm.trans ev19
        replace ev19 := Lib.hid ev19
        clear hO hD
        go_simp
        exact hK.out _ _ (Ex.refl _) rfl
      apply Steps.one (MP.eq _) 4 rfl
      · intro o ho FA x hO hD K hK
        obtain rfl := Option.some.inj ho.symm
        clear ho
        have ev20 : FA.eval (.tmp 20) = _ := hD 2 20 (by kernel_rfl)
        have e20 := (eval_tmp FA 20).symm.trans ev20
        replace ev20 := Lib.hid ev20
        clear hO hD
        go_simp
        exact hK.out _ _ (Ex.refl _) rfl
      apply Steps.one (MP.eq _) 5 rfl
      · intro o ho FA x hO hD K hK
        obtain rfl := Option.some.inj ho.symm
        clear ho
        have ev21 : FA.eval (.tmp 21) = _ := hD 3 21 (by kernel_rfl)
        have e21 := (eval_tmp FA 21).symm.trans ev21
        replace ev21 := Lib.hid ev21
        clear hO hD
        refine wanted_if rfl ?_
        have c0 := (cellPl wr x.bs x.d zq).trans q0
        go_simp
        exact hK.out _ _ (Ex.refl _) rfl
      apply Steps.one (MP.eq _) 6 rfl
      · intro o ho FA x hO hD K hK
        obtain rfl := Option.some.inj ho.symm
        clear ho
        have ev22 : FA.eval (.tmp 22) = _ := hD 4 22 (by kernel_rfl)
        have e22 := (eval_tmp FA 22).symm.trans ev22
        replace ev22 := Lib.hid ev22
        clear hO hD
        go_simp
        exact hK.out _ _ (Ex.refl _) rfl
      apply Steps.one (MP.eq _) 7 rfl
      · intro o ho FA x hO hD K hK
        obtain rfl := Option.some.inj ho.symm
        clear ho
        have ev23 : FA.eval (.tmp 23) = _ := hD 5 23 (by kernel_rfl)
        have e23 := (eval_tmp FA 23).symm.trans ev23
        replace ev23 := Lib.hid ev23
        clear hO hD
        go_simp
        exact hK.out _ _ (Ex.refl _) rfl
      apply Steps.one (MP.eq _) 8 rfl
      · intro o ho FA x hO hD K hK
        obtain rfl := Option.some.inj ho.symm
        clear ho
        have ev24 : FA.eval (.tmp 24) = _ := hD 6 24 (by kernel_rfl)
        have e24 := (eval_tmp FA 24).symm.trans ev24
        replace ev24 := Lib.hid ev24
        clear hO hD
        go_simp
        exact hK.out _ _ (Ex.refl _) rfl
      apply Steps.one (MP.eq _) 9 rfl
      · intro o ho FA x hO hD K hK
        obtain rfl := Option.some.inj ho.symm
        clear ho
        have e0 := hO 0 (by kernel_rfl)
        simp only [eval_tmp, List.getElem?_toArray, List.getElem?_cons_succ, List.getElem?_cons_zero, Option.getD_some] at e0
        have ev0 := Lib.hid ((eval_tmp FA 0).trans e0)
        clear hO hD
        go_simp
        exact hK.out _ _ (Ex.refl _) rfl
      apply Steps.one (MP.eq _) 10 rfl
      · intro o ho FA x hO hD K hK
        obtain rfl := Option.some.inj ho.symm
        clear ho
        have e4 := hO 4 (by kernel_rfl)
        simp only [eval_tmp, List.getElem?_toArray, List.getElem?_cons_succ, List.getElem?_cons_zero, Option.getD_some] at e4
        have ev4 := Lib.hid ((eval_tmp FA 4).trans e4)
        clear hO hD
        go_simp
        exact hK.out _ _ (Ex.refl _) rfl
      apply Steps.one (MP.eq _) 11 rfl
      · intro o ho FA x hO hD K hK
        obtain rfl := Option.some.inj ho.symm
        clear ho
        have ev26 : FA.eval (.tmp 26) = _ := hD 8 26 (by kernel_rfl)
        have e26 := (eval_tmp FA 26).symm.trans ev26
        replace ev26 := Lib.hid ev26
        have ev27 : FA.eval (.tmp 27) = _ := hD 9 27 (by kernel_rfl)
        have e27 := (eval_tmp FA 27).symm.trans ev27
        replace ev27 := Lib.hid ev27
        clear hO hD
        go_simp
        exact hK.out _ _ (Ex.refl _) rfl
      apply Steps.one (MP.eq _) 12 rfl
      · intro o ho FA x hO hD K hK
        obtain rfl := Option.some.inj ho.symm
        clear ho
        have ev28 : FA.eval (.tmp 28) = _ := hD 10 28 (by kernel_rfl)
        have e28 := (eval_tmp FA 28).symm.trans ev28
        replace ev28 := Lib.hid ev28
        clear hO hD
        go_simp
        exact hK.out _ _ (Ex.refl _) rfl
      apply Steps.one (MP.eq _) 13 rfl
      · intro o ho FA x hO hD K hK
        obtain rfl := Option.some.inj ho.symm
        clear ho
        have ev29 : FA.eval (.tmp 29) = _ := hD 11 29 (by kernel_rfl)
        have e29 := (eval_tmp FA 29).symm.trans ev29
        replace ev29 := Lib.hid ev29
        clear hO hD
        refine wanted_if rfl ?_
        have c1 := (cellPl wr x.bs x.d zq).trans q1
        go_simp
        exact hK.out _ _ (Ex.refl _) rfl
      apply Steps.one (MP.eq _) 14 rfl
      · intro o ho FA x hO hD K hK
        obtain rfl := Option.some.inj ho.symm
        clear ho
        have ev30 : FA.eval (.tmp 30) = _ := hD 12 30 (by kernel_rfl)
        have e30 := (eval_tmp FA 30).symm.trans ev30
        replace ev30 := Lib.hid ev30
        clear hO hD
        go_simp
        exact hK.out _ _ (Ex.refl _) rfl
      apply Steps.one (MP.eq _) 15 rfl
      · intro o ho FA x hO hD K hK
        obtain rfl := Option.some.inj ho.symm
        clear ho
        have ev25 : FA.eval (.tmp 25) = _ := hD 7 25 (by kernel_rfl)
        have e25 := (eval_tmp FA 25).symm.trans ev25
        replace ev25 := Lib.hid ev25
        have ev31 : FA.eval (.tmp 31) = _ := hD 13 31 (by kernel_rfl)
        have e31 := (eval_tmp FA 31).symm.trans ev31
        replace ev31 := Lib.hid ev31
        clear hO hD
        go_simp
        exact hK.out _ _ (Ex.refl _) rfl
      apply Steps.one (MP.blk wr.heap.size 190 [.int .i64 0, .int .i64 0]) 16 rfl
      · intro o ho FA x hO hD K hK
        obtain rfl := Option.some.inj ho.symm
        clear ho
        clear hO hD
        go_simp
        exact hK.out _ _ (Ex.alloc _ _) ⟨_, rfl, by omega, Bk.newK _ _ _ (by simp [size_plus]) rfl⟩
      refine Steps.fin_ (fun vs x hp => ?_)
      have p0 : vs 0 = _ := hp 0 (by omega)
      have p1 : vs 1 = _ := hp 1 (by omega)
      have p2 : vs 2 = _ := hp 2 (by omega)
      have p3 : vs 3 = _ := hp 3 (by omega)
      have p4 : vs 4 = _ := hp 4 (by omega)
      have p5 : vs 5 = _ := hp 5 (by omega)
      have p6 : vs 6 = _ := hp 6 (by omega)
      have p7 : vs 7 = _ := hp 7 (by omega)
      have p8 : vs 8 = _ := hp 8 (by omega)
      have p9 : vs 9 = _ := hp 9 (by omega)
      have p10 : vs 10 = _ := hp 10 (by omega)
      have p11 : vs 11 = _ := hp 11 (by omega)
      have p12 : vs 12 = _ := hp 12 (by omega)
      have p13 : vs 13 = _ := hp 13 (by omega)
      have p14 : vs 14 = _ := hp 14 (by omega)
      have p15 := hp 15 (by omega)
      clear hp
      simp only [List.take_succ_cons, List.take_zero, List.drop_succ_cons, List.drop_zero, putAll, Nat.zero_add, Nat.reduceAdd, Act.put, List.setIfInBounds_toArray, List.set_cons_zero, List.set_cons_succ, p0, p1, p2, p3, p4, p5, p6, p7, p8, p9, p10, p11, p12, p13, p14]
      clear p0 p1 p2 p3 p4 p5 p6 p7 p8 p9 p10 p11 p12 p13 p14
      generalize vs 15 = y15 at *
      clear vs
      obtain ⟨g, rfl, hgw, hb⟩ := p15
      have w0 : 0 ≤ IntKind.u64.wrap a := by rw [IntKind.wrap_u64]; omega
      have w1 : IntKind.i64.wrap ((IntKind.u64.wrap a).tmod 64) = (IntKind.u64.wrap a) % 64 := by
        rw [Int.tmod_eq_emod_of_nonneg w0, IntWalk.i64_in _ (by omega)]
      have w2 : b.tmod 8 < 8 := Int.tmod_lt_of_pos _ (by decide)
      rw [w1]
      generalize b.tmod 8 = wt at *
      have w3 : 0 ≤ IntKind.u64.wrap a % 64 ∧ IntKind.u64.wrap a % 64 < 64 := by omega
      generalize IntKind.u64.wrap a % 64 = id at *
      clear w1 w0
      generalize (IntKind.u64.wrap a).tmod 64 = junk1 at *
      generalize IntKind.u64.wrap a = junk2 at *
      replace hO := hO.plus_ x.bs x.d
      replace hE := belowP hE x.bs x.d
      have hgp : wr.heap.size ≤ (plus wr x.bs x.d).heap.size := by simp [size_plus]
      have hgl := hb.lt
      have hbk := hO.blk
      have hgw2 : ∀ k, (Value.slice A' n' c').ownBlock = some k → some g ≠ some k := fun k hk e => by injection e with e; have := hO0 k hk; omega
      clear hbk
      generalize plus wr x.bs x.d = wr2 at *
      go_upto_region 6 with (refine at_op (.store 190 (.tmp 5) (.tmp 32)) rfl ?_; refine wpList_stA (t := 190) 190 (.tmp 5) (.tmp 32) rfl rfl (mbC (id, wt)) [.int .i64 0, .int .i64 0] rfl (mbC_one _) rfl rfl hb (szRm _) ?_; intro w4 hB hg3)
      replace hO := hO.grown hg3 hgw2
      replace hE := below_grown hE hg3 (by omega)
      have hwr := hE0
      clear q0 q1 hb hg3 hgp hgl
      go_upto_region 8 with (fail)
      have hcn := hO.rs.2.1
      have HO2 := Lib.hid hO
      have HB2 := Lib.hid hB
      have HE2 := Lib.hid hE
      have HMl := hO.rs.1
      rw [prs_length] at HMl
      clear hO hB hE hO0 hgw2 hE0 hwr
      go_loopw [7, 6] (fun i s wr => ∃ (k : Nat) (met : Bool), k ≤ n' ∧ i = .int .i64 (k : Int) ∧ s = .bool met ∧ Os 190 2 wr w.heap.size A' n' c' (prs .i64 M) ∧ Bk wr g 190 (mbC (id, wt)) ∧ Below w.heap.size w wr) (fun i _ _ => n' - (intOf i).toNat)
      case atStart => exact ⟨0, false, Nat.zero_le _, rfl, rfl, HO2.out, HB2.out, HE2.out⟩
      case round =>
        clear HO2 HB2 HE2
        obtain ⟨k, met, hk, rfl, rfl, hO, hB, hE⟩ := hrel
        by_cases hkn : k < n'
        · have ik : (k : Int) < (n' : Int) := by omega
          obtain ⟨bo, oo, rfl, zk, -⟩ := hO.rs.at_ (by omega) (by decide)
          obtain ⟨qk, -⟩ := hO.rs.range2 k (by omega)
          generalize (M[k]'(by omega)).1 = y at qk
          cases met with
          | true =>
            go_upto_region 10 with (fail)
            go_wp2
            refine wp_relS 12 57 rfl (by kernel_rfl) (by kernel_rfl) ?_
            apply Steps.one (MP.eq _) 1 rfl
            · intro o ho FA x hO hD K hK
              obtain rfl := Option.some.inj ho.symm
              clear ho
              have e6 := hO 6 (by kernel_rfl)
              simp only [eval_tmp, List.getElem?_toArray, List.getElem?_cons_succ, List.getElem?_cons_zero, Option.getD_some] at e6
              have ev6 := Lib.hid ((eval_tmp FA 6).trans e6)
              clear hO hD
              go_simp
              exact hK.out _ _ (Ex.refl _) rfl
            apply Steps.one (MP.eq _) 2 rfl
            · intro o ho FA x hO hD K hK
              obtain rfl := Option.some.inj ho.symm
              clear ho
              have ev39 : FA.eval (.tmp 39) = _ := hD 0 39 (by kernel_rfl)
              have e39 := (eval_tmp FA 39).symm.trans ev39
              replace ev39 := Lib.hid ev39
              clear hO hD
              go_simp
              exact hK.out _ _ (Ex.refl _) rfl
            apply Steps.one (MP.eq _) 3 rfl
            · intro o ho FA x hO hD K hK
              obtain rfl := Option.some.inj ho.symm
              clear ho
              have e3 := hO 3 (by kernel_rfl)
              simp only [eval_tmp, List.getElem?_toArray, List.getElem?_cons_succ, List.getElem?_cons_zero, Option.getD_some] at e3
              have ev3 := Lib.hid ((eval_tmp FA 3).trans e3)
              have ev40 : FA.eval (.tmp 40) = _ := hD 1 40 (by kernel_rfl)
              have e40 := (eval_tmp FA 40).symm.trans ev40
              replace ev40 := Lib.hid ev40
              first | have ge40 := slot_of e40 | have ge40 := slot_un e40
              clear hO hD
              go_simp
              exact hK.out _ _ (Ex.refl _) rfl
            apply Steps.one (MP.eq _) 4 rfl
            · intro o ho FA x hO hD K hK
              obtain rfl := Option.some.inj ho.symm
              clear ho
              have e7 := hO 7 (by kernel_rfl)
              simp only [eval_tmp, List.getElem?_toArray, List.getElem?_cons_succ, List.getElem?_cons_zero, Option.getD_some] at e7
              have ev7 := Lib.hid ((eval_tmp FA 7).trans e7)
              have ev40 : FA.eval (.tmp 40) = _ := hD 1 40 (by kernel_rfl)
              have e40 := (eval_tmp FA 40).symm.trans ev40
              replace ev40 := Lib.hid ev40
              first | have ge40 := slot_of e40 | have ge40 := slot_un e40
              clear hO hD
              go_simp
              exact hK.out _ _ (Ex.refl _) rfl
            apply Steps.one (MP.eq _) 5 rfl
            · intro o ho FA x hO hD K hK
              obtain rfl := Option.some.inj ho.symm
              clear ho
              have ev41 : FA.eval (.tmp 41) = _ := hD 2 41 (by kernel_rfl)
              have e41 := (eval_tmp FA 41).symm.trans ev41
              replace ev41 := Lib.hid ev41
              have ev42 : FA.eval (.tmp 42) = _ := hD 3 42 (by kernel_rfl)
              have e42 := (eval_tmp FA 42).symm.trans ev42
              replace ev42 := Lib.hid ev42
              have ev40 : FA.eval (.tmp 40) = _ := hD 1 40 (by kernel_rfl)
              have e40 := (eval_tmp FA 40).symm.trans ev40
              replace ev40 := Lib.hid ev40
              first | have ge40 := slot_of e40 | have ge40 := slot_un e40
              clear hO hD
              go_simp
              exact hK.out _ _ (Ex.refl _) rfl
            apply Steps.one (MP.eq _) 6 rfl
            · intro o ho FA x hO hD K hK
              obtain rfl := Option.some.inj ho.symm
              clear ho
              have ev43 : FA.eval (.tmp 43) = _ := hD 4 43 (by kernel_rfl)
              have e43 := (eval_tmp FA 43).symm.trans ev43
              replace ev43 := Lib.hid ev43
              have ev40 : FA.eval (.tmp 40) = _ := hD 1 40 (by kernel_rfl)
              have e40 := (eval_tmp FA 40).symm.trans ev40
              replace ev40 := Lib.hid ev40
              first | have ge40 := slot_of e40 | have ge40 := slot_un e40
              clear hO hD
              go_simp
              exact hK.out _ _ (Ex.refl _) rfl
            apply Steps.one (MP.eq _) 7 rfl
            · intro o ho FA x hO hD K hK
              obtain rfl := Option.some.inj ho.symm
              clear ho
              have ev44 : FA.eval (.tmp 44) = _ := hD 5 44 (by kernel_rfl)
              have e44 := (eval_tmp FA 44).symm.trans ev44
              replace ev44 := Lib.hid ev44
              have ev40 : FA.eval (.tmp 40) = _ := hD 1 40 (by kernel_rfl)
              have e40 := (eval_tmp FA 40).symm.trans ev40
              replace ev40 := Lib.hid ev40
              first | have ge40 := slot_of e40 | have ge40 := slot_un e40
              clear hO hD
              have c0 := (cellPl wr x.bs x.d zk).trans qk
              go_simp
              exact hK.out _ _ (Ex.refl _) rfl
            apply Steps.one (MP.eq _) 8 rfl
            · intro o ho FA x hO hD K hK
              obtain rfl := Option.some.inj ho.symm
              clear ho
              have e5 := hO 5 (by kernel_rfl)
              simp only [eval_tmp, List.getElem?_toArray, List.getElem?_cons_succ, List.getElem?_cons_zero, Option.getD_some] at e5
              have ev5 := Lib.hid ((eval_tmp FA 5).trans e5)
              have ev40 : FA.eval (.tmp 40) = _ := hD 1 40 (by kernel_rfl)
              have e40 := (eval_tmp FA 40).symm.trans ev40
              replace ev40 := Lib.hid ev40
              first | have ge40 := slot_of e40 | have ge40 := slot_un e40
              clear hO hD
              go_simp
              exact hK.out _ _ (Ex.refl _) rfl
            apply Steps.one (MP.eq _) 9 rfl
            · intro o ho FA x hO hD K hK
              obtain rfl := Option.some.inj ho.symm
              clear ho
              have ev46 : FA.eval (.tmp 46) = _ := hD 7 46 (by kernel_rfl)
              have e46 := (eval_tmp FA 46).symm.trans ev46
              replace ev46 := Lib.hid ev46
              have ev40 : FA.eval (.tmp 40) = _ := hD 1 40 (by kernel_rfl)
              have e40 := (eval_tmp FA 40).symm.trans ev40
              replace ev40 := Lib.hid ev40
              first | have ge40 := slot_of e40 | have ge40 := slot_un e40
              clear hO hD
              have c1 : (plus wr x.bs x.d).cell? ⟨g, 0, none⟩ = some (.int .i64 id) := (hB.later (below_plus wr x.bs x.d)).cell 0
              go_simp
              exact hK.out _ _ (Ex.refl _) rfl
            apply Steps.one (MP.eq _) 10 rfl
            · intro o ho FA x hO hD K hK
              obtain rfl := Option.some.inj ho.symm
              clear ho
              have ev45 : FA.eval (.tmp 45) = _ := hD 6 45 (by kernel_rfl)
              have e45 := (eval_tmp FA 45).symm.trans ev45
              replace ev45 := Lib.hid ev45
              have ev47 : FA.eval (.tmp 47) = _ := hD 8 47 (by kernel_rfl)
              have e47 := (eval_tmp FA 47).symm.trans ev47
              replace ev47 := Lib.hid ev47
              have ev40 : FA.eval (.tmp 40) = _ := hD 1 40 (by kernel_rfl)
              have e40 := (eval_tmp FA 40).symm.trans ev40
              replace ev40 := Lib.hid ev40
              first | have ge40 := slot_of e40 | have ge40 := slot_un e40
              clear hO hD
              go_simp
              exact hK.out _ _ (Ex.refl _) rfl
            apply Steps.one (MP.eq _) 11 rfl
            · intro o ho FA x hO hD K hK
              obtain rfl := Option.some.inj ho.symm
              clear ho
              have ev40 : FA.eval (.tmp 40) = _ := hD 1 40 (by kernel_rfl)
              have e40 := (eval_tmp FA 40).symm.trans ev40
              replace ev40 := Lib.hid ev40
              have ev48 : FA.eval (.tmp 48) = _ := hD 9 48 (by kernel_rfl)
              have e48 := (eval_tmp FA 48).symm.trans ev48
              replace ev48 := Lib.hid ev48
              clear hO hD
              go_simp
              exact hK.out _ _ (Ex.refl _) rfl
            apply Steps.one (MP.eq _) 12 rfl
            · intro o ho FA x hO hD K hK
              obtain rfl := Option.some.inj ho.symm
              clear ho
              have ev49 : FA.eval (.tmp 49) = _ := hD 10 49 (by kernel_rfl)
              have e49 := (eval_tmp FA 49).symm.trans ev49
              replace ev49 := Lib.hid ev49
              clear hO hD
              go_simp
              exact hK.out _ _ (Ex.refl _) rfl
            refine Steps.fin_ (fun vs x hp => ?_)
            have p0 : vs 0 = _ := hp 0 (by omega)
            have p1 : vs 1 = _ := hp 1 (by omega)
            have p2 : vs 2 = _ := hp 2 (by omega)
            have p3 : vs 3 = _ := hp 3 (by omega)
            have p4 : vs 4 = _ := hp 4 (by omega)
            have p5 : vs 5 = _ := hp 5 (by omega)
            have p6 : vs 6 = _ := hp 6 (by omega)
            have p7 : vs 7 = _ := hp 7 (by omega)
            have p8 : vs 8 = _ := hp 8 (by omega)
            have p9 : vs 9 = _ := hp 9 (by omega)
            have p10 : vs 10 = _ := hp 10 (by omega)
            have p11 : vs 11 = _ := hp 11 (by omega)
            clear hp
            simp only [List.take_succ_cons, List.take_zero, List.drop_succ_cons, List.drop_zero, putAll, Nat.zero_add, Nat.reduceAdd, Act.put, List.setIfInBounds_toArray, List.set_cons_zero, List.set_cons_succ, p0, p1, p2, p3, p4, p5, p6, p7, p8, p9, p10, p11]
            clear p0 p1 p2 p3 p4 p5 p6 p7 p8 p9 p10 p11
            clear vs
            go_wp2
            exact ⟨⟨k + 1, _, by omega, by go_num, rfl, hO.plus_ _ _, hB.later (below_plus _ _ _), belowP hE _ _⟩, by simp [intOf]; omega⟩
          | false =>
            go_upto_region 10 with (fail)
            go_wp2
            refine wp_relS 12 57 rfl (by kernel_rfl) (by kernel_rfl) ?_
            apply Steps.one (MP.eq _) 1 rfl
            · intro o ho FA x hO hD K hK
              obtain rfl := Option.some.inj ho.symm
              clear ho
              have e6 := hO 6 (by kernel_rfl)
              simp only [eval_tmp, List.getElem?_toArray, List.getElem?_cons_succ, List.getElem?_cons_zero, Option.getD_some] at e6
              have ev6 := Lib.hid ((eval_tmp FA 6).trans e6)
              clear hO hD
              go_simp
              exact hK.out _ _ (Ex.refl _) rfl
            apply Steps.one (MP.eq _) 2 rfl
            · intro o ho FA x hO hD K hK
              obtain rfl := Option.some.inj ho.symm
              clear ho
              have ev39 : FA.eval (.tmp 39) = _ := hD 0 39 (by kernel_rfl)
              have e39 := (eval_tmp FA 39).symm.trans ev39
              replace ev39 := Lib.hid ev39
              clear hO hD
              go_simp
              exact hK.out _ _ (Ex.refl _) rfl
            apply Steps.one (MP.eq _) 3 rfl
            · intro o ho FA x hO hD K hK
              obtain rfl := Option.some.inj ho.symm
              clear ho
              have e3 := hO 3 (by kernel_rfl)
              simp only [eval_tmp, List.getElem?_toArray, List.getElem?_cons_succ, List.getElem?_cons_zero, Option.getD_some] at e3
              have ev3 := Lib.hid ((eval_tmp FA 3).trans e3)
              have ev40 : FA.eval (.tmp 40) = _ := hD 1 40 (by kernel_rfl)
              have e40 := (eval_tmp FA 40).symm.trans ev40
              replace ev40 := Lib.hid ev40
              first | have ge40 := slot_of e40 | have ge40 := slot_un e40
              clear hO hD
              go_simp
              exact hK.out _ _ (Ex.refl _) rfl
            apply Steps.one (MP.eq _) 4 rfl
            · intro o ho FA x hO hD K hK
              obtain rfl := Option.some.inj ho.symm
              clear ho
              have e7 := hO 7 (by kernel_rfl)
              simp only [eval_tmp, List.getElem?_toArray, List.getElem?_cons_succ, List.getElem?_cons_zero, Option.getD_some] at e7
              have ev7 := Lib.hid ((eval_tmp FA 7).trans e7)
              have ev40 : FA.eval (.tmp 40) = _ := hD 1 40 (by kernel_rfl)
              have e40 := (eval_tmp FA 40).symm.trans ev40
              replace ev40 := Lib.hid ev40
              first | have ge40 := slot_of e40 | have ge40 := slot_un e40
              clear hO hD
              go_simp
              exact hK.out _ _ (Ex.refl _) rfl
            apply Steps.one (MP.eq _) 5 rfl
            · intro o ho FA x hO hD K hK
              obtain rfl := Option.some.inj ho.symm
              clear ho
              have ev41 : FA.eval (.tmp 41) = _ := hD 2 41 (by kernel_rfl)
              have e41 := (eval_tmp FA 41).symm.trans ev41
              replace ev41 := Lib.hid ev41
              have ev42 : FA.eval (.tmp 42) = _ := hD 3 42 (by kernel_rfl)
              have e42 := (eval_tmp FA 42).symm.trans ev42
              replace ev42 := Lib.hid ev42
              have ev40 : FA.eval (.tmp 40) = _ := hD 1 40 (by kernel_rfl)
              have e40 := (eval_tmp FA 40).symm.trans ev40
              replace ev40 := Lib.hid ev40
              first | have ge40 := slot_of e40 | have ge40 := slot_un e40
              clear hO hD
              go_simp
              exact hK.out _ _ (Ex.refl _) rfl
            apply Steps.one (MP.eq _) 6 rfl
            · intro o ho FA x hO hD K hK
              obtain rfl := Option.some.inj ho.symm
              clear ho
              have ev43 : FA.eval (.tmp 43) = _ := hD 4 43 (by kernel_rfl)
              have e43 := (eval_tmp FA 43).symm.trans ev43
              replace ev43 := Lib.hid ev43
              have ev40 : FA.eval (.tmp 40) = _ := hD 1 40 (by kernel_rfl)
              have e40 := (eval_tmp FA 40).symm.trans ev40
              replace ev40 := Lib.hid ev40
              first | have ge40 := slot_of e40 | have ge40 := slot_un e40
              clear hO hD
              go_simp
              exact hK.out _ _ (Ex.refl _) rfl
            apply Steps.one (MP.eq _) 7 rfl
            · intro o ho FA x hO hD K hK
              obtain rfl := Option.some.inj ho.symm
              clear ho
              have ev44 : FA.eval (.tmp 44) = _ := hD 5 44 (by kernel_rfl)
              have e44 := (eval_tmp FA 44).symm.trans ev44
              replace ev44 := Lib.hid ev44
              have ev40 : FA.eval (.tmp 40) = _ := hD 1 40 (by kernel_rfl)
              have e40 := (eval_tmp FA 40).symm.trans ev40
              replace ev40 := Lib.hid ev40
              first | have ge40 := slot_of e40 | have ge40 := slot_un e40
              clear hO hD
              have c0 := (cellPl wr x.bs x.d zk).trans qk
              go_simp
              exact hK.out _ _ (Ex.refl _) rfl
            apply Steps.one (MP.eq _) 8 rfl
            · intro o ho FA x hO hD K hK
              obtain rfl := Option.some.inj ho.symm
              clear ho
              have e5 := hO 5 (by kernel_rfl)
              simp only [eval_tmp, List.getElem?_toArray, List.getElem?_cons_succ, List.getElem?_cons_zero, Option.getD_some] at e5
              have ev5 := Lib.hid ((eval_tmp FA 5).trans e5)
              have ev40 : FA.eval (.tmp 40) = _ := hD 1 40 (by kernel_rfl)
              have e40 := (eval_tmp FA 40).symm.trans ev40
              replace ev40 := Lib.hid ev40
              first | have ge40 := slot_of e40 | have ge40 := slot_un e40
              clear hO hD
              go_simp
              exact hK.out _ _ (Ex.refl _) rfl
            apply Steps.one (MP.eq _) 9 rfl
            · intro o ho FA x hO hD K hK
              obtain rfl := Option.some.inj ho.symm
              clear ho
              have ev46 : FA.eval (.tmp 46) = _ := hD 7 46 (by kernel_rfl)
              have e46 := (eval_tmp FA 46).symm.trans ev46
              replace ev46 := Lib.hid ev46
              have ev40 : FA.eval (.tmp 40) = _ := hD 1 40 (by kernel_rfl)
              have e40 := (eval_tmp FA 40).symm.trans ev40
              replace ev40 := Lib.hid ev40
              first | have ge40 := slot_of e40 | have ge40 := slot_un e40
              clear hO hD
              have c1 : (plus wr x.bs x.d).cell? ⟨g, 0, none⟩ = some (.int .i64 id) := (hB.later (below_plus wr x.bs x.d)).cell 0
              go_simp
              exact hK.out _ _ (Ex.refl _) rfl
            apply Steps.one (MP.eq _) 10 rfl
            · intro o ho FA x hO hD K hK
              obtain rfl := Option.some.inj ho.symm
              clear ho
              have ev45 : FA.eval (.tmp 45) = _ := hD 6 45 (by kernel_rfl)
              have e45 := (eval_tmp FA 45).symm.trans ev45
              replace ev45 := Lib.hid ev45
              have ev47 : FA.eval (.tmp 47) = _ := hD 8 47 (by kernel_rfl)
              have e47 := (eval_tmp FA 47).symm.trans ev47
              replace ev47 := Lib.hid ev47
              have ev40 : FA.eval (.tmp 40) = _ := hD 1 40 (by kernel_rfl)
              have e40 := (eval_tmp FA 40).symm.trans ev40
              replace ev40 := Lib.hid ev40
              first | have ge40 := slot_of e40 | have ge40 := slot_un e40
              clear hO hD
              go_simp
              exact hK.out _ _ (Ex.refl _) rfl
            apply Steps.one (MP.eq _) 11 rfl
            · intro o ho FA x hO hD K hK
              obtain rfl := Option.some.inj ho.symm
              clear ho
              have ev40 : FA.eval (.tmp 40) = _ := hD 1 40 (by kernel_rfl)
              have e40 := (eval_tmp FA 40).symm.trans ev40
              replace ev40 := Lib.hid ev40
              have ev48 : FA.eval (.tmp 48) = _ := hD 9 48 (by kernel_rfl)
              have e48 := (eval_tmp FA 48).symm.trans ev48
              replace ev48 := Lib.hid ev48
              clear hO hD
              go_simp
              exact hK.out _ _ (Ex.refl _) rfl
            apply Steps.one (MP.eq _) 12 rfl
            · intro o ho FA x hO hD K hK
              obtain rfl := Option.some.inj ho.symm
              clear ho
              have ev49 : FA.eval (.tmp 49) = _ := hD 10 49 (by kernel_rfl)
              have e49 := (eval_tmp FA 49).symm.trans ev49
              replace ev49 := Lib.hid ev49
              clear hO hD
              go_simp
              exact hK.out _ _ (Ex.refl _) rfl
            refine Steps.fin_ (fun vs x hp => ?_)
            have p0 : vs 0 = _ := hp 0 (by omega)
            have p1 : vs 1 = _ := hp 1 (by omega)
            have p2 : vs 2 = _ := hp 2 (by omega)
            have p3 : vs 3 = _ := hp 3 (by omega)
            have p4 : vs 4 = _ := hp 4 (by omega)
            have p5 : vs 5 = _ := hp 5 (by omega)
            have p6 : vs 6 = _ := hp 6 (by omega)
            have p7 : vs 7 = _ := hp 7 (by omega)
            have p8 : vs 8 = _ := hp 8 (by omega)
            have p9 : vs 9 = _ := hp 9 (by omega)
            have p10 : vs 10 = _ := hp 10 (by omega)
            have p11 : vs 11 = _ := hp 11 (by omega)
            clear hp
            simp only [List.take_succ_cons, List.take_zero, List.drop_succ_cons, List.drop_zero, putAll, Nat.zero_add, Nat.reduceAdd, Act.put, List.setIfInBounds_toArray, List.set_cons_zero, List.set_cons_succ, p0, p1, p2, p3, p4, p5, p6, p7, p8, p9, p10, p11]
            clear p0 p1 p2 p3 p4 p5 p6 p7 p8 p9 p10 p11
            clear vs
            go_wp2
            exact ⟨⟨k + 1, _, by omega, by go_num, rfl, hO.plus_ _ _, hB.later (below_plus _ _ _), belowP hE _ _⟩, by simp [intOf]; omega⟩
        · obtain rfl : k = n' := by omega
          have ik : ¬ (k : Int) < (k : Int) := by omega
          cases met with
          | true =>
            go_wp2
            exact ⟨⟨j + 1, A', _, c', M, by omega, by omega, by go_num, rfl, by omega, HM.out, hO, hE⟩, by simp [intOf]; omega⟩
          | false =>
            go_upto_region 12 with (fail)
            have zb := hE.size
            refine wp_region_lit ?_
            refine wpList_plain rfl (fun K hK => ?_); go_simp; with_reducible refine hK _ _ ?_; clear hK K
            refine wpList_ldA (t := 190) 190 (.tmp 5) rfl rfl ([.int .i64 id, .int .i64 wt]) rfl (hB) (whole_ _) m1 m2 (szRm (id, wt)) ?_
            refine wpList_plain rfl (fun K hK => ?_); go_simp; with_reducible refine hK _ _ ?_; clear hK K
            refine wpList_appS etRm rfl (.tmp 52) (.tmp 54) rfl rfl (hO.later ((Below.refl _ _).alloc (Nat.le_refl _) _)) rfl (Rs.of_bk (n := 1) (c := 1) (Bk.new wr _ _) rfl (Nat.le_refl _)) (mbC_one (id, wt)) (by omega) (by simp; omega) ?_
            intro A2 n2 c2 w5 hn2 hO4 hb4 hg4
            subst hn2
            refine wpList_plain rfl (fun K hK => ?_); go_simp; with_reducible refine hK _ _ ?_; clear hK K
            go_wp2
            exact ⟨⟨j + 1, A2, _, c2, M ++ [(id, wt)], by omega, by omega, by go_num, rfl, by omega, fun p hp => by
              rcases List.mem_append.1 hp with h | h
              · exact HM.out p h
              · simp only [List.mem_cons, List.not_mem_nil, or_false] at h; subst h; exact ⟨w3.1, w3.2, w2⟩, by rw [prs_append]; exact hO4, hE.trans ((((Below.refl _ _).alloc (Nat.le_refl _) _).mono zb).trans hb4)⟩, by simp [intOf]; omega⟩
    · have hM2 := hO.rs.1
      rw [prs_length] at hM2
      have HO := Lib.hid hO
      clear hO
      by_cases h1 : j < nl
      · have ij : (j : Int) < (nl : Int) := by omega
        have ij2 : ¬ (j : Int) < 12 := by omega
        go_wp2
        go_ret
        exact ⟨M, by omega, HM.out, RetRs.mk HO.out.rs hE⟩
      · have ij : ¬ (j : Int) < (nl : Int) := by omega
        go_wp2
        go_ret
        exact ⟨M, by omega, HM.out, RetRs.mk HO.out.rs hE⟩
set_option maxHeartbeats 4000000 in
set_option maxRecDepth 100000 in
theorem to_any (L : List (Int × Int)) (Al : Option Addr) (nl cl : Nat) (w : World) (hl : Rs 2 w Al nl cl (prs .i64 L)) (hml : nl ≤ 1000) :
    Calls Try.prog 29 #[.slice Al nl cl] w (RetRs 2 w (prs .i64 L)) := by
  have hln : L.length = nl := by have := hl.1; rw [prs_length] at this; omega
  have hcap := hl.2.1
  go_enter Try.func29, Try.ntmps29
  go_upto_region 3 with (fail)
  go_loopw [3, 4] (fun s i wr => ∃ (j : Nat) (A' : Option Addr) (n' c' : Nat), j ≤ nl ∧ i = .int .i64 (j : Int) ∧ s = .slice A' n' c' ∧ n' = j ∧ Os 82 2 wr w.heap.size A' n' c' (prs .i64 (L.take j)) ∧ Below w.heap.size w wr) (fun _ i _ => nl - (intOf i).toNat)
  case atStart => exact ⟨0, none, 0, 0, Nat.zero_le _, rfl, rfl, rfl, Os.nil_, Below.refl _ _⟩
  case round =>
    obtain ⟨j, A', n', c', hj, rfl, rfl, rfl, hO, hE⟩ := hrel
    by_cases hlt : n' < nl
    · have ij : (n' : Int) < (nl : Int) := by omega
      have hjL : n' < L.length := by omega
      obtain ⟨bl, ol, rfl, hbl, -⟩ := hl.at_ (by omega) (by decide)
      obtain ⟨q0, q1⟩ := (hl.later hE).range2 n' hjL
      have hsn : L.take (n' + 1) = L.take n' ++ [L[n']] := by simp
      generalize L[n'] = p at *
      obtain ⟨a, b⟩ := p
      have HN := Lib.hid hsn
      have zb := hE.size
      have zq : bl < wr.heap.size := by omega
      simp only [] at q0 q1
      clear hsn
      go_upto_region 5 with (fail)
      go_wp2
      refine wp_relS 13 26 rfl (by kernel_rfl) (by kernel_rfl) ?_
      apply Steps.one (MP.eq _) 1 rfl
      · intro o ho FA x hO hD K hK
        obtain rfl := Option.some.inj ho.symm
        clear ho
        have e3 := hO 3 (by kernel_rfl)
        simp only [eval_tmp, List.getElem?_toArray, List.getElem?_cons_succ, List.getElem?_cons_zero, Option.getD_some] at e3
        have ev3 := Lib.hid ((eval_tmp FA 3).trans e3)
        clear hO hD
        go_simp
        exact hK.out _ _ (Ex.refl _) rfl
      apply Steps.one (MP.eq _) 2 rfl
      · intro o ho FA x hO hD K hK
        obtain rfl := Option.some.inj ho.symm
        clear ho
        have e0 := hO 0 (by kernel_rfl)
        simp only [eval_tmp, List.getElem?_toArray, List.getElem?_cons_succ, List.getElem?_cons_zero, Option.getD_some] at e0
        have ev0 := Lib.hid ((eval_tmp FA 0).trans e0)
        clear hO hD
        go_simp
        exact hK.out _ _ (Ex.refl _) rfl
      apply Steps.one (MP.eq _) 3 rfl
      · intro o ho FA x hO hD K hK
        obtain rfl := Option.some.inj ho.symm
        clear ho
        have e4 := hO 4 (by kernel_rfl)
        simp only [eval_tmp, List.getElem?_toArray, List.getElem?_cons_succ, List.getElem?_cons_zero, Option.getD_some] at e4
        have ev4 := Lib.hid ((eval_tmp FA 4).trans e4)
        clear hO hD
        go_simp
        exact hK.out _ _ (Ex.refl _) rfl
      apply Steps.one (MP.eq _) 4 rfl
      · intro o ho FA x hO hD K hK
        obtain rfl := Option.some.inj ho.symm
        clear ho
        have ev12 : FA.eval (.tmp 12) = _ := hD 1 12 (by kernel_rfl)
        have e12 := (eval_tmp FA 12).symm.trans ev12
        replace ev12 := Lib.hid ev12
        have ev13 : FA.eval (.tmp 13) = _ := hD 2 13 (by kernel_rfl)
        have e13 := (eval_tmp FA 13).symm.trans ev13
        replace ev13 := Lib.hid ev13
        clear hO hD
        go_simp
        exact hK.out _ _ (Ex.refl _) rfl
      apply Steps.one (MP.eq _) 5 rfl
      · intro o ho FA x hO hD K hK
        obtain rfl := Option.some.inj ho.symm
        clear ho
        have ev14 : FA.eval (.tmp 14) = _ := hD 3 14 (by kernel_rfl)
        have e14 := (eval_tmp FA 14).symm.trans ev14
        replace ev14 := Lib.hid ev14
        clear hO hD
        go_simp
        exact hK.out _ _ (Ex.refl _) rfl
      apply Steps.one (MP.eq _) 6 rfl
      · intro o ho FA x hO hD K hK
        obtain rfl := Option.some.inj ho.symm
        clear ho
        have ev15 : FA.eval (.tmp 15) = _ := hD 4 15 (by kernel_rfl)
        have e15 := (eval_tmp FA 15).symm.trans ev15
        replace ev15 := Lib.hid ev15
        clear hO hD
        refine wanted_if rfl ?_
        have c0 := (cellPl wr x.bs x.d zq).trans q0
        go_simp
        exact hK.out _ _ (Ex.refl _) rfl
      apply Steps.one (MP.eq _) 7 rfl
      · intro o ho FA x hO hD K hK
        obtain rfl := Option.some.inj ho.symm
        clear ho
        have e0 := hO 0 (by kernel_rfl)
        simp only [eval_tmp, List.getElem?_toArray, List.getElem?_cons_succ, List.getElem?_cons_zero, Option.getD_some] at e0
        have ev0 := Lib.hid ((eval_tmp FA 0).trans e0)
        clear hO hD
        go_simp
        exact hK.out _ _ (Ex.refl _) rfl
      apply Steps.one (MP.eq _) 8 rfl
      · intro o ho FA x hO hD K hK
        obtain rfl := Option.some.inj ho.symm
        clear ho
        have e4 := hO 4 (by kernel_rfl)
        simp only [eval_tmp, List.getElem?_toArray, List.getElem?_cons_succ, List.getElem?_cons_zero, Option.getD_some] at e4
        have ev4 := Lib.hid ((eval_tmp FA 4).trans e4)
        clear hO hD
        go_simp
        exact hK.out _ _ (Ex.refl _) rfl
      apply Steps.one (MP.eq _) 9 rfl
      · intro o ho FA x hO hD K hK
        obtain rfl := Option.some.inj ho.symm
        clear ho
        have ev17 : FA.eval (.tmp 17) = _ := hD 6 17 (by kernel_rfl)
        have e17 := (eval_tmp FA 17).symm.trans ev17
        replace ev17 := Lib.hid ev17
        have ev18 : FA.eval (.tmp 18) = _ := hD 7 18 (by kernel_rfl)
        have e18 := (eval_tmp FA 18).symm.trans ev18
        replace ev18 := Lib.hid ev18
        clear hO hD
        go_simp
        exact hK.out _ _ (Ex.refl _) rfl
      apply Steps.one (MP.eq _) 10 rfl
      · intro o ho FA x hO hD K hK
        obtain rfl := Option.some.inj ho.symm
        clear ho
        have ev19 : FA.eval (.tmp 19) = _ := hD 8 19 (by kernel_rfl)
        have e19 := (eval_tmp FA 19).symm.trans ev19
        replace ev19 := Lib.hid ev19
        clear hO hD
        go_simp
        exact hK.out _ _ (Ex.refl _) rfl
      apply Steps.one (MP.eq _) 11 rfl
      · intro o ho FA x hO hD K hK
        obtain rfl := Option.some.inj ho.symm
        clear ho
        have ev20 : FA.eval (.tmp 20) = _ := hD 9 20 (by kernel_rfl)
        have e20 := (eval_tmp FA 20).symm.trans ev20
        replace ev20 := Lib.hid ev20
        clear hO hD
        refine wanted_if rfl ?_
        have c0 := (cellPl wr x.bs x.d zq).trans q1
        go_simp
        exact hK.out _ _ (Ex.refl _) rfl
      apply Steps.one (MP.eq _) 12 rfl
      · intro o ho FA x hO hD K hK
        obtain rfl := Option.some.inj ho.symm
        clear ho
        have ev16 : FA.eval (.tmp 16) = _ := hD 5 16 (by kernel_rfl)
        have e16 := (eval_tmp FA 16).symm.trans ev16
        replace ev16 := Lib.hid ev16
        have ev21 : FA.eval (.tmp 21) = _ := hD 10 21 (by kernel_rfl)
        have e21 := (eval_tmp FA 21).symm.trans ev21
        replace ev21 := Lib.hid ev21
        clear hO hD
        go_simp
        exact hK.out _ _ (Ex.refl _) rfl
      apply Steps.one (MP.rs 2 [.int .i64 a, .int .i64 b]) 13 rfl
      · intro o ho FA x hO hD K hK
        obtain rfl := Option.some.inj ho.symm
        clear ho
        have ev22 : FA.eval (.tmp 22) = _ := hD 11 22 (by kernel_rfl)
        have e22 := (eval_tmp FA 22).symm.trans ev22
        replace ev22 := Lib.hid ev22
        clear hO hD
        go_simp
        exact hK.out _ _ (Ex.alloc _ _) ⟨_, _, _, rfl, Rs.of_bk (Bk.newK _ _ _ (by simp [size_plus]) rfl) rfl (Nat.le_refl _)⟩
      refine Steps.fin_ (fun vs x hp => ?_)
      have p0 : vs 0 = _ := hp 0 (by omega)
      have p1 : vs 1 = _ := hp 1 (by omega)
      have p2 : vs 2 = _ := hp 2 (by omega)
      have p3 : vs 3 = _ := hp 3 (by omega)
      have p4 : vs 4 = _ := hp 4 (by omega)
      have p5 : vs 5 = _ := hp 5 (by omega)
      have p6 : vs 6 = _ := hp 6 (by omega)
      have p7 : vs 7 = _ := hp 7 (by omega)
      have p8 : vs 8 = _ := hp 8 (by omega)
      have p9 : vs 9 = _ := hp 9 (by omega)
      have p10 : vs 10 = _ := hp 10 (by omega)
      have p11 : vs 11 = _ := hp 11 (by omega)
      have p12 := hp 12 (by omega)
      clear hp
      simp only [List.take_succ_cons, List.take_zero, List.drop_succ_cons, List.drop_zero, putAll, Nat.zero_add, Nat.reduceAdd, Act.put, List.setIfInBounds_toArray, List.set_cons_zero, List.set_cons_succ, p0, p1, p2, p3, p4, p5, p6, p7, p8, p9, p10, p11]
      clear p0 p1 p2 p3 p4 p5 p6 p7 p8 p9 p10 p11
      generalize vs 12 = y12 at *
      clear vs
      obtain ⟨A8, n8, c8, rfl, h8⟩ := p12
      have hn8 : n8 = 1 := by have := h8.1; simp at this; omega
      subst hn8
      replace hO := hO.plus_ x.bs x.d
      replace hE := belowP hE x.bs x.d
      have zb2 := hE.size
      generalize plus wr x.bs x.d = wr3 at *
      go_wp2_with (at_builtin; refine wpList_appS etMb rfl (.tmp 11) (.tmp 23) rfl rfl hO rfl h8 (by simp [Value.oneCell']) (by omega) zb2 ?_; intro A2 n2 c2 w4 hn2 hO4 hb4 hg4; subst hn2)
      exact ⟨⟨n' + 1, A2, _, c2, by omega, by go_num, rfl, rfl, by rw [HN.out, prs_append]; exact hO4, hE.trans hb4⟩, by simp [intOf]; omega⟩
    · have ij : ¬ (n' : Int) < (nl : Int) := by omega
      have e : L.take n' = L := List.take_of_length_le (by omega)
      have HO := Lib.hid hO
      rw [e] at HO
      clear hO e
      go_wp2
      go_ret
      exact RetRs.mk HO.out.rs hE
end Go.Proofs.Ytfmkndemkpecpaa
