/- cmp.Compare, hrw.ahead, slices.MinFunc (chapter 16). -/
import Derived.Test.YtfmkndemkpecpaaHrwP
import Derived.Test.YtfmkndemkpecpaaRow
import Derived.Test.YtfmkndemkpecpaaRelS
import Derived.Test.YtfmkndemkpecpaaCom
import Derived.Deep.DeepCutAuto
namespace Go.Proofs.Ytfmkndemkpecpaa
open Go.RowKit
set_option linter.unusedVariables false
set_option linter.unusedSimpArgs false
attribute [local go_sem ↓] sliced_cut
attribute [local go_sem] cutA_zero

/-- the cells of a scored member -/
def scC (p : Int × Int) : List Value := [.int .i64 p.1, .int .u64 p.2]
theorem scC_one (p : Int × Int) : ∀ u ∈ scC p, u.oneCell' = true := by simp [scC, Value.oneCell']
theorem szSc (p : Int × Int) : (Try.prog.info? 196).map (·.size) = some (scC p).length := by kernel_rfl
theorem rowSc : ∃ d, Try.prog.underlying 196 = some d ∧ d.isRow = true := ⟨_, Try.underlying196, rfl⟩
set_option maxHeartbeats 4000000 in
set_option maxRecDepth 100000 in
theorem isNaN_i64 (x : Int) (w : World) : Calls Try.prog 174 #[.int .i64 x] w (RetV w (.bool false)) := by
  go_enter Try.func174, Try.ntmps174
  go_wp2
  go_ret
  exact RetV.is_ (by simp) (Below.refl _ _)
set_option maxHeartbeats 4000000 in
set_option maxRecDepth 100000 in
theorem compare_i64 (x y : Int) (w : World) : Calls Try.prog 136 #[.int .i64 x, .int .i64 y] w (RetV w (.int .i64 (cmp3 x y))) := by
  obtain ⟨z, hz⟩ : ∃ z, z = cmp3 x y := ⟨_, rfl⟩
  have HZ := Lib.hid hz
  rw [← hz]
  clear hz
  rcases Int.lt_trichotomy x y with h | h | h
  · have d1 : decide (x < y) = true := by simp only [decide_eq_true_eq]; omega
    go_enter Try.func136, Try.ntmps136
    go_wp2_with (first
      | (go_at_call 174; (with_reducible refine (isNaN_i64 _ _).mono ?_); rintro e w1 ⟨bs, d, rfl, rfl⟩))
    go_ret
    exact RetV.is_ (by rw [HZ.out]; simp [cmp3, h]) (belowP (belowP (Below.refl _ _) _ _) _ _)
  · have d1 : decide (x < y) = false := by simp only [decide_eq_false_iff_not]; omega
    have d2 : decide (y < x) = false := by simp only [decide_eq_false_iff_not]; omega
    go_enter Try.func136, Try.ntmps136
    go_wp2_with (first
      | (go_at_call 174; (with_reducible refine (isNaN_i64 _ _).mono ?_); rintro e w1 ⟨bs, d, rfl, rfl⟩))
    go_ret
    exact RetV.is_ (by rw [HZ.out]; simp [cmp3, h]) (belowP (belowP (Below.refl _ _) _ _) _ _)
  · have d1 : decide (x < y) = false := by simp only [decide_eq_false_iff_not]; omega
    have d2 : decide (y < x) = true := by simp only [decide_eq_true_eq]; omega
    go_enter Try.func136, Try.ntmps136
    go_wp2_with (first
      | (go_at_call 174; (with_reducible refine (isNaN_i64 _ _).mono ?_); rintro e w1 ⟨bs, d, rfl, rfl⟩))
    go_ret
    exact RetV.is_ (by rw [HZ.out, cmp3, if_neg (by omega), if_pos h]; rfl) (belowP (belowP (Below.refl _ _) _ _) _ _)
set_option maxHeartbeats 4000000 in
set_option maxRecDepth 100000 in
theorem isNaN_u64 (x : Int) (w : World) : Calls Try.prog 173 #[.int .u64 x] w (RetV w (.bool false)) := by
  go_enter Try.func173, Try.ntmps173
  go_wp2
  go_ret
  exact RetV.is_ (by simp) (Below.refl _ _)
set_option maxHeartbeats 4000000 in
set_option maxRecDepth 100000 in
theorem compare_u64 (x y : Int) (w : World) : Calls Try.prog 135 #[.int .u64 x, .int .u64 y] w (RetV w (.int .i64 (cmp3 x y))) := by
  obtain ⟨z, hz⟩ : ∃ z, z = cmp3 x y := ⟨_, rfl⟩
  have HZ := Lib.hid hz
  rw [← hz]
  clear hz
  rcases Int.lt_trichotomy x y with h | h | h
  · have d1 : decide (x < y) = true := by simp only [decide_eq_true_eq]; omega
    go_enter Try.func135, Try.ntmps135
    go_wp2_with (first
      | (go_at_call 173; (with_reducible refine (isNaN_u64 _ _).mono ?_); rintro e w1 ⟨bs, d, rfl, rfl⟩))
    go_ret
    exact RetV.is_ (by rw [HZ.out]; simp [cmp3, h]) (belowP (belowP (Below.refl _ _) _ _) _ _)
  · have d1 : decide (x < y) = false := by simp only [decide_eq_false_iff_not]; omega
    have d2 : decide (y < x) = false := by simp only [decide_eq_false_iff_not]; omega
    go_enter Try.func135, Try.ntmps135
    go_wp2_with (first
      | (go_at_call 173; (with_reducible refine (isNaN_u64 _ _).mono ?_); rintro e w1 ⟨bs, d, rfl, rfl⟩))
    go_ret
    exact RetV.is_ (by rw [HZ.out]; simp [cmp3, h]) (belowP (belowP (Below.refl _ _) _ _) _ _)
  · have d1 : decide (x < y) = false := by simp only [decide_eq_false_iff_not]; omega
    have d2 : decide (y < x) = true := by simp only [decide_eq_true_eq]; omega
    go_enter Try.func135, Try.ntmps135
    go_wp2_with (first
      | (go_at_call 173; (with_reducible refine (isNaN_u64 _ _).mono ?_); rintro e w1 ⟨bs, d, rfl, rfl⟩))
    go_ret
    exact RetV.is_ (by rw [HZ.out, cmp3, if_neg (by omega), if_pos h]; rfl) (belowP (belowP (Below.refl _ _) _ _) _ _)
set_option maxHeartbeats 4000000 in
set_option maxRecDepth 100000 in
theorem ahead_any (p q : Int × Int) (w : World) : Calls Try.prog 84 #[.agg (scC p).toArray, .agg (scC q).toArray] w (RetV w (.int .i64 (aheadI p q))) := by
  obtain ⟨p1, p2⟩ := p
  obtain ⟨q1, q2⟩ := q
  show Calls Try.prog 84 #[.agg #[.int .i64 p1, .int .u64 p2], .agg #[.int .i64 q1, .int .u64 q2]] w _
  have HA : RowKit.Hid (aheadI (p1, p2) (q1, q2) = if cmp3 q2 p2 = 0 then cmp3 p1 q1 else cmp3 q2 p2) := Lib.hid rfl
  generalize aheadI (p1, p2) (q1, q2) = r at *
  have HU := Lib.hid (fun w => compare_u64 q2 p2 w)
  have HI := Lib.hid (fun w => compare_i64 p1 q1 w)
  generalize cmp3 q2 p2 = a at *
  generalize cmp3 p1 q1 = b at *
  cases h : decide (a = 0) with
  | true =>
    have ha : a = 0 := of_decide_eq_true h
    subst ha
    go_enter Try.func84, Try.ntmps84
    go_wp2_with (first
      | (go_at_call 135; (with_reducible refine (HU.out _).mono ?_); rintro e w1 ⟨bs, d, rfl, rfl⟩)
      | (go_at_call 136; (with_reducible refine (HI.out _).mono ?_); rintro e w1 ⟨bs, d, rfl, rfl⟩))
    go_ret
    exact RetV.is_ (by rw [HA.out]; simp) (belowP (belowP (Below.allocS (Below.allocS (Below.refl _ _) _) _) _ _) _ _)
  | false =>
    have ha : ¬ a = 0 := of_decide_eq_false h
    have hb : (a != 0) = true := by rw [bne_iff_ne]; exact ha
    go_enter Try.func84, Try.ntmps84
    go_wp2_with (first
      | (go_at_call 135; (with_reducible refine (HU.out _).mono ?_); rintro e w1 ⟨bs, d, rfl, rfl⟩))
    go_ret
    exact RetV.is_ (by rw [HA.out, if_neg ha]; rfl) (belowP (Below.allocS (Below.allocS (Below.refl _ _) _) _) _ _)
set_option maxHeartbeats 4000000 in
set_option maxRecDepth 100000 in
theorem minF_any (A : Option Addr) (n c : Nat) (m : Int × Int) (t : List (Int × Int)) (w : World) (h : Rs 2 w A n c (prs .u64 (m :: t))) (hm : n ≤ 1000000) :
    Calls Try.prog 83 #[.slice A n c, .func (.func 84) #[] #[]] w (RetV w (.agg (scC (pickS m t)).toArray)) := by
  obtain ⟨du, u1, u2⟩ := rowSc
  have hln := h.1
  have hcp := h.2.1
  rw [prs_length] at hln
  have hln1 : t.length + 1 = n := by simp only [List.length_cons] at hln; omega
  obtain ⟨b, off, rfl, hbl, hcell⟩ := h.at_ (by omega) (by decide)
  have d1 : decide ((n : Int) < 1) = false := by simp only [decide_eq_false_iff_not]; omega
  have i0 : (0 : Int) < (n : Int) := by omega
  have HC := Lib.hid (fun (j : Nat) (hj : j < t.length + 1) => (prs_at .u64 (m :: t) j (by simpa using hj)))
  have q0 : w.cell? ⟨b, off, none⟩ = some (.int .i64 m.1) := hcell 0 _ rfl
  have q1 : w.cell? ⟨b, off + 1, none⟩ = some (.int .u64 m.2) := hcell 1 _ rfl
  have HD := Lib.hid hcell
  clear hcell h hln
  go_enter Try.func83, Try.ntmps83
  go_upto_region 3 with (fail)
  go_wp2_with (fail)
  have b4 : Bk ((w.alloc (.cells #[.int .i64 0, .int .u64 0] 196)).alloc (.cells #[.int .i64 m.1, .int .u64 m.2] 196)) w.heap.size 196 (scC (0, 0)) := (Bk.new w 196 #[.int .i64 0, .int .u64 0]).alloc _
  have b5 : Bk ((w.alloc (.cells #[.int .i64 0, .int .u64 0] 196)).alloc (.cells #[.int .i64 m.1, .int .u64 m.2] 196)) (w.heap.size + 1) 196 (scC m) := Bk.newK _ _ _ (by simp) rfl
  have be : Below w.heap.size w ((w.alloc (.cells #[.int .i64 0, .int .u64 0] 196)).alloc (.cells #[.int .i64 m.1, .int .u64 m.2] 196)) := Below.allocS (Below.allocS (Below.refl _ _) _) _
  have B4 := Lib.hid b4
  have B5 := Lib.hid b5
  have BE := Lib.hid be
  clear b4 b5 be q0 q1
  generalize (w.alloc (.cells #[.int .i64 0, .int .u64 0] 196)).alloc (.cells #[.int .i64 m.1, .int .u64 m.2] 196) = V at *
  go_loopw [6] (fun i wr => ∃ (j : Nat) (r : Int × Int), j + 1 ≤ n ∧ i = .int .i64 ((j + 1 : Nat) : Int) ∧ Bk wr w.heap.size 196 (scC (0, 0)) ∧ Bk wr (w.heap.size + 1) 196 (scC r) ∧ pickS r (t.drop j) = pickS m t ∧ Below w.heap.size w wr) (fun i _ => n - (intOf i).toNat)
  case atStart => exact ⟨0, m, by omega, rfl, B4.out, B5.out, rfl, BE.out⟩
  case round =>
    clear B4 B5 BE
    obtain ⟨j, r, hj, rfl, h4, h5, hp, he⟩ := hrel
    have HP := Lib.hid hp
    clear hp
    obtain ⟨k, hk⟩ : ∃ k, k = j + 1 := ⟨_, rfl⟩
    rw [← hk] at hj ⊢
    have HK := Lib.hid hk
    clear hk
    by_cases hlt : k < n
    · have hjt : j < t.length := by have := HK.out; omega
      obtain ⟨y, hy⟩ : ∃ y, y = t[j] := ⟨_, rfl⟩
      have hpk : pickS (if aheadI y r < 0 then y else r) (t.drop (j + 1)) = pickS m t := by
        have := HP.out
        rw [List.drop_eq_getElem_cons hjt] at this
        rw [hy]; exact this
      have HR : RowKit.Hid (∀ w', Below w.heap.size w w' → w'.rangeAt b (off + k * 2) (scC y)) := Lib.hid (fun w' hb i u hu => by
        have hc := HC.out k (by omega)
        have e : (m :: t)[k]'(by simp; omega) = y := by have h1 := HK.out; subst h1; rw [hy]; rfl
        rw [e] at hc
        rw [hb.cell (p := ⟨b, _, none⟩) hbl]
        match i, hu with
        | 0, hu => rw [Nat.add_zero, Nat.mul_comm]; exact (HD.out _ _ hc.1).trans hu
        | 1, hu => rw [Nat.add_assoc, Nat.mul_comm k 2]; exact (HD.out _ _ hc.2).trans hu
        | i + 2, hu => simp [scC] at hu)
      have HA := Lib.hid (fun w => ahead_any y r w)
      clear hy
      generalize aheadI y r = q at *
      have HP0 := Lib.hid hpk
      clear hpk
      have ik : (k : Int) < (n : Int) := by omega
      go_upto_region 7 with (fail)
      go_wp2
      refine wp_relS 8 33 rfl (by kernel_rfl) (by kernel_rfl) ?_
      apply Steps.one (MP.eq _) 1 rfl
      · intro o ho FA x hO hD K hK
        obtain rfl := Option.some.inj ho.symm
        clear ho
        have e1 := hO 1 (by kernel_rfl)
        simp only [eval_tmp, List.getElem?_toArray, List.getElem?_cons_succ, List.getElem?_cons_zero, Option.getD_some] at e1
        have ev1 := Lib.hid ((eval_tmp FA 1).trans e1)
        clear hO hD
        go_simp
        exact hK.out _ _ (Ex.refl _) rfl
      apply Steps.one (MP.eq _) 2 rfl
      · intro o ho FA x hO hD K hK
        obtain rfl := Option.some.inj ho.symm
        clear ho
        have e0 := hO 0 (by kernel_rfl)
        simp only [eval_tmp, List.getElem?_toArray, List.getElem?_cons_succ, List.getElem?_cons_zero, Option.getD_some] at e0
        have ev0 := Lib.hid ((eval_tmp FA 0).trans e0)
        clear hO hD
        go_simp
        exact hK.out _ _ (Ex.refl _) rfl
      apply Steps.one (MP.eq _) 3 rfl
      · intro o ho FA x hO hD K hK
        obtain rfl := Option.some.inj ho.symm
        clear ho
        have e6 := hO 6 (by kernel_rfl)
        simp only [eval_tmp, List.getElem?_toArray, List.getElem?_cons_succ, List.getElem?_cons_zero, Option.getD_some] at e6
        have ev6 := Lib.hid ((eval_tmp FA 6).trans e6)
        clear hO hD
        go_simp
        exact hK.out _ _ (Ex.refl _) rfl
      apply Steps.one (MP.eq _) 4 rfl
      · intro o ho FA x hO hD K hK
        obtain rfl := Option.some.inj ho.symm
        clear ho
        have ev21 : FA.eval (.tmp 21) = _ := hD 1 21 (by kernel_rfl)
        have e21 := (eval_tmp FA 21).symm.trans ev21
        replace ev21 := Lib.hid ev21
        have ev22 : FA.eval (.tmp 22) = _ := hD 2 22 (by kernel_rfl)
        have e22 := (eval_tmp FA 22).symm.trans ev22
        replace ev22 := Lib.hid ev22
        clear hO hD
        go_simp
        exact hK.out _ _ (Ex.refl _) rfl
      apply Steps.one (MP.eq _) 5 rfl
      · intro o ho FA x hO hD K hK
        obtain rfl := Option.some.inj ho.symm
        clear ho
        have ev23 : FA.eval (.tmp 23) = _ := hD 3 23 (by kernel_rfl)
        have e23 := (eval_tmp FA 23).symm.trans ev23
        replace ev23 := Lib.hid ev23
        clear hO hD
        refine wanted_if rfl ?_
        refine wp_load_mid 196 (.tmp 23) rfl b (off + k * 2) ev23.out (scC y) _ (HR.out _ (belowP he _ _)) u1 u2 (szSc _) ?_
        exact hK.out _ _ (Ex.refl _) rfl
      apply Steps.one (MP.eq _) 6 rfl
      · intro o ho FA x hO hD K hK
        obtain rfl := Option.some.inj ho.symm
        clear ho
        have e5 := hO 5 (by kernel_rfl)
        simp only [eval_tmp, List.getElem?_toArray, List.getElem?_cons_succ, List.getElem?_cons_zero, Option.getD_some] at e5
        have ev5 := Lib.hid ((eval_tmp FA 5).trans e5)
        clear hO hD
        refine wanted_if rfl ?_
        refine wp_ldA 196 (.tmp 5) rfl (scC r) ev5.out (h5.later (below_plus _ _ _)) (whole_ _) u1 u2 (szSc _) ?_
        exact hK.out _ _ (Ex.refl _) rfl
      apply Steps.one (MP.eq _) 7 rfl
      · intro o ho FA x hO hD K hK
        obtain rfl := Option.some.inj ho.symm
        clear ho
        have ev20 : FA.eval (.tmp 20) = _ := hD 0 20 (by kernel_rfl)
        have e20 := (eval_tmp FA 20).symm.trans ev20
        replace ev20 := Lib.hid ev20
        have ev24 : FA.eval (.tmp 24) = _ := hD 4 24 (by kernel_rfl)
        have e24 := (eval_tmp FA 24).symm.trans ev24
        replace ev24 := Lib.hid ev24
        have ev25 : FA.eval (.tmp 25) = _ := hD 5 25 (by kernel_rfl)
        have e25 := (eval_tmp FA 25).symm.trans ev25
        replace ev25 := Lib.hid ev25
        clear hO hD
        go_simp
        refine (HA.out _).mono ?_
        rintro e w1 ⟨bs2, d2, rfl, rfl⟩
        exact hK.out _ _ (Ex.plus_ _ _ _) rfl
      apply Steps.one (MP.eq _) 8 rfl
      · intro o ho FA x hO hD K hK
        obtain rfl := Option.some.inj ho.symm
        clear ho
        have ev26 : FA.eval (.tmp 26) = _ := hD 6 26 (by kernel_rfl)
        have e26 := (eval_tmp FA 26).symm.trans ev26
        replace ev26 := Lib.hid ev26
        clear hO hD
        go_simp
        exact hK.out _ _ (Ex.refl _) rfl
      refine Steps.fin_ (fun vs x hp => ?_)
      have p0 : vs 0 = _ := hp 0 (by omega)
      have p1 : vs 1 = _ := hp 1 (by omega)
      have p2 : vs 2 = _ := hp 2 (by omega)
      have p3 : vs 3 = _ := hp 3 (by omega)
      have p4 : vs 4 = _ := hp 4 (by omega)
      have p5 : vs 5 = _ := hp 5 (by omega)
      have p6 : vs 6 = _ := hp 6 (by omega)
      have p7 : vs 7 = _ := hp 7 (by omega)
      clear hp
      simp only [List.take_succ_cons, List.take_zero, List.drop_succ_cons, List.drop_zero, putAll, Nat.zero_add, Nat.reduceAdd, Act.put, List.setIfInBounds_toArray, List.set_cons_zero, List.set_cons_succ, p0, p1, p2, p3, p4, p5, p6, p7]
      clear p0 p1 p2 p3 p4 p5 p6 p7
      clear vs
      replace h4 := h4.later (below_plus _ x.bs x.d)
      replace h5 := h5.later (below_plus _ x.bs x.d)
      replace he := belowP he x.bs x.d
      generalize plus wr x.bs x.d = w2 at *
      have hpk0 := HP0.out
      clear HP0
      cases hd : decide (q < 0) with
      | true =>
        have hy := of_decide_eq_true hd
        rw [if_pos hy] at hpk0
        have HPK := Lib.hid hpk0
        clear hpk0 hy
        go_wp2_with (first
          | (refine at_op (.load 196 (.tmp 30)) rfl ?_; refine wpList_load_mid rfl _ (.tmp 30) rfl b (off + k * 2) rfl (scC y) _ (HR.out _ he) u1 u2 (szSc _) ?_)
          | (refine at_op (.store 196 (.tmp 5) (.tmp 31)) rfl ?_; refine wpList_stA (t := 196) 196 (.tmp 5) (.tmp 31) rfl rfl (scC y) (scC r) rfl (scC_one _) rfl rfl h5 (szSc _) ?_; intro w3 hn hg))
        have e4 := h4.grown hg (by simp)
        have e5 := below_grown he hg (by omega)
        exact ⟨⟨k, y, by omega, by go_num, e4, hn, by rw [HK.out]; exact HPK.out, e5⟩, by simp [intOf]; omega⟩
      | false =>
        have hy := of_decide_eq_false hd
        rw [if_neg hy] at hpk0
        have HPK := Lib.hid hpk0
        clear hpk0 hy
        go_wp2_with (fail)
        exact ⟨⟨k, r, by omega, by go_num, h4, h5, by rw [HK.out]; exact HPK.out, he⟩, by simp [intOf]; omega⟩
    · have hr : r = pickS m t := by
        have h1 := HP.out
        have h2 := HK.out
        rw [List.drop_eq_nil_of_le (by omega)] at h1
        exact h1
      have ik : ¬ (k : Int) < (n : Int) := by omega
      go_wp2_with (first
        | (refine at_op (.load 196 (.tmp 5)) rfl ?_; refine wpList_ldA (t := 196) 196 (.tmp 5) rfl rfl (scC r) rfl (h5) (whole_ _) u1 u2 (szSc _) ?_)
        | (refine at_op (.store 196 (.tmp 4) (.tmp 32)) rfl ?_; refine wpList_stA (t := 196) 196 (.tmp 4) (.tmp 32) rfl rfl (scC r) (scC (0, 0)) rfl (scC_one _) rfl rfl h4 (szSc _) ?_; intro w3 hn hg))
      refine bodyPost_agg Try.results83 rfl hn.range u1 u2 (szSc _) rfl ?_
      rw [hr]
      exact RetV.mk (below_grown he hg (Nat.le_refl _))
end Go.Proofs.Ytfmkndemkpecpaa
