/- Texts of the law OptionWrites, part 2. -/
import Derived.Test.YtenaiojddohbkaaZOptionWrites1
/- OptionWrites' walk (chapter 44). -/
namespace Go.Proofs.Ytenaiojddohbkaa
open Go.RowKit
set_option linter.unusedVariables false
set_option linter.unusedSimpArgs false
attribute [local go_sem ↓] sliced_cut

attribute [local go_sem] cutA_zero

theorem etOp : ET Try.prog 83 88 (.agg #[.int .u8 0, .slice none 0 0]) 2 32 := ⟨Try.underlying83, by kernel_rfl, rfl, by decide, by decide⟩
theorem wr_prefix : ∀ (L : List (Nat × List UInt8)) (b : List UInt8), wrE L b = 0 → ∃ s, wrB L b = b ++ s
  | [], b, _ => ⟨_, rfl⟩
  | (k, d) :: t, b, h => by
    simp only [wrE, wrB] at h ⊢
    split at h
    · cases h
    · rename_i h1
      rw [if_neg h1]
      split at h
      · cases h
      · rename_i h2
        rw [if_neg h2]
        split at h
        · cases h
        · rename_i h3
          rw [if_neg h3]
          obtain ⟨s, hs⟩ := wr_prefix t _ h
          exact ⟨oneO k d ++ s, by rw [hs, List.append_assoc]⟩
theorem wr_len : ∀ (L : List (Nat × List UInt8)) (b : List UInt8), b.length ≤ 40 → (wrB L b).length ≤ 40
  | [], b, h => by simp only [wrB, List.length_append, List.length_replicate, padL]; omega
  | (k, d) :: t, b, h => by
    simp only [wrB]
    split
    · simp
    · split
      · simp
      · split
        · simp
        · exact wr_len t _ (by simp [oneO]; omega)
theorem bat_mid (b s : List UInt8) (i : Nat) : bat (b ++ s) (b.length + i) = bat s i := by
  simp only [bat, List.getD_eq_getElem?_getD]
  rw [List.getElem?_append_right (by omega)]
  congr 2
  congr 1
  omega
theorem opts_wr : ∀ (L : List (Nat × List UInt8)) (b : List UInt8) (f : Nat), (∀ x ∈ L, x.1 < 256) → wrE L b = 0 → (wrB L b).length - b.length < f → (optF f (wrB L b) b.length).map Prod.snd = L
  | _, _, 0, _, _, h => absurd h (by omega)
  | [], b, f + 1, _, _, hf => by
    simp only [wrB]
    unfold optF
    by_cases h0 : padL b.length = 0
    · rw [if_pos (by simp [h0])]
      rfl
    · rw [if_neg (by simp; omega)]
      have h1 := bat_mid b (List.replicate (padL b.length) 0) 0
      rw [Nat.add_zero] at h1
      have h2 : bat (List.replicate (padL b.length) 0) 0 = 0 := by
        simp only [bat, List.getD_eq_getElem?_getD, List.getElem?_replicate]
        split <;> rfl
      rw [if_pos (h1.trans h2)]
      rfl
  | (k, d) :: t, b, f + 1, hk, he, hf => by
    simp only [wrE, wrB] at he hf ⊢
    have hk0 : k < 256 := hk _ (List.mem_cons_self ..)
    split at he
    · cases he
    · rename_i h1
      rw [if_neg h1] at hf ⊢
      split at he
      · cases he
      · rename_i h2
        rw [if_neg h2] at hf ⊢
        split at he
        · cases he
        · rename_i h3
          rw [if_neg h3] at hf ⊢
          obtain ⟨s, hs⟩ := wr_prefix t _ he
          have ih := opts_wr t (b ++ oneO k d) f (fun x hx => hk x (List.mem_cons_of_mem _ hx)) he
          have hl1 : (b ++ oneO k d).length = b.length + (d.length + 2) := by simp [oneO]
          generalize hB : wrB t (b ++ oneO k d) = B at *
          have hl2 : B.length = b.length + (d.length + 2) + s.length := by rw [hs, List.length_append, hl1]
          have e0 : bat B b.length = k := by
            have := bat_mid b (oneO k d ++ s) 0
            rw [Nat.add_zero, ← List.append_assoc, ← hs] at this
            rw [this]
            simp [bat, oneO]
            omega
          have e1 : bat B (b.length + 1) = d.length + 2 := by
            have := bat_mid b (oneO k d ++ s) 1
            rw [← List.append_assoc, ← hs] at this
            rw [this]
            simp [bat, oneO]
            omega
          have e2 : (B.drop (b.length + 2)).take d.length = d := by
            rw [hs, List.append_assoc, List.drop_append, List.drop_of_length_le (by omega), List.nil_append, show b.length + 2 - b.length = 2 by omega]
            simp [oneO]
          unfold optF
          rw [if_neg (by omega), e0, if_neg (by omega), if_neg (by omega), if_neg (by omega), e1, if_neg (by omega), if_neg (by omega)]
          rw [show d.length + 2 - 2 = d.length by omega, e2, List.map_cons]
          rw [hl1] at ih
          rw [ih (by omega)]
theorem opts_written (L : List (Nat × List UInt8)) (hk : ∀ x ∈ L, x.1 < 256) (he : wrE L [] = 0) : (opts (wrB L [])).map Prod.snd = L := opts_wr L [] _ hk he (by simp)
set_option maxHeartbeats 4000000 in
set_option maxRecDepth 100000 in
theorem optionWrites_walk (w : World) (A : Option Addr) (n c : Nat) (L : List Ox) (hr : Rs 3 w A n c (L.flatMap rxC)) (hd : ∀ x ∈ L, Rb w x.A x.n x.c x.d) (hk : ∀ x ∈ L, x.k < 256) (hnm : n ≤ 9223372036854775807) : Calls Try.prog 5 #[.slice A n c] w (RetV w (.bool true)) := by
  have hln : L.length = n := by have := hr.1; rw [flat_len rxC 3 rxC_len] at this; omega
  by_cases h30 : 30 < n
  · have i30 : (30 : Int) < (n : Int) := by omega
    go_enter Try.func5, Try.ntmps5
    go_wp2_with (go_at_call 26; refine (awake44 _).mono ?_; rintro e w1 ⟨bs3, d3, rfl, rfl⟩)
    go_ret
    exact RetV.mk (below_plus _ _ _)
  have i30 : ¬ (30 : Int) < (n : Int) := by omega
  go_enter Try.func5, Try.ntmps5
  go_upto_region 5 with (fail)
  go_loopw [3, 4] (fun s i wr => ∃ (j : Nat) (A' : Option Addr) (n' c' : Nat), j ≤ n ∧ i = .int .i64 (j : Int) ∧ s = .slice A' n' c' ∧ Os 88 2 wr w.heap.size A' n' c' ((L.take j).flatMap wxC) ∧ Below w.heap.size w wr ∧ ∀ x ∈ L.take j, x.n ≤ 200) (fun _ i _ => n - (intOf i).toNat)
  case atStart => exact ⟨0, none, 0, 0, Nat.zero_le _, rfl, rfl, by simpa using Os.nil_, Below.refl _ _, by simp⟩
  case round =>
    obtain ⟨j, A', n', c', hj, rfl, rfl, ho, hbe, h200⟩ := hrel
    have hbs := hbe.size
    by_cases hlt : j < n
    · have ij : (j : Int) < (n : Int) := by omega
      have hjL : j < L.length := by omega
      obtain ⟨b, off, rfl, hbl, -⟩ := hr.at_ (by omega) (by decide)
      have hrg := fun W (h : Below w.heap.size w W) => (hr.later h).rangeE rxC_len j hjL
      have htk : L.take (j + 1) = L.take j ++ [L[j]] := by simp
      generalize L[j] = x at *
      obtain ⟨xi, xk, xA, xn, xc, xd⟩ := x
      have HQ := Lib.hid (fun (W : World) (h : Below wr.heap.size wr W) => show W.cell? ⟨b, off + j * 3 + 1, none⟩ = some (.int .u8 (xk : Int)) ∧ W.cell? ⟨b, off + j * 3 + 2, none⟩ = some (.slice xA xn xc) from
        ⟨hrg W (hbe.trans (h.mono hbs)) 1 _ rfl, hrg W (hbe.trans (h.mono hbs)) 2 _ rfl⟩)
      have HTK := Lib.hid htk
      have H2 := Lib.hid h200
      clear hrg htk h200
      have q1 := (HQ.out wr (Below.refl _ _)).1
      have q2 := (HQ.out wr (Below.refl _ _)).2
      by_cases h2 : 200 < xn
      · have i2 : (200 : Int) < (xn : Int) := by omega
        go_wp2_with (go_at_call 26; refine (awake44 _).mono ?_; rintro e w1 ⟨bs3, d3, rfl, rfl⟩)
        go_ret
        exact RetV.mk (belowP hbe _ _)
      have i2 : ¬ (200 : Int) < (xn : Int) := by omega
      go_upto_region 9 with (fail)
      clear q1 q2
      go_wp2
      refine wp_relS 13 72 rfl (by kernel_rfl) (by kernel_rfl) ?_
      apply Steps.one (MP.eq _) 1 rfl
      · intro o ho FA x hO hD K hK
        obtain rfl := Option.some.inj ho.symm
        clear ho
        have e3 := hO 3 (by kernel_rfl)
        simp only [eval_tmp, List.getElem?_toArray, List.getElem?_cons_succ, List.getElem?_cons_zero, Option.getD_some] at e3
        have ev3 := Lib.hid ((eval_tmp FA 3).trans e3)
        clear hO hD
        go_simp
        exact hK.out _ _ (Ex.refl _) rfl
      apply Steps.one (MP.eq _) 2 rfl
      · intro o ho FA x hO hD K hK
        obtain rfl := Option.some.inj ho.symm
        clear ho
        have e0 := hO 0 (by kernel_rfl)
        simp only [eval_tmp, List.getElem?_toArray, List.getElem?_cons_succ, List.getElem?_cons_zero, Option.getD_some] at e0
        have ev0 := Lib.hid ((eval_tmp FA 0).trans e0)
        clear hO hD
        go_simp
        exact hK.out _ _ (Ex.refl _) rfl
      apply Steps.one (MP.eq _) 3 rfl
      · intro o ho FA x hO hD K hK
        obtain rfl := Option.some.inj ho.symm
        clear ho
        have e4 := hO 4 (by kernel_rfl)
        simp only [eval_tmp, List.getElem?_toArray, List.getElem?_cons_succ, List.getElem?_cons_zero, Option.getD_some] at e4
        have ev4 := Lib.hid ((eval_tmp FA 4).trans e4)
        clear hO hD
        go_simp
        exact hK.out _ _ (Ex.refl _) rfl
      apply Steps.one (MP.eq _) 4 rfl
      · intro o ho FA x hO hD K hK
        obtain rfl := Option.some.inj ho.symm
        clear ho
        have ev28 : FA.eval (.tmp 28) = _ := hD 1 28 (by kernel_rfl)
        have e28 := (eval_tmp FA 28).symm.trans ev28
        replace ev28 := Lib.hid ev28
        have ev29 : FA.eval (.tmp 29) = _ := hD 2 29 (by kernel_rfl)
        have e29 := (eval_tmp FA 29).symm.trans ev29
        replace ev29 := Lib.hid ev29
        clear hO hD
        go_simp
        exact hK.out _ _ (Ex.refl _) rfl
      apply Steps.one (MP.eq _) 5 rfl
      · intro o ho FA x hO hD K hK
        obtain rfl := Option.some.inj ho.symm
        clear ho
        have ev30 : FA.eval (.tmp 30) = _ := hD 3 30 (by kernel_rfl)
        have e30 := (eval_tmp FA 30).symm.trans ev30
        replace ev30 := Lib.hid ev30
        clear hO hD
        go_simp
        exact hK.out _ _ (Ex.refl _) rfl
      apply Steps.one (MP.eq _) 6 rfl
      · intro o ho FA x hO hD K hK
        obtain rfl := Option.some.inj ho.symm
        clear ho
        have ev31 : FA.eval (.tmp 31) = _ := hD 4 31 (by kernel_rfl)
        have e31 := (eval_tmp FA 31).symm.trans ev31
        replace ev31 := Lib.hid ev31
        clear hO hD
        have q9 := (HQ.out (plus wr x.bs x.d) (below_plus _ _ _)).1
        go_simp
        exact hK.out _ _ (Ex.refl _) rfl
      apply Steps.one (MP.eq _) 7 rfl
      · intro o ho FA x hO hD K hK
        obtain rfl := Option.some.inj ho.symm
        clear ho
        have e0 := hO 0 (by kernel_rfl)
        simp only [eval_tmp, List.getElem?_toArray, List.getElem?_cons_succ, List.getElem?_cons_zero, Option.getD_some] at e0
        have ev0 := Lib.hid ((eval_tmp FA 0).trans e0)
        clear hO hD
        go_simp
        exact hK.out _ _ (Ex.refl _) rfl
      apply Steps.one (MP.eq _) 8 rfl
      · intro o ho FA x hO hD K hK
        obtain rfl := Option.some.inj ho.symm
        clear ho
        have e4 := hO 4 (by kernel_rfl)
        simp only [eval_tmp, List.getElem?_toArray, List.getElem?_cons_succ, List.getElem?_cons_zero, Option.getD_some] at e4
        have ev4 := Lib.hid ((eval_tmp FA 4).trans e4)
        clear hO hD
        go_simp
        exact hK.out _ _ (Ex.refl _) rfl
      apply Steps.one (MP.eq _) 9 rfl
      · intro o ho FA x hO hD K hK
        obtain rfl := Option.some.inj ho.symm
        clear ho
        have ev33 : FA.eval (.tmp 33) = _ := hD 6 33 (by kernel_rfl)
        have e33 := (eval_tmp FA 33).symm.trans ev33
        replace ev33 := Lib.hid ev33
        have ev34 : FA.eval (.tmp 34) = _ := hD 7 34 (by kernel_rfl)
        have e34 := (eval_tmp FA 34).symm.trans ev34
        replace ev34 := Lib.hid ev34
        clear hO hD
        go_simp
        exact hK.out _ _ (Ex.refl _) rfl
      apply Steps.one (MP.eq _) 10 rfl
      · intro o ho FA x hO hD K hK
        obtain rfl := Option.some.inj ho.symm
        clear ho
        have ev35 : FA.eval (.tmp 35) = _ := hD 8 35 (by kernel_rfl)
        have e35 := (eval_tmp FA 35).symm.trans ev35
        replace ev35 := Lib.hid ev35
        clear hO hD
        go_simp
        exact hK.out _ _ (Ex.refl _) rfl
      apply Steps.one (MP.eq _) 11 rfl
      · intro o ho FA x hO hD K hK
        obtain rfl := Option.some.inj ho.symm
        clear ho
        have ev36 : FA.eval (.tmp 36) = _ := hD 9 36 (by kernel_rfl)
        have e36 := (eval_tmp FA 36).symm.trans ev36
        replace ev36 := Lib.hid ev36
        clear hO hD
        have q9 := (HQ.out (plus wr x.bs x.d) (below_plus _ _ _)).2
        go_simp
        exact hK.out _ _ (Ex.refl _) rfl
      apply Steps.one (MP.eq _) 12 rfl
      · intro o ho FA x hO hD K hK
        obtain rfl := Option.some.inj ho.symm
        clear ho
        have ev32 : FA.eval (.tmp 32) = _ := hD 5 32 (by kernel_rfl)
        have e32 := (eval_tmp FA 32).symm.trans ev32
        replace ev32 := Lib.hid ev32
        have ev37 : FA.eval (.tmp 37) = _ := hD 10 37 (by kernel_rfl)
        have e37 := (eval_tmp FA 37).symm.trans ev37
        replace ev37 := Lib.hid ev37
        clear hO hD
        go_simp
        exact hK.out _ _ (Ex.refl _) rfl
      apply Steps.one (MP.os 88 2 w.heap.size (opC xk xA xn xc)) 13 rfl
      · intro o ho FA x hO hD K hK
        obtain rfl := Option.some.inj ho.symm
        clear ho
        have ev38 : FA.eval (.tmp 38) = _ := hD 11 38 (by kernel_rfl)
        have e38 := (eval_tmp FA 38).symm.trans ev38
        replace ev38 := Lib.hid ev38
        clear hO hD
        go_simp
        refine hK.out _ _ (Ex.alloc _ _) ⟨_, _, _, rfl, ?_⟩
        have h := Os.lit (s := 2) (e := 88) (base := w.heap.size) (plus wr x.bs x.d) (by simp [size_plus]; omega) (opC xk xA xn xc).toArray 1 rfl (by decide)
        rw [size_plus] at h
        exact h
      refine Steps.fin_ (fun vs x hp => ?_)
      have p0 : vs 0 = _ := hp 0 (by omega)
      have p1 : vs 1 = _ := hp 1 (by omega)
      have p2 : vs 2 = _ := hp 2 (by omega)
      have p3 : vs 3 = _ := hp 3 (by omega)
      have p4 : vs 4 = _ := hp 4 (by omega)
      have p5 : vs 5 = _ := hp 5 (by omega)
      have p6 : vs 6 = _ := hp 6 (by omega)
      have p7 : vs 7 = _ := hp 7 (by omega)
      have p8 : vs 8 = _ := hp 8 (by omega)
      have p9 : vs 9 = _ := hp 9 (by omega)
      have p10 : vs 10 = _ := hp 10 (by omega)
      have p11 : vs 11 = _ := hp 11 (by omega)
      have p12 := hp 12 (by omega)
      clear hp
      simp only [List.take_succ_cons, List.take_zero, List.drop_succ_cons, List.drop_zero, putAll, Nat.zero_add, Nat.reduceAdd, Act.put, List.setIfInBounds_toArray, List.set_cons_zero, List.set_cons_succ, p0, p1, p2, p3, p4, p5, p6, p7, p8, p9, p10, p11]
      clear p0 p1 p2 p3 p4 p5 p6 p7 p8 p9 p10 p11
      generalize vs 12 = y12 at *
      clear vs
      obtain ⟨A4, n4, c4, rfl, h4⟩ := p12
      have hl4 := h4.rs.1
      obtain rfl : n4 = 1 := by simp [opC] at hl4; omega
      have hnj : n' ≤ 30 := by have := ho.1; rw [flat_len wxC 2 wxC_len, List.length_take] at this; omega
      have hb4 : w.heap.size ≤ (plus wr x.bs x.d).heap.size := by simp [size_plus]; omega
      go_wp2_with (at_builtin; refine wpList_appS etOp rfl (.tmp 27) (.tmp 39) rfl rfl (ho.plus_ x.bs x.d) rfl h4.rs (opC_one _ _ _ _) (by omega) hb4 ?_; intro A5 n5 c5 w5 hn5 hO5 hb5 hg5; subst hn5)
      refine ⟨⟨j + 1, A5, n' + 1, c5, by omega, by go_num, rfl, ?_, (belowP hbe x.bs x.d).trans hb5, fun z hz => ?_⟩, by simp [intOf]; omega⟩
      · rw [HTK.out, List.flatMap_append]
        simpa [wxC] using hO5
      · rw [HTK.out] at hz
        rcases List.mem_append.1 hz with h | h
        · exact H2.out z h
        · simp only [List.mem_cons, List.not_mem_nil, or_false] at h
          subst h
          show xn ≤ 200
          omega
    · have ij : ¬ (j : Int) < (n : Int) := by omega
      rw [List.take_of_length_le (by omega)] at ho h200
      have hn' : n' = n := by have := ho.1; rw [flat_len wxC 2 wxC_len] at this; omega
      subst hn'
      have hk2 : ∀ x ∈ L, x.k < 256 ∧ x.n ≤ 1000 := fun x hx => ⟨hk x hx, by have := h200 x hx; omega⟩
      have HWR := Lib.hid (write_any wr A' n' c' L ho.rs (fun x hx => (hd x hx).later hbe) hk2 (by omega))
      have HRW := Lib.hid (fun W (h : Below w.heap.size w W) => refWrite_any W A n' c L (hr.later h) (fun x hx => (hd x hx).later h) hk2 (by omega))
      have hop : wrE (L.map Ox.kd) [] = 0 → (opts (wrB (L.map Ox.kd) [])).map Prod.snd = L.map Ox.kd := opts_written _ (fun x hx => by obtain ⟨y, hy, rfl⟩ := List.mem_map.1 hx; exact hk y hy)
      have hwl : (wrB (L.map Ox.kd) []).length ≤ 40 := wr_len _ _ (by simp)
      generalize wrB (L.map Ox.kd) [] = B at *
      generalize wrE (L.map Ox.kd) [] = E at *
      replace hop := Lib.hid hop
      clear h200 hk2 ho
      go_upto_region 11 with (go_at_call 27; refine HWR.out.mono ?_; rintro e w1 ⟨A1, n1, c1, bs1, d1, rfl, rfl, hR1⟩)
      replace hbe := belowP hbe bs1 d1
      generalize plus wr bs1 d1 = W1 at *
      clear HWR
      have HRW1 := Lib.hid (HRW.out W1 hbe)
      clear HRW
      go_upto_region 12 with (go_at_call 28; refine HRW1.out.mono ?_; rintro e w1 ⟨A2, n2, c2, bs2, d2, rfl, rfl, hR2⟩)
      replace hbe := belowP hbe bs2 d2
      replace hR1 := hR1.plus_ bs2 d2
      generalize plus W1 bs2 d2 = W2 at *
      clear HRW1
      have es1 := run_str bt Try.underlying9 hR1
      have es2 := run_str bt Try.underlying9 hR2
      go_upto_region 14 with (fail)
      clear es1 es2
      have hn1 : n1 ≤ 40 := by have := hR1.1; omega
      by_cases hE : E = 0
      · have hsame := hop.out hE
        subst hE
        have HSA : ∀ (bs7 : List Obj) (d7 : Nat) {A7 : Option Addr} {n7 c7 : Nat} {L7 : List Ox}, Rs 3 (plus W2 bs7 d7) A7 n7 c7 (L7.flatMap rxC) → (∀ x ∈ L7, Rb (plus W2 bs7 d7) x.A x.n x.c x.d) → L7.map Ox.p = (opts B).take 100 → Calls Try.prog 29 #[.slice A7 n7 c7, .slice A n' c, .bool false] (plus W2 bs7 d7) (RetV (plus W2 bs7 d7) (.bool true)) := by
          intro bs7 d7 A7 n7 c7 L7 h1 h2 h3
          have hb7 := belowP hbe bs7 d7
          have hlen : (opts B).length = L.length := by have := congrArg List.length hsame; simpa using this
          have h4 : L7.map Ox.kd = L.map Ox.kd := by
            rw [List.take_of_length_le (by omega)] at h3
            have := congrArg (List.map Prod.snd) h3
            rw [List.map_map, hsame] at this
            exact this
          have h5 : L7.length = L.length := by have := congrArg List.length h4; simpa using this
          have h6 : n7 = L7.length := by have := h1.1; rw [flat_len rxC 3 rxC_len] at this; omega
          refine same_yes false _ A7 n7 c7 L7 A n' c L h1 h2 (hr.later hb7) (fun x hx => (hd x hx).later hb7) ?_ (by omega)
          have h7 : ∀ M : List Ox, M.map (keyW false) = (M.map Ox.kd).map (fun q => ((0 : Int), q.1, q.2)) := fun M => by rw [List.map_map]; rfl
          rw [h7, h7, h4]
        replace HSA := Lib.hid HSA
        refine wp_region_lit ?_
        iterate 3 (refine wpList_plain rfl (fun K hK => ?_); go_simp; with_reducible refine hK _ _ ?_; clear hK K)
        refine wpList_step (fun K hK => ?_); go_simp; with_reducible refine hK _ _ ?_; clear hK K
        refine wpList_step (fun K hK => ?_)
        go_simp
        refine (lawAll_any _ _ _ _ _ hR1 (by omega) 100 (by omega)).mono ?_
        rintro e w1 ⟨A7, n7, c7, L7, bs7, d7, rfl, rfl, hr7, hd7, hm7⟩
        with_reducible refine hK _ _ ?_
        clear hK K
        refine wpList_step (fun K hK => ?_); go_simp; with_reducible refine hK _ _ ?_; clear hK K
        refine wpList_step (fun K hK => ?_)
        go_simp
        refine (HSA.out bs7 d7 hr7 hd7 hm7).mono ?_
        rintro e w1 ⟨bs8, d8, rfl, rfl⟩
        with_reducible refine hK _ _ ?_
        clear hK K
        iterate 2 (refine wpList_plain rfl (fun K hK => ?_); go_simp; with_reducible refine hK _ _ ?_; clear hK K)
        refine wpList_step (fun K hK => ?_)
        go_simp
        refine (awake44 _).mono ?_
        rintro e w1 ⟨bs9, d9, rfl, rfl⟩
        with_reducible refine hK _ _ ?_
        clear hK K
        iterate 2 (refine wpList_plain rfl (fun K hK => ?_); go_simp; with_reducible refine hK _ _ ?_; clear hK K)
        go_wp2
        go_ret
        exact RetV.mk (belowP (belowP (belowP hbe _ _) _ _) _ _)
      · have hE1 : (E != 0) = true := by simpa using hE
        refine wp_region_lit ?_
        iterate 3 (refine wpList_plain rfl (fun K hK => ?_); go_simp; with_reducible refine hK _ _ ?_; clear hK K)
        iterate 4 ((with_reducible refine wpList_skip ?_ ?_); (· first | (go_simp; done) | (go_simp; intro h; cases h)); simp only [Act.put, List.setIfInBounds_toArray, List.set_cons_zero, List.set_cons_succ])
        iterate 2 (refine wpList_plain rfl (fun K hK => ?_); go_simp; with_reducible refine hK _ _ ?_; clear hK K)
        refine wpList_step (fun K hK => ?_)
        go_simp
        refine (awake44 _).mono ?_
        rintro e w1 ⟨bs9, d9, rfl, rfl⟩
        with_reducible refine hK _ _ ?_
        clear hK K
        iterate 2 (refine wpList_plain rfl (fun K hK => ?_); go_simp; with_reducible refine hK _ _ ?_; clear hK K)
        go_wp2
        go_ret
        exact RetV.mk (belowP hbe _ _)
end Go.Proofs.Ytenaiojddohbkaa

/- Addresses that came in; lists of a known length. -/
namespace Go.Proofs.Ytenaiojddohbkaa
open Go.RowKit Go.ChangeShapes Go.WideShapes
set_option linter.unusedVariables false

theorem listN3 {α : Type} {l : List α} (h : l.length = 3) : ∃ a0 a1 a2, l = [a0, a1, a2] := by
  match l, h with
  | [a0, a1, a2], _ => exact ⟨a0, a1, a2, rfl⟩
end Go.Proofs.Ytenaiojddohbkaa

/- Slices of structs of any kind that came in. -/
namespace Go.Proofs.Ytenaiojddohbkaa
open Go.RowKit Go.ChangeShapes Go.WideShapes Go.Deep
set_option linter.unusedVariables false
set_option linter.unusedSimpArgs false

theorem open_rows {X : Type} [Inhabited X] (encX : X → List Value) (ok : X → Prop) (c : Nat) (hlen : ∀ x, (encX x).length = c) (hpos : 0 < c) {H : Type} {enc : TypeId × Value → H} {P : Program} {W : World} {base : Nat} {t e : TypeId} {v : Value} {d : DataW H} {p : List MemPlace}
    (ht : P.underlying t = some (.slice e)) (ce : P.cellsOf e = c) (each : ∀ m cs y, DataW.trod enc P W 0 (fun _ => true) true m e cs = some y → ∃ x, cs = encX x ∧ ok x) (hv : Value.okWide P W .any base t v)
    (h : DataW.Trod enc P W 0 (fun _ => true) true t v d p) :
    ∃ A k, ∃ L : List X, v = .slice A L.length k ∧ L.length ≤ k ∧ k ≤ maxLen ∧ Rd W W.heap.size A (L.flatMap encX) ∧ ∀ x ∈ L, ok x := by
  obtain ⟨a0, len, cap, rfl⟩ := okWide_slice ht hv
  obtain ⟨fuel, hf⟩ := h
  rcases open_slice ht hf with ⟨hcs, _⟩ | ⟨a, l', c', m, n, D, Pl, hcs, _, hl, hm, hmm, _, hx⟩
  · simp [Value.cells] at hcs
    obtain ⟨rfl, rfl, rfl⟩ := hcs
    exact ⟨none, 0, [], rfl, by simp, by simp, .inl rfl, fun q hq => by simp at hq⟩
  · simp [Value.cells] at hcs
    obtain ⟨rfl, rfl, rfl⟩ := hcs
    have hlm : len ≤ m := by rw [hmm]; split <;> omega
    have each2 : ∀ i, i < len → ∃ q : X, ok q ∧ ∀ j, j < c → W.cell? ((a.add (i * c)).add j) = (encX q)[j]? := by
      intro i hi
      obtain ⟨cs', h1, h2⟩ := hx i (by omega)
      rw [ce] at h1
      obtain ⟨_, hlen', hcell⟩ := World.cells?_some h1
      obtain ⟨q, rfl, hq⟩ := each _ _ _ h2
      exact ⟨q, hq, hcell⟩
    obtain ⟨F, hF⟩ := choose_lt each2
    have hFl : ∀ (n i : Nat) (u : Value), (((List.range n).map F).flatMap encX)[i]? = some u → i / c < n ∧ (encX (F (i / c)))[i % c]? = some u := by
      intro n
      induction n with
      | zero => intro i u hu; simp at hu
      | succ n ih =>
        intro i u hu
        rw [List.range_succ, List.map_append, List.flatMap_append] at hu
        have hln : (((List.range n).map F).flatMap encX).length = n * c := by
          clear hu ih
          induction n with
          | zero => simp
          | succ n ih => rw [List.range_succ, List.map_append, List.flatMap_append, List.length_append, ih]; simp [hlen, Nat.add_mul]
        by_cases hi : i < n * c
        · rw [List.getElem?_append_left (by rw [hln]; exact hi)] at hu
          have := ih i u hu
          exact ⟨by omega, this.2⟩
        · rw [List.getElem?_append_right (by rw [hln]; omega), hln] at hu
          simp only [List.map_cons, List.map_nil, List.flatMap_cons, List.flatMap_nil, List.append_nil] at hu
          have h3 := (List.getElem?_eq_some_iff.1 hu).1
          rw [hlen] at h3
          obtain ⟨r, rfl⟩ : ∃ r, i = n * c + r := ⟨i - n * c, by omega⟩
          have e0 : n * c + r - n * c = r := by omega
          rw [e0] at hu h3
          have e1 : (n * c + r) / c = n := by
            rw [Nat.add_comm, Nat.add_mul_div_right _ _ hpos, Nat.div_eq_of_lt h3]; omega
          have e2 : (n * c + r) % c = r := by rw [Nat.add_comm, Nat.add_mul_mod_self_right, Nat.mod_eq_of_lt h3]
          rw [e1, e2]
          exact ⟨by omega, hu⟩
    refine ⟨some a, cap, (List.range len).map F, by simp, by simpa using hl, hm, ?_, ?_⟩
    · rcases Nat.eq_zero_or_pos len with h0 | h0
      · exact .inl (by simp [h0])
      · have hc0 := (hF 0 h0).2 0 hpos
        obtain ⟨b, off, spot⟩ := a
        have h1 : 0 < (encX (F 0)).length := by rw [hlen]; exact hpos
        rw [List.getElem?_eq_getElem h1] at hc0
        have hspot : spot = none := by simpa [Addr.add] using World.cell?_spot hc0
        subst hspot
        refine .inr ⟨b, off, rfl, by have := lt_of_cell hc0; simpa [Addr.add] using this, fun i u hu => ?_⟩
        obtain ⟨hi, h⟩ := hFl len i u hu
        have hF' := (hF (i / c) hi).2 (i % c) (Nat.mod_lt _ hpos)
        rw [add_plain, add_plain, h] at hF'
        rw [← hF']
        congr 2
        have := Nat.div_add_mod i c
        rw [Nat.mul_comm] at this
        omega
    · intro q hq
      obtain ⟨i, hi, rfl⟩ := List.mem_map.1 hq
      exact (hF i (List.mem_range.1 hi)).1
end Go.Proofs.Ytenaiojddohbkaa

/- Options of the reference that came in; OptionWrites' row (chapter 44). -/
namespace Go.Proofs.Ytenaiojddohbkaa
open Go.RowKit Go.ChangeShapes Go.WideShapes Go.Deep
set_option linter.unusedVariables false
set_option linter.unusedSimpArgs false

instance : Inhabited Ox := ⟨⟨0, 0, none, 0, 0, []⟩⟩
set_option maxRecDepth 100000 in
theorem open_rx_cells {H : Type} {enc : TypeId × Value → H} {W : World} {m : Nat} {cs : List Value} {y : DataW H × List MemPlace}
    (hf : DataW.trod enc Try.prog W 0 (fun _ => true) true m 86 cs = some y) : ∃ x : Ox, cs = rxC x ∧ (Rb W x.A x.n x.c x.d ∧ x.k < 256) := by
  obtain ⟨xs, n, _, _, hl, hlen, hg⟩ := DataW.trod_struct Try.underlying86 hf
  have hC0 : Try.prog.cellsOf 3 = 1 := by kernel_rfl
  have hC1 : Try.prog.cellsOf 5 = 1 := by kernel_rfl
  have hC2 : Try.prog.cellsOf 84 = 1 := by kernel_rfl
  have hCR : Try.prog.cellsOf 86 = 3 := by kernel_rfl
  rw [hCR] at hl
  obtain ⟨c0, c1, c2, rfl⟩ := listN3 hl
  have hx : xs.length = 3 := by rw [hlen]; rfl
  obtain ⟨x0, x1, x2, rfl⟩ := listN3 hx
  have h0 := hg 0 _ rfl
  have h1 := hg 1 _ rfl
  have h2 := hg 2 _ rfl
  simp only [List.getElem_toArray, List.getElem_cons_zero, List.getElem_cons_succ, hC0, hC1, hC2, List.drop_zero, List.drop_succ_cons, List.take_succ_cons, List.take_zero, List.getElem?_cons_zero, List.getElem?_cons_succ] at h0 h1 h2
  obtain ⟨z0, e0, -, w0⟩ := DataW.trod_int Try.underlying3 h0
  obtain ⟨z1, e1, -, w1⟩ := DataW.trod_int Try.underlying5 h1
  obtain ⟨A2, n2, k2, l2, e2, -, r2⟩ := open_bytes_cell Try.underlying84 Try.underlying5 (by kernel_rfl) h2
  have b1 := bounds_u8 w1
  simp only [List.cons.injEq, and_true] at e0 e1
  subst e0 e1 e2
  refine ⟨⟨z0, z1.toNat, A2, n2, k2, l2⟩, ?_, r2, by simp only []; omega⟩
  simp only [rxC]
  rw [Int.toNat_of_nonneg (by omega)]
set_option maxRecDepth 100000 in
theorem open_rxs {H : Type} {enc : TypeId × Value → H} {W : World} {base : Nat} {v : Value} {d : DataW H} {p : List MemPlace} (hv : Value.okWide Try.prog W .any base 82 v)
    (h : DataW.Trod enc Try.prog W 0 (fun _ => true) true 82 v d p) :
    ∃ A k, ∃ L : List Ox, v = .slice A L.length k ∧ L.length ≤ k ∧ k ≤ maxLen ∧ Rd W W.heap.size A (L.flatMap rxC) ∧ ∀ x ∈ L, Rb W x.A x.n x.c x.d ∧ x.k < 256 :=
  open_rows rxC (fun x => Rb W x.A x.n x.c x.d ∧ x.k < 256) 3 rxC_len (by decide) Try.underlying82 (by kernel_rfl) (fun m cs y hy => open_rx_cells hy) hv h
theorem optionWrites_row (w : World) (A : Option Addr) (c : Nat) (L : List Ox) (hl : L.length ≤ c) (hc : c ≤ maxLen) (hr : Rd w w.heap.size A (L.flatMap rxC)) (hd : ∀ x ∈ L, Rb w x.A x.n x.c x.d ∧ x.k < 256) :
    Calls Try.prog 5 #[.slice A L.length c] w fun e w' => e = .returned (.bool true) ∧ Below w.heap.size w w' := by
  simp only [maxLen] at hc
  refine (optionWrites_walk w A L.length c L ⟨flat_len rxC 3 rxC_len L, hl, hr⟩ (fun x hx => (hd x hx).1) (fun x hx => (hd x hx).2) (by omega)).mono ?_
  rintro e w1 ⟨bs, d, rfl, rfl⟩
  exact ⟨rfl, below_plus _ _ _⟩
end Go.Proofs.Ytenaiojddohbkaa

