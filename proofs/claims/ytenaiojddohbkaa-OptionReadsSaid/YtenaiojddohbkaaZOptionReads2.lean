/- Texts of the law OptionReads, part 2. -/
import Derived.Test.YtenaiojddohbkaaZOptionReads1
/- The reference's All and Find (chapter 44). -/
namespace Go.Proofs.Ytenaiojddohbkaa
open Go.RowKit
set_option linter.unusedVariables false
set_option linter.unusedSimpArgs false
attribute [local go_sem ↓] sliced_cut

attribute [local go_sem] cutA_zero

theorem optF_len : ∀ (f : Nat) (l : List UInt8) (i : Nat), (optF f l i).length ≤ l.length - i
  | 0, _, _ => by simp [optF]
  | f + 1, l, i => by
    unfold optF
    split
    · simp
    split
    · simp
    split
    · have := optF_len f l (i + 1)
      omega
    split
    · simp
    split
    · simp
    split
    · simp
    have := optF_len f l (i + bat l (i + 1))
    simp only [List.length_cons]
    omega
theorem opts_len (l : List UInt8) : (opts l).length ≤ l.length := optF_len _ l 0
theorem optF_ok : ∀ (f : Nat) (l : List UInt8) (i : Nat), ∀ q ∈ optF f l i, q.2.2.length ≤ l.length ∧ q.2.1 < 256 ∧ 0 ≤ q.1 ∧ q.1 ≤ l.length
  | 0, _, _, _, h => by simp [optF] at h
  | f + 1, l, i, q, h => by
    unfold optF at h
    split at h
    · simp at h
    split at h
    · simp at h
    split at h
    · exact optF_ok f l (i + 1) q h
    split at h
    · simp at h
    split at h
    · simp at h
    split at h
    · simp at h
    rcases List.mem_cons.1 h with rfl | h
    · simp only [List.length_take, List.length_drop]
      have := bat_lt l i
      omega
    · exact optF_ok f l _ q h
theorem opts_ok (l : List UInt8) : ∀ q ∈ opts l, q.2.2.length ≤ l.length ∧ q.2.1 < 256 ∧ 0 ≤ q.1 ∧ q.1 ≤ l.length := optF_ok _ l 0
set_option maxHeartbeats 4000000 in
set_option maxRecDepth 100000 in
theorem refAll_any (A : Option Addr) (n c : Nat) (l : List UInt8) (w : World) (hr0 : Rb w A n c l) (hn : n ≤ 1000) : Calls Try.prog 31 #[.slice A n c] w (RetAll w (opts l)) := by
  obtain ⟨R, eR⟩ : ∃ R, R = opts l := ⟨_, rfl⟩
  rw [← eR]
  have HR := Lib.hid eR
  have HLN := Lib.hid (show R.length ≤ n by rw [eR, ← hr0.1]; exact opts_len l)
  clear eR
  have HL := Lib.hid hr0.1
  have HRB := Lib.hid hr0
  clear hr0
  go_enter Try.func31, Try.ntmps31
  go_upto_region 3 with (fail)
  go_loopw [3, 4] (fun s ii wr => ∃ (i f : Nat) (A' : Option Addr) (n' c' : Nat) (pre : List Ox), ii = .int .i64 (i : Int) ∧ i ≤ n ∧ n - i < f ∧ s = .slice A' n' c' ∧ Os 86 3 wr w.heap.size A' n' c' (pre.flatMap rxC) ∧ (∀ x ∈ pre, Rb w x.A x.n x.c x.d) ∧ Below w.heap.size w wr ∧ pre.map Ox.p ++ optF f l i = R) (fun _ ii _ => n - (intOf ii).toNat)
  case atStart => exact ⟨0, l.length + 1, none, 0, 0, [], rfl, Nat.zero_le _, by rw [HL.out]; omega, rfl, Os.nil_, by simp, Below.refl _ _, HR.out.symm⟩
  case round =>
    clear HR
    obtain ⟨i, f, A', n', c', pre, rfl, hi, hf, rfl, ho, hpd, hbe, hst⟩ := hrel
    obtain ⟨f, rfl⟩ : ∃ g, f = g + 1 := ⟨f - 1, by omega⟩
    have hr := HRB.out.later hbe
    have hbs := hbe.size
    have hnp : n' = pre.length := by have := ho.1; rw [flat_len rxC 3 rxC_len] at this; omega
    have hnl : n' ≤ n := by
      have h1 := congrArg List.length hst
      rw [List.length_append, List.length_map] at h1
      have := HLN.out
      omega
    unfold optF at hst
    rw [HL.out] at hst
    clear hnp
    by_cases hin : n ≤ i
    · rw [if_pos hin, List.append_nil] at hst
      have HS := Lib.hid hst
      clear hst
      have hin' : ¬ i < n := by omega
      clear hr
      go_wp2
      go_ret
      obtain ⟨bs9, d9, hw9⟩ := plus_of hbe
      exact ⟨A', n', c', pre, bs9, d9, rfl, hw9, ho.rs, fun x hx => (hpd x hx).later hbe, HS.out⟩
    rw [if_neg hin] at hst
    obtain ⟨b, off, rfl, hb, hcell⟩ := hr.2.2.at_ (by rw [bcs_length, HL.out]; omega)
    have hlt : i < n := by omega
    have hcp := hr.2.1
    have hc0 := bat_cell (B := 0) hcell i (by rw [HL.out]; omega)
    have hx := bat_lt l i
    have hy := bat_lt l (i + 1)
    have hc1 : i + 1 < n → wr.cell? ⟨b, off + (i + 1), none⟩ = some (.int .u8 (bat l (i + 1) : Nat)) := fun h => bat_cell (B := 0) hcell (i + 1) (by rw [HL.out]; omega)
    have HRW := Lib.hid hr
    clear hcell hin hr
    generalize bat l i = x0 at *
    generalize bat l (i + 1) = y at *
    by_cases h0 : x0 = 0
    · rw [if_pos h0, List.append_nil] at hst
      have HS := Lib.hid hst
      subst h0
      clear hst hc1
      go_wp2
      go_ret
      obtain ⟨bs9, d9, hw9⟩ := plus_of hbe
      exact ⟨A', n', c', pre, bs9, d9, rfl, hw9, ho.rs, fun x hx => (hpd x hx).later hbe, HS.out⟩
    rw [if_neg h0] at hst
    have b0 : ((x0 : Int) == 0) = false := by simpa using h0
    have n0 : ((x0 : Int) != 0) = true := by simpa using h0
    by_cases h1 : x0 = 1
    · rw [if_pos h1] at hst
      have HS := Lib.hid hst
      subst h1
      clear hst hc1 b0 n0 h0
      go_wp2
      exact ⟨⟨i + 1, f, A', n', c', pre, by go_num, by omega, by omega, rfl, ho, hpd, hbe, HS.out⟩, by simp [intOf]; omega⟩
    rw [if_neg h1] at hst
    have b1 : ((x0 : Int) == 1) = false := by simp; omega
    by_cases h2 : n - i < 2
    · rw [if_pos h2, List.append_nil] at hst
      have HS := Lib.hid hst
      have hk : i + 1 = n := by omega
      clear hst hc1
      go_wp2
      go_ret
      obtain ⟨bs9, d9, hw9⟩ := plus_of hbe
      exact ⟨A', n', c', pre, bs9, d9, rfl, hw9, ho.rs, fun x hx => (hpd x hx).later hbe, HS.out⟩
    rw [if_neg h2] at hst
    have hk2 : i + 1 < n := by omega
    replace hc1 := hc1 hk2
    have w2 : IntKind.i64.wrap ((i : Int) + (y : Int)) = (i : Int) + (y : Int) := IntWalk.i64_in _ (by omega)
    by_cases h3 : y < 2
    · rw [if_pos h3, List.append_nil] at hst
      have HS := Lib.hid hst
      clear hst
      go_wp2
      go_ret
      obtain ⟨bs9, d9, hw9⟩ := plus_of hbe
      exact ⟨A', n', c', pre, bs9, d9, rfl, hw9, ho.rs, fun x hx => (hpd x hx).later hbe, HS.out⟩
    rw [if_neg h3] at hst
    by_cases h4 : n - i < y
    · rw [if_pos h4, List.append_nil] at hst
      have HS := Lib.hid hst
      have h5 : (n : Int) < (i : Int) + (y : Int) := by omega
      clear hst
      go_wp2
      go_ret
      obtain ⟨bs9, d9, hw9⟩ := plus_of hbe
      exact ⟨A', n', c', pre, bs9, d9, rfl, hw9, ho.rs, fun x hx => (hpd x hx).later hbe, HS.out⟩
    rw [if_neg h4] at hst
    have h5 : ¬ (n : Int) < (i : Int) + (y : Int) := by omega
    have HS := Lib.hid hst
    clear hst
    have hcut : Rb w (cutA (some ⟨b, off, none⟩) c (i + 2) 1) (y - 2) (c - (i + 2)) ((l.drop (i + 2)).take (y - 2)) := (HRB.out.cut (k := i + 2) (by omega)).take (k := y - 2) (by omega)
    have HCUT := Lib.hid hcut
    have HC0 := Lib.hid (fun (W : World) (h : Below wr.heap.size wr W) => show W.cell? ⟨b, off + i, none⟩ = some (.int .u8 (x0 : Int)) from (h.cell (p := ⟨b, off + i, none⟩) hb).trans hc0)
    have w1 : IntKind.i64.wrap ((i : Int) + 2) = (i : Int) + 2 := IntWalk.i64_in _ (by omega)
    have f1 : (i : Int) + (y : Int) ≤ (c : Int) := by omega
    have f2 : 0 ≤ (i : Int) + (y : Int) := by omega
    have f3 : (2 : Int) ≤ (y : Int) := by omega
    have f4 : 0 ≤ (i : Int) + 2 := by omega
    have f5 : max ((i : Int) + (y : Int)) 0 = (i : Int) + (y : Int) := by omega
    have f6 : ((i : Int) + 2).toNat = i + 2 := by omega
    have f7 : ((i : Int) + (y : Int)).toNat = i + y := by omega
    have f8 : i + y - (i + 2) = y - 2 := by omega
    clear hcut
    go_upto_region 13 with (fail)
    clear hc0 hc1
    go_wp2
    refine wp_relS 15 66 rfl (by kernel_rfl) (by kernel_rfl) ?_
    apply Steps.one (MP.eq _) 1 rfl
    · intro o ho FA x hO hD K hK
      obtain rfl := Option.some.inj ho.symm
      clear ho
      have e3 := hO 3 (by kernel_rfl)
      simp only [eval_tmp, List.getElem?_toArray, List.getElem?_cons_succ, List.getElem?_cons_zero, Option.getD_some] at e3
      have ev3 := Lib.hid ((eval_tmp FA 3).trans e3)
      clear hO hD
      go_simp
      exact hK.out _ _ (Ex.refl _) rfl
    apply Steps.one (MP.eq _) 2 rfl
    · intro o ho FA x hO hD K hK
      obtain rfl := Option.some.inj ho.symm
      clear ho
      have e4 := hO 4 (by kernel_rfl)
      simp only [eval_tmp, List.getElem?_toArray, List.getElem?_cons_succ, List.getElem?_cons_zero, Option.getD_some] at e4
      have ev4 := Lib.hid ((eval_tmp FA 4).trans e4)
      clear hO hD
      go_simp
      exact hK.out _ _ (Ex.refl _) rfl
    apply Steps.one (MP.eq _) 3 rfl
    · intro o ho FA x hO hD K hK
      obtain rfl := Option.some.inj ho.symm
      clear ho
      have e0 := hO 0 (by kernel_rfl)
      simp only [eval_tmp, List.getElem?_toArray, List.getElem?_cons_succ, List.getElem?_cons_zero, Option.getD_some] at e0
      have ev0 := Lib.hid ((eval_tmp FA 0).trans e0)
      clear hO hD
      go_simp
      exact hK.out _ _ (Ex.refl _) rfl
    apply Steps.one (MP.eq _) 4 rfl
    · intro o ho FA x hO hD K hK
      obtain rfl := Option.some.inj ho.symm
      clear ho
      have e4 := hO 4 (by kernel_rfl)
      simp only [eval_tmp, List.getElem?_toArray, List.getElem?_cons_succ, List.getElem?_cons_zero, Option.getD_some] at e4
      have ev4 := Lib.hid ((eval_tmp FA 4).trans e4)
      clear hO hD
      go_simp
      exact hK.out _ _ (Ex.refl _) rfl
    apply Steps.one (MP.eq _) 5 rfl
    · intro o ho FA x hO hD K hK
      obtain rfl := Option.some.inj ho.symm
      clear ho
      have ev48 : FA.eval (.tmp 48) = _ := hD 2 48 (by kernel_rfl)
      have e48 := (eval_tmp FA 48).symm.trans ev48
      replace ev48 := Lib.hid ev48
      have ev49 : FA.eval (.tmp 49) = _ := hD 3 49 (by kernel_rfl)
      have e49 := (eval_tmp FA 49).symm.trans ev49
      replace ev49 := Lib.hid ev49
      clear hO hD
      go_simp
      exact hK.out _ _ (Ex.refl _) rfl
    apply Steps.one (MP.eq _) 6 rfl
    · intro o ho FA x hO hD K hK
      obtain rfl := Option.some.inj ho.symm
      clear ho
      have ev50 : FA.eval (.tmp 50) = _ := hD 4 50 (by kernel_rfl)
      have e50 := (eval_tmp FA 50).symm.trans ev50
      replace ev50 := Lib.hid ev50
      clear hO hD
      have q9 := (HC0.out (plus wr x.bs x.d) (below_plus _ _ _))
      go_simp
      exact hK.out _ _ (Ex.refl _) rfl
    apply Steps.one (MP.eq _) 7 rfl
    · intro o ho FA x hO hD K hK
      obtain rfl := Option.some.inj ho.symm
      clear ho
      have e0 := hO 0 (by kernel_rfl)
      simp only [eval_tmp, List.getElem?_toArray, List.getElem?_cons_succ, List.getElem?_cons_zero, Option.getD_some] at e0
      have ev0 := Lib.hid ((eval_tmp FA 0).trans e0)
      clear hO hD
      go_simp
      exact hK.out _ _ (Ex.refl _) rfl
    apply Steps.one (MP.eq _) 8 rfl
    · intro o ho FA x hO hD K hK
      obtain rfl := Option.some.inj ho.symm
      clear ho
      have e4 := hO 4 (by kernel_rfl)
      simp only [eval_tmp, List.getElem?_toArray, List.getElem?_cons_succ, List.getElem?_cons_zero, Option.getD_some] at e4
      have ev4 := Lib.hid ((eval_tmp FA 4).trans e4)
      clear hO hD
      go_simp
      exact hK.out _ _ (Ex.refl _) rfl
    apply Steps.one (MP.eq _) 9 rfl
    · intro o ho FA x hO hD K hK
      obtain rfl := Option.some.inj ho.symm
      clear ho
      have ev53 : FA.eval (.tmp 53) = _ := hD 7 53 (by kernel_rfl)
      have e53 := (eval_tmp FA 53).symm.trans ev53
      replace ev53 := Lib.hid ev53
      clear hO hD
      go_simp
      exact hK.out _ _ (Ex.refl _) rfl
    apply Steps.one (MP.eq _) 10 rfl
    · intro o ho FA x hO hD K hK
      obtain rfl := Option.some.inj ho.symm
      clear ho
      have e4 := hO 4 (by kernel_rfl)
      simp only [eval_tmp, List.getElem?_toArray, List.getElem?_cons_succ, List.getElem?_cons_zero, Option.getD_some] at e4
      have ev4 := Lib.hid ((eval_tmp FA 4).trans e4)
      clear hO hD
      go_simp
      exact hK.out _ _ (Ex.refl _) rfl
    apply Steps.one (MP.eq _) 11 rfl
    · intro o ho FA x hO hD K hK
      obtain rfl := Option.some.inj ho.symm
      clear ho
      have e5 := hO 5 (by kernel_rfl)
      simp only [eval_tmp, List.getElem?_toArray, List.getElem?_cons_succ, List.getElem?_cons_zero, Option.getD_some] at e5
      have ev5 := Lib.hid ((eval_tmp FA 5).trans e5)
      clear hO hD
      go_simp
      exact hK.out _ _ (Ex.refl _) rfl
    apply Steps.one (MP.eq _) 12 rfl
    · intro o ho FA x hO hD K hK
      obtain rfl := Option.some.inj ho.symm
      clear ho
      have ev55 : FA.eval (.tmp 55) = _ := hD 9 55 (by kernel_rfl)
      have e55 := (eval_tmp FA 55).symm.trans ev55
      replace ev55 := Lib.hid ev55
      have ev56 : FA.eval (.tmp 56) = _ := hD 10 56 (by kernel_rfl)
      have e56 := (eval_tmp FA 56).symm.trans ev56
      replace ev56 := Lib.hid ev56
      clear hO hD
      go_simp
      exact hK.out _ _ (Ex.refl _) rfl
    apply Steps.one (MP.eq (.slice (cutA (some ⟨b, off, none⟩) c (i + 2) 1) (y - 2) (c - (i + 2)))) 13 rfl
    · intro o ho FA x hO hD K hK
      obtain rfl := Option.some.inj ho.symm
      clear ho
      have ev52 : FA.eval (.tmp 52) = _ := hD 6 52 (by kernel_rfl)
      have e52 := (eval_tmp FA 52).symm.trans ev52
      replace ev52 := Lib.hid ev52
      have ev54 : FA.eval (.tmp 54) = _ := hD 8 54 (by kernel_rfl)
      have e54 := (eval_tmp FA 54).symm.trans ev54
      replace ev54 := Lib.hid ev54
      have ev57 : FA.eval (.tmp 57) = _ := hD 11 57 (by kernel_rfl)
      have e57 := (eval_tmp FA 57).symm.trans ev57
      replace ev57 := Lib.hid ev57
      clear hO hD
      go_simp
      exact hK.out _ _ (Ex.refl _) rfl
    apply Steps.one (MP.eq _) 14 rfl
    · intro o ho FA x hO hD K hK
      obtain rfl := Option.some.inj ho.symm
      clear ho
      have ev47 : FA.eval (.tmp 47) = _ := hD 1 47 (by kernel_rfl)
      have e47 := (eval_tmp FA 47).symm.trans ev47
      replace ev47 := Lib.hid ev47
      have ev51 : FA.eval (.tmp 51) = _ := hD 5 51 (by kernel_rfl)
      have e51 := (eval_tmp FA 51).symm.trans ev51
      replace ev51 := Lib.hid ev51
      have ev58 : FA.eval (.tmp 58) = _ := hD 12 58 (by kernel_rfl)
      have e58 := (eval_tmp FA 58).symm.trans ev58
      replace ev58 := Lib.hid ev58
      clear hO hD
      go_simp
      exact hK.out _ _ (Ex.refl _) rfl
    apply Steps.one (MP.os 86 3 w.heap.size (rxC ⟨(i : Int), x0, cutA (some ⟨b, off, none⟩) c (i + 2) 1, y - 2, c - (i + 2), (l.drop (i + 2)).take (y - 2)⟩)) 15 rfl
    · intro o ho FA x hO hD K hK
      obtain rfl := Option.some.inj ho.symm
      clear ho
      have ev59 : FA.eval (.tmp 59) = _ := hD 13 59 (by kernel_rfl)
      have e59 := (eval_tmp FA 59).symm.trans ev59
      replace ev59 := Lib.hid ev59
      clear hO hD
      go_simp
      refine hK.out _ _ (Ex.alloc _ _) ⟨_, _, _, rfl, ?_⟩
      have h := Os.lit (s := 3) (e := 86) (base := w.heap.size) (plus wr x.bs x.d) (by simp [size_plus]; omega) (rxC ⟨(i : Int), x0, cutA (some ⟨b, off, none⟩) c (i + 2) 1, y - 2, c - (i + 2), (l.drop (i + 2)).take (y - 2)⟩).toArray 1 rfl (by decide)
      rw [size_plus] at h
      exact h
    refine Steps.fin_ (fun vs x hp => ?_)
    have p0 : vs 0 = _ := hp 0 (by omega)
    have p1 : vs 1 = _ := hp 1 (by omega)
    have p2 : vs 2 = _ := hp 2 (by omega)
    have p3 : vs 3 = _ := hp 3 (by omega)
    have p4 : vs 4 = _ := hp 4 (by omega)
    have p5 : vs 5 = _ := hp 5 (by omega)
    have p6 : vs 6 = _ := hp 6 (by omega)
    have p7 : vs 7 = _ := hp 7 (by omega)
    have p8 : vs 8 = _ := hp 8 (by omega)
    have p9 : vs 9 = _ := hp 9 (by omega)
    have p10 : vs 10 = _ := hp 10 (by omega)
    have p11 : vs 11 = _ := hp 11 (by omega)
    have p12 : vs 12 = _ := hp 12 (by omega)
    have p13 : vs 13 = _ := hp 13 (by omega)
    have p14 := hp 14 (by omega)
    clear hp
    simp only [List.take_succ_cons, List.take_zero, List.drop_succ_cons, List.drop_zero, putAll, Nat.zero_add, Nat.reduceAdd, Act.put, List.setIfInBounds_toArray, List.set_cons_zero, List.set_cons_succ, p0, p1, p2, p3, p4, p5, p6, p7, p8, p9, p10, p11, p12, p13]
    clear p0 p1 p2 p3 p4 p5 p6 p7 p8 p9 p10 p11 p12 p13
    generalize vs 14 = y14 at *
    clear vs
    obtain ⟨A4, n4, c4, rfl, h4⟩ := p14
    have hl4 := h4.rs.1
    obtain rfl : n4 = 1 := by rw [rxC_len] at hl4; omega
    have hb4 : w.heap.size ≤ (plus wr x.bs x.d).heap.size := by simp [size_plus]; omega
    go_wp2_with (at_builtin; refine wpList_appS etRx rfl (.tmp 46) (.tmp 60) rfl rfl (ho.plus_ x.bs x.d) rfl h4.rs (rxC_one _) (by omega) hb4 ?_; intro A5 n5 c5 w5 hn5 hO5 hb5 hg5; subst hn5)
    refine ⟨⟨i + y, f, A5, n' + 1, c5, pre ++ [⟨(i : Int), x0, cutA (some ⟨b, off, none⟩) c (i + 2) 1, y - 2, c - (i + 2), (l.drop (i + 2)).take (y - 2)⟩], by go_num, by omega, by omega, rfl, ?_, fun z hz => ?_, (belowP hbe x.bs x.d).trans hb5, by simpa [Ox.p] using HS.out⟩, by simp [intOf]; omega⟩
    · rw [List.flatMap_append]
      simpa using hO5
    · rcases List.mem_append.1 hz with h | h
      · exact hpd z h
      · simp only [List.mem_cons, List.not_mem_nil, or_false] at h
        subst h
        exact HCUT.out
set_option maxHeartbeats 4000000 in
set_option maxRecDepth 100000 in
theorem refFind_at (A : Option Addr) (n c : Nat) (L : List Ox) (w : World) (hr : Rs 3 w A n c (L.flatMap rxC)) (hn : n ≤ 1000) (kind : Nat) (v : Int) (hv : (v = -1 ∧ ∀ x ∈ L, x.k ≠ kind) ∨ (∃ P y S, L = P ++ y :: S ∧ y.k = kind ∧ (∀ x ∈ P, x.k ≠ kind) ∧ v = (P.length : Int))) :
    Calls Try.prog 33 #[.slice A n c, .int .u8 (kind : Int)] w (RetV w (.int .i64 v)) := by
  have hln : L.length = n := by have := hr.1; rw [flat_len rxC 3 rxC_len] at this; omega
  have HV := Lib.hid hv
  clear hv
  go_enter Try.func33, Try.ntmps33
  go_upto_region 2 with (fail)
  go_loopw [5] (fun i wr => ∃ j : Nat, j ≤ n ∧ i = .int .i64 (j : Int) ∧ (∀ x ∈ L.take j, x.k ≠ kind) ∧ Below w.heap.size w wr) (fun i _ => n - (intOf i).toNat)
  case atStart => exact ⟨0, Nat.zero_le _, rfl, by simp, Below.refl _ _⟩
  case round =>
    obtain ⟨j, hj, rfl, hnot, hbe⟩ := hrel
    by_cases hlt : j < n
    · have ij : (j : Int) < (n : Int) := by omega
      have hjL : j < L.length := by omega
      obtain ⟨b, off, rfl, hbl, -⟩ := hr.at_ (by omega) (by decide)
      have hq : wr.cell? ⟨b, off + j * 3 + 1, none⟩ = some (.int .u8 (L[j].k : Int)) := (hr.later hbe).rangeE rxC_len j hjL 1 _ rfl
      have htk : L.take (j + 1) = L.take j ++ [L[j]] := by simp
      have hsp : L = L.take j ++ L[j] :: L.drop (j + 1) := by simp
      generalize L[j] = x at hq htk hsp
      have HQ := Lib.hid hq
      have HTK := Lib.hid htk
      have HSP := Lib.hid hsp
      have HNT := Lib.hid hnot
      clear hq htk hsp hnot
      by_cases hx : x.k = kind
      · have hval : v = (j : Int) := by
          rcases HV.out with ⟨_, h2⟩ | ⟨P, y, S, e, h2, h3, h4⟩
          · exact absurd hx (h2 x (by rw [HSP.out]; simp))
          · rw [h4]
            have e2 : P ++ y :: S = L.take j ++ x :: L.drop (j + 1) := e.symm.trans HSP.out
            rcases Nat.lt_trichotomy P.length j with h | h | h
            · have hy : y ∈ L.take j := by
                have h5 : (P ++ y :: S)[P.length]? = some y := by simp
                rw [e2, List.getElem?_append_left (by rw [List.length_take]; omega)] at h5
                exact List.mem_of_getElem? h5
              exact absurd h2 (HNT.out y hy)
            · omega
            · have hy : x ∈ P := by
                have h5 : (L.take j ++ x :: L.drop (j + 1))[j]? = some x := by rw [List.getElem?_append_right (by rw [List.length_take]; omega), List.length_take, Nat.min_eq_left (by omega)]; simp
                rw [← e2, List.getElem?_append_left h] at h5
                exact List.mem_of_getElem? h5
              exact absurd hx (h3 x hy)
        have HVV := Lib.hid hval
        clear hval
        have hx1 : ((x.k : Int) == (kind : Int)) = true := by simp; omega
        clear hx
        go_upto_region 4 with (fail)
        have q9 := HQ.out
        go_wp2
        go_ret
        rw [HVV.out]
        exact RetV.mk hbe
      · have hx1 : ((x.k : Int) == (kind : Int)) = false := by simp; omega
        have HX := Lib.hid hx
        clear hx
        go_upto_region 4 with (fail)
        have q9 := HQ.out
        go_wp2
        exact ⟨⟨j + 1, by omega, by go_num, fun z hz => by
          rw [HTK.out] at hz
          rcases List.mem_append.1 hz with h | h
          · exact HNT.out z h
          · simp only [List.mem_cons, List.not_mem_nil, or_false] at h
            subst h
            exact HX.out, hbe⟩, by simp [intOf]; omega⟩
    · have ij : ¬ (j : Int) < (n : Int) := by omega
      rw [List.take_of_length_le (by omega)] at hnot
      have hval : v = -1 := by
        rcases HV.out with ⟨h2, _⟩ | ⟨P, y, S, e, h2, h3, h4⟩
        · exact h2
        · exact absurd h2 (hnot y (by rw [e]; simp))
      subst hval
      go_wp2
      go_ret
      exact RetV.mk hbe
theorem first_ox (kind : Nat) : ∀ R : List Ox, (∀ x ∈ R, x.k ≠ kind) ∨ ∃ P y S, R = P ++ y :: S ∧ y.k = kind ∧ ∀ x ∈ P, x.k ≠ kind
  | [] => .inl (by simp)
  | x :: t => by
    by_cases hx : x.k = kind
    · exact .inr ⟨[], x, t, rfl, hx, by simp⟩
    · rcases first_ox kind t with h | ⟨P, y, S, e, h1, h2⟩
      · exact .inl (fun z hz => (List.mem_cons.1 hz).elim (fun e => e ▸ hx) (h z))
      · exact .inr ⟨x :: P, y, S, by rw [e]; rfl, h1, fun z hz => (List.mem_cons.1 hz).elim (fun e => e ▸ hx) (h2 z)⟩
end Go.Proofs.Ytenaiojddohbkaa

/- option.Acked (chapter 44). -/
namespace Go.Proofs.Ytenaiojddohbkaa
open Go.RowKit
set_option linter.unusedVariables false
set_option linter.unusedSimpArgs false
attribute [local go_sem ↓] sliced_cut

attribute [local go_sem] cutA_zero

theorem Rdr.grow {w w' : World} {r : Nat} {row : Option Nat} {l : List UInt8} {bad : Bool} (h : Rdr w r l bad) (hg : w.grownBy w' row) (hr : ∀ k, row = some k → r < k) : Rdr w' r l bad := by
  have hlt := h.lt
  obtain ⟨A, n, c, h1, h2, h3, h4⟩ := h
  exact ⟨A, n, c, h1.grown hg (fun e => by have := hr _ e; omega), h2, h3, h4.keep fun p hp => World.cell?_of_block (hg.block p.block (by omega) (fun e => by have := hr _ e.symm; omega))⟩
theorem find44_some {A : Option Addr} {n c : Nat} {l : List UInt8} {w : World} (hr : Rb w A n c l) (hn : n ≤ 1000) {kind : Nat} {i : Int} {d : List UInt8} {k : Nat} (h : firstO kind (opts l) = some (i, k, d)) :
    Calls Try.prog 32 #[.slice A n c, .int .u8 (kind : Int)] w fun e w' => ∃ bs d' A' n' c', e = .returned (.tuple #[.agg (opC kind A' n' c').toArray, .int .i64 i, .bool true]) ∧ w' = plus w bs d' ∧ Rb (plus w bs d') A' n' c' d := by
  refine (find44_any A n c l w hr hn kind).mono ?_
  rintro e w' ⟨bs, d', rfl, ⟨i', A', n', c', d2, rfl, hx, h2⟩ | ⟨rfl, h2⟩⟩
  · rw [h] at h2
    injection h2 with h2
    injection h2 with h3 h4
    injection h4 with h4 h5
    subst h3 h5
    exact ⟨bs, d', A', n', c', rfl, rfl, hx⟩
  · rw [h] at h2
    cases h2
theorem find44_none {A : Option Addr} {n c : Nat} {l : List UInt8} {w : World} (hr : Rb w A n c l) (hn : n ≤ 1000) {kind : Nat} (h : firstO kind (opts l) = none) :
    Calls Try.prog 32 #[.slice A n c, .int .u8 (kind : Int)] w (RetV w (.tuple #[.agg (opC 0 none 0 0).toArray, .int .i64 0, .bool false])) := by
  refine (find44_any A n c l w hr hn kind).mono ?_
  rintro e w' ⟨bs, d', rfl, ⟨i', A', n', c', d2, rfl, hx, h2⟩ | ⟨rfl, h2⟩⟩
  · rw [h] at h2
    cases h2
  · exact ⟨bs, d', rfl, rfl⟩
/-- a block -/
def bkC (p : Nat × Nat) : List Value := [.int .u32 (p.1 : Int), .int .u32 (p.2 : Int)]
theorem bkC_len (p : Nat × Nat) : (bkC p).length = 2 := rfl
theorem bkC_one (p : Nat × Nat) : ∀ u ∈ bkC p, u.oneCell' = true := by simp [bkC, Value.oneCell']
theorem etBk : ET Try.prog 100 104 (.agg #[.int .u32 0, .int .u32 0]) 2 8 := ⟨Try.underlying100, by kernel_rfl, rfl, by decide, by decide⟩
def ackB (d : List UInt8) : List (Nat × Nat) := (List.range (d.length / 8)).map fun i => (num ((d.drop (8 * i)).take 4), num ((d.drop (8 * i + 4)).take 4))
def ackL (r : Option Op3) : List (Nat × Nat) := match r with | some q => if q.2.2.length % 8 = 0 then ackB q.2.2 else [] | none => []
def RetRow (e : TypeId) (s : Nat) (w : World) (cs : List Value) (en : Ending) (w' : World) : Prop := ∃ A n c bs d, en = .returned (.slice A n c) ∧ w' = plus w bs d ∧ Rs s (plus w bs d) A n c cs
theorem RetRow.mk {e : TypeId} {s : Nat} {w w' : World} {cs : List Value} {A : Option Addr} {n c : Nat} (h : Rs s w' A n c cs) (hb : Below w.heap.size w w') : RetRow e s w cs (.returned (.slice A n c)) w' := by
  obtain ⟨bs, d, rfl⟩ := plus_of hb
  exact ⟨A, n, c, bs, d, rfl, rfl, h⟩
set_option maxHeartbeats 4000000 in
set_option maxRecDepth 100000 in
theorem acked_any (A : Option Addr) (n c : Nat) (l : List UInt8) (w : World) (hr : Rb w A n c l) (hn : n ≤ 1000) : Calls Try.prog 34 #[.slice A n c] w (RetRow 104 2 w ((ackL (firstO 5 (opts l))).flatMap bkC)) := by
  rcases hf : firstO 5 (opts l) with _ | ⟨i, k, d⟩
  · go_enter Try.func34, Try.ntmps34
    go_upto_region 1 with (fail)
    refine wp_region_lit ?_
    refine wpList_plain rfl (fun K hK => ?_); go_simp; with_reducible refine hK _ _ ?_; clear hK K
    refine wpList_plain rfl (fun K hK => ?_)
    go_simp
    refine (find44_none hr hn hf).mono ?_
    rintro e w1 ⟨bs1, d1, rfl, rfl⟩
    with_reducible refine hK _ _ ?_
    clear hK K
    iterate 5 (refine wpList_plain rfl (fun K hK => ?_); go_simp; with_reducible refine hK _ _ ?_; clear hK K)
    refine wpList_stA (t := 88) 88 (.tmp 3) (.tmp 12) rfl rfl (opC 0 none 0 0) [.int .u8 0, .slice none 0 0] rfl (opC_one _ _ _ _) rfl rfl (Bk.newK (k := w.heap.size + bs1.length) _ _ _ (by simp [size_plus]) rfl) (szOp _ _ _ _) ?_
    intro W1 hO hg1
    iterate 2 (refine wpList_plain rfl (fun K hK => ?_); go_simp; with_reducible refine hK _ _ ?_; clear hK K)
    have be1 : Below w.heap.size w W1 := below_grown (Below.allocS (below_plus w bs1 d1) _) hg1 (by omega)
    go_wp2
    go_ret
    exact RetRow.mk Rs.nil_ be1
  · have hdl : d.length ≤ 1000 := by
      have h1 : (i, k, d) ∈ opts l := List.mem_of_find?_eq_some hf
      have := (opts_ok l _ h1).1
      have := hr.1
      simp only [] at *
      omega
    generalize hRL : (ackL (some (i, k, d))).flatMap bkC = RL
    replace hRL := Lib.hid hRL
    go_enter Try.func34, Try.ntmps34
    go_upto_region 1 with (fail)
    refine wp_region_lit ?_
    refine wpList_plain rfl (fun K hK => ?_); go_simp; with_reducible refine hK _ _ ?_; clear hK K
    refine wpList_plain rfl (fun K hK => ?_)
    go_simp
    refine (find44_some hr hn hf).mono ?_
    rintro e w1 ⟨bs1, d1, A1, n1, c1, rfl, rfl, hx⟩
    with_reducible refine hK _ _ ?_
    clear hK K
    iterate 5 (refine wpList_plain rfl (fun K hK => ?_); go_simp; with_reducible refine hK _ _ ?_; clear hK K)
    refine wpList_stA (t := 88) 88 (.tmp 3) (.tmp 12) rfl rfl (opC 5 A1 n1 c1) [.int .u8 0, .slice none 0 0] rfl (opC_one _ _ _ _) rfl rfl (Bk.newK (k := w.heap.size + bs1.length) _ _ _ (by simp [size_plus]) rfl) (szOp _ _ _ _) ?_
    intro W1 hO hg1
    iterate 2 (refine wpList_plain rfl (fun K hK => ?_); go_simp; with_reducible refine hK _ _ ?_; clear hK K)
    have be1 : Below w.heap.size w W1 := below_grown (Below.allocS (below_plus w bs1 d1) _) hg1 (by omega)
    have hx1 : Rb W1 A1 n1 c1 d := hx.later (below_grown (Below.allocS (Below.refl _ _) _) hg1 (by simp [size_plus]))
    have hdn := hx1.1
    have hn1 : n1 ≤ 1000 := by omega
    have q0 : W1.cell? ⟨w.heap.size + bs1.length, 1, none⟩ = some (.slice A1 n1 c1) := hO.cell 1
    generalize w.heap.size + bs1.length = g at *
    clear hx hg1
    by_cases h8 : n1 % 8 = 0
    · have hm : ((Int.tmod (n1 : Int) 8) != 0) = false := by rw [show Int.tmod (n1 : Int) 8 = ((n1 % 8 : Nat) : Int) from rfl, h8]; rfl
      have hm2 : Int.tmod (n1 : Int) 8 = 0 := by rw [show Int.tmod (n1 : Int) 8 = ((n1 % 8 : Nat) : Int) from rfl, h8]; rfl
      have HD := Lib.hid hdn
      clear hdn
      go_upto_region 6 with (go_at_call 95; refine (readK A1 n1 c1 d W1 hx1 (by omega)).mono ?_; rintro e w1 ⟨r, bs2, d2, rfl, rfl, hr1, hrd⟩)
      have be2 := belowP be1 bs2 d2
      have hsz1 := be1.size
      generalize plus W1 bs2 d2 = W2 at *
      have hr2 : w.heap.size ≤ r := by omega
      have HR2 := Lib.hid hrd
      have HB2 := Lib.hid be2
      clear hrd be2 be1 hx1 q0 hO hm hm2
      go_loopw [6] (fun s wr => ∃ (j : Nat) (A' : Option Addr) (n' c' : Nat), 8 * j ≤ n1 ∧ s = .slice A' n' c' ∧ Os 104 2 wr (r + 1) A' n' c' (((ackB d).take j).flatMap bkC) ∧ Rdr wr r (d.drop (8 * j)) false ∧ Below w.heap.size w wr) (fun s _ => match s with | .slice _ n' _ => n1 / 8 - n' | _ => 0)
      case atStart => exact ⟨0, none, 0, 0, by omega, rfl, Os.nil_, HR2.out, HB2.out⟩
      case round =>
        clear HR2 HB2
        obtain ⟨j, A', n', c', hj, rfl, hO, hrd, hbe⟩ := hrel
        have hlb : (ackB d).length = n1 / 8 := by unfold ackB; rw [List.length_map, List.length_range, HD.out]
        have hnj0 : n' = j := by have := hO.1; rw [flat_len bkC 2 bkC_len, List.length_take, hlb] at this; omega
        have hnj : n' ≤ j := Nat.le_of_eq hnj0
        have hnj2 : j ≤ n' := Nat.le_of_eq hnj0.symm
        have hlt := hrd.lt
        have hLL : (d.drop (8 * j)).length = n1 - 8 * j := by rw [List.length_drop, HD.out]
        have HL := Lib.hid hLL
        have HLB := Lib.hid hlb
        clear hnj0 hLL hlb
        have hne : ∀ k, (Value.slice A' n' c').ownBlock = some k → k ≠ r := fun k hk => by have := (hO.blk k hk).1; omega
        by_cases hend : 8 * j = n1
        · have h0 : n1 - 8 * j = 0 := by omega
          go_wp2_with (go_at_call 96; refine (leftG wr r _ false hrd).mono ?_; rintro e w1 ⟨rfl, rfl⟩; rw [HL.out, h0])
          go_ret
          have e1 : (ackB d).take j = ackB d := List.take_of_length_le (by have := HLB.out; omega)
          rw [e1] at hO
          have e2 : ackL (some (i, k, d)) = ackB d := by show (if d.length % 8 = 0 then ackB d else []) = ackB d; rw [HD.out, if_pos h8]
          rw [← hRL.out, e2]
          exact RetRow.mk hO.rs hbe
        · have h0 : 0 < n1 - 8 * j := by omega
          have h1 : 0 < ((n1 - 8 * j : Nat) : Int) := by omega
          have hd1 := HD.out
          have HLG := Lib.hid (longG wr r d (8 * j) _ hrd (by omega) (by omega) rfl)
          clear hd1
          go_upto_region 7 with (go_at_call 96; refine (leftG wr r _ false hrd).mono ?_; rintro e w1 ⟨rfl, rfl⟩; rw [HL.out])
          go_upto_region 8 with (go_at_call 97; refine HLG.out.mono ?_; rintro e w1 ⟨rfl, hrd1, hg1⟩)
          generalize w1 = V1 at *
          have hd1 := HD.out
          have HL2 := Lib.hid (longG V1 r d (8 * j + 4) _ hrd1 (by omega) (by omega) rfl)
          clear hd1
          refine wp_region_lit ?_
          iterate 3 (refine wpList_plain rfl (fun K hK => ?_); go_simp; with_reducible refine hK _ _ ?_; clear hK K)
          refine wpList_plain rfl (fun K hK => ?_)
          go_simp
          refine (HL2.out).mono ?_
          rintro e w1 ⟨rfl, hrd2, hg2⟩
          with_reducible refine hK _ _ ?_
          clear hK K
          iterate 2 (refine wpList_plain rfl (fun K hK => ?_); go_simp; with_reducible refine hK _ _ ?_; clear hK K)
          have hO4 := (hO.grown hg1 (fun k hk e => hne k hk (by injection e with e; exact e.symm))).grown hg2 (fun k hk e => hne k hk (by injection e with e; exact e.symm))
          have hlt2 := hrd2.lt
          refine wpList_appS etBk rfl (.tmp 32) (.tmp 37) rfl rfl (hO4.later (Below.allocS (Below.refl _ _) _)) rfl (Rs.of_bk (n := 1) (c := 1) (Bk.new w1 _ _) rfl (Nat.le_refl _)) (bkC_one (num ((d.drop (8 * j)).take 4), num ((d.drop (8 * j + 4)).take 4))) (by omega) (by simp; omega) ?_
          intro A5 n5 c5 W5 hn5 hO6 hb5 hg5
          refine wpList_plain rfl (fun K hK => ?_); go_simp; with_reducible refine hK _ _ ?_; clear hK K
          subst hn5
          have hbA := Below.allocS (Below.refl w1.heap.size w1) (.cells (bkC (num ((d.drop (8 * j)).take 4), num ((d.drop (8 * j + 4)).take 4))).toArray 104)
          have hrd3 := (hrd2.later hbA).grow hg5 (fun k hk => by have := (hO4.blk k hk).1; omega)
          have z1 := hbe.size
          have z2 := hg1.size
          have z3 := hg2.size
          have hbe1 := hbe.trans (below_of_grown hg1 z1 (fun k hk => by injection hk with hk; omega))
          have hbe2 := hbe1.trans (below_of_grown hg2 (by omega) (fun k hk => by injection hk with hk; omega))
          have hbe3 := (hbe2.trans (hbA.mono (by omega))).trans (below_of_grown hg5 (by simp; omega) (fun k hk => by have := (hO4.blk k hk).1; omega))
          have hjL : j < (ackB d).length := by have := HLB.out; omega
          have htk : (ackB d).take (j + 1) = (ackB d).take j ++ [(num ((d.drop (8 * j)).take 4), num ((d.drop (8 * j + 4)).take 4))] := by
            rw [List.take_add_one, List.getElem?_eq_getElem hjL]
            simp [ackB]
          have HTK := Lib.hid htk
          clear htk hjL
          go_wp2
          refine ⟨⟨j + 1, A5, n' + 1, c5, by omega, rfl, ?_, hrd3, hbe3⟩, ?_⟩
          · rw [HTK.out, List.flatMap_append]
            simpa [bkC] using hO6
          · show n1 / 8 - (n' + 1) < n1 / 8 - n'
            omega
    · have hm : ((Int.tmod (n1 : Int) 8) != 0) = true := by rw [show Int.tmod (n1 : Int) 8 = ((n1 % 8 : Nat) : Int) from rfl]; simp; omega
      have hm2 : ¬ Int.tmod (n1 : Int) 8 = 0 := by rw [show Int.tmod (n1 : Int) 8 = ((n1 % 8 : Nat) : Int) from rfl]; omega
      have HD := Lib.hid hdn
      clear hdn
      go_wp2
      go_ret
      have e2 : ackL (some (i, k, d)) = [] := by show (if d.length % 8 = 0 then ackB d else []) = []; rw [HD.out, if_neg h8]
      rw [← hRL.out, e2]
      exact RetRow.mk Rs.nil_ be1
end Go.Proofs.Ytenaiojddohbkaa

/- octet.Put without room; addr.Bytes, addr.Key. -/
namespace Go.Proofs.Ytenaiojddohbkaa
open Go.RowKit
set_option linter.unusedVariables false
set_option linter.unusedSimpArgs false
attribute [local go_sem ↓] sliced_cut

attribute [local go_sem] cutA_zero

/-- The call returns new bytes l without room, and changes nothing that was there. -/
def RetF (w : World) (l : List UInt8) (e : Ending) (w' : World) : Prop := ∃ A n bs d, e = .returned (.slice A n n) ∧ w' = plus w bs d ∧ Ob (plus w bs d) w.heap.size A n n l
theorem RetF.mk {w w' : World} {l : List UInt8} {A : Option Addr} {n : Nat} (ho : Ob w' w.heap.size A n n l) (hb : Below w.heap.size w w') : RetF w l (.returned (.slice A n n)) w' := by
  obtain ⟨bs, d, rfl⟩ := plus_of hb
  exact ⟨A, n, bs, d, rfl, rfl, ho⟩
/-- new bytes without room, in a block from base on -/
def MP.of (base : Nat) (l : List UInt8) : MP := ⟨fun v w => ∃ A n, v = .slice A n n ∧ Ob w base A n n l, fun _ _ _ ⟨A, n, h1, h2⟩ h => ⟨A, n, h1, h2.later h.below⟩⟩

end Go.Proofs.Ytenaiojddohbkaa

/- A region that draws its order, some of whose operations change known blocks, one behind the other; these may be stores (no slot). -/
namespace Go.Proofs.Ytenaiojddohbkaa
open Go.RowKit
set_option linter.unusedVariables false
set_option linter.unusedSimpArgs false

theorem Chg.one {D : Nat → Prop} {w w' : World} {g : Nat} (h : w.grownBy w' (some g)) (hg : D g) : Chg D w w' := Chg.grown h (fun k hk => by injection hk with hk; subst hk; exact hg)
section
variable {P : Program} {Q : Exit → Act → World → Prop}
end
end Go.Proofs.Ytenaiojddohbkaa

/- A region that draws its order: each operation's value has a word and owns blocks; an operation may change the blocks of the words that it consumes. -/
namespace Go.Proofs.Ytenaiojddohbkaa
open Go.RowKit
set_option linter.unusedVariables false
set_option linter.unusedSimpArgs false

/-- the blocks F of w are as they were -/
structure Kept (F : Nat → Prop) (w w' : World) : Prop where
  os : w'.os = w.os
  tape : w'.tape = w.tape
  output : w'.output = w.output
  size : w.heap.size ≤ w'.heap.size
  block : ∀ b, b < w.heap.size → F b → w'.heap[b]? = w.heap[b]?
theorem Kept.refl (F : Nat → Prop) (w : World) : Kept F w w := ⟨rfl, rfl, rfl, Nat.le_refl _, fun _ _ _ => rfl⟩
theorem Kept.chg {F D : Nat → Prop} {w w' w'' : World} (h : Kept F w w') (h' : Chg D w' w'') (hd : ∀ b, F b → ¬ D b) : Kept F w w'' :=
  ⟨h'.os.trans h.os, h'.tape.trans h.tape, h'.output.trans h.output, Nat.le_trans h.size h'.size, fun b hb hf => (h'.block b (Nat.lt_of_lt_of_le hb h.size) (hd b hf)).trans (h.block b hb hf)⟩
theorem Kept.below {F : Nat → Prop} {w w' : World} {B : Nat} (h : Kept F w w') (hB : B ≤ w.heap.size) (hf : ∀ b, b < B → F b) : Below B w w' := ⟨h.os, h.tape, h.output, h.size, fun b hb => h.block b (by omega) (hf b hb)⟩
theorem Bk.kept {F : Nat → Prop} {w w' : World} {g : Nat} {t : TypeId} {cs : List Value} (h : Bk w g t cs) (hk : Kept F w w') (hf : F g) : Bk w' g t cs := (hk.block g h.lt hf).trans h
theorem Rb.kept {F : Nat → Prop} {w w' : World} {A : Option Addr} {n c : Nat} {l : List UInt8} (h : Rb w A n c l) (hk : Kept F w w') (hf : ∀ a, A = some a → a.block < w.heap.size → F a.block) : Rb w' A n c l := by
  refine ⟨h.1, h.2.1, ?_⟩
  rcases h.2.2 with h' | ⟨b, off, hA, hb, hc⟩
  · exact .inl h'
  · exact .inr ⟨b, off, hA, Nat.lt_of_lt_of_le hb hk.size, fun i u hu => (World.cell?_of_block (hk.block b hb (hf _ hA hb))).trans (hc i u hu)⟩
/-- a word of a value v, beside the value u of another operation, and the blocks that it owns -/
structure Own (prot : Nat → Prop) where
  p : Value → Value → World → Prop
  fp : Value → Value → Nat → Prop
  lt : ∀ v u w b, p v u w → fp v u b → b < w.heap.size
  keep : ∀ v u w w', p v u w → Kept (fun b => fp v u b ∨ prot b) w w' → p v u w'
section
variable {prot : Nat → Prop}
def Own.any : Own prot := ⟨fun _ _ _ => True, fun _ _ _ => False, fun _ _ _ _ _ h => h.elim, fun _ _ _ _ _ _ => trivial⟩
def Own.eq (c : Value) : Own prot := ⟨fun v _ _ => v = c, fun _ _ _ => False, fun _ _ _ _ _ h => h.elim, fun _ _ _ _ h _ => h⟩
/-- a block -/
def Own.blk (t : TypeId) (cs : List Value) : Own prot := ⟨fun v _ w => ∃ g, v = .pointer (some ⟨g, 0, none⟩) ∧ Bk w g t cs, fun v _ b => v = .pointer (some ⟨b, 0, none⟩),
  fun v u w b ⟨g, h1, h2⟩ h3 => (by rw [h1] at h3; injection h3 with h3; injection h3 with h3; injection h3 with h3; subst h3; exact h2.lt),
  fun v u w w' ⟨g, h1, h2⟩ hk => ⟨g, h1, h2.kept hk (.inl h1)⟩⟩
/-- own bytes, from base on -/
def Own.ob (base : Nat) (l : List UInt8) : Own prot := ⟨fun v _ w => ∃ A n c, v = .slice A n c ∧ Ob w base A n c l, fun v _ b => v.ownBlock = some b,
  fun v u w b ⟨A, n, c, h1, h2⟩ h3 => (by subst h1; exact (h2.blk b h3).2),
  fun v u w w' ⟨A, n, c, h1, h2⟩ hk => ⟨A, n, c, h1, by
    refine ⟨h2.1, h2.2.1, ?_⟩
    have hlt := h2.blk
    rcases h2.2.2 with h' | ⟨g, cap, cur, hv, hg, hh, hr⟩
    · exact .inl h'
    · have ho : (Value.slice A n c).ownBlock = some g := by rw [hv]; rfl
      refine .inr ⟨g, cap, cur, hv, hg, ?_, hr⟩
      rw [hk.block g (hlt g ho).2 (.inl (by subst h1; exact ho))]
      exact hh⟩⟩
/-- own bytes without room -/
def Own.of (base : Nat) (l : List UInt8) : Own prot := ⟨fun v _ w => ∃ A n, v = .slice A n n ∧ Ob w base A n n l, fun v _ b => v.ownBlock = some b,
  fun v u w b ⟨A, n, h1, h2⟩ h3 => (by subst h1; exact (h2.blk b h3).2),
  fun v u w w' ⟨A, n, h1, h2⟩ hk => ⟨A, n, h1, by
    obtain ⟨A', n', c', e1, e2⟩ := (Own.ob (prot := prot) base l).keep v u w w' ⟨A, n, n, h1, h2⟩ hk
    rw [h1] at e1
    injection e1 with x y z
    subst x y z
    exact e2⟩⟩
end
/-- a value that is made of another operation's value -/
def Own.fn {prot : Nat → Prop} (g : Value → Value) : Own prot := ⟨fun v u _ => v = g u, fun _ _ _ => False, fun _ _ _ _ _ h => h.elim, fun _ _ _ _ h _ => h⟩
theorem own_ptr {g b : Nat} (h : Value.pointer (some ⟨g, 0, none⟩) = .pointer (some ⟨b, 0, none⟩)) : g = b := by
  injection h with h
  injection h with h
  injection h with h
/-- a pointer's block, one of whose cells is a slice of own bytes without room (v) -/
def Own.holds {prot : Nat → Prop} (base : Nat) (t : TypeId) (cs : Value → List Value) (l : List UInt8) : Own prot := ⟨fun v u w => ∃ g A n, u = .pointer (some ⟨g, 0, none⟩) ∧ v = .slice A n n ∧ Bk w g t (cs v) ∧ Ob w base A n n l,
  fun v u b => u = .pointer (some ⟨b, 0, none⟩) ∨ v.ownBlock = some b,
  fun v u w b ⟨g, A, n, h1, h2, h3, h4⟩ h => (by
    rcases h with h | h
    · rw [h1] at h; rw [← own_ptr h]; exact h3.lt
    · subst h2; exact (h4.blk b h).2),
  fun v u w w' ⟨g, A, n, h1, h2, h3, h4⟩ hk => by
    refine ⟨g, A, n, h1, h2, h3.kept hk (.inl (.inl h1)), ?_⟩
    obtain ⟨A', n', e1, e2⟩ := (Own.of (prot := prot) base l).keep v u w w' ⟨A, n, h2, h4⟩ ⟨hk.os, hk.tape, hk.output, hk.size, fun b hb h => hk.block b hb (by rcases h with h | h; exact .inl (.inr h); exact .inr h)⟩
    rw [h2] at e1
    injection e1 with x y z
    subst x y
    exact e2⟩
section
variable {P : Program} {Q : Exit → Act → World → Prop}
end
end Go.Proofs.Ytenaiojddohbkaa

/- What many texts need: numbers of bytes, rows that are appended, addresses, stores into the middle of a block. -/
namespace Go.Proofs.Ytenaiojddohbkaa
open Go.RowKit
set_option linter.unusedVariables false
set_option linter.unusedSimpArgs false
attribute [local go_sem ↓] sliced_cut

attribute [local go_sem] cutA_zero

theorem wanted_ifG {ops : Array Oper} {o : Oper} {tmps : Array Value} {X Y : Prop} (h : Region.wanted o (yielded ops tmps) = true) (hx : X) : if Region.wanted o (yielded ops tmps) = true then X else Y := by
  rw [if_pos h]
  exact hx
end Go.Proofs.Ytenaiojddohbkaa

/- OptionReads' walk (chapter 44). -/
namespace Go.Proofs.Ytenaiojddohbkaa
open Go.RowKit
set_option linter.unusedVariables false
set_option linter.unusedSimpArgs false
attribute [local go_sem ↓] sliced_cut

attribute [local go_sem] cutA_zero

/-- rows of options -/
def MP.ro (P : List Op3) : MP := ⟨fun v w => ∃ A n c, ∃ L : List Ox, v = .slice A n c ∧ Rs 3 w A n c (L.flatMap rxC) ∧ (∀ x ∈ L, Rb w x.A x.n x.c x.d) ∧ L.map Ox.p = P, fun _ _ _ ⟨A, n, c, L, h1, h2, h3, h4⟩ h => ⟨A, n, c, L, h1, h2.later h.below, fun x hx => (h3 x hx).later h.below, h4⟩⟩
theorem firstO_ox (kind : Nat) (L : List Ox) (v : Int) (hv : (v = -1 ∧ ∀ x ∈ L, x.k ≠ kind) ∨ (∃ P y S, L = P ++ y :: S ∧ y.k = kind ∧ (∀ x ∈ P, x.k ≠ kind) ∧ v = (P.length : Int))) :
    (v = -1 ∧ firstO kind (L.map Ox.p) = none) ∨ ∃ kk : Nat, ∃ h : kk < L.length, v = (kk : Int) ∧ firstO kind (L.map Ox.p) = some L[kk].p ∧ L[kk].k = kind := by
  rcases hv with ⟨h1, h2⟩ | ⟨P, y, S, rfl, h2, h3, h4⟩
  · exact .inl ⟨h1, firstO_none (fun q hq => by obtain ⟨x, hx, rfl⟩ := List.mem_map.1 hq; exact h2 x hx)⟩
  · refine .inr ⟨P.length, by simp, h4, ?_, by simpa using h2⟩
    rw [List.map_append, List.map_cons, firstO_some y.p (S.map Ox.p) h2 (fun q hq => by obtain ⟨x, hx, rfl⟩ := List.mem_map.1 hq; exact h3 x hx)]
    simp
/-- Find, in one word -/
def RetFU (w : World) (kind : Nat) (r : Option Op3) (e : Ending) (w' : World) : Prop := ∃ bs d k A n c i b, e = .returned (.tuple #[.agg (opC k A n c).toArray, .int .i64 i, .bool b]) ∧ w' = plus w bs d ∧
  ((b = true ∧ k = kind ∧ ∃ d', Rb (plus w bs d) A n c d' ∧ r = some (i, kind, d')) ∨ (b = false ∧ k = 0 ∧ A = none ∧ n = 0 ∧ c = 0 ∧ i = 0 ∧ r = none))
theorem find44_u {A : Option Addr} {n c : Nat} {l : List UInt8} {w : World} (hr : Rb w A n c l) (hn : n ≤ 1000) (kind : Nat) : Calls Try.prog 32 #[.slice A n c, .int .u8 (kind : Int)] w (RetFU w kind (firstO kind (opts l))) := by
  refine (find44_any A n c l w hr hn kind).mono ?_
  rintro e w' ⟨bs, d', rfl, ⟨i', A', n', c', d2, rfl, hx, h2⟩ | ⟨rfl, h2⟩⟩
  · exact ⟨bs, d', _, _, _, _, _, true, rfl, rfl, .inl ⟨rfl, rfl, d2, hx, h2⟩⟩
  · exact ⟨bs, d', 0, none, 0, 0, 0, false, rfl, rfl, .inr ⟨rfl, rfl, rfl, rfl, rfl, rfl, h2⟩⟩
set_option maxHeartbeats 4000000 in
set_option maxRecDepth 100000 in
theorem optionReads_walk (w : World) (A : Option Addr) (n c : Nat) (l : List UInt8) (hr : Rb w A n c l) (kind : Nat) (hkd : kind < 256) (mo : Nat) (hmo : mo < 256) (hnm : n ≤ 9223372036854775807) : Calls Try.prog 6 #[.slice A n c, .int .u8 (kind : Int), .int .u8 (mo : Int)] w (RetV w (.bool true)) := by
  by_cases h300 : 300 < n
  · have i300 : (300 : Int) < (n : Int) := by omega
    go_enter Try.func6, Try.ntmps6
    go_wp2_with (go_at_call 26; refine (awake44 _).mono ?_; rintro e w1 ⟨bs3, d3, rfl, rfl⟩)
    go_ret
    exact RetV.mk (below_plus _ _ _)
  have i300 : ¬ (300 : Int) < (n : Int) := by omega
  have HLN := Lib.hid (show (opts l).length ≤ n by rw [← hr.1]; exact opts_len l)
  have HOK := Lib.hid (opts_ok l)
  obtain ⟨dv, v1, v2⟩ := rowOp
  go_enter Try.func6, Try.ntmps6
  go_upto_region 4 with (go_at_call 31; refine (refAll_any A n c l w hr (by omega)).mono ?_; rintro e w1 ⟨A1, n1, c1, Lr, bs1, d1, rfl, rfl, hl1, hd1, hm1⟩)
  have be := below_plus w bs1 d1
  generalize plus w bs1 d1 = W1 at *
  have hr1 := hr.later be
  have hn1 : Lr.length = n1 := by have := hl1.1; rw [flat_len rxC 3 rxC_len] at this; omega
  have hp1 : Lr.length = (opts l).length := by rw [← hm1, List.length_map]
  have hn1b : n1 ≤ 300 := by have := HLN.out; omega
  have HN1 := Lib.hid hn1
  have HM1 := Lib.hid hm1
  clear hn1 hp1 hm1
  refine wp_region_lit ?_
  iterate 2 (refine wpList_plain rfl (fun K hK => ?_); go_simp; with_reducible refine hK _ _ ?_; clear hK K)
  refine wpList_plain rfl (fun K hK => ?_)
  go_simp
  refine (find44_u hr1 (by omega) kind).mono ?_
  rintro e w1 ⟨bs2, d2, kf, Af, nf, cf, jf, bok, rfl, rfl, hFR⟩
  with_reducible refine hK _ _ ?_
  clear hK K
  iterate 5 (refine wpList_plain rfl (fun K hK => ?_); go_simp; with_reducible refine hK _ _ ?_; clear hK K)
  refine wpList_stA (t := 88) 88 (.tmp 8) (.tmp 25) rfl rfl (opC kf Af nf cf) [.int .u8 0, .slice none 0 0] rfl (opC_one _ _ _ _) rfl rfl (Bk.newK (k := W1.heap.size + bs2.length) _ _ _ (by simp [size_plus]) rfl) (szOp _ _ _ _) ?_
  intro W2 hO hg2
  iterate 2 (refine wpList_plain rfl (fun K hK => ?_); go_simp; with_reducible refine hK _ _ ?_; clear hK K)
  have be2 : Below W1.heap.size W1 W2 := below_grown (Below.allocS (below_plus W1 bs2 d2) _) hg2 (by omega)
  have be2b : Below (plus W1 bs2 d2).heap.size (plus W1 bs2 d2) W2 := below_grown (Below.allocS (Below.refl _ _) _) hg2 (by simp [size_plus])
  replace be := be.trans (be2.mono be.size)
  replace hr1 := hr1.later be2
  replace hl1 := hl1.later be2
  replace hd1 : ∀ x ∈ Lr, Rb W2 x.A x.n x.c x.d := fun x hx => (hd1 x hx).later be2
  have hFR2 : (bok = true ∧ kf = kind ∧ ∃ d', Rb W2 Af nf cf d' ∧ firstO kind (opts l) = some (jf, kind, d')) ∨ (bok = false ∧ kf = 0 ∧ Af = none ∧ nf = 0 ∧ cf = 0 ∧ jf = 0 ∧ firstO kind (opts l) = none) := by
    rcases hFR with ⟨h1, h2, d', h3, h4⟩ | h
    · exact .inl ⟨h1, h2, d', h3.later be2b, h4⟩
    · exact .inr h
  generalize W1.heap.size + bs2.length = gO at *
  clear hFR hg2 be2 be2b
  obtain ⟨kv, hkv⟩ : ∃ v : Int, (v = -1 ∧ ∀ x ∈ Lr, x.k ≠ kind) ∨ (∃ P y S, Lr = P ++ y :: S ∧ y.k = kind ∧ (∀ x ∈ P, x.k ≠ kind) ∧ v = (P.length : Int)) := by
    rcases first_ox kind Lr with h | ⟨P, y, S, h1, h2, h3⟩
    · exact ⟨-1, .inl ⟨rfl, h⟩⟩
    · exact ⟨_, .inr ⟨P, y, S, h1, h2, h3, rfl⟩⟩
  have hfx := firstO_ox kind Lr kv hkv
  rw [HM1.out] at hfx
  have hkb : decide (0 ≤ kv) = bok := by
    rcases hfx with ⟨h1, h2⟩ | ⟨kk, h0, h1, h2, h3⟩
    · rcases hFR2 with ⟨h4, h5, d', h6, h7⟩ | ⟨h4, h5⟩
      · rw [h2] at h7; cases h7
      · rw [h4, h1]; rfl
    · rcases hFR2 with ⟨h4, h5, d', h6, h7⟩ | ⟨h4, h5, h6, h7, h8, h9, h10⟩
      · rw [h4, h1]; simp
      · rw [h2] at h10; cases h10
  have HKV := Lib.hid hkv
  have HFX := Lib.hid hfx
  have HFR := Lib.hid hFR2
  clear hkv hfx hFR2
  go_upto_region 6 with (go_at_call 33; refine (refFind_at A1 n1 c1 Lr W2 hl1 (by omega) kind kv HKV.out).mono ?_; rintro e w1 ⟨bs4, d4, rfl, rfl⟩)
  have be4 := below_plus W2 bs4 d4
  replace be := belowP be bs4 d4
  replace hr1 := hr1.later be4
  replace hl1 := hl1.later be4
  replace hd1 : ∀ x ∈ Lr, Rb (plus W2 bs4 d4) x.A x.n x.c x.d := fun x hx => (hd1 x hx).later be4
  replace hO := hO.later be4
  have hFR4 : (bok = true ∧ kf = kind ∧ ∃ d', Rb (plus W2 bs4 d4) Af nf cf d' ∧ firstO kind (opts l) = some (jf, kind, d')) ∨ (bok = false ∧ kf = 0 ∧ Af = none ∧ nf = 0 ∧ cf = 0 ∧ jf = 0 ∧ firstO kind (opts l) = none) := by
    rcases HFR.out with ⟨h1, h2, d', h3, h4⟩ | h
    · exact .inl ⟨h1, h2, d', h3.later be4, h4⟩
    · exact .inr h
  replace HFR := Lib.hid hFR4
  clear hFR4 be4 HKV
  generalize plus W2 bs4 d4 = W6 at *
  have HRB := Lib.hid (fun (W : World) (h : Below W6.heap.size W6 W) => hr1.later h)
  have HS1 := Lib.hid (fun (W : World) (h : Below W6.heap.size W6 W) {A7 : Option Addr} {n7 c7 : Nat} {L7 : List Ox} (h1 : Rs 3 W A7 n7 c7 (L7.flatMap rxC)) (h2 : ∀ x ∈ L7, Rb W x.A x.n x.c x.d) (h3 : L7.map Ox.p = (opts l).take 400) =>
    (show Calls Try.prog 29 #[.slice A7 n7 c7, .slice A1 n1 c1, .bool true] W (RetV W (.bool true)) from by
      rw [List.take_of_length_le (by have := HLN.out; omega), ← HM1.out] at h3
      have h6 : n7 = L7.length := by have := h1.1; rw [flat_len rxC 3 rxC_len] at this; omega
      have h5 : L7.length = Lr.length := by have := congrArg List.length h3; simpa using this
      exact same_yes true W A7 n7 c7 L7 A1 n1 c1 Lr h1 h2 (hl1.later h) (fun x hx => (hd1 x hx).later h) h3 (by have := HN1.out; omega)))
  obtain ⟨q, hq⟩ : ∃ q, q = min n1 mo := ⟨_, rfl⟩
  have HS2 := Lib.hid (fun (W : World) (h : Below W6.heap.size W6 W) {A7 : Option Addr} {n7 c7 : Nat} {L7 : List Ox} (h1 : Rs 3 W A7 n7 c7 (L7.flatMap rxC)) (h2 : ∀ x ∈ L7, Rb W x.A x.n x.c x.d) (h3 : L7.map Ox.p = (opts l).take mo) =>
    (show Calls Try.prog 29 #[.slice A7 n7 c7, .slice A1 q c1, .bool true] W (RetV W (.bool true)) from by
      have hq1 : q ≤ n1 := by omega
      have h4 : Rs 3 W A1 q c1 ((Lr.take q).flatMap rxC) := by have h := (hl1.later h).take hq1; rw [flat_take rxC 3 rxC_len] at h; exact h
      have h6 : n7 = L7.length := by have := h1.1; rw [flat_len rxC 3 rxC_len] at this; omega
      have h7 : (opts l).take mo = (Lr.take q).map Ox.p := by
        rw [← HM1.out, ← List.map_take, hq]
        congr 1
        rcases Nat.le_total n1 mo with h | h
        · rw [Nat.min_eq_left h, List.take_of_length_le (by have := HN1.out; omega), List.take_of_length_le (by have := HN1.out; omega)]
        · rw [Nat.min_eq_right h]
      have h5 : L7.length ≤ n1 := by have := congrArg List.length (h3.trans h7); rw [List.length_map, List.length_map, List.length_take] at this; omega
      exact same_yes true W A7 n7 c7 L7 A1 q c1 (Lr.take q) h1 h2 h4 (fun x hx => (hd1 x (List.mem_of_mem_take hx)).later h) (h3.trans h7) (by omega)))
  have hqc : q ≤ c1 := by have := hl1.2.1; omega
  have hqc2 : (q : Int) ≤ (c1 : Int) := by omega
  have HQm := Lib.hid hq
  clear hq
  have wmo : IntKind.i64.wrap (mo : Int) = (mo : Int) := IntWalk.i64_in _ (by omega)
  go_wp2
  refine wp_relS 26 190 rfl (by kernel_rfl) (by kernel_rfl) ?_
  apply Steps.one (MP.eq _) 1 rfl
  · intro o ho FA x hO hD K hK
    obtain rfl := Option.some.inj ho.symm
    clear ho
    have e0 := hO 0 (by kernel_rfl)
    simp only [eval_tmp, List.getElem?_toArray, List.getElem?_cons_succ, List.getElem?_cons_zero, Option.getD_some] at e0
    have ev0 := Lib.hid ((eval_tmp FA 0).trans e0)
    clear hO hD
    go_simp
    exact hK.out _ _ (Ex.refl _) rfl
  apply Steps.one (MP.ro ((opts l).take 400)) 2 rfl
  · intro o ho FA x hO hD K hK
    obtain rfl := Option.some.inj ho.symm
    clear ho
    have ev31 : FA.eval (.tmp 31) = _ := hD 0 31 (by kernel_rfl)
    have e31 := (eval_tmp FA 31).symm.trans ev31
    replace ev31 := Lib.hid ev31
    clear hO hD
    go_simp
    refine (lawAll_any A n c l _ (HRB.out _ (below_plus _ _ _)) (by omega) 400 (by omega)).mono ?_
    rintro e w1 ⟨A7, n7, c7, L7, bs7, d7, rfl, rfl, hr7, hd7, hm7⟩
    exact hK.out _ _ (Ex.plus_ _ _ _) ⟨_, _, _, L7, rfl, hr7, hd7, hm7⟩
  apply Steps.one (MP.eq _) 3 rfl
  · intro o ho FA x hO hD K hK
    obtain rfl := Option.some.inj ho.symm
    clear ho
    have e7 := hO 7 (by kernel_rfl)
    simp only [eval_tmp, List.getElem?_toArray, List.getElem?_cons_succ, List.getElem?_cons_zero, Option.getD_some] at e7
    have ev7 := Lib.hid ((eval_tmp FA 7).trans e7)
    clear hO hD
    go_simp
    exact hK.out _ _ (Ex.refl _) rfl
  apply Steps.one (MP.eq _) 4 rfl
  · intro o ho FA x hO hD K hK
    obtain rfl := Option.some.inj ho.symm
    clear ho
    have f32 := hD 1 32 (by kernel_rfl)
    generalize eu32 : FA.eval (.tmp 32) = u32 at f32
    have e32 := (eval_tmp FA 32).symm.trans eu32
    have ev32 := Lib.hid eu32
    clear eu32
    have ev33 : FA.eval (.tmp 33) = _ := hD 2 33 (by kernel_rfl)
    have e33 := (eval_tmp FA 33).symm.trans ev33
    replace ev33 := Lib.hid ev33
    clear hO hD
    obtain ⟨A7, n7, c7, L7, rfl, hr7, hd7, hm7⟩ := f32
    go_simp
    refine (HS1.out _ (below_plus _ _ _) hr7 hd7 hm7).mono ?_
    rintro e w1 ⟨bs8, d8, rfl, rfl⟩
    exact hK.out _ _ (Ex.plus_ _ _ _) rfl
  apply Steps.one (MP.eq _) 5 rfl
  · intro o ho FA x hO hD K hK
    obtain rfl := Option.some.inj ho.symm
    clear ho
    have ev34 : FA.eval (.tmp 34) = _ := hD 3 34 (by kernel_rfl)
    have e34 := (eval_tmp FA 34).symm.trans ev34
    replace ev34 := Lib.hid ev34
    clear hO hD
    go_simp
    exact hK.out _ _ (Ex.refl _) rfl
  apply Steps.one (MP.eq _) 6 rfl
  · intro o ho FA x hO hD K hK
    obtain rfl := Option.some.inj ho.symm
    clear ho
    have ev35 : FA.eval (.tmp 35) = _ := hD 4 35 (by kernel_rfl)
    have e35 := (eval_tmp FA 35).symm.trans ev35
    replace ev35 := Lib.hid ev35
    clear hO hD
    go_simp
    exact hK.out _ _ (Ex.refl _) rfl
  apply Steps.one (MP.eq _) 7 rfl
  · intro o ho FA x hO hD K hK
    obtain rfl := Option.some.inj ho.symm
    clear ho
    have e0 := hO 0 (by kernel_rfl)
    simp only [eval_tmp, List.getElem?_toArray, List.getElem?_cons_succ, List.getElem?_cons_zero, Option.getD_some] at e0
    have ev0 := Lib.hid ((eval_tmp FA 0).trans e0)
    have ev36 : FA.eval (.tmp 36) = _ := hD 5 36 (by kernel_rfl)
    have e36 := (eval_tmp FA 36).symm.trans ev36
    replace ev36 := Lib.hid ev36
    first | have ge36 := slot_of e36 | have ge36 := slot_un e36
    clear hO hD
    first | (go_simp; exact hK.out _ _ (Ex.refl _) rfl) | (rcases ge36 with ge36 | ge36 <;> (go_simp; exact hK.out _ _ (Ex.refl _) rfl))
  apply Steps.one (MP.eq _) 8 rfl
  · intro o ho FA x hO hD K hK
    obtain rfl := Option.some.inj ho.symm
    clear ho
    have e2 := hO 2 (by kernel_rfl)
    simp only [eval_tmp, List.getElem?_toArray, List.getElem?_cons_succ, List.getElem?_cons_zero, Option.getD_some] at e2
    have ev2 := Lib.hid ((eval_tmp FA 2).trans e2)
    have ev36 : FA.eval (.tmp 36) = _ := hD 5 36 (by kernel_rfl)
    have e36 := (eval_tmp FA 36).symm.trans ev36
    replace ev36 := Lib.hid ev36
    first | have ge36 := slot_of e36 | have ge36 := slot_un e36
    clear hO hD
    first | (go_simp; exact hK.out _ _ (Ex.refl _) rfl) | (rcases ge36 with ge36 | ge36 <;> (go_simp; exact hK.out _ _ (Ex.refl _) rfl))
  apply Steps.one (MP.eq _) 9 rfl
  · intro o ho FA x hO hD K hK
    obtain rfl := Option.some.inj ho.symm
    clear ho
    have ev38 : FA.eval (.tmp 38) = _ := hD 7 38 (by kernel_rfl)
    have e38 := (eval_tmp FA 38).symm.trans ev38
    replace ev38 := Lib.hid ev38
    have ev36 : FA.eval (.tmp 36) = _ := hD 5 36 (by kernel_rfl)
    have e36 := (eval_tmp FA 36).symm.trans ev36
    replace ev36 := Lib.hid ev36
    first | have ge36 := slot_of e36 | have ge36 := slot_un e36
    clear hO hD
    first | (go_simp; exact hK.out _ _ (Ex.refl _) rfl) | (rcases ge36 with ge36 | ge36 <;> (go_simp; exact hK.out _ _ (Ex.refl _) rfl))
  apply Steps.one (MP.ro ((opts l).take mo)) 10 rfl
  · intro o ho FA x hO hD K hK
    obtain rfl := Option.some.inj ho.symm
    clear ho
    have ev37 : FA.eval (.tmp 37) = _ := hD 6 37 (by kernel_rfl)
    have e37 := (eval_tmp FA 37).symm.trans ev37
    replace ev37 := Lib.hid ev37
    have ev39 : FA.eval (.tmp 39) = _ := hD 8 39 (by kernel_rfl)
    have e39 := (eval_tmp FA 39).symm.trans ev39
    replace ev39 := Lib.hid ev39
    have ev36 : FA.eval (.tmp 36) = _ := hD 5 36 (by kernel_rfl)
    have e36 := (eval_tmp FA 36).symm.trans ev36
    replace ev36 := Lib.hid ev36
    first | have ge36 := slot_of e36 | have ge36 := slot_un e36
    clear hO hD
    go_simp
    refine (lawAll_any A n c l _ (HRB.out _ (below_plus _ _ _)) (by omega) mo (by omega)).mono ?_
    rintro e w1 ⟨A7, n7, c7, L7, bs7, d7, rfl, rfl, hr7, hd7, hm7⟩
    exact hK.out _ _ (Ex.plus_ _ _ _) ⟨_, _, _, L7, rfl, hr7, hd7, hm7⟩
  apply Steps.one (MP.eq _) 11 rfl
  · intro o ho FA x hO hD K hK
    obtain rfl := Option.some.inj ho.symm
    clear ho
    have e7 := hO 7 (by kernel_rfl)
    simp only [eval_tmp, List.getElem?_toArray, List.getElem?_cons_succ, List.getElem?_cons_zero, Option.getD_some] at e7
    have ev7 := Lib.hid ((eval_tmp FA 7).trans e7)
    have ev36 : FA.eval (.tmp 36) = _ := hD 5 36 (by kernel_rfl)
    have e36 := (eval_tmp FA 36).symm.trans ev36
    replace ev36 := Lib.hid ev36
    first | have ge36 := slot_of e36 | have ge36 := slot_un e36
    clear hO hD
    first | (go_simp; exact hK.out _ _ (Ex.refl _) rfl) | (rcases ge36 with ge36 | ge36 <;> (go_simp; exact hK.out _ _ (Ex.refl _) rfl))
  apply Steps.one (MP.eq _) 12 rfl
  · intro o ho FA x hO hD K hK
    obtain rfl := Option.some.inj ho.symm
    clear ho
    have e7 := hO 7 (by kernel_rfl)
    simp only [eval_tmp, List.getElem?_toArray, List.getElem?_cons_succ, List.getElem?_cons_zero, Option.getD_some] at e7
    have ev7 := Lib.hid ((eval_tmp FA 7).trans e7)
    have ev36 : FA.eval (.tmp 36) = _ := hD 5 36 (by kernel_rfl)
    have e36 := (eval_tmp FA 36).symm.trans ev36
    replace ev36 := Lib.hid ev36
    first | have ge36 := slot_of e36 | have ge36 := slot_un e36
    clear hO hD
    first | (go_simp; exact hK.out _ _ (Ex.refl _) rfl) | (rcases ge36 with ge36 | ge36 <;> (go_simp; exact hK.out _ _ (Ex.refl _) rfl))
  apply Steps.one (MP.eq _) 13 rfl
  · intro o ho FA x hO hD K hK
    obtain rfl := Option.some.inj ho.symm
    clear ho
    have ev42 : FA.eval (.tmp 42) = _ := hD 11 42 (by kernel_rfl)
    have e42 := (eval_tmp FA 42).symm.trans ev42
    replace ev42 := Lib.hid ev42
    have ev36 : FA.eval (.tmp 36) = _ := hD 5 36 (by kernel_rfl)
    have e36 := (eval_tmp FA 36).symm.trans ev36
    replace ev36 := Lib.hid ev36
    first | have ge36 := slot_of e36 | have ge36 := slot_un e36
    clear hO hD
    first | (go_simp; exact hK.out _ _ (Ex.refl _) rfl) | (rcases ge36 with ge36 | ge36 <;> (go_simp; exact hK.out _ _ (Ex.refl _) rfl))
  apply Steps.one (MP.eq _) 14 rfl
  · intro o ho FA x hO hD K hK
    obtain rfl := Option.some.inj ho.symm
    clear ho
    have e2 := hO 2 (by kernel_rfl)
    simp only [eval_tmp, List.getElem?_toArray, List.getElem?_cons_succ, List.getElem?_cons_zero, Option.getD_some] at e2
    have ev2 := Lib.hid ((eval_tmp FA 2).trans e2)
    have ev36 : FA.eval (.tmp 36) = _ := hD 5 36 (by kernel_rfl)
    have e36 := (eval_tmp FA 36).symm.trans ev36
    replace ev36 := Lib.hid ev36
    first | have ge36 := slot_of e36 | have ge36 := slot_un e36
    clear hO hD
    first | (go_simp; exact hK.out _ _ (Ex.refl _) rfl) | (rcases ge36 with ge36 | ge36 <;> (go_simp; exact hK.out _ _ (Ex.refl _) rfl))
  apply Steps.one (MP.eq _) 15 rfl
  · intro o ho FA x hO hD K hK
    obtain rfl := Option.some.inj ho.symm
    clear ho
    have ev44 : FA.eval (.tmp 44) = _ := hD 13 44 (by kernel_rfl)
    have e44 := (eval_tmp FA 44).symm.trans ev44
    replace ev44 := Lib.hid ev44
    have ev36 : FA.eval (.tmp 36) = _ := hD 5 36 (by kernel_rfl)
    have e36 := (eval_tmp FA 36).symm.trans ev36
    replace ev36 := Lib.hid ev36
    first | have ge36 := slot_of e36 | have ge36 := slot_un e36
    clear hO hD
    first | (go_simp; exact hK.out _ _ (Ex.refl _) rfl) | (rcases ge36 with ge36 | ge36 <;> (go_simp; exact hK.out _ _ (Ex.refl _) rfl))
  apply Steps.one (MP.eq (.int .i64 (q : Int))) 16 rfl
  · intro o ho FA x hO hD K hK
    obtain rfl := Option.some.inj ho.symm
    clear ho
    have ev43 : FA.eval (.tmp 43) = _ := hD 12 43 (by kernel_rfl)
    have e43 := (eval_tmp FA 43).symm.trans ev43
    replace ev43 := Lib.hid ev43
    have ev45 : FA.eval (.tmp 45) = _ := hD 14 45 (by kernel_rfl)
    have e45 := (eval_tmp FA 45).symm.trans ev45
    replace ev45 := Lib.hid ev45
    have ev36 : FA.eval (.tmp 36) = _ := hD 5 36 (by kernel_rfl)
    have e36 := (eval_tmp FA 36).symm.trans ev36
    replace ev36 := Lib.hid ev36
    first | have ge36 := slot_of e36 | have ge36 := slot_un e36
    clear hO hD
    go_simp
    exact hK.out _ _ (Ex.refl _) (congrArg (Value.int .i64) (by have := HQm.out; omega))
  apply Steps.one (MP.eq (.slice A1 q c1)) 17 rfl
  · intro o ho FA x hO hD K hK
    obtain rfl := Option.some.inj ho.symm
    clear ho
    have ev41 : FA.eval (.tmp 41) = _ := hD 10 41 (by kernel_rfl)
    have e41 := (eval_tmp FA 41).symm.trans ev41
    replace ev41 := Lib.hid ev41
    have ev46 : FA.eval (.tmp 46) = _ := hD 15 46 (by kernel_rfl)
    have e46 := (eval_tmp FA 46).symm.trans ev46
    replace ev46 := Lib.hid ev46
    have ev36 : FA.eval (.tmp 36) = _ := hD 5 36 (by kernel_rfl)
    have e36 := (eval_tmp FA 36).symm.trans ev36
    replace ev36 := Lib.hid ev36
    first | have ge36 := slot_of e36 | have ge36 := slot_un e36
    clear hO hD
    first | (go_simp; exact hK.out _ _ (Ex.refl _) rfl) | (rcases ge36 with ge36 | ge36 <;> (go_simp; exact hK.out _ _ (Ex.refl _) rfl))
  apply Steps.one (MP.eq _) 18 rfl
  · intro o ho FA x hO hD K hK
    obtain rfl := Option.some.inj ho.symm
    clear ho
    have f40 := hD 9 40 (by kernel_rfl)
    generalize eu40 : FA.eval (.tmp 40) = u40 at f40
    have e40 := (eval_tmp FA 40).symm.trans eu40
    have ev40 := Lib.hid eu40
    clear eu40
    have ev47 : FA.eval (.tmp 47) = _ := hD 16 47 (by kernel_rfl)
    have e47 := (eval_tmp FA 47).symm.trans ev47
    replace ev47 := Lib.hid ev47
    have ev36 : FA.eval (.tmp 36) = _ := hD 5 36 (by kernel_rfl)
    have e36 := (eval_tmp FA 36).symm.trans ev36
    replace ev36 := Lib.hid ev36
    first | have ge36 := slot_of e36 | have ge36 := slot_un e36
    clear hO hD
    obtain ⟨A7, n7, c7, L7, rfl, hr7, hd7, hm7⟩ := f40
    go_simp
    refine (HS2.out _ (below_plus _ _ _) hr7 hd7 hm7).mono ?_
    rintro e w1 ⟨bs8, d8, rfl, rfl⟩
    exact hK.out _ _ (Ex.plus_ _ _ _) rfl
  apply Steps.one (MP.eq _) 19 rfl
  · intro o ho FA x hO hD K hK
    obtain rfl := Option.some.inj ho.symm
    clear ho
    have ev48 : FA.eval (.tmp 48) = _ := hD 17 48 (by kernel_rfl)
    have e48 := (eval_tmp FA 48).symm.trans ev48
    replace ev48 := Lib.hid ev48
    have ev36 : FA.eval (.tmp 36) = _ := hD 5 36 (by kernel_rfl)
    have e36 := (eval_tmp FA 36).symm.trans ev36
    replace ev36 := Lib.hid ev36
    first | have ge36 := slot_of e36 | have ge36 := slot_un e36
    clear hO hD
    first | (go_simp; exact hK.out _ _ (Ex.refl _) rfl) | (rcases ge36 with ge36 | ge36 <;> (go_simp; exact hK.out _ _ (Ex.refl _) rfl))
  apply Steps.one (MP.eq _) 20 rfl
  · intro o ho FA x hO hD K hK
    obtain rfl := Option.some.inj ho.symm
    clear ho
    have ev36 : FA.eval (.tmp 36) = _ := hD 5 36 (by kernel_rfl)
    have e36 := (eval_tmp FA 36).symm.trans ev36
    replace ev36 := Lib.hid ev36
    have ev49 : FA.eval (.tmp 49) = _ := hD 18 49 (by kernel_rfl)
    have e49 := (eval_tmp FA 49).symm.trans ev49
    replace ev49 := Lib.hid ev49
    clear hO hD
    go_simp
    exact hK.out _ _ (Ex.refl _) rfl
  apply Steps.one (MP.eq _) 21 rfl
  · intro o ho FA x hO hD K hK
    obtain rfl := Option.some.inj ho.symm
    clear ho
    have ev50 : FA.eval (.tmp 50) = _ := hD 19 50 (by kernel_rfl)
    have e50 := (eval_tmp FA 50).symm.trans ev50
    replace ev50 := Lib.hid ev50
    clear hO hD
    go_simp
    exact hK.out _ _ (Ex.refl _) rfl
  apply Steps.one (MP.eq _) 22 rfl
  · intro o ho FA x hO hD K hK
    obtain rfl := Option.some.inj ho.symm
    clear ho
    have e10 := hO 10 (by kernel_rfl)
    simp only [eval_tmp, List.getElem?_toArray, List.getElem?_cons_succ, List.getElem?_cons_zero, Option.getD_some] at e10
    have ev10 := Lib.hid ((eval_tmp FA 10).trans e10)
    have ev51 : FA.eval (.tmp 51) = _ := hD 20 51 (by kernel_rfl)
    have e51 := (eval_tmp FA 51).symm.trans ev51
    replace ev51 := Lib.hid ev51
    first | have ge51 := slot_of e51 | have ge51 := slot_un e51
    clear hO hD
    first | (go_simp; exact hK.out _ _ (Ex.refl _) rfl) | (rcases ge51 with ge51 | ge51 <;> (go_simp; exact hK.out _ _ (Ex.refl _) rfl))
  apply Steps.one (MP.eq _) 23 rfl
  · intro o ho FA x hO hD K hK
    obtain rfl := Option.some.inj ho.symm
    clear ho
    have e11 := hO 11 (by kernel_rfl)
    simp only [eval_tmp, List.getElem?_toArray, List.getElem?_cons_succ, List.getElem?_cons_zero, Option.getD_some] at e11
    have ev11 := Lib.hid ((eval_tmp FA 11).trans e11)
    have ev51 : FA.eval (.tmp 51) = _ := hD 20 51 (by kernel_rfl)
    have e51 := (eval_tmp FA 51).symm.trans ev51
    replace ev51 := Lib.hid ev51
    first | have ge51 := slot_of e51 | have ge51 := slot_un e51
    clear hO hD
    first | (go_simp; exact hK.out _ _ (Ex.refl _) rfl) | (rcases ge51 with ge51 | ge51 <;> (go_simp; exact hK.out _ _ (Ex.refl _) rfl))
  apply Steps.one (MP.eq _) 24 rfl
  · intro o ho FA x hO hD K hK
    obtain rfl := Option.some.inj ho.symm
    clear ho
    have ev53 : FA.eval (.tmp 53) = _ := hD 22 53 (by kernel_rfl)
    have e53 := (eval_tmp FA 53).symm.trans ev53
    replace ev53 := Lib.hid ev53
    have ev51 : FA.eval (.tmp 51) = _ := hD 20 51 (by kernel_rfl)
    have e51 := (eval_tmp FA 51).symm.trans ev51
    replace ev51 := Lib.hid ev51
    first | have ge51 := slot_of e51 | have ge51 := slot_un e51
    clear hO hD
    first | (go_simp; exact hK.out _ _ (Ex.refl _) rfl) | (rcases ge51 with ge51 | ge51 <;> (go_simp; exact hK.out _ _ (Ex.refl _) rfl))
  apply Steps.one (MP.eq _) 25 rfl
  · intro o ho FA x hO hD K hK
    obtain rfl := Option.some.inj ho.symm
    clear ho
    have ev52 : FA.eval (.tmp 52) = _ := hD 21 52 (by kernel_rfl)
    have e52 := (eval_tmp FA 52).symm.trans ev52
    replace ev52 := Lib.hid ev52
    have ev54 : FA.eval (.tmp 54) = _ := hD 23 54 (by kernel_rfl)
    have e54 := (eval_tmp FA 54).symm.trans ev54
    replace ev54 := Lib.hid ev54
    have ev51 : FA.eval (.tmp 51) = _ := hD 20 51 (by kernel_rfl)
    have e51 := (eval_tmp FA 51).symm.trans ev51
    replace ev51 := Lib.hid ev51
    first | have ge51 := slot_of e51 | have ge51 := slot_un e51
    clear hO hD
    first | (go_simp; exact hK.out _ _ (Ex.refl _) rfl) | (rcases ge51 with ge51 | ge51 <;> (go_simp; exact hK.out _ _ (Ex.refl _) rfl))
  apply Steps.one (MP.eq _) 26 rfl
  · intro o ho FA x hO hD K hK
    obtain rfl := Option.some.inj ho.symm
    clear ho
    have ev51 : FA.eval (.tmp 51) = _ := hD 20 51 (by kernel_rfl)
    have e51 := (eval_tmp FA 51).symm.trans ev51
    replace ev51 := Lib.hid ev51
    have ev55 : FA.eval (.tmp 55) = _ := hD 24 55 (by kernel_rfl)
    have e55 := (eval_tmp FA 55).symm.trans ev55
    replace ev55 := Lib.hid ev55
    clear hO hD
    go_simp
    exact hK.out _ _ (Ex.refl _) rfl
  refine Steps.fin_ (fun vs x hp => ?_)
  have p0 : vs 0 = _ := hp 0 (by omega)
  have p1 := hp 1 (by omega)
  have p2 : vs 2 = _ := hp 2 (by omega)
  have p3 : vs 3 = _ := hp 3 (by omega)
  have p4 : vs 4 = _ := hp 4 (by omega)
  have p5 : vs 5 = _ := hp 5 (by omega)
  have p6 : vs 6 = _ := hp 6 (by omega)
  have p7 : vs 7 = _ := hp 7 (by omega)
  have p8 : vs 8 = _ := hp 8 (by omega)
  have p9 := hp 9 (by omega)
  have p10 : vs 10 = _ := hp 10 (by omega)
  have p11 : vs 11 = _ := hp 11 (by omega)
  have p12 : vs 12 = _ := hp 12 (by omega)
  have p13 : vs 13 = _ := hp 13 (by omega)
  have p14 : vs 14 = _ := hp 14 (by omega)
  have p15 : vs 15 = _ := hp 15 (by omega)
  have p16 : vs 16 = _ := hp 16 (by omega)
  have p17 : vs 17 = _ := hp 17 (by omega)
  have p18 : vs 18 = _ := hp 18 (by omega)
  have p19 : vs 19 = _ := hp 19 (by omega)
  have p20 : vs 20 = _ := hp 20 (by omega)
  have p21 : vs 21 = _ := hp 21 (by omega)
  have p22 : vs 22 = _ := hp 22 (by omega)
  have p23 : vs 23 = _ := hp 23 (by omega)
  have p24 : vs 24 = _ := hp 24 (by omega)
  have p25 : vs 25 = _ := hp 25 (by omega)
  clear hp
  simp only [List.take_succ_cons, List.take_zero, List.drop_succ_cons, List.drop_zero, putAll, Nat.zero_add, Nat.reduceAdd, Act.put, List.setIfInBounds_toArray, List.set_cons_zero, List.set_cons_succ, p0, p2, p3, p4, p5, p6, p7, p8, p10, p11, p12, p13, p14, p15, p16, p17, p18, p19, p20, p21, p22, p23, p24, p25]
  clear p0 p2 p3 p4 p5 p6 p7 p8 p10 p11 p12 p13 p14 p15 p16 p17 p18 p19 p20 p21 p22 p23 p24 p25
  generalize vs 1 = y1 at *
  generalize vs 9 = y9 at *
  clear vs
  clear HS1 HS2 hqc hqc2 wmo HQm HRB hkb
  have be6 := below_plus W6 x.bs x.d
  replace be := belowP be x.bs x.d
  replace hr1 := hr1.later be6
  replace hl1 := hl1.later be6
  replace hd1 : ∀ z ∈ Lr, Rb (plus W6 x.bs x.d) z.A z.n z.c z.d := fun z hz => (hd1 z hz).later be6
  replace hO := hO.later be6
  have hFR7 : (bok = true ∧ kf = kind ∧ ∃ d', Rb (plus W6 x.bs x.d) Af nf cf d' ∧ firstO kind (opts l) = some (jf, kind, d')) ∨ (bok = false ∧ kf = 0 ∧ Af = none ∧ nf = 0 ∧ cf = 0 ∧ jf = 0 ∧ firstO kind (opts l) = none) := by
    rcases HFR.out with ⟨h1, h2, d', h3, h4⟩ | h
    · exact .inl ⟨h1, h2, d', h3.later be6, h4⟩
    · exact .inr h
  clear be6 HFR
  generalize plus W6 x.bs x.d = W7 at *
  have hb7 := be.size
  have hfx := HFX.out
  clear HFX
  obtain ⟨v5, hv5⟩ : ∃ v : Int, (v = -1 ∧ ∀ x ∈ Lr, x.k ≠ 5) ∨ (∃ P y S, Lr = P ++ y :: S ∧ y.k = 5 ∧ (∀ x ∈ P, x.k ≠ 5) ∧ v = (P.length : Int)) := by
    rcases first_ox 5 Lr with h | ⟨P, y, S, h1, h2, h3⟩
    · exact ⟨-1, .inl ⟨rfl, h⟩⟩
    · exact ⟨_, .inr ⟨P, y, S, h1, h2, h3, rfl⟩⟩
  have hfx5 := firstO_ox 5 Lr v5 hv5
  rw [HM1.out] at hfx5
  have HV5 := Lib.hid hv5
  have HF5 := Lib.hid hfx5
  clear hv5 hfx5
  rcases hFR7 with ⟨rfl, rfl, d', hxf, hf1⟩ | ⟨rfl, rfl, rfl, rfl, rfl, rfl, hf1⟩
  · rcases hfx with ⟨h1, h2⟩ | ⟨kk, h0, rfl, h2, h3⟩
    · rw [h2] at hf1
      cases hf1
    · rw [h2] at hf1
      have hrg := fun W (h : Below W7.heap.size W7 W) => (hl1.later h)
      obtain ⟨b, off, rfl, hbl, -⟩ := hl1.at_ (by have := HN1.out; omega) (by decide)
      have hrg := fun W (h : Below W7.heap.size W7 W) => (hl1.later h).rangeE rxC_len kk h0
      have hxr0 := hd1 Lr[kk] (List.getElem_mem h0)
      have hkn : kk < n1 := by have := HN1.out; omega
      have ik : (kk : Int) < (n1 : Int) := by omega
      generalize Lr[kk] = z at *
      obtain ⟨xi, xk, xA, xn, xc, xd⟩ := z
      injection hf1 with hf1
      injection hf1 with e1 e2
      injection e2 with e2 e3
      simp only [] at e1 e2 e3
      subst e1 e2 e3
      have HQ := Lib.hid (fun (W : World) (h : Below W7.heap.size W7 W) => show W.cell? ⟨b, off + kk * 3, none⟩ = some (.int .i64 xi) ∧ W.cell? ⟨b, off + kk * 3 + 2, none⟩ = some (.slice xA xn xc) from
        ⟨hrg W h 0 _ rfl, hrg W h 2 _ rfl⟩)
      have HXF := Lib.hid hxf
      have HXL := Lib.hid hxr0
      clear hrg hxf hxr0 h2 h3
      go_upto_region 8 with (fail)
      go_wp2
      refine wp_relS 47 190 rfl (by kernel_rfl) (by kernel_rfl) ?_
      apply Steps.one (MP.eq _) 1 rfl
      · intro o ho FA x hO hD K hK
        obtain rfl := Option.some.inj ho.symm
        clear ho
        have e10 := hO 10 (by kernel_rfl)
        simp only [eval_tmp, List.getElem?_toArray, List.getElem?_cons_succ, List.getElem?_cons_zero, Option.getD_some] at e10
        have ev10 := Lib.hid ((eval_tmp FA 10).trans e10)
        clear hO hD
        go_simp
        exact hK.out _ _ (Ex.refl _) rfl
      apply Steps.one (MP.eq _) 2 rfl
      · intro o ho FA x hO hD K hK
        obtain rfl := Option.some.inj ho.symm
        clear ho
        have ev57 : FA.eval (.tmp 57) = _ := hD 0 57 (by kernel_rfl)
        have e57 := (eval_tmp FA 57).symm.trans ev57
        replace ev57 := Lib.hid ev57
        clear hO hD
        go_simp
        exact hK.out _ _ (Ex.refl _) rfl
      apply Steps.one (MP.eq _) 3 rfl
      · intro o ho FA x hO hD K hK
        obtain rfl := Option.some.inj ho.symm
        clear ho
        have e9 := hO 9 (by kernel_rfl)
        simp only [eval_tmp, List.getElem?_toArray, List.getElem?_cons_succ, List.getElem?_cons_zero, Option.getD_some] at e9
        have ev9 := Lib.hid ((eval_tmp FA 9).trans e9)
        have ev58 : FA.eval (.tmp 58) = _ := hD 1 58 (by kernel_rfl)
        have e58 := (eval_tmp FA 58).symm.trans ev58
        replace ev58 := Lib.hid ev58
        first | have ge58 := slot_of e58 | have ge58 := slot_un e58
        clear hO hD
        first | (go_simp; exact hK.out _ _ (Ex.refl _) rfl) | (rcases ge58 with ge58 | ge58 <;> (go_simp; exact hK.out _ _ (Ex.refl _) rfl))
      apply Steps.one (MP.eq _) 4 rfl
      · intro o ho FA x hO hD K hK
        obtain rfl := Option.some.inj ho.symm
        clear ho
        have e7 := hO 7 (by kernel_rfl)
        simp only [eval_tmp, List.getElem?_toArray, List.getElem?_cons_succ, List.getElem?_cons_zero, Option.getD_some] at e7
        have ev7 := Lib.hid ((eval_tmp FA 7).trans e7)
        have ev58 : FA.eval (.tmp 58) = _ := hD 1 58 (by kernel_rfl)
        have e58 := (eval_tmp FA 58).symm.trans ev58
        replace ev58 := Lib.hid ev58
        first | have ge58 := slot_of e58 | have ge58 := slot_un e58
        clear hO hD
        first | (go_simp; exact hK.out _ _ (Ex.refl _) rfl) | (rcases ge58 with ge58 | ge58 <;> (go_simp; exact hK.out _ _ (Ex.refl _) rfl))
      apply Steps.one (MP.eq _) 5 rfl
      · intro o ho FA x hO hD K hK
        obtain rfl := Option.some.inj ho.symm
        clear ho
        have e11 := hO 11 (by kernel_rfl)
        simp only [eval_tmp, List.getElem?_toArray, List.getElem?_cons_succ, List.getElem?_cons_zero, Option.getD_some] at e11
        have ev11 := Lib.hid ((eval_tmp FA 11).trans e11)
        have ev58 : FA.eval (.tmp 58) = _ := hD 1 58 (by kernel_rfl)
        have e58 := (eval_tmp FA 58).symm.trans ev58
        replace ev58 := Lib.hid ev58
        first | have ge58 := slot_of e58 | have ge58 := slot_un e58
        clear hO hD
        first | (go_simp; exact hK.out _ _ (Ex.refl _) rfl) | (rcases ge58 with ge58 | ge58 <;> (go_simp; exact hK.out _ _ (Ex.refl _) rfl))
      apply Steps.one (MP.eq _) 6 rfl
      · intro o ho FA x hO hD K hK
        obtain rfl := Option.some.inj ho.symm
        clear ho
        have ev60 : FA.eval (.tmp 60) = _ := hD 3 60 (by kernel_rfl)
        have e60 := (eval_tmp FA 60).symm.trans ev60
        replace ev60 := Lib.hid ev60
        have ev61 : FA.eval (.tmp 61) = _ := hD 4 61 (by kernel_rfl)
        have e61 := (eval_tmp FA 61).symm.trans ev61
        replace ev61 := Lib.hid ev61
        have ev58 : FA.eval (.tmp 58) = _ := hD 1 58 (by kernel_rfl)
        have e58 := (eval_tmp FA 58).symm.trans ev58
        replace ev58 := Lib.hid ev58
        first | have ge58 := slot_of e58 | have ge58 := slot_un e58
        clear hO hD
        first | (go_simp; exact hK.out _ _ (Ex.refl _) rfl) | (rcases ge58 with ge58 | ge58 <;> (go_simp; exact hK.out _ _ (Ex.refl _) rfl))
      apply Steps.one (MP.eq _) 7 rfl
      · intro o ho FA x hO hD K hK
        obtain rfl := Option.some.inj ho.symm
        clear ho
        have ev62 : FA.eval (.tmp 62) = _ := hD 5 62 (by kernel_rfl)
        have e62 := (eval_tmp FA 62).symm.trans ev62
        replace ev62 := Lib.hid ev62
        have ev58 : FA.eval (.tmp 58) = _ := hD 1 58 (by kernel_rfl)
        have e58 := (eval_tmp FA 58).symm.trans ev58
        replace ev58 := Lib.hid ev58
        first | have ge58 := slot_of e58 | have ge58 := slot_un e58
        clear hO hD
        first | (go_simp; exact hK.out _ _ (Ex.refl _) rfl) | (rcases ge58 with ge58 | ge58 <;> (go_simp; exact hK.out _ _ (Ex.refl _) rfl))
      apply Steps.one (MP.eq _) 8 rfl
      · intro o ho FA x hO hD K hK
        obtain rfl := Option.some.inj ho.symm
        clear ho
        have ev63 : FA.eval (.tmp 63) = _ := hD 6 63 (by kernel_rfl)
        have e63 := (eval_tmp FA 63).symm.trans ev63
        replace ev63 := Lib.hid ev63
        have ev58 : FA.eval (.tmp 58) = _ := hD 1 58 (by kernel_rfl)
        have e58 := (eval_tmp FA 58).symm.trans ev58
        replace ev58 := Lib.hid ev58
        first | have ge58 := slot_of e58 | have ge58 := slot_un e58
        clear hO hD
        have q9 := (HQ.out (plus W7 x.bs x.d) (below_plus _ _ _)).1
        go_simp
        exact hK.out _ _ (Ex.refl _) rfl
      apply Steps.one (MP.eq _) 9 rfl
      · intro o ho FA x hO hD K hK
        obtain rfl := Option.some.inj ho.symm
        clear ho
        have ev59 : FA.eval (.tmp 59) = _ := hD 2 59 (by kernel_rfl)
        have e59 := (eval_tmp FA 59).symm.trans ev59
        replace ev59 := Lib.hid ev59
        have ev64 : FA.eval (.tmp 64) = _ := hD 7 64 (by kernel_rfl)
        have e64 := (eval_tmp FA 64).symm.trans ev64
        replace ev64 := Lib.hid ev64
        have ev58 : FA.eval (.tmp 58) = _ := hD 1 58 (by kernel_rfl)
        have e58 := (eval_tmp FA 58).symm.trans ev58
        replace ev58 := Lib.hid ev58
        first | have ge58 := slot_of e58 | have ge58 := slot_un e58
        clear hO hD
        first | (go_simp; exact hK.out _ _ (Ex.refl _) rfl) | (rcases ge58 with ge58 | ge58 <;> (go_simp; exact hK.out _ _ (Ex.refl _) rfl))
      apply Steps.one (MP.eq _) 10 rfl
      · intro o ho FA x hO hD K hK
        obtain rfl := Option.some.inj ho.symm
        clear ho
        have ev65 : FA.eval (.tmp 65) = _ := hD 8 65 (by kernel_rfl)
        have e65 := (eval_tmp FA 65).symm.trans ev65
        replace ev65 := Lib.hid ev65
        have ev58 : FA.eval (.tmp 58) = _ := hD 1 58 (by kernel_rfl)
        have e58 := (eval_tmp FA 58).symm.trans ev58
        replace ev58 := Lib.hid ev58
        first | have ge58 := slot_of e58 | have ge58 := slot_un e58
        clear hO hD
        first | (go_simp; exact hK.out _ _ (Ex.refl _) rfl) | (rcases ge58 with ge58 | ge58 <;> (go_simp; exact hK.out _ _ (Ex.refl _) rfl))
      apply Steps.one (MP.eq _) 11 rfl
      · intro o ho FA x hO hD K hK
        obtain rfl := Option.some.inj ho.symm
        clear ho
        have e8 := hO 8 (by kernel_rfl)
        simp only [eval_tmp, List.getElem?_toArray, List.getElem?_cons_succ, List.getElem?_cons_zero, Option.getD_some] at e8
        have ev8 := Lib.hid ((eval_tmp FA 8).trans e8)
        have ev66 : FA.eval (.tmp 66) = _ := hD 9 66 (by kernel_rfl)
        have e66 := (eval_tmp FA 66).symm.trans ev66
        replace ev66 := Lib.hid ev66
        first | have ge66 := slot_of e66 | have ge66 := slot_un e66
        clear hO hD
        first | (go_simp; exact hK.out _ _ (Ex.refl _) rfl) | (rcases ge66 with ge66 | ge66 <;> (go_simp; exact hK.out _ _ (Ex.refl _) rfl))
      apply Steps.one (MP.eq _) 12 rfl
      · intro o ho FA x hO hD K hK
        obtain rfl := Option.some.inj ho.symm
        clear ho
        have ev67 : FA.eval (.tmp 67) = _ := hD 10 67 (by kernel_rfl)
        have e67 := (eval_tmp FA 67).symm.trans ev67
        replace ev67 := Lib.hid ev67
        have ev66 : FA.eval (.tmp 66) = _ := hD 9 66 (by kernel_rfl)
        have e66 := (eval_tmp FA 66).symm.trans ev66
        replace ev66 := Lib.hid ev66
        first | have ge66 := slot_of e66 | have ge66 := slot_un e66
        clear hO hD
        first | (refine wanted_ifG ?_ ?_; (· go_simp); refine wp_ld1 5 (.tmp 67) rfl ev67.out (hO.later (below_plus _ _ _)) rfl Try.underlying5 rfl ?_; exact hK.out _ _ (Ex.refl _) rfl) | (go_simp; exact hK.out _ _ (Ex.refl _) rfl) | (rcases ge66 with ge66 | ge66 <;> (go_simp; exact hK.out _ _ (Ex.refl _) rfl))
      apply Steps.one (MP.eq _) 13 rfl
      · intro o ho FA x hO hD K hK
        obtain rfl := Option.some.inj ho.symm
        clear ho
        have e1 := hO 1 (by kernel_rfl)
        simp only [eval_tmp, List.getElem?_toArray, List.getElem?_cons_succ, List.getElem?_cons_zero, Option.getD_some] at e1
        have ev1 := Lib.hid ((eval_tmp FA 1).trans e1)
        have ev66 : FA.eval (.tmp 66) = _ := hD 9 66 (by kernel_rfl)
        have e66 := (eval_tmp FA 66).symm.trans ev66
        replace ev66 := Lib.hid ev66
        first | have ge66 := slot_of e66 | have ge66 := slot_un e66
        clear hO hD
        first | (go_simp; exact hK.out _ _ (Ex.refl _) rfl) | (rcases ge66 with ge66 | ge66 <;> (go_simp; exact hK.out _ _ (Ex.refl _) rfl))
      apply Steps.one (MP.eq _) 14 rfl
      · intro o ho FA x hO hD K hK
        obtain rfl := Option.some.inj ho.symm
        clear ho
        have ev68 : FA.eval (.tmp 68) = _ := hD 11 68 (by kernel_rfl)
        have e68 := (eval_tmp FA 68).symm.trans ev68
        replace ev68 := Lib.hid ev68
        have ev69 : FA.eval (.tmp 69) = _ := hD 12 69 (by kernel_rfl)
        have e69 := (eval_tmp FA 69).symm.trans ev69
        replace ev69 := Lib.hid ev69
        have ev66 : FA.eval (.tmp 66) = _ := hD 9 66 (by kernel_rfl)
        have e66 := (eval_tmp FA 66).symm.trans ev66
        replace ev66 := Lib.hid ev66
        first | have ge66 := slot_of e66 | have ge66 := slot_un e66
        clear hO hD
        first | (go_simp; exact hK.out _ _ (Ex.refl _) rfl) | (rcases ge66 with ge66 | ge66 <;> (go_simp; exact hK.out _ _ (Ex.refl _) rfl))
      apply Steps.one (MP.eq _) 15 rfl
      · intro o ho FA x hO hD K hK
        obtain rfl := Option.some.inj ho.symm
        clear ho
        have ev66 : FA.eval (.tmp 66) = _ := hD 9 66 (by kernel_rfl)
        have e66 := (eval_tmp FA 66).symm.trans ev66
        replace ev66 := Lib.hid ev66
        have ev70 : FA.eval (.tmp 70) = _ := hD 13 70 (by kernel_rfl)
        have e70 := (eval_tmp FA 70).symm.trans ev70
        replace ev70 := Lib.hid ev70
        have ev58 : FA.eval (.tmp 58) = _ := hD 1 58 (by kernel_rfl)
        have e58 := (eval_tmp FA 58).symm.trans ev58
        replace ev58 := Lib.hid ev58
        first | have ge58 := slot_of e58 | have ge58 := slot_un e58
        clear hO hD
        first | (go_simp; exact hK.out _ _ (Ex.refl _) rfl) | (rcases ge58 with ge58 | ge58 <;> (go_simp; exact hK.out _ _ (Ex.refl _) rfl))
      apply Steps.one (MP.eq _) 16 rfl
      · intro o ho FA x hO hD K hK
        obtain rfl := Option.some.inj ho.symm
        clear ho
        have ev71 : FA.eval (.tmp 71) = _ := hD 14 71 (by kernel_rfl)
        have e71 := (eval_tmp FA 71).symm.trans ev71
        replace ev71 := Lib.hid ev71
        have ev58 : FA.eval (.tmp 58) = _ := hD 1 58 (by kernel_rfl)
        have e58 := (eval_tmp FA 58).symm.trans ev58
        replace ev58 := Lib.hid ev58
        first | have ge58 := slot_of e58 | have ge58 := slot_un e58
        clear hO hD
        first | (go_simp; exact hK.out _ _ (Ex.refl _) rfl) | (rcases ge58 with ge58 | ge58 <;> (go_simp; exact hK.out _ _ (Ex.refl _) rfl))
      apply Steps.one (MP.eq _) 17 rfl
      · intro o ho FA x hO hD K hK
        obtain rfl := Option.some.inj ho.symm
        clear ho
        have e8 := hO 8 (by kernel_rfl)
        simp only [eval_tmp, List.getElem?_toArray, List.getElem?_cons_succ, List.getElem?_cons_zero, Option.getD_some] at e8
        have ev8 := Lib.hid ((eval_tmp FA 8).trans e8)
        have ev72 : FA.eval (.tmp 72) = _ := hD 15 72 (by kernel_rfl)
        have e72 := (eval_tmp FA 72).symm.trans ev72
        replace ev72 := Lib.hid ev72
        first | have ge72 := slot_of e72 | have ge72 := slot_un e72
        clear hO hD
        first | (go_simp; exact hK.out _ _ (Ex.refl _) rfl) | (rcases ge72 with ge72 | ge72 <;> (go_simp; exact hK.out _ _ (Ex.refl _) rfl))
      apply Steps.one (MP.eq _) 18 rfl
      · intro o ho FA x hO hD K hK
        obtain rfl := Option.some.inj ho.symm
        clear ho
        have ev73 : FA.eval (.tmp 73) = _ := hD 16 73 (by kernel_rfl)
        have e73 := (eval_tmp FA 73).symm.trans ev73
        replace ev73 := Lib.hid ev73
        have ev72 : FA.eval (.tmp 72) = _ := hD 15 72 (by kernel_rfl)
        have e72 := (eval_tmp FA 72).symm.trans ev72
        replace ev72 := Lib.hid ev72
        first | have ge72 := slot_of e72 | have ge72 := slot_un e72
        clear hO hD
        first | (refine wanted_ifG ?_ ?_; (· go_simp); refine wp_ld1 84 (.tmp 73) rfl ev73.out (hO.later (below_plus _ _ _)) rfl Try.underlying84 rfl ?_; exact hK.out _ _ (Ex.refl _) rfl) | (go_simp; exact hK.out _ _ (Ex.refl _) rfl) | (rcases ge72 with ge72 | ge72 <;> (go_simp; exact hK.out _ _ (Ex.refl _) rfl))
      apply Steps.one (MP.eq _) 19 rfl
      · intro o ho FA x hO hD K hK
        obtain rfl := Option.some.inj ho.symm
        clear ho
        have ev74 : FA.eval (.tmp 74) = _ := hD 17 74 (by kernel_rfl)
        have e74 := (eval_tmp FA 74).symm.trans ev74
        replace ev74 := Lib.hid ev74
        have ev72 : FA.eval (.tmp 72) = _ := hD 15 72 (by kernel_rfl)
        have e72 := (eval_tmp FA 72).symm.trans ev72
        replace ev72 := Lib.hid ev72
        first | have ge72 := slot_of e72 | have ge72 := slot_un e72
        clear hO hD
        have es := run_str bt Try.underlying9 (HXF.out.plus_ x.bs x.d)
        go_simp
        exact hK.out _ _ (Ex.refl _) rfl
      apply Steps.one (MP.eq _) 20 rfl
      · intro o ho FA x hO hD K hK
        obtain rfl := Option.some.inj ho.symm
        clear ho
        have e7 := hO 7 (by kernel_rfl)
        simp only [eval_tmp, List.getElem?_toArray, List.getElem?_cons_succ, List.getElem?_cons_zero, Option.getD_some] at e7
        have ev7 := Lib.hid ((eval_tmp FA 7).trans e7)
        have ev72 : FA.eval (.tmp 72) = _ := hD 15 72 (by kernel_rfl)
        have e72 := (eval_tmp FA 72).symm.trans ev72
        replace ev72 := Lib.hid ev72
        first | have ge72 := slot_of e72 | have ge72 := slot_un e72
        clear hO hD
        first | (go_simp; exact hK.out _ _ (Ex.refl _) rfl) | (rcases ge72 with ge72 | ge72 <;> (go_simp; exact hK.out _ _ (Ex.refl _) rfl))
      apply Steps.one (MP.eq _) 21 rfl
      · intro o ho FA x hO hD K hK
        obtain rfl := Option.some.inj ho.symm
        clear ho
        have e11 := hO 11 (by kernel_rfl)
        simp only [eval_tmp, List.getElem?_toArray, List.getElem?_cons_succ, List.getElem?_cons_zero, Option.getD_some] at e11
        have ev11 := Lib.hid ((eval_tmp FA 11).trans e11)
        have ev72 : FA.eval (.tmp 72) = _ := hD 15 72 (by kernel_rfl)
        have e72 := (eval_tmp FA 72).symm.trans ev72
        replace ev72 := Lib.hid ev72
        first | have ge72 := slot_of e72 | have ge72 := slot_un e72
        clear hO hD
        first | (go_simp; exact hK.out _ _ (Ex.refl _) rfl) | (rcases ge72 with ge72 | ge72 <;> (go_simp; exact hK.out _ _ (Ex.refl _) rfl))
      apply Steps.one (MP.eq _) 22 rfl
      · intro o ho FA x hO hD K hK
        obtain rfl := Option.some.inj ho.symm
        clear ho
        have ev76 : FA.eval (.tmp 76) = _ := hD 19 76 (by kernel_rfl)
        have e76 := (eval_tmp FA 76).symm.trans ev76
        replace ev76 := Lib.hid ev76
        have ev77 : FA.eval (.tmp 77) = _ := hD 20 77 (by kernel_rfl)
        have e77 := (eval_tmp FA 77).symm.trans ev77
        replace ev77 := Lib.hid ev77
        have ev72 : FA.eval (.tmp 72) = _ := hD 15 72 (by kernel_rfl)
        have e72 := (eval_tmp FA 72).symm.trans ev72
        replace ev72 := Lib.hid ev72
        first | have ge72 := slot_of e72 | have ge72 := slot_un e72
        clear hO hD
        first | (go_simp; exact hK.out _ _ (Ex.refl _) rfl) | (rcases ge72 with ge72 | ge72 <;> (go_simp; exact hK.out _ _ (Ex.refl _) rfl))
      apply Steps.one (MP.eq _) 23 rfl
      · intro o ho FA x hO hD K hK
        obtain rfl := Option.some.inj ho.symm
        clear ho
        have ev78 : FA.eval (.tmp 78) = _ := hD 21 78 (by kernel_rfl)
        have e78 := (eval_tmp FA 78).symm.trans ev78
        replace ev78 := Lib.hid ev78
        have ev72 : FA.eval (.tmp 72) = _ := hD 15 72 (by kernel_rfl)
        have e72 := (eval_tmp FA 72).symm.trans ev72
        replace ev72 := Lib.hid ev72
        first | have ge72 := slot_of e72 | have ge72 := slot_un e72
        clear hO hD
        first | (go_simp; exact hK.out _ _ (Ex.refl _) rfl) | (rcases ge72 with ge72 | ge72 <;> (go_simp; exact hK.out _ _ (Ex.refl _) rfl))
      apply Steps.one (MP.eq _) 24 rfl
      · intro o ho FA x hO hD K hK
        obtain rfl := Option.some.inj ho.symm
        clear ho
        have ev79 : FA.eval (.tmp 79) = _ := hD 22 79 (by kernel_rfl)
        have e79 := (eval_tmp FA 79).symm.trans ev79
        replace ev79 := Lib.hid ev79
        have ev72 : FA.eval (.tmp 72) = _ := hD 15 72 (by kernel_rfl)
        have e72 := (eval_tmp FA 72).symm.trans ev72
        replace ev72 := Lib.hid ev72
        first | have ge72 := slot_of e72 | have ge72 := slot_un e72
        clear hO hD
        have q9 := (HQ.out (plus W7 x.bs x.d) (below_plus _ _ _)).2
        go_simp
        exact hK.out _ _ (Ex.refl _) rfl
      apply Steps.one (MP.eq _) 25 rfl
      · intro o ho FA x hO hD K hK
        obtain rfl := Option.some.inj ho.symm
        clear ho
        have ev80 : FA.eval (.tmp 80) = _ := hD 23 80 (by kernel_rfl)
        have e80 := (eval_tmp FA 80).symm.trans ev80
        replace ev80 := Lib.hid ev80
        have ev72 : FA.eval (.tmp 72) = _ := hD 15 72 (by kernel_rfl)
        have e72 := (eval_tmp FA 72).symm.trans ev72
        replace ev72 := Lib.hid ev72
        first | have ge72 := slot_of e72 | have ge72 := slot_un e72
        clear hO hD
        have es := run_str bt Try.underlying9 (HXL.out.plus_ x.bs x.d)
        go_simp
        exact hK.out _ _ (Ex.refl _) rfl
      apply Steps.one (MP.eq _) 26 rfl
      · intro o ho FA x hO hD K hK
        obtain rfl := Option.some.inj ho.symm
        clear ho
        have ev75 : FA.eval (.tmp 75) = _ := hD 18 75 (by kernel_rfl)
        have e75 := (eval_tmp FA 75).symm.trans ev75
        replace ev75 := Lib.hid ev75
        have ev81 : FA.eval (.tmp 81) = _ := hD 24 81 (by kernel_rfl)
        have e81 := (eval_tmp FA 81).symm.trans ev81
        replace ev81 := Lib.hid ev81
        have ev72 : FA.eval (.tmp 72) = _ := hD 15 72 (by kernel_rfl)
        have e72 := (eval_tmp FA 72).symm.trans ev72
        replace ev72 := Lib.hid ev72
        first | have ge72 := slot_of e72 | have ge72 := slot_un e72
        clear hO hD
        first | (go_simp; exact hK.out _ _ (Ex.refl _) rfl) | (rcases ge72 with ge72 | ge72 <;> (go_simp; exact hK.out _ _ (Ex.refl _) rfl))
      apply Steps.one (MP.eq _) 27 rfl
      · intro o ho FA x hO hD K hK
        obtain rfl := Option.some.inj ho.symm
        clear ho
        have ev72 : FA.eval (.tmp 72) = _ := hD 15 72 (by kernel_rfl)
        have e72 := (eval_tmp FA 72).symm.trans ev72
        replace ev72 := Lib.hid ev72
        have ev82 : FA.eval (.tmp 82) = _ := hD 25 82 (by kernel_rfl)
        have e82 := (eval_tmp FA 82).symm.trans ev82
        replace ev82 := Lib.hid ev82
        have ev58 : FA.eval (.tmp 58) = _ := hD 1 58 (by kernel_rfl)
        have e58 := (eval_tmp FA 58).symm.trans ev58
        replace ev58 := Lib.hid ev58
        first | have ge58 := slot_of e58 | have ge58 := slot_un e58
        clear hO hD
        first | (go_simp; exact hK.out _ _ (Ex.refl _) rfl) | (rcases ge58 with ge58 | ge58 <;> (go_simp; exact hK.out _ _ (Ex.refl _) rfl))
      apply Steps.one (MP.eq _) 28 rfl
      · intro o ho FA x hO hD K hK
        obtain rfl := Option.some.inj ho.symm
        clear ho
        have ev58 : FA.eval (.tmp 58) = _ := hD 1 58 (by kernel_rfl)
        have e58 := (eval_tmp FA 58).symm.trans ev58
        replace ev58 := Lib.hid ev58
        have ev83 : FA.eval (.tmp 83) = _ := hD 26 83 (by kernel_rfl)
        have e83 := (eval_tmp FA 83).symm.trans ev83
        replace ev83 := Lib.hid ev83
        clear hO hD
        go_simp
        exact hK.out _ _ (Ex.refl _) rfl
      apply Steps.one (MP.eq _) 29 rfl
      · intro o ho FA x hO hD K hK
        obtain rfl := Option.some.inj ho.symm
        clear ho
        have ev84 : FA.eval (.tmp 84) = _ := hD 27 84 (by kernel_rfl)
        have e84 := (eval_tmp FA 84).symm.trans ev84
        replace ev84 := Lib.hid ev84
        clear hO hD
        go_simp
        exact hK.out _ _ (Ex.refl _) rfl
      apply Steps.one (MP.eq _) 30 rfl
      · intro o ho FA x hO hD K hK
        obtain rfl := Option.some.inj ho.symm
        clear ho
        have e10 := hO 10 (by kernel_rfl)
        simp only [eval_tmp, List.getElem?_toArray, List.getElem?_cons_succ, List.getElem?_cons_zero, Option.getD_some] at e10
        have ev10 := Lib.hid ((eval_tmp FA 10).trans e10)
        have ev85 : FA.eval (.tmp 85) = _ := hD 28 85 (by kernel_rfl)
        have e85 := (eval_tmp FA 85).symm.trans ev85
        replace ev85 := Lib.hid ev85
        first | have ge85 := slot_of e85 | have ge85 := slot_un e85
        clear hO hD
        first | (go_simp; exact hK.out _ _ (Ex.refl _) rfl) | (rcases ge85 with ge85 | ge85 <;> (go_simp; exact hK.out _ _ (Ex.refl _) rfl))
      apply Steps.one (MP.eq _) 31 rfl
      · intro o ho FA x hO hD K hK
        obtain rfl := Option.some.inj ho.symm
        clear ho
        have ev86 : FA.eval (.tmp 86) = _ := hD 29 86 (by kernel_rfl)
        have e86 := (eval_tmp FA 86).symm.trans ev86
        replace ev86 := Lib.hid ev86
        have ev85 : FA.eval (.tmp 85) = _ := hD 28 85 (by kernel_rfl)
        have e85 := (eval_tmp FA 85).symm.trans ev85
        replace ev85 := Lib.hid ev85
        first | have ge85 := slot_of e85 | have ge85 := slot_un e85
        clear hO hD
        first | (go_simp; exact hK.out _ _ (Ex.refl _) rfl) | (rcases ge85 with ge85 | ge85 <;> (go_simp; exact hK.out _ _ (Ex.refl _) rfl))
      apply Steps.one (MP.eq _) 32 rfl
      · intro o ho FA x hO hD K hK
        obtain rfl := Option.some.inj ho.symm
        clear ho
        have ev87 : FA.eval (.tmp 87) = _ := hD 30 87 (by kernel_rfl)
        have e87 := (eval_tmp FA 87).symm.trans ev87
        replace ev87 := Lib.hid ev87
        have ev85 : FA.eval (.tmp 85) = _ := hD 28 85 (by kernel_rfl)
        have e85 := (eval_tmp FA 85).symm.trans ev85
        replace ev85 := Lib.hid ev85
        first | have ge85 := slot_of e85 | have ge85 := slot_un e85
        clear hO hD
        first | (go_simp; exact hK.out _ _ (Ex.refl _) rfl) | (rcases ge85 with ge85 | ge85 <;> (go_simp; exact hK.out _ _ (Ex.refl _) rfl))
      apply Steps.one (MP.eq _) 33 rfl
      · intro o ho FA x hO hD K hK
        obtain rfl := Option.some.inj ho.symm
        clear ho
        have e9 := hO 9 (by kernel_rfl)
        simp only [eval_tmp, List.getElem?_toArray, List.getElem?_cons_succ, List.getElem?_cons_zero, Option.getD_some] at e9
        have ev9 := Lib.hid ((eval_tmp FA 9).trans e9)
        have ev88 : FA.eval (.tmp 88) = _ := hD 31 88 (by kernel_rfl)
        have e88 := (eval_tmp FA 88).symm.trans ev88
        replace ev88 := Lib.hid ev88
        first | have ge88 := slot_of e88 | have ge88 := slot_un e88
        clear hO hD
        first | (go_simp; exact hK.out _ _ (Ex.refl _) rfl) | (rcases ge88 with ge88 | ge88 <;> (go_simp; exact hK.out _ _ (Ex.refl _) rfl))
      apply Steps.one (MP.eq _) 34 rfl
      · intro o ho FA x hO hD K hK
        obtain rfl := Option.some.inj ho.symm
        clear ho
        have ev89 : FA.eval (.tmp 89) = _ := hD 32 89 (by kernel_rfl)
        have e89 := (eval_tmp FA 89).symm.trans ev89
        replace ev89 := Lib.hid ev89
        have ev88 : FA.eval (.tmp 88) = _ := hD 31 88 (by kernel_rfl)
        have e88 := (eval_tmp FA 88).symm.trans ev88
        replace ev88 := Lib.hid ev88
        first | have ge88 := slot_of e88 | have ge88 := slot_un e88
        clear hO hD
        first | (go_simp; exact hK.out _ _ (Ex.refl _) rfl) | (rcases ge88 with ge88 | ge88 <;> (go_simp; exact hK.out _ _ (Ex.refl _) rfl))
      apply Steps.one (MP.eq _) 35 rfl
      · intro o ho FA x hO hD K hK
        obtain rfl := Option.some.inj ho.symm
        clear ho
        have ev90 : FA.eval (.tmp 90) = _ := hD 33 90 (by kernel_rfl)
        have e90 := (eval_tmp FA 90).symm.trans ev90
        replace ev90 := Lib.hid ev90
        have ev88 : FA.eval (.tmp 88) = _ := hD 31 88 (by kernel_rfl)
        have e88 := (eval_tmp FA 88).symm.trans ev88
        replace ev88 := Lib.hid ev88
        first | have ge88 := slot_of e88 | have ge88 := slot_un e88
        clear hO hD
        first | (go_simp; exact hK.out _ _ (Ex.refl _) rfl) | (rcases ge88 with ge88 | ge88 <;> (go_simp; exact hK.out _ _ (Ex.refl _) rfl))
      apply Steps.one (MP.eq _) 36 rfl
      · intro o ho FA x hO hD K hK
        obtain rfl := Option.some.inj ho.symm
        clear ho
        have e8 := hO 8 (by kernel_rfl)
        simp only [eval_tmp, List.getElem?_toArray, List.getElem?_cons_succ, List.getElem?_cons_zero, Option.getD_some] at e8
        have ev8 := Lib.hid ((eval_tmp FA 8).trans e8)
        have ev91 : FA.eval (.tmp 91) = _ := hD 34 91 (by kernel_rfl)
        have e91 := (eval_tmp FA 91).symm.trans ev91
        replace ev91 := Lib.hid ev91
        first | have ge91 := slot_of e91 | have ge91 := slot_un e91
        clear hO hD
        first | (go_simp; exact hK.out _ _ (Ex.refl _) rfl) | (rcases ge91 with ge91 | ge91 <;> (go_simp; exact hK.out _ _ (Ex.refl _) rfl))
      apply Steps.one (MP.eq _) 37 rfl
      · intro o ho FA x hO hD K hK
        obtain rfl := Option.some.inj ho.symm
        clear ho
        have ev92 : FA.eval (.tmp 92) = _ := hD 35 92 (by kernel_rfl)
        have e92 := (eval_tmp FA 92).symm.trans ev92
        replace ev92 := Lib.hid ev92
        have ev91 : FA.eval (.tmp 91) = _ := hD 34 91 (by kernel_rfl)
        have e91 := (eval_tmp FA 91).symm.trans ev91
        replace ev91 := Lib.hid ev91
        first | have ge91 := slot_of e91 | have ge91 := slot_un e91
        clear hO hD
        first | (refine wanted_ifG ?_ ?_; (· go_simp); refine wp_ld1 5 (.tmp 92) rfl ev92.out (hO.later (below_plus _ _ _)) rfl Try.underlying5 rfl ?_; exact hK.out _ _ (Ex.refl _) rfl) | (go_simp; exact hK.out _ _ (Ex.refl _) rfl) | (rcases ge91 with ge91 | ge91 <;> (go_simp; exact hK.out _ _ (Ex.refl _) rfl))
      apply Steps.one (MP.eq _) 38 rfl
      · intro o ho FA x hO hD K hK
        obtain rfl := Option.some.inj ho.symm
        clear ho
        have ev93 : FA.eval (.tmp 93) = _ := hD 36 93 (by kernel_rfl)
        have e93 := (eval_tmp FA 93).symm.trans ev93
        replace ev93 := Lib.hid ev93
        have ev91 : FA.eval (.tmp 91) = _ := hD 34 91 (by kernel_rfl)
        have e91 := (eval_tmp FA 91).symm.trans ev91
        replace ev91 := Lib.hid ev91
        first | have ge91 := slot_of e91 | have ge91 := slot_un e91
        clear hO hD
        first | (go_simp; exact hK.out _ _ (Ex.refl _) rfl) | (rcases ge91 with ge91 | ge91 <;> (go_simp; exact hK.out _ _ (Ex.refl _) rfl))
      apply Steps.one (MP.eq _) 39 rfl
      · intro o ho FA x hO hD K hK
        obtain rfl := Option.some.inj ho.symm
        clear ho
        have ev91 : FA.eval (.tmp 91) = _ := hD 34 91 (by kernel_rfl)
        have e91 := (eval_tmp FA 91).symm.trans ev91
        replace ev91 := Lib.hid ev91
        have ev94 : FA.eval (.tmp 94) = _ := hD 37 94 (by kernel_rfl)
        have e94 := (eval_tmp FA 94).symm.trans ev94
        replace ev94 := Lib.hid ev94
        have ev88 : FA.eval (.tmp 88) = _ := hD 31 88 (by kernel_rfl)
        have e88 := (eval_tmp FA 88).symm.trans ev88
        replace ev88 := Lib.hid ev88
        first | have ge88 := slot_of e88 | have ge88 := slot_un e88
        clear hO hD
        first | (go_simp; exact hK.out _ _ (Ex.refl _) rfl) | (rcases ge88 with ge88 | ge88 <;> (go_simp; exact hK.out _ _ (Ex.refl _) rfl))
      apply Steps.one (MP.eq _) 40 rfl
      · intro o ho FA x hO hD K hK
        obtain rfl := Option.some.inj ho.symm
        clear ho
        have ev95 : FA.eval (.tmp 95) = _ := hD 38 95 (by kernel_rfl)
        have e95 := (eval_tmp FA 95).symm.trans ev95
        replace ev95 := Lib.hid ev95
        have ev88 : FA.eval (.tmp 88) = _ := hD 31 88 (by kernel_rfl)
        have e88 := (eval_tmp FA 88).symm.trans ev88
        replace ev88 := Lib.hid ev88
        first | have ge88 := slot_of e88 | have ge88 := slot_un e88
        clear hO hD
        first | (go_simp; exact hK.out _ _ (Ex.refl _) rfl) | (rcases ge88 with ge88 | ge88 <;> (go_simp; exact hK.out _ _ (Ex.refl _) rfl))
      apply Steps.one (MP.eq _) 41 rfl
      · intro o ho FA x hO hD K hK
        obtain rfl := Option.some.inj ho.symm
        clear ho
        have e8 := hO 8 (by kernel_rfl)
        simp only [eval_tmp, List.getElem?_toArray, List.getElem?_cons_succ, List.getElem?_cons_zero, Option.getD_some] at e8
        have ev8 := Lib.hid ((eval_tmp FA 8).trans e8)
        have ev96 : FA.eval (.tmp 96) = _ := hD 39 96 (by kernel_rfl)
        have e96 := (eval_tmp FA 96).symm.trans ev96
        replace ev96 := Lib.hid ev96
        first | have ge96 := slot_of e96 | have ge96 := slot_un e96
        clear hO hD
        first | (go_simp; exact hK.out _ _ (Ex.refl _) rfl) | (rcases ge96 with ge96 | ge96 <;> (go_simp; exact hK.out _ _ (Ex.refl _) rfl))
      apply Steps.one (MP.eq _) 42 rfl
      · intro o ho FA x hO hD K hK
        obtain rfl := Option.some.inj ho.symm
        clear ho
        have ev97 : FA.eval (.tmp 97) = _ := hD 40 97 (by kernel_rfl)
        have e97 := (eval_tmp FA 97).symm.trans ev97
        replace ev97 := Lib.hid ev97
        have ev96 : FA.eval (.tmp 96) = _ := hD 39 96 (by kernel_rfl)
        have e96 := (eval_tmp FA 96).symm.trans ev96
        replace ev96 := Lib.hid ev96
        first | have ge96 := slot_of e96 | have ge96 := slot_un e96
        clear hO hD
        first | (refine wanted_ifG ?_ ?_; (· go_simp); refine wp_ld1 84 (.tmp 97) rfl ev97.out (hO.later (below_plus _ _ _)) rfl Try.underlying84 rfl ?_; exact hK.out _ _ (Ex.refl _) rfl) | (go_simp; exact hK.out _ _ (Ex.refl _) rfl) | (rcases ge96 with ge96 | ge96 <;> (go_simp; exact hK.out _ _ (Ex.refl _) rfl))
      apply Steps.one (MP.eq _) 43 rfl
      · intro o ho FA x hO hD K hK
        obtain rfl := Option.some.inj ho.symm
        clear ho
        have ev98 : FA.eval (.tmp 98) = _ := hD 41 98 (by kernel_rfl)
        have e98 := (eval_tmp FA 98).symm.trans ev98
        replace ev98 := Lib.hid ev98
        have ev96 : FA.eval (.tmp 96) = _ := hD 39 96 (by kernel_rfl)
        have e96 := (eval_tmp FA 96).symm.trans ev96
        replace ev96 := Lib.hid ev96
        first | have ge96 := slot_of e96 | have ge96 := slot_un e96
        clear hO hD
        first | (go_simp; exact hK.out _ _ (Ex.refl _) rfl) | (rcases ge96 with ge96 | ge96 <;> (go_simp; exact hK.out _ _ (Ex.refl _) rfl))
      apply Steps.one (MP.eq _) 44 rfl
      · intro o ho FA x hO hD K hK
        obtain rfl := Option.some.inj ho.symm
        clear ho
        have ev99 : FA.eval (.tmp 99) = _ := hD 42 99 (by kernel_rfl)
        have e99 := (eval_tmp FA 99).symm.trans ev99
        replace ev99 := Lib.hid ev99
        have ev96 : FA.eval (.tmp 96) = _ := hD 39 96 (by kernel_rfl)
        have e96 := (eval_tmp FA 96).symm.trans ev96
        replace ev96 := Lib.hid ev96
        first | have ge96 := slot_of e96 | have ge96 := slot_un e96
        clear hO hD
        first | (go_simp; exact hK.out _ _ (Ex.refl _) rfl) | (rcases ge96 with ge96 | ge96 <;> (go_simp; exact hK.out _ _ (Ex.refl _) rfl))
      apply Steps.one (MP.eq _) 45 rfl
      · intro o ho FA x hO hD K hK
        obtain rfl := Option.some.inj ho.symm
        clear ho
        have ev96 : FA.eval (.tmp 96) = _ := hD 39 96 (by kernel_rfl)
        have e96 := (eval_tmp FA 96).symm.trans ev96
        replace ev96 := Lib.hid ev96
        have ev100 : FA.eval (.tmp 100) = _ := hD 43 100 (by kernel_rfl)
        have e100 := (eval_tmp FA 100).symm.trans ev100
        replace ev100 := Lib.hid ev100
        have ev88 : FA.eval (.tmp 88) = _ := hD 31 88 (by kernel_rfl)
        have e88 := (eval_tmp FA 88).symm.trans ev88
        replace ev88 := Lib.hid ev88
        first | have ge88 := slot_of e88 | have ge88 := slot_un e88
        clear hO hD
        first | (go_simp; exact hK.out _ _ (Ex.refl _) rfl) | (rcases ge88 with ge88 | ge88 <;> (go_simp; exact hK.out _ _ (Ex.refl _) rfl))
      apply Steps.one (MP.eq _) 46 rfl
      · intro o ho FA x hO hD K hK
        obtain rfl := Option.some.inj ho.symm
        clear ho
        have ev88 : FA.eval (.tmp 88) = _ := hD 31 88 (by kernel_rfl)
        have e88 := (eval_tmp FA 88).symm.trans ev88
        replace ev88 := Lib.hid ev88
        have ev101 : FA.eval (.tmp 101) = _ := hD 44 101 (by kernel_rfl)
        have e101 := (eval_tmp FA 101).symm.trans ev101
        replace ev101 := Lib.hid ev101
        have ev85 : FA.eval (.tmp 85) = _ := hD 28 85 (by kernel_rfl)
        have e85 := (eval_tmp FA 85).symm.trans ev85
        replace ev85 := Lib.hid ev85
        first | have ge85 := slot_of e85 | have ge85 := slot_un e85
        clear hO hD
        first | (go_simp; exact hK.out _ _ (Ex.refl _) rfl) | (rcases ge85 with ge85 | ge85 <;> (go_simp; exact hK.out _ _ (Ex.refl _) rfl))
      apply Steps.one (MP.eq _) 47 rfl
      · intro o ho FA x hO hD K hK
        obtain rfl := Option.some.inj ho.symm
        clear ho
        have ev85 : FA.eval (.tmp 85) = _ := hD 28 85 (by kernel_rfl)
        have e85 := (eval_tmp FA 85).symm.trans ev85
        replace ev85 := Lib.hid ev85
        have ev102 : FA.eval (.tmp 102) = _ := hD 45 102 (by kernel_rfl)
        have e102 := (eval_tmp FA 102).symm.trans ev102
        replace ev102 := Lib.hid ev102
        clear hO hD
        go_simp
        exact hK.out _ _ (Ex.refl _) rfl
      refine Steps.fin_ (fun vs x hp => ?_)
      have p0 : vs 0 = _ := hp 0 (by omega)
      have p1 : vs 1 = _ := hp 1 (by omega)
      have p2 : vs 2 = _ := hp 2 (by omega)
      have p3 : vs 3 = _ := hp 3 (by omega)
      have p4 : vs 4 = _ := hp 4 (by omega)
      have p5 : vs 5 = _ := hp 5 (by omega)
      have p6 : vs 6 = _ := hp 6 (by omega)
      have p7 : vs 7 = _ := hp 7 (by omega)
      have p8 : vs 8 = _ := hp 8 (by omega)
      have p9 : vs 9 = _ := hp 9 (by omega)
      have p10 : vs 10 = _ := hp 10 (by omega)
      have p11 : vs 11 = _ := hp 11 (by omega)
      have p12 : vs 12 = _ := hp 12 (by omega)
      have p13 : vs 13 = _ := hp 13 (by omega)
      have p14 : vs 14 = _ := hp 14 (by omega)
      have p15 : vs 15 = _ := hp 15 (by omega)
      have p16 : vs 16 = _ := hp 16 (by omega)
      have p17 : vs 17 = _ := hp 17 (by omega)
      have p18 : vs 18 = _ := hp 18 (by omega)
      have p19 : vs 19 = _ := hp 19 (by omega)
      have p20 : vs 20 = _ := hp 20 (by omega)
      have p21 : vs 21 = _ := hp 21 (by omega)
      have p22 : vs 22 = _ := hp 22 (by omega)
      have p23 : vs 23 = _ := hp 23 (by omega)
      have p24 : vs 24 = _ := hp 24 (by omega)
      have p25 : vs 25 = _ := hp 25 (by omega)
      have p26 : vs 26 = _ := hp 26 (by omega)
      have p27 : vs 27 = _ := hp 27 (by omega)
      have p28 : vs 28 = _ := hp 28 (by omega)
      have p29 : vs 29 = _ := hp 29 (by omega)
      have p30 : vs 30 = _ := hp 30 (by omega)
      have p31 : vs 31 = _ := hp 31 (by omega)
      have p32 : vs 32 = _ := hp 32 (by omega)
      have p33 : vs 33 = _ := hp 33 (by omega)
      have p34 : vs 34 = _ := hp 34 (by omega)
      have p35 : vs 35 = _ := hp 35 (by omega)
      have p36 : vs 36 = _ := hp 36 (by omega)
      have p37 : vs 37 = _ := hp 37 (by omega)
      have p38 : vs 38 = _ := hp 38 (by omega)
      have p39 : vs 39 = _ := hp 39 (by omega)
      have p40 : vs 40 = _ := hp 40 (by omega)
      have p41 : vs 41 = _ := hp 41 (by omega)
      have p42 : vs 42 = _ := hp 42 (by omega)
      have p43 : vs 43 = _ := hp 43 (by omega)
      have p44 : vs 44 = _ := hp 44 (by omega)
      have p45 : vs 45 = _ := hp 45 (by omega)
      have p46 : vs 46 = _ := hp 46 (by omega)
      clear hp
      simp only [List.take_succ_cons, List.take_zero, List.drop_succ_cons, List.drop_zero, putAll, Nat.zero_add, Nat.reduceAdd, Act.put, List.setIfInBounds_toArray, List.set_cons_zero, List.set_cons_succ, p0, p1, p2, p3, p4, p5, p6, p7, p8, p9, p10, p11, p12, p13, p14, p15, p16, p17, p18, p19, p20, p21, p22, p23, p24, p25, p26, p27, p28, p29, p30, p31, p32, p33, p34, p35, p36, p37, p38, p39, p40, p41, p42, p43, p44, p45, p46]
      clear p0 p1 p2 p3 p4 p5 p6 p7 p8 p9 p10 p11 p12 p13 p14 p15 p16 p17 p18 p19 p20 p21 p22 p23 p24 p25 p26 p27 p28 p29 p30 p31 p32 p33 p34 p35 p36 p37 p38 p39 p40 p41 p42 p43 p44 p45 p46
      clear vs
      clear HQ HXF HXL hO
      have be7 := below_plus W7 x.bs x.d
      replace be := belowP be x.bs x.d
      replace hr1 := hr1.later be7
      replace hl1 := hl1.later be7
      replace hd1 : ∀ z ∈ Lr, Rb (plus W7 x.bs x.d) z.A z.n z.c z.d := fun z hz => (hd1 z hz).later be7
      clear be7 hb7
      generalize plus W7 x.bs x.d = W8 at *
      go_upto_region 11 with (go_at_call 34; refine (acked_any A n c l W8 hr1 (by omega)).mono ?_; rintro e w1 ⟨A9, n9, c9, bs9, d9, rfl, rfl, h9⟩)
      have be8 := below_plus W8 bs9 d9
      replace be := belowP be bs9 d9
      replace hl1 := hl1.later be8
      replace hd1 : ∀ z ∈ Lr, Rb (plus W8 bs9 d9) z.A z.n z.c z.d := fun z hz => (hd1 z hz).later be8
      clear be8 hr1
      generalize plus W8 bs9 d9 = W9 at *
      go_upto_region 12 with (go_at_call 33; refine (refFind_at _ n1 c1 Lr W9 hl1 (by omega) 5 v5 HV5.out).mono ?_; rintro e w1 ⟨bs8, d8, rfl, rfl⟩)
      have be9 := below_plus W9 bs8 d8
      replace be := belowP be bs8 d8
      replace hl1 := hl1.later be9
      replace hd1 : ∀ z ∈ Lr, Rb (plus W9 bs8 d8) z.A z.n z.c z.d := fun z hz => (hd1 z hz).later be9
      replace h9 := h9.later be9
      clear be9 HV5
      generalize plus W9 bs8 d8 = W10 at *
      rcases HF5.out with ⟨rfl, h2⟩ | ⟨kk5, h0, rfl, h2, h3⟩
      · rw [h2] at h9
        have hn9 : n9 = 0 := by have := h9.1; simp [ackL] at this; omega
        subst hn9
        go_wp2_with (go_at_call 26; refine (awake44 _).mono ?_; rintro e w1 ⟨bs3, d3, rfl, rfl⟩)
        go_ret
        exact RetV.mk (belowP be _ _)
      · rw [h2] at h9
        have hk0 : kk5 < n1 := by have := HN1.out; omega
        have ik0 : (kk5 : Int) < (n1 : Int) := by omega
        have hrg5 : ∃ b5 o5, (some ⟨b, off, none⟩ : Option Addr) = some ⟨b5, o5, none⟩ ∧ ∀ W, Below W10.heap.size W10 W → W.cell? ⟨b5, o5 + kk5 * 3 + 2, none⟩ = some (.slice Lr[kk5].A Lr[kk5].n Lr[kk5].c) := by
          obtain ⟨b5, o5, e5, -, -⟩ := hl1.at_ (by omega) (by decide)
          refine ⟨b5, o5, e5, fun W h => ?_⟩
          have h7 := hl1.later h
          rw [e5] at h7
          exact h7.rangeE rxC_len kk5 h0 2 _ rfl
        obtain ⟨b5, o5, e5, hrg5⟩ := hrg5
        have hy5 := hd1 Lr[kk5] (List.getElem_mem h0)
        generalize Lr[kk5] = y at *
        obtain ⟨yi, yk, yA, yn, yc, d5⟩ := y
        have hyl : d5.length = yn := hy5.1
        have hyn : yn ≤ n := by
          have h7 : (yi, yk, d5) ∈ opts l := List.mem_of_find?_eq_some h2
          have := (HOK.out _ h7).1
          simp only [] at this
          have := hr.1
          omega
        have q5 := hrg5 W10 (Below.refl _ _)
        simp only [] at q5 hrg5 hy5
        obtain ⟨rfl, rfl⟩ : b = b5 ∧ off = o5 := by injection e5 with e5; injection e5 with e6 e7; exact ⟨e6, e7⟩
        by_cases h8 : yn % 8 = 0
        · have hm1 : ((Int.tmod (yn : Int) 8) != 0) = false := by rw [show Int.tmod (yn : Int) 8 = ((yn % 8 : Nat) : Int) from rfl, h8]; rfl
          have hm2 : Int.tmod (yn : Int) 8 = 0 := by rw [show Int.tmod (yn : Int) 8 = ((yn % 8 : Nat) : Int) from rfl, h8]; rfl
          have e2 : ackL (some (Ox.p ⟨yi, yk, yA, yn, yc, d5⟩)) = ackB d5 := by show (if d5.length % 8 = 0 then ackB d5 else []) = ackB d5; rw [hyl, if_pos h8]
          rw [e2] at h9
          have hlb : (ackB d5).length = yn / 8 := by unfold ackB; rw [List.length_map, List.length_range, hyl]
          have hn9 : n9 = yn / 8 := by have := h9.1; rw [flat_len bkC 2 bkC_len, hlb] at this; omega
          have hn9a : 8 * n9 ≤ yn := by omega
          have hn9b : yn ≤ 8 * n9 := by omega
          have HLB := Lib.hid hlb
          have HYL := Lib.hid hyl
          clear e2 hlb hyl hn9 h2 h3
          go_upto_region 15 with (fail)
          clear hm1 hm2 q5
          go_loopw [14] (fun i wr => ∃ j : Nat, j ≤ n9 ∧ i = .int .i64 (j : Int) ∧ Below W10.heap.size W10 wr) (fun i _ => n9 - (intOf i).toNat)
          case atStart => exact ⟨0, Nat.zero_le _, rfl, Below.refl _ _⟩
          case round =>
            obtain ⟨j, hj, rfl, hbe⟩ := hrel
            have q5 := hrg5 wr hbe
            have hb10 := hbe.size
            by_cases hlt : j < n9
            · have ij : (j : Int) < (n9 : Int) := by omega
              have jl : 8 * (j : Int) + 8 ≤ (yn : Int) := by omega
              have m8a : IntKind.i64.wrap (8 * (j : Int)) = 8 * (j : Int) := IntWalk.i64_in _ (by omega)
              have m8b : IntKind.i64.wrap (8 * (j : Int) + 8) = 8 * (j : Int) + 8 := IntWalk.i64_in _ (by omega)
              obtain ⟨xb, xo, rfl, hxb, -⟩ := h9.at_ (by omega) (by decide)
              have hjb : j < (ackB d5).length := by have := HLB.out; have := h9.1; rw [flat_len bkC 2 bkC_len] at this; omega
              have hgk : (ackB d5)[j] = (num ((d5.drop (8 * j)).take 4), num ((d5.drop (8 * j + 4)).take 4)) := by simp [ackB]
              have hrk := fun W (h : Below W10.heap.size W10 W) => (h9.later h).rangeE bkC_len j hjb
              rw [hgk] at hrk
              obtain ⟨a5, ha5⟩ : ∃ a, num ((d5.drop (8 * j)).take 4) = a := ⟨_, rfl⟩
              obtain ⟨b6, hb6⟩ : ∃ a, num ((d5.drop (8 * j + 4)).take 4) = a := ⟨_, rfl⟩
              have la5 : a5 < 4294967296 := by rw [← ha5]; exact num_lt' d5 _ 4 _ (by decide)
              have lb5 : b6 < 4294967296 := by rw [← hb6]; exact num_lt' d5 _ 4 _ (by decide)
              rw [ha5, hb6] at hrk
              have HA5 := Lib.hid ha5
              have HB5 := Lib.hid hb6
              have wa5 : IntKind.u64.wrap (a5 : Int) = (a5 : Int) := IntWalk.u64_in _ (by omega)
              have wb5 : IntKind.u64.wrap (b6 : Int) = (b6 : Int) := IntWalk.u64_in _ (by omega)
              have m8 : Hid (IntKind.i64.wrap (8 * (j : Int)) = ((8 * j : Nat) : Int)) := Lib.hid (by rw [m8a]; omega)
              have m84 : Hid (IntKind.i64.wrap (8 * (j : Int) + 4) = ((8 * j + 4 : Nat) : Int)) := Lib.hid (by rw [IntWalk.i64_in _ (by omega)]; omega)
              have HQ := Lib.hid (fun (W : World) (h : Below wr.heap.size wr W) => show W.cell? ⟨xb, xo + j * 2, none⟩ = some (.int .u32 (a5 : Int)) ∧ W.cell? ⟨xb, xo + j * 2 + 1, none⟩ = some (.int .u32 (b6 : Int)) ∧ W.cell? ⟨b, off + kk5 * 3 + 2, none⟩ = some (.slice yA yn yc) ∧ Rb W yA yn yc d5 from
                ⟨hrk W (hbe.trans (h.mono hb10)) 0 _ rfl, hrk W (hbe.trans (h.mono hb10)) 1 _ rfl, hrg5 W (hbe.trans (h.mono hb10)), hy5.later (hbe.trans (h.mono hb10))⟩)
              clear hrk ha5 hb6 hgk hjb
              go_upto_region 17 with (fail)
              clear m8a m8b
              go_wp2
              refine wp_relS 33 190 rfl (by kernel_rfl) (by kernel_rfl) ?_
              apply Steps.one (MP.eq _) 1 rfl
              · intro o ho FA x hO hD K hK
                obtain rfl := Option.some.inj ho.symm
                clear ho
                have e12 := hO 12 (by kernel_rfl)
                simp only [eval_tmp, List.getElem?_toArray, List.getElem?_cons_succ, List.getElem?_cons_zero, Option.getD_some] at e12
                have ev12 := Lib.hid ((eval_tmp FA 12).trans e12)
                clear hO hD
                go_simp
                exact hK.out _ _ (Ex.refl _) rfl
              apply Steps.one (MP.eq _) 2 rfl
              · intro o ho FA x hO hD K hK
                obtain rfl := Option.some.inj ho.symm
                clear ho
                have e14 := hO 14 (by kernel_rfl)
                simp only [eval_tmp, List.getElem?_toArray, List.getElem?_cons_succ, List.getElem?_cons_zero, Option.getD_some] at e14
                have ev14 := Lib.hid ((eval_tmp FA 14).trans e14)
                clear hO hD
                go_simp
                exact hK.out _ _ (Ex.refl _) rfl
              apply Steps.one (MP.eq _) 3 rfl
              · intro o ho FA x hO hD K hK
                obtain rfl := Option.some.inj ho.symm
                clear ho
                have ev144 : FA.eval (.tmp 144) = _ := hD 0 144 (by kernel_rfl)
                have e144 := (eval_tmp FA 144).symm.trans ev144
                replace ev144 := Lib.hid ev144
                have ev145 : FA.eval (.tmp 145) = _ := hD 1 145 (by kernel_rfl)
                have e145 := (eval_tmp FA 145).symm.trans ev145
                replace ev145 := Lib.hid ev145
                clear hO hD
                go_simp
                exact hK.out _ _ (Ex.refl _) rfl
              apply Steps.one (MP.eq _) 4 rfl
              · intro o ho FA x hO hD K hK
                obtain rfl := Option.some.inj ho.symm
                clear ho
                have ev146 : FA.eval (.tmp 146) = _ := hD 2 146 (by kernel_rfl)
                have e146 := (eval_tmp FA 146).symm.trans ev146
                replace ev146 := Lib.hid ev146
                clear hO hD
                go_simp
                exact hK.out _ _ (Ex.refl _) rfl
              apply Steps.one (MP.eq _) 5 rfl
              · intro o ho FA x hO hD K hK
                obtain rfl := Option.some.inj ho.symm
                clear ho
                have ev147 : FA.eval (.tmp 147) = _ := hD 3 147 (by kernel_rfl)
                have e147 := (eval_tmp FA 147).symm.trans ev147
                replace ev147 := Lib.hid ev147
                clear hO hD
                have q9 := (HQ.out (plus wr x.bs x.d) (below_plus _ _ _)).1
                go_simp
                exact hK.out _ _ (Ex.refl _) rfl
              apply Steps.one (MP.eq _) 6 rfl
              · intro o ho FA x hO hD K hK
                obtain rfl := Option.some.inj ho.symm
                clear ho
                have ev148 : FA.eval (.tmp 148) = _ := hD 4 148 (by kernel_rfl)
                have e148 := (eval_tmp FA 148).symm.trans ev148
                replace ev148 := Lib.hid ev148
                clear hO hD
                go_simp
                exact hK.out _ _ (Ex.refl _) rfl
              apply Steps.one (MP.eq _) 7 rfl
              · intro o ho FA x hO hD K hK
                obtain rfl := Option.some.inj ho.symm
                clear ho
                have e7 := hO 7 (by kernel_rfl)
                simp only [eval_tmp, List.getElem?_toArray, List.getElem?_cons_succ, List.getElem?_cons_zero, Option.getD_some] at e7
                have ev7 := Lib.hid ((eval_tmp FA 7).trans e7)
                clear hO hD
                go_simp
                exact hK.out _ _ (Ex.refl _) rfl
              apply Steps.one (MP.eq _) 8 rfl
              · intro o ho FA x hO hD K hK
                obtain rfl := Option.some.inj ho.symm
                clear ho
                have e13 := hO 13 (by kernel_rfl)
                simp only [eval_tmp, List.getElem?_toArray, List.getElem?_cons_succ, List.getElem?_cons_zero, Option.getD_some] at e13
                have ev13 := Lib.hid ((eval_tmp FA 13).trans e13)
                clear hO hD
                go_simp
                exact hK.out _ _ (Ex.refl _) rfl
              apply Steps.one (MP.eq _) 9 rfl
              · intro o ho FA x hO hD K hK
                obtain rfl := Option.some.inj ho.symm
                clear ho
                have ev150 : FA.eval (.tmp 150) = _ := hD 6 150 (by kernel_rfl)
                have e150 := (eval_tmp FA 150).symm.trans ev150
                replace ev150 := Lib.hid ev150
                have ev151 : FA.eval (.tmp 151) = _ := hD 7 151 (by kernel_rfl)
                have e151 := (eval_tmp FA 151).symm.trans ev151
                replace ev151 := Lib.hid ev151
                clear hO hD
                go_simp
                exact hK.out _ _ (Ex.refl _) rfl
              apply Steps.one (MP.eq _) 10 rfl
              · intro o ho FA x hO hD K hK
                obtain rfl := Option.some.inj ho.symm
                clear ho
                have ev152 : FA.eval (.tmp 152) = _ := hD 8 152 (by kernel_rfl)
                have e152 := (eval_tmp FA 152).symm.trans ev152
                replace ev152 := Lib.hid ev152
                clear hO hD
                go_simp
                exact hK.out _ _ (Ex.refl _) rfl
              apply Steps.one (MP.eq _) 11 rfl
              · intro o ho FA x hO hD K hK
                obtain rfl := Option.some.inj ho.symm
                clear ho
                have ev153 : FA.eval (.tmp 153) = _ := hD 9 153 (by kernel_rfl)
                have e153 := (eval_tmp FA 153).symm.trans ev153
                replace ev153 := Lib.hid ev153
                clear hO hD
                have q9 := (HQ.out (plus wr x.bs x.d) (below_plus _ _ _)).2.2.1
                go_simp
                exact hK.out _ _ (Ex.refl _) rfl
              apply Steps.one (MP.eq _) 12 rfl
              · intro o ho FA x hO hD K hK
                obtain rfl := Option.some.inj ho.symm
                clear ho
                have e14 := hO 14 (by kernel_rfl)
                simp only [eval_tmp, List.getElem?_toArray, List.getElem?_cons_succ, List.getElem?_cons_zero, Option.getD_some] at e14
                have ev14 := Lib.hid ((eval_tmp FA 14).trans e14)
                clear hO hD
                go_simp
                exact hK.out _ _ (Ex.refl _) rfl
              apply Steps.one (MP.eq (.int .i64 ((8 * j : Nat) : Int))) 13 rfl
              · intro o ho FA x hO hD K hK
                obtain rfl := Option.some.inj ho.symm
                clear ho
                have ev155 : FA.eval (.tmp 155) = _ := hD 11 155 (by kernel_rfl)
                have e155 := (eval_tmp FA 155).symm.trans ev155
                replace ev155 := Lib.hid ev155
                clear hO hD
                go_simp
                exact hK.out _ _ (Ex.refl _) (congrArg (Value.int .i64) m8.out)
              apply Steps.one (MP.eq (.int .u64 (a5 : Int))) 14 rfl
              · intro o ho FA x hO hD K hK
                obtain rfl := Option.some.inj ho.symm
                clear ho
                have ev154 : FA.eval (.tmp 154) = _ := hD 10 154 (by kernel_rfl)
                have e154 := (eval_tmp FA 154).symm.trans ev154
                replace ev154 := Lib.hid ev154
                have ev156 : FA.eval (.tmp 156) = _ := hD 12 156 (by kernel_rfl)
                have e156 := (eval_tmp FA 156).symm.trans ev156
                replace ev156 := Lib.hid ev156
                clear hO hD
                go_simp
                refine (refGet_any yA yn yc d5 (8 * j) 4 _ ((HQ.out (plus wr x.bs x.d) (below_plus _ _ _)).2.2.2) (by omega) (by omega) (by omega)).mono ?_
                rintro e w1 ⟨rfl, rfl⟩
                exact hK.out _ _ (Ex.refl _) (congrArg (fun z : Nat => Value.int .u64 (z : Int)) HA5.out)
              apply Steps.one (MP.eq _) 15 rfl
              · intro o ho FA x hO hD K hK
                obtain rfl := Option.some.inj ho.symm
                clear ho
                have ev149 : FA.eval (.tmp 149) = _ := hD 5 149 (by kernel_rfl)
                have e149 := (eval_tmp FA 149).symm.trans ev149
                replace ev149 := Lib.hid ev149
                have ev157 : FA.eval (.tmp 157) = _ := hD 13 157 (by kernel_rfl)
                have e157 := (eval_tmp FA 157).symm.trans ev157
                replace ev157 := Lib.hid ev157
                clear hO hD
                go_simp
                exact hK.out _ _ (Ex.refl _) rfl
              apply Steps.one (MP.eq _) 16 rfl
              · intro o ho FA x hO hD K hK
                obtain rfl := Option.some.inj ho.symm
                clear ho
                have ev158 : FA.eval (.tmp 158) = _ := hD 14 158 (by kernel_rfl)
                have e158 := (eval_tmp FA 158).symm.trans ev158
                replace ev158 := Lib.hid ev158
                clear hO hD
                go_simp
                exact hK.out _ _ (Ex.refl _) rfl
              apply Steps.one (MP.eq _) 17 rfl
              · intro o ho FA x hO hD K hK
                obtain rfl := Option.some.inj ho.symm
                clear ho
                have e12 := hO 12 (by kernel_rfl)
                simp only [eval_tmp, List.getElem?_toArray, List.getElem?_cons_succ, List.getElem?_cons_zero, Option.getD_some] at e12
                have ev12 := Lib.hid ((eval_tmp FA 12).trans e12)
                have ev159 : FA.eval (.tmp 159) = _ := hD 15 159 (by kernel_rfl)
                have e159 := (eval_tmp FA 159).symm.trans ev159
                replace ev159 := Lib.hid ev159
                first | have ge159 := slot_of e159 | have ge159 := slot_un e159
                clear hO hD
                first | (go_simp; exact hK.out _ _ (Ex.refl _) rfl) | (rcases ge159 with ge159 | ge159 <;> (go_simp; exact hK.out _ _ (Ex.refl _) rfl))
              apply Steps.one (MP.eq _) 18 rfl
              · intro o ho FA x hO hD K hK
                obtain rfl := Option.some.inj ho.symm
                clear ho
                have e14 := hO 14 (by kernel_rfl)
                simp only [eval_tmp, List.getElem?_toArray, List.getElem?_cons_succ, List.getElem?_cons_zero, Option.getD_some] at e14
                have ev14 := Lib.hid ((eval_tmp FA 14).trans e14)
                have ev159 : FA.eval (.tmp 159) = _ := hD 15 159 (by kernel_rfl)
                have e159 := (eval_tmp FA 159).symm.trans ev159
                replace ev159 := Lib.hid ev159
                first | have ge159 := slot_of e159 | have ge159 := slot_un e159
                clear hO hD
                first | (go_simp; exact hK.out _ _ (Ex.refl _) rfl) | (rcases ge159 with ge159 | ge159 <;> (go_simp; exact hK.out _ _ (Ex.refl _) rfl))
              apply Steps.one (MP.eq _) 19 rfl
              · intro o ho FA x hO hD K hK
                obtain rfl := Option.some.inj ho.symm
                clear ho
                have ev160 : FA.eval (.tmp 160) = _ := hD 16 160 (by kernel_rfl)
                have e160 := (eval_tmp FA 160).symm.trans ev160
                replace ev160 := Lib.hid ev160
                have ev161 : FA.eval (.tmp 161) = _ := hD 17 161 (by kernel_rfl)
                have e161 := (eval_tmp FA 161).symm.trans ev161
                replace ev161 := Lib.hid ev161
                have ev159 : FA.eval (.tmp 159) = _ := hD 15 159 (by kernel_rfl)
                have e159 := (eval_tmp FA 159).symm.trans ev159
                replace ev159 := Lib.hid ev159
                first | have ge159 := slot_of e159 | have ge159 := slot_un e159
                clear hO hD
                first | (go_simp; exact hK.out _ _ (Ex.refl _) rfl) | (rcases ge159 with ge159 | ge159 <;> (go_simp; exact hK.out _ _ (Ex.refl _) rfl))
              apply Steps.one (MP.eq _) 20 rfl
              · intro o ho FA x hO hD K hK
                obtain rfl := Option.some.inj ho.symm
                clear ho
                have ev162 : FA.eval (.tmp 162) = _ := hD 18 162 (by kernel_rfl)
                have e162 := (eval_tmp FA 162).symm.trans ev162
                replace ev162 := Lib.hid ev162
                have ev159 : FA.eval (.tmp 159) = _ := hD 15 159 (by kernel_rfl)
                have e159 := (eval_tmp FA 159).symm.trans ev159
                replace ev159 := Lib.hid ev159
                first | have ge159 := slot_of e159 | have ge159 := slot_un e159
                clear hO hD
                first | (go_simp; exact hK.out _ _ (Ex.refl _) rfl) | (rcases ge159 with ge159 | ge159 <;> (go_simp; exact hK.out _ _ (Ex.refl _) rfl))
              apply Steps.one (MP.eq _) 21 rfl
              · intro o ho FA x hO hD K hK
                obtain rfl := Option.some.inj ho.symm
                clear ho
                have ev163 : FA.eval (.tmp 163) = _ := hD 19 163 (by kernel_rfl)
                have e163 := (eval_tmp FA 163).symm.trans ev163
                replace ev163 := Lib.hid ev163
                have ev159 : FA.eval (.tmp 159) = _ := hD 15 159 (by kernel_rfl)
                have e159 := (eval_tmp FA 159).symm.trans ev159
                replace ev159 := Lib.hid ev159
                first | have ge159 := slot_of e159 | have ge159 := slot_un e159
                clear hO hD
                have q9 := (HQ.out (plus wr x.bs x.d) (below_plus _ _ _)).2.1
                go_simp
                exact hK.out _ _ (Ex.refl _) rfl
              apply Steps.one (MP.eq _) 22 rfl
              · intro o ho FA x hO hD K hK
                obtain rfl := Option.some.inj ho.symm
                clear ho
                have ev164 : FA.eval (.tmp 164) = _ := hD 20 164 (by kernel_rfl)
                have e164 := (eval_tmp FA 164).symm.trans ev164
                replace ev164 := Lib.hid ev164
                have ev159 : FA.eval (.tmp 159) = _ := hD 15 159 (by kernel_rfl)
                have e159 := (eval_tmp FA 159).symm.trans ev159
                replace ev159 := Lib.hid ev159
                first | have ge159 := slot_of e159 | have ge159 := slot_un e159
                clear hO hD
                first | (go_simp; exact hK.out _ _ (Ex.refl _) rfl) | (rcases ge159 with ge159 | ge159 <;> (go_simp; exact hK.out _ _ (Ex.refl _) rfl))
              apply Steps.one (MP.eq _) 23 rfl
              · intro o ho FA x hO hD K hK
                obtain rfl := Option.some.inj ho.symm
                clear ho
                have e7 := hO 7 (by kernel_rfl)
                simp only [eval_tmp, List.getElem?_toArray, List.getElem?_cons_succ, List.getElem?_cons_zero, Option.getD_some] at e7
                have ev7 := Lib.hid ((eval_tmp FA 7).trans e7)
                have ev159 : FA.eval (.tmp 159) = _ := hD 15 159 (by kernel_rfl)
                have e159 := (eval_tmp FA 159).symm.trans ev159
                replace ev159 := Lib.hid ev159
                first | have ge159 := slot_of e159 | have ge159 := slot_un e159
                clear hO hD
                first | (go_simp; exact hK.out _ _ (Ex.refl _) rfl) | (rcases ge159 with ge159 | ge159 <;> (go_simp; exact hK.out _ _ (Ex.refl _) rfl))
              apply Steps.one (MP.eq _) 24 rfl
              · intro o ho FA x hO hD K hK
                obtain rfl := Option.some.inj ho.symm
                clear ho
                have e13 := hO 13 (by kernel_rfl)
                simp only [eval_tmp, List.getElem?_toArray, List.getElem?_cons_succ, List.getElem?_cons_zero, Option.getD_some] at e13
                have ev13 := Lib.hid ((eval_tmp FA 13).trans e13)
                have ev159 : FA.eval (.tmp 159) = _ := hD 15 159 (by kernel_rfl)
                have e159 := (eval_tmp FA 159).symm.trans ev159
                replace ev159 := Lib.hid ev159
                first | have ge159 := slot_of e159 | have ge159 := slot_un e159
                clear hO hD
                first | (go_simp; exact hK.out _ _ (Ex.refl _) rfl) | (rcases ge159 with ge159 | ge159 <;> (go_simp; exact hK.out _ _ (Ex.refl _) rfl))
              apply Steps.one (MP.eq _) 25 rfl
              · intro o ho FA x hO hD K hK
                obtain rfl := Option.some.inj ho.symm
                clear ho
                have ev166 : FA.eval (.tmp 166) = _ := hD 22 166 (by kernel_rfl)
                have e166 := (eval_tmp FA 166).symm.trans ev166
                replace ev166 := Lib.hid ev166
                have ev167 : FA.eval (.tmp 167) = _ := hD 23 167 (by kernel_rfl)
                have e167 := (eval_tmp FA 167).symm.trans ev167
                replace ev167 := Lib.hid ev167
                have ev159 : FA.eval (.tmp 159) = _ := hD 15 159 (by kernel_rfl)
                have e159 := (eval_tmp FA 159).symm.trans ev159
                replace ev159 := Lib.hid ev159
                first | have ge159 := slot_of e159 | have ge159 := slot_un e159
                clear hO hD
                first | (go_simp; exact hK.out _ _ (Ex.refl _) rfl) | (rcases ge159 with ge159 | ge159 <;> (go_simp; exact hK.out _ _ (Ex.refl _) rfl))
              apply Steps.one (MP.eq _) 26 rfl
              · intro o ho FA x hO hD K hK
                obtain rfl := Option.some.inj ho.symm
                clear ho
                have ev168 : FA.eval (.tmp 168) = _ := hD 24 168 (by kernel_rfl)
                have e168 := (eval_tmp FA 168).symm.trans ev168
                replace ev168 := Lib.hid ev168
                have ev159 : FA.eval (.tmp 159) = _ := hD 15 159 (by kernel_rfl)
                have e159 := (eval_tmp FA 159).symm.trans ev159
                replace ev159 := Lib.hid ev159
                first | have ge159 := slot_of e159 | have ge159 := slot_un e159
                clear hO hD
                first | (go_simp; exact hK.out _ _ (Ex.refl _) rfl) | (rcases ge159 with ge159 | ge159 <;> (go_simp; exact hK.out _ _ (Ex.refl _) rfl))
              apply Steps.one (MP.eq _) 27 rfl
              · intro o ho FA x hO hD K hK
                obtain rfl := Option.some.inj ho.symm
                clear ho
                have ev169 : FA.eval (.tmp 169) = _ := hD 25 169 (by kernel_rfl)
                have e169 := (eval_tmp FA 169).symm.trans ev169
                replace ev169 := Lib.hid ev169
                have ev159 : FA.eval (.tmp 159) = _ := hD 15 159 (by kernel_rfl)
                have e159 := (eval_tmp FA 159).symm.trans ev159
                replace ev159 := Lib.hid ev159
                first | have ge159 := slot_of e159 | have ge159 := slot_un e159
                clear hO hD
                have q9 := (HQ.out (plus wr x.bs x.d) (below_plus _ _ _)).2.2.1
                go_simp
                exact hK.out _ _ (Ex.refl _) rfl
              apply Steps.one (MP.eq _) 28 rfl
              · intro o ho FA x hO hD K hK
                obtain rfl := Option.some.inj ho.symm
                clear ho
                have e14 := hO 14 (by kernel_rfl)
                simp only [eval_tmp, List.getElem?_toArray, List.getElem?_cons_succ, List.getElem?_cons_zero, Option.getD_some] at e14
                have ev14 := Lib.hid ((eval_tmp FA 14).trans e14)
                have ev159 : FA.eval (.tmp 159) = _ := hD 15 159 (by kernel_rfl)
                have e159 := (eval_tmp FA 159).symm.trans ev159
                replace ev159 := Lib.hid ev159
                first | have ge159 := slot_of e159 | have ge159 := slot_un e159
                clear hO hD
                first | (go_simp; exact hK.out _ _ (Ex.refl _) rfl) | (rcases ge159 with ge159 | ge159 <;> (go_simp; exact hK.out _ _ (Ex.refl _) rfl))
              apply Steps.one (MP.eq (.int .i64 ((8 * j : Nat) : Int))) 29 rfl
              · intro o ho FA x hO hD K hK
                obtain rfl := Option.some.inj ho.symm
                clear ho
                have ev171 : FA.eval (.tmp 171) = _ := hD 27 171 (by kernel_rfl)
                have e171 := (eval_tmp FA 171).symm.trans ev171
                replace ev171 := Lib.hid ev171
                have ev159 : FA.eval (.tmp 159) = _ := hD 15 159 (by kernel_rfl)
                have e159 := (eval_tmp FA 159).symm.trans ev159
                replace ev159 := Lib.hid ev159
                first | have ge159 := slot_of e159 | have ge159 := slot_un e159
                clear hO hD
                go_simp
                exact hK.out _ _ (Ex.refl _) (congrArg (Value.int .i64) m8.out)
              apply Steps.one (MP.eq (.int .i64 ((8 * j + 4 : Nat) : Int))) 30 rfl
              · intro o ho FA x hO hD K hK
                obtain rfl := Option.some.inj ho.symm
                clear ho
                have ev172 : FA.eval (.tmp 172) = _ := hD 28 172 (by kernel_rfl)
                have e172 := (eval_tmp FA 172).symm.trans ev172
                replace ev172 := Lib.hid ev172
                have ev159 : FA.eval (.tmp 159) = _ := hD 15 159 (by kernel_rfl)
                have e159 := (eval_tmp FA 159).symm.trans ev159
                replace ev159 := Lib.hid ev159
                first | have ge159 := slot_of e159 | have ge159 := slot_un e159
                clear hO hD
                go_simp
                exact hK.out _ _ (Ex.refl _) (congrArg (Value.int .i64) m84.out)
              apply Steps.one (MP.eq (.int .u64 (b6 : Int))) 31 rfl
              · intro o ho FA x hO hD K hK
                obtain rfl := Option.some.inj ho.symm
                clear ho
                have ev170 : FA.eval (.tmp 170) = _ := hD 26 170 (by kernel_rfl)
                have e170 := (eval_tmp FA 170).symm.trans ev170
                replace ev170 := Lib.hid ev170
                have ev173 : FA.eval (.tmp 173) = _ := hD 29 173 (by kernel_rfl)
                have e173 := (eval_tmp FA 173).symm.trans ev173
                replace ev173 := Lib.hid ev173
                have ev159 : FA.eval (.tmp 159) = _ := hD 15 159 (by kernel_rfl)
                have e159 := (eval_tmp FA 159).symm.trans ev159
                replace ev159 := Lib.hid ev159
                first | have ge159 := slot_of e159 | have ge159 := slot_un e159
                clear hO hD
                go_simp
                refine (refGet_any yA yn yc d5 (8 * j + 4) 4 _ ((HQ.out (plus wr x.bs x.d) (below_plus _ _ _)).2.2.2) (by omega) (by omega) (by omega)).mono ?_
                rintro e w1 ⟨rfl, rfl⟩
                exact hK.out _ _ (Ex.refl _) (congrArg (fun z : Nat => Value.int .u64 (z : Int)) HB5.out)
              apply Steps.one (MP.eq _) 32 rfl
              · intro o ho FA x hO hD K hK
                obtain rfl := Option.some.inj ho.symm
                clear ho
                have ev165 : FA.eval (.tmp 165) = _ := hD 21 165 (by kernel_rfl)
                have e165 := (eval_tmp FA 165).symm.trans ev165
                replace ev165 := Lib.hid ev165
                have ev174 : FA.eval (.tmp 174) = _ := hD 30 174 (by kernel_rfl)
                have e174 := (eval_tmp FA 174).symm.trans ev174
                replace ev174 := Lib.hid ev174
                have ev159 : FA.eval (.tmp 159) = _ := hD 15 159 (by kernel_rfl)
                have e159 := (eval_tmp FA 159).symm.trans ev159
                replace ev159 := Lib.hid ev159
                first | have ge159 := slot_of e159 | have ge159 := slot_un e159
                clear hO hD
                first | (go_simp; exact hK.out _ _ (Ex.refl _) rfl) | (rcases ge159 with ge159 | ge159 <;> (go_simp; exact hK.out _ _ (Ex.refl _) rfl))
              apply Steps.one (MP.eq _) 33 rfl
              · intro o ho FA x hO hD K hK
                obtain rfl := Option.some.inj ho.symm
                clear ho
                have ev159 : FA.eval (.tmp 159) = _ := hD 15 159 (by kernel_rfl)
                have e159 := (eval_tmp FA 159).symm.trans ev159
                replace ev159 := Lib.hid ev159
                have ev175 : FA.eval (.tmp 175) = _ := hD 31 175 (by kernel_rfl)
                have e175 := (eval_tmp FA 175).symm.trans ev175
                replace ev175 := Lib.hid ev175
                clear hO hD
                go_simp
                exact hK.out _ _ (Ex.refl _) rfl
              refine Steps.fin_ (fun vs x hp => ?_)
              have p0 : vs 0 = _ := hp 0 (by omega)
              have p1 : vs 1 = _ := hp 1 (by omega)
              have p2 : vs 2 = _ := hp 2 (by omega)
              have p3 : vs 3 = _ := hp 3 (by omega)
              have p4 : vs 4 = _ := hp 4 (by omega)
              have p5 : vs 5 = _ := hp 5 (by omega)
              have p6 : vs 6 = _ := hp 6 (by omega)
              have p7 : vs 7 = _ := hp 7 (by omega)
              have p8 : vs 8 = _ := hp 8 (by omega)
              have p9 : vs 9 = _ := hp 9 (by omega)
              have p10 : vs 10 = _ := hp 10 (by omega)
              have p11 : vs 11 = _ := hp 11 (by omega)
              have p12 : vs 12 = _ := hp 12 (by omega)
              have p13 : vs 13 = _ := hp 13 (by omega)
              have p14 : vs 14 = _ := hp 14 (by omega)
              have p15 : vs 15 = _ := hp 15 (by omega)
              have p16 : vs 16 = _ := hp 16 (by omega)
              have p17 : vs 17 = _ := hp 17 (by omega)
              have p18 : vs 18 = _ := hp 18 (by omega)
              have p19 : vs 19 = _ := hp 19 (by omega)
              have p20 : vs 20 = _ := hp 20 (by omega)
              have p21 : vs 21 = _ := hp 21 (by omega)
              have p22 : vs 22 = _ := hp 22 (by omega)
              have p23 : vs 23 = _ := hp 23 (by omega)
              have p24 : vs 24 = _ := hp 24 (by omega)
              have p25 : vs 25 = _ := hp 25 (by omega)
              have p26 : vs 26 = _ := hp 26 (by omega)
              have p27 : vs 27 = _ := hp 27 (by omega)
              have p28 : vs 28 = _ := hp 28 (by omega)
              have p29 : vs 29 = _ := hp 29 (by omega)
              have p30 : vs 30 = _ := hp 30 (by omega)
              have p31 : vs 31 = _ := hp 31 (by omega)
              have p32 : vs 32 = _ := hp 32 (by omega)
              clear hp
              simp only [List.take_succ_cons, List.take_zero, List.drop_succ_cons, List.drop_zero, putAll, Nat.zero_add, Nat.reduceAdd, Act.put, List.setIfInBounds_toArray, List.set_cons_zero, List.set_cons_succ, p0, p1, p2, p3, p4, p5, p6, p7, p8, p9, p10, p11, p12, p13, p14, p15, p16, p17, p18, p19, p20, p21, p22, p23, p24, p25, p26, p27, p28, p29, p30, p31, p32]
              clear p0 p1 p2 p3 p4 p5 p6 p7 p8 p9 p10 p11 p12 p13 p14 p15 p16 p17 p18 p19 p20 p21 p22 p23 p24 p25 p26 p27 p28 p29 p30 p31 p32
              clear vs
              go_wp2
              exact ⟨⟨j + 1, by omega, by go_num, hbe.trans ((below_plus _ _ _).mono hb10)⟩, by simp [intOf]; omega⟩
            · have ij : ¬ (j : Int) < (n9 : Int) := by omega
              have m9 : IntKind.i64.wrap (8 * (n9 : Int)) = 8 * (n9 : Int) := IntWalk.i64_in _ (by omega)
              have m10 : (8 * (n9 : Int) == (yn : Int)) = true := by simp; omega
              go_wp2_with (go_at_call 26; refine (awake44 _).mono ?_; rintro e w1 ⟨bs3, d3, rfl, rfl⟩)
              go_ret
              exact RetV.mk (belowP (be.trans (hbe.mono be.size)) _ _)
        · have hm3 : (((yn : Int) % 8) != 0) = true := by simp; omega
          have hm1 : ((Int.tmod (yn : Int) 8) != 0) = true := by rw [show Int.tmod (yn : Int) 8 = ((yn % 8 : Nat) : Int) from rfl]; simp; omega
          have hm2 : ¬ Int.tmod (yn : Int) 8 = 0 := by rw [show Int.tmod (yn : Int) 8 = ((yn % 8 : Nat) : Int) from rfl]; omega
          have e2 : ackL (some (Ox.p ⟨yi, yk, yA, yn, yc, d5⟩)) = [] := by show (if d5.length % 8 = 0 then ackB d5 else []) = []; rw [hyl, if_neg h8]
          rw [e2] at h9
          have hn9 : n9 = 0 := by have := h9.1; simp at this; omega
          subst hn9
          have HYL := Lib.hid hyl
          clear hyl h2 h3 e2
          go_wp2_with (go_at_call 26; refine (awake44 _).mono ?_; rintro e w1 ⟨bs3, d3, rfl, rfl⟩)
          go_ret
          exact RetV.mk (belowP be _ _)
  · rcases hfx with ⟨rfl, h2⟩ | ⟨kk, h0, h1, h2, h3⟩
    · clear h2 hf1
      go_upto_region 8 with (fail)
      go_wp2
      refine wp_relS 47 190 rfl (by kernel_rfl) (by kernel_rfl) ?_
      apply Steps.one (MP.eq _) 1 rfl
      · intro o ho FA x hO hD K hK
        obtain rfl := Option.some.inj ho.symm
        clear ho
        have e10 := hO 10 (by kernel_rfl)
        simp only [eval_tmp, List.getElem?_toArray, List.getElem?_cons_succ, List.getElem?_cons_zero, Option.getD_some] at e10
        have ev10 := Lib.hid ((eval_tmp FA 10).trans e10)
        clear hO hD
        go_simp
        exact hK.out _ _ (Ex.refl _) rfl
      apply Steps.one (MP.eq _) 2 rfl
      · intro o ho FA x hO hD K hK
        obtain rfl := Option.some.inj ho.symm
        clear ho
        have ev57 : FA.eval (.tmp 57) = _ := hD 0 57 (by kernel_rfl)
        have e57 := (eval_tmp FA 57).symm.trans ev57
        replace ev57 := Lib.hid ev57
        clear hO hD
        go_simp
        exact hK.out _ _ (Ex.refl _) rfl
      apply Steps.one (MP.eq _) 3 rfl
      · intro o ho FA x hO hD K hK
        obtain rfl := Option.some.inj ho.symm
        clear ho
        have e9 := hO 9 (by kernel_rfl)
        simp only [eval_tmp, List.getElem?_toArray, List.getElem?_cons_succ, List.getElem?_cons_zero, Option.getD_some] at e9
        have ev9 := Lib.hid ((eval_tmp FA 9).trans e9)
        have ev58 : FA.eval (.tmp 58) = _ := hD 1 58 (by kernel_rfl)
        have e58 := (eval_tmp FA 58).symm.trans ev58
        replace ev58 := Lib.hid ev58
        first | have ge58 := slot_of e58 | have ge58 := slot_un e58
        clear hO hD
        first | (go_simp; exact hK.out _ _ (Ex.refl _) rfl) | (rcases ge58 with ge58 | ge58 <;> (go_simp; exact hK.out _ _ (Ex.refl _) rfl))
      apply Steps.one (MP.eq _) 4 rfl
      · intro o ho FA x hO hD K hK
        obtain rfl := Option.some.inj ho.symm
        clear ho
        have e7 := hO 7 (by kernel_rfl)
        simp only [eval_tmp, List.getElem?_toArray, List.getElem?_cons_succ, List.getElem?_cons_zero, Option.getD_some] at e7
        have ev7 := Lib.hid ((eval_tmp FA 7).trans e7)
        have ev58 : FA.eval (.tmp 58) = _ := hD 1 58 (by kernel_rfl)
        have e58 := (eval_tmp FA 58).symm.trans ev58
        replace ev58 := Lib.hid ev58
        first | have ge58 := slot_of e58 | have ge58 := slot_un e58
        clear hO hD
        first | (go_simp; exact hK.out _ _ (Ex.refl _) rfl) | (rcases ge58 with ge58 | ge58 <;> (go_simp; exact hK.out _ _ (Ex.refl _) rfl))
      apply Steps.one (MP.eq _) 5 rfl
      · intro o ho FA x hO hD K hK
        obtain rfl := Option.some.inj ho.symm
        clear ho
        have e11 := hO 11 (by kernel_rfl)
        simp only [eval_tmp, List.getElem?_toArray, List.getElem?_cons_succ, List.getElem?_cons_zero, Option.getD_some] at e11
        have ev11 := Lib.hid ((eval_tmp FA 11).trans e11)
        have ev58 : FA.eval (.tmp 58) = _ := hD 1 58 (by kernel_rfl)
        have e58 := (eval_tmp FA 58).symm.trans ev58
        replace ev58 := Lib.hid ev58
        first | have ge58 := slot_of e58 | have ge58 := slot_un e58
        clear hO hD
        first | (go_simp; exact hK.out _ _ (Ex.refl _) rfl) | (rcases ge58 with ge58 | ge58 <;> (go_simp; exact hK.out _ _ (Ex.refl _) rfl))
      apply Steps.one (MP.eq _) 6 rfl
      · intro o ho FA x hO hD K hK
        obtain rfl := Option.some.inj ho.symm
        clear ho
        have ev60 : FA.eval (.tmp 60) = _ := hD 3 60 (by kernel_rfl)
        have e60 := (eval_tmp FA 60).symm.trans ev60
        replace ev60 := Lib.hid ev60
        have ev61 : FA.eval (.tmp 61) = _ := hD 4 61 (by kernel_rfl)
        have e61 := (eval_tmp FA 61).symm.trans ev61
        replace ev61 := Lib.hid ev61
        have ev58 : FA.eval (.tmp 58) = _ := hD 1 58 (by kernel_rfl)
        have e58 := (eval_tmp FA 58).symm.trans ev58
        replace ev58 := Lib.hid ev58
        first | have ge58 := slot_of e58 | have ge58 := slot_un e58
        clear hO hD
        first | (go_simp; exact hK.out _ _ (Ex.refl _) rfl) | (rcases ge58 with ge58 | ge58 <;> (go_simp; exact hK.out _ _ (Ex.refl _) rfl))
      apply Steps.one (MP.eq _) 7 rfl
      · intro o ho FA x hO hD K hK
        obtain rfl := Option.some.inj ho.symm
        clear ho
        have ev62 : FA.eval (.tmp 62) = _ := hD 5 62 (by kernel_rfl)
        have e62 := (eval_tmp FA 62).symm.trans ev62
        replace ev62 := Lib.hid ev62
        have ev58 : FA.eval (.tmp 58) = _ := hD 1 58 (by kernel_rfl)
        have e58 := (eval_tmp FA 58).symm.trans ev58
        replace ev58 := Lib.hid ev58
        first | have ge58 := slot_of e58 | have ge58 := slot_un e58
        clear hO hD
        first | (go_simp; exact hK.out _ _ (Ex.refl _) rfl) | (rcases ge58 with ge58 | ge58 <;> (go_simp; exact hK.out _ _ (Ex.refl _) rfl))
      apply Steps.one (MP.eq _) 8 rfl
      · intro o ho FA x hO hD K hK
        obtain rfl := Option.some.inj ho.symm
        clear ho
        have ev63 : FA.eval (.tmp 63) = _ := hD 6 63 (by kernel_rfl)
        have e63 := (eval_tmp FA 63).symm.trans ev63
        replace ev63 := Lib.hid ev63
        have ev58 : FA.eval (.tmp 58) = _ := hD 1 58 (by kernel_rfl)
        have e58 := (eval_tmp FA 58).symm.trans ev58
        replace ev58 := Lib.hid ev58
        first | have ge58 := slot_of e58 | have ge58 := slot_un e58
        clear hO hD
        first | (go_simp; exact hK.out _ _ (Ex.refl _) rfl) | (rcases ge58 with ge58 | ge58 <;> (go_simp; exact hK.out _ _ (Ex.refl _) rfl))
      apply Steps.one (MP.eq _) 9 rfl
      · intro o ho FA x hO hD K hK
        obtain rfl := Option.some.inj ho.symm
        clear ho
        have ev59 : FA.eval (.tmp 59) = _ := hD 2 59 (by kernel_rfl)
        have e59 := (eval_tmp FA 59).symm.trans ev59
        replace ev59 := Lib.hid ev59
        have ev64 : FA.eval (.tmp 64) = _ := hD 7 64 (by kernel_rfl)
        have e64 := (eval_tmp FA 64).symm.trans ev64
        replace ev64 := Lib.hid ev64
        have ev58 : FA.eval (.tmp 58) = _ := hD 1 58 (by kernel_rfl)
        have e58 := (eval_tmp FA 58).symm.trans ev58
        replace ev58 := Lib.hid ev58
        first | have ge58 := slot_of e58 | have ge58 := slot_un e58
        clear hO hD
        first | (go_simp; exact hK.out _ _ (Ex.refl _) rfl) | (rcases ge58 with ge58 | ge58 <;> (go_simp; exact hK.out _ _ (Ex.refl _) rfl))
      apply Steps.one (MP.eq _) 10 rfl
      · intro o ho FA x hO hD K hK
        obtain rfl := Option.some.inj ho.symm
        clear ho
        have ev65 : FA.eval (.tmp 65) = _ := hD 8 65 (by kernel_rfl)
        have e65 := (eval_tmp FA 65).symm.trans ev65
        replace ev65 := Lib.hid ev65
        have ev58 : FA.eval (.tmp 58) = _ := hD 1 58 (by kernel_rfl)
        have e58 := (eval_tmp FA 58).symm.trans ev58
        replace ev58 := Lib.hid ev58
        first | have ge58 := slot_of e58 | have ge58 := slot_un e58
        clear hO hD
        first | (go_simp; exact hK.out _ _ (Ex.refl _) rfl) | (rcases ge58 with ge58 | ge58 <;> (go_simp; exact hK.out _ _ (Ex.refl _) rfl))
      apply Steps.one (MP.eq _) 11 rfl
      · intro o ho FA x hO hD K hK
        obtain rfl := Option.some.inj ho.symm
        clear ho
        have e8 := hO 8 (by kernel_rfl)
        simp only [eval_tmp, List.getElem?_toArray, List.getElem?_cons_succ, List.getElem?_cons_zero, Option.getD_some] at e8
        have ev8 := Lib.hid ((eval_tmp FA 8).trans e8)
        have ev66 : FA.eval (.tmp 66) = _ := hD 9 66 (by kernel_rfl)
        have e66 := (eval_tmp FA 66).symm.trans ev66
        replace ev66 := Lib.hid ev66
        first | have ge66 := slot_of e66 | have ge66 := slot_un e66
        clear hO hD
        first | (go_simp; exact hK.out _ _ (Ex.refl _) rfl) | (rcases ge66 with ge66 | ge66 <;> (go_simp; exact hK.out _ _ (Ex.refl _) rfl))
      apply Steps.one (MP.eq _) 12 rfl
      · intro o ho FA x hO hD K hK
        obtain rfl := Option.some.inj ho.symm
        clear ho
        have ev67 : FA.eval (.tmp 67) = _ := hD 10 67 (by kernel_rfl)
        have e67 := (eval_tmp FA 67).symm.trans ev67
        replace ev67 := Lib.hid ev67
        have ev66 : FA.eval (.tmp 66) = _ := hD 9 66 (by kernel_rfl)
        have e66 := (eval_tmp FA 66).symm.trans ev66
        replace ev66 := Lib.hid ev66
        first | have ge66 := slot_of e66 | have ge66 := slot_un e66
        clear hO hD
        first | (refine wanted_ifG ?_ ?_; (· go_simp); refine wp_ld1 5 (.tmp 67) rfl ev67.out (hO.later (below_plus _ _ _)) rfl Try.underlying5 rfl ?_; exact hK.out _ _ (Ex.refl _) rfl) | (go_simp; exact hK.out _ _ (Ex.refl _) rfl) | (rcases ge66 with ge66 | ge66 <;> (go_simp; exact hK.out _ _ (Ex.refl _) rfl))
      apply Steps.one (MP.eq _) 13 rfl
      · intro o ho FA x hO hD K hK
        obtain rfl := Option.some.inj ho.symm
        clear ho
        have e1 := hO 1 (by kernel_rfl)
        simp only [eval_tmp, List.getElem?_toArray, List.getElem?_cons_succ, List.getElem?_cons_zero, Option.getD_some] at e1
        have ev1 := Lib.hid ((eval_tmp FA 1).trans e1)
        have ev66 : FA.eval (.tmp 66) = _ := hD 9 66 (by kernel_rfl)
        have e66 := (eval_tmp FA 66).symm.trans ev66
        replace ev66 := Lib.hid ev66
        first | have ge66 := slot_of e66 | have ge66 := slot_un e66
        clear hO hD
        first | (go_simp; exact hK.out _ _ (Ex.refl _) rfl) | (rcases ge66 with ge66 | ge66 <;> (go_simp; exact hK.out _ _ (Ex.refl _) rfl))
      apply Steps.one (MP.eq _) 14 rfl
      · intro o ho FA x hO hD K hK
        obtain rfl := Option.some.inj ho.symm
        clear ho
        have ev68 : FA.eval (.tmp 68) = _ := hD 11 68 (by kernel_rfl)
        have e68 := (eval_tmp FA 68).symm.trans ev68
        replace ev68 := Lib.hid ev68
        have ev69 : FA.eval (.tmp 69) = _ := hD 12 69 (by kernel_rfl)
        have e69 := (eval_tmp FA 69).symm.trans ev69
        replace ev69 := Lib.hid ev69
        have ev66 : FA.eval (.tmp 66) = _ := hD 9 66 (by kernel_rfl)
        have e66 := (eval_tmp FA 66).symm.trans ev66
        replace ev66 := Lib.hid ev66
        first | have ge66 := slot_of e66 | have ge66 := slot_un e66
        clear hO hD
        first | (go_simp; exact hK.out _ _ (Ex.refl _) rfl) | (rcases ge66 with ge66 | ge66 <;> (go_simp; exact hK.out _ _ (Ex.refl _) rfl))
      apply Steps.one (MP.eq _) 15 rfl
      · intro o ho FA x hO hD K hK
        obtain rfl := Option.some.inj ho.symm
        clear ho
        have ev66 : FA.eval (.tmp 66) = _ := hD 9 66 (by kernel_rfl)
        have e66 := (eval_tmp FA 66).symm.trans ev66
        replace ev66 := Lib.hid ev66
        have ev70 : FA.eval (.tmp 70) = _ := hD 13 70 (by kernel_rfl)
        have e70 := (eval_tmp FA 70).symm.trans ev70
        replace ev70 := Lib.hid ev70
        have ev58 : FA.eval (.tmp 58) = _ := hD 1 58 (by kernel_rfl)
        have e58 := (eval_tmp FA 58).symm.trans ev58
        replace ev58 := Lib.hid ev58
        first | have ge58 := slot_of e58 | have ge58 := slot_un e58
        clear hO hD
        first | (go_simp; exact hK.out _ _ (Ex.refl _) rfl) | (rcases ge58 with ge58 | ge58 <;> (go_simp; exact hK.out _ _ (Ex.refl _) rfl))
      apply Steps.one (MP.eq _) 16 rfl
      · intro o ho FA x hO hD K hK
        obtain rfl := Option.some.inj ho.symm
        clear ho
        have ev71 : FA.eval (.tmp 71) = _ := hD 14 71 (by kernel_rfl)
        have e71 := (eval_tmp FA 71).symm.trans ev71
        replace ev71 := Lib.hid ev71
        have ev58 : FA.eval (.tmp 58) = _ := hD 1 58 (by kernel_rfl)
        have e58 := (eval_tmp FA 58).symm.trans ev58
        replace ev58 := Lib.hid ev58
        first | have ge58 := slot_of e58 | have ge58 := slot_un e58
        clear hO hD
        first | (go_simp; exact hK.out _ _ (Ex.refl _) rfl) | (rcases ge58 with ge58 | ge58 <;> (go_simp; exact hK.out _ _ (Ex.refl _) rfl))
      apply Steps.one (MP.eq _) 17 rfl
      · intro o ho FA x hO hD K hK
        obtain rfl := Option.some.inj ho.symm
        clear ho
        have e8 := hO 8 (by kernel_rfl)
        simp only [eval_tmp, List.getElem?_toArray, List.getElem?_cons_succ, List.getElem?_cons_zero, Option.getD_some] at e8
        have ev8 := Lib.hid ((eval_tmp FA 8).trans e8)
        have ev72 : FA.eval (.tmp 72) = _ := hD 15 72 (by kernel_rfl)
        have e72 := (eval_tmp FA 72).symm.trans ev72
        replace ev72 := Lib.hid ev72
        first | have ge72 := slot_of e72 | have ge72 := slot_un e72
        clear hO hD
        first | (go_simp; exact hK.out _ _ (Ex.refl _) rfl) | (rcases ge72 with ge72 | ge72 <;> (go_simp; exact hK.out _ _ (Ex.refl _) rfl))
      apply Steps.one (MP.eq _) 18 rfl
      · intro o ho FA x hO hD K hK
        obtain rfl := Option.some.inj ho.symm
        clear ho
        have ev73 : FA.eval (.tmp 73) = _ := hD 16 73 (by kernel_rfl)
        have e73 := (eval_tmp FA 73).symm.trans ev73
        replace ev73 := Lib.hid ev73
        have ev72 : FA.eval (.tmp 72) = _ := hD 15 72 (by kernel_rfl)
        have e72 := (eval_tmp FA 72).symm.trans ev72
        replace ev72 := Lib.hid ev72
        first | have ge72 := slot_of e72 | have ge72 := slot_un e72
        clear hO hD
        first | (refine wanted_ifG ?_ ?_; (· go_simp); refine wp_ld1 84 (.tmp 73) rfl ev73.out (hO.later (below_plus _ _ _)) rfl Try.underlying84 rfl ?_; exact hK.out _ _ (Ex.refl _) rfl) | (go_simp; exact hK.out _ _ (Ex.refl _) rfl) | (rcases ge72 with ge72 | ge72 <;> (go_simp; exact hK.out _ _ (Ex.refl _) rfl))
      apply Steps.one (MP.eq _) 19 rfl
      · intro o ho FA x hO hD K hK
        obtain rfl := Option.some.inj ho.symm
        clear ho
        have ev74 : FA.eval (.tmp 74) = _ := hD 17 74 (by kernel_rfl)
        have e74 := (eval_tmp FA 74).symm.trans ev74
        replace ev74 := Lib.hid ev74
        have ev72 : FA.eval (.tmp 72) = _ := hD 15 72 (by kernel_rfl)
        have e72 := (eval_tmp FA 72).symm.trans ev72
        replace ev72 := Lib.hid ev72
        first | have ge72 := slot_of e72 | have ge72 := slot_un e72
        clear hO hD
        first | (go_simp; exact hK.out _ _ (Ex.refl _) rfl) | (rcases ge72 with ge72 | ge72 <;> (go_simp; exact hK.out _ _ (Ex.refl _) rfl))
      apply Steps.one (MP.eq _) 20 rfl
      · intro o ho FA x hO hD K hK
        obtain rfl := Option.some.inj ho.symm
        clear ho
        have e7 := hO 7 (by kernel_rfl)
        simp only [eval_tmp, List.getElem?_toArray, List.getElem?_cons_succ, List.getElem?_cons_zero, Option.getD_some] at e7
        have ev7 := Lib.hid ((eval_tmp FA 7).trans e7)
        have ev72 : FA.eval (.tmp 72) = _ := hD 15 72 (by kernel_rfl)
        have e72 := (eval_tmp FA 72).symm.trans ev72
        replace ev72 := Lib.hid ev72
        first | have ge72 := slot_of e72 | have ge72 := slot_un e72
        clear hO hD
        first | (go_simp; exact hK.out _ _ (Ex.refl _) rfl) | (rcases ge72 with ge72 | ge72 <;> (go_simp; exact hK.out _ _ (Ex.refl _) rfl))
      apply Steps.one (MP.eq _) 21 rfl
      · intro o ho FA x hO hD K hK
        obtain rfl := Option.some.inj ho.symm
        clear ho
        have e11 := hO 11 (by kernel_rfl)
        simp only [eval_tmp, List.getElem?_toArray, List.getElem?_cons_succ, List.getElem?_cons_zero, Option.getD_some] at e11
        have ev11 := Lib.hid ((eval_tmp FA 11).trans e11)
        have ev72 : FA.eval (.tmp 72) = _ := hD 15 72 (by kernel_rfl)
        have e72 := (eval_tmp FA 72).symm.trans ev72
        replace ev72 := Lib.hid ev72
        first | have ge72 := slot_of e72 | have ge72 := slot_un e72
        clear hO hD
        first | (go_simp; exact hK.out _ _ (Ex.refl _) rfl) | (rcases ge72 with ge72 | ge72 <;> (go_simp; exact hK.out _ _ (Ex.refl _) rfl))
      apply Steps.one (MP.eq _) 22 rfl
      · intro o ho FA x hO hD K hK
        obtain rfl := Option.some.inj ho.symm
        clear ho
        have ev76 : FA.eval (.tmp 76) = _ := hD 19 76 (by kernel_rfl)
        have e76 := (eval_tmp FA 76).symm.trans ev76
        replace ev76 := Lib.hid ev76
        have ev77 : FA.eval (.tmp 77) = _ := hD 20 77 (by kernel_rfl)
        have e77 := (eval_tmp FA 77).symm.trans ev77
        replace ev77 := Lib.hid ev77
        have ev72 : FA.eval (.tmp 72) = _ := hD 15 72 (by kernel_rfl)
        have e72 := (eval_tmp FA 72).symm.trans ev72
        replace ev72 := Lib.hid ev72
        first | have ge72 := slot_of e72 | have ge72 := slot_un e72
        clear hO hD
        first | (go_simp; exact hK.out _ _ (Ex.refl _) rfl) | (rcases ge72 with ge72 | ge72 <;> (go_simp; exact hK.out _ _ (Ex.refl _) rfl))
      apply Steps.one (MP.eq _) 23 rfl
      · intro o ho FA x hO hD K hK
        obtain rfl := Option.some.inj ho.symm
        clear ho
        have ev78 : FA.eval (.tmp 78) = _ := hD 21 78 (by kernel_rfl)
        have e78 := (eval_tmp FA 78).symm.trans ev78
        replace ev78 := Lib.hid ev78
        have ev72 : FA.eval (.tmp 72) = _ := hD 15 72 (by kernel_rfl)
        have e72 := (eval_tmp FA 72).symm.trans ev72
        replace ev72 := Lib.hid ev72
        first | have ge72 := slot_of e72 | have ge72 := slot_un e72
        clear hO hD
        first | (go_simp; exact hK.out _ _ (Ex.refl _) rfl) | (rcases ge72 with ge72 | ge72 <;> (go_simp; exact hK.out _ _ (Ex.refl _) rfl))
      apply Steps.one (MP.eq _) 24 rfl
      · intro o ho FA x hO hD K hK
        obtain rfl := Option.some.inj ho.symm
        clear ho
        have ev79 : FA.eval (.tmp 79) = _ := hD 22 79 (by kernel_rfl)
        have e79 := (eval_tmp FA 79).symm.trans ev79
        replace ev79 := Lib.hid ev79
        have ev72 : FA.eval (.tmp 72) = _ := hD 15 72 (by kernel_rfl)
        have e72 := (eval_tmp FA 72).symm.trans ev72
        replace ev72 := Lib.hid ev72
        first | have ge72 := slot_of e72 | have ge72 := slot_un e72
        clear hO hD
        first | (go_simp; exact hK.out _ _ (Ex.refl _) rfl) | (rcases ge72 with ge72 | ge72 <;> (go_simp; exact hK.out _ _ (Ex.refl _) rfl))
      apply Steps.one (MP.eq _) 25 rfl
      · intro o ho FA x hO hD K hK
        obtain rfl := Option.some.inj ho.symm
        clear ho
        have ev80 : FA.eval (.tmp 80) = _ := hD 23 80 (by kernel_rfl)
        have e80 := (eval_tmp FA 80).symm.trans ev80
        replace ev80 := Lib.hid ev80
        have ev72 : FA.eval (.tmp 72) = _ := hD 15 72 (by kernel_rfl)
        have e72 := (eval_tmp FA 72).symm.trans ev72
        replace ev72 := Lib.hid ev72
        first | have ge72 := slot_of e72 | have ge72 := slot_un e72
        clear hO hD
        first | (go_simp; exact hK.out _ _ (Ex.refl _) rfl) | (rcases ge72 with ge72 | ge72 <;> (go_simp; exact hK.out _ _ (Ex.refl _) rfl))
      apply Steps.one (MP.eq _) 26 rfl
      · intro o ho FA x hO hD K hK
        obtain rfl := Option.some.inj ho.symm
        clear ho
        have ev75 : FA.eval (.tmp 75) = _ := hD 18 75 (by kernel_rfl)
        have e75 := (eval_tmp FA 75).symm.trans ev75
        replace ev75 := Lib.hid ev75
        have ev81 : FA.eval (.tmp 81) = _ := hD 24 81 (by kernel_rfl)
        have e81 := (eval_tmp FA 81).symm.trans ev81
        replace ev81 := Lib.hid ev81
        have ev72 : FA.eval (.tmp 72) = _ := hD 15 72 (by kernel_rfl)
        have e72 := (eval_tmp FA 72).symm.trans ev72
        replace ev72 := Lib.hid ev72
        first | have ge72 := slot_of e72 | have ge72 := slot_un e72
        clear hO hD
        first | (go_simp; exact hK.out _ _ (Ex.refl _) rfl) | (rcases ge72 with ge72 | ge72 <;> (go_simp; exact hK.out _ _ (Ex.refl _) rfl))
      apply Steps.one (MP.eq _) 27 rfl
      · intro o ho FA x hO hD K hK
        obtain rfl := Option.some.inj ho.symm
        clear ho
        have ev72 : FA.eval (.tmp 72) = _ := hD 15 72 (by kernel_rfl)
        have e72 := (eval_tmp FA 72).symm.trans ev72
        replace ev72 := Lib.hid ev72
        have ev82 : FA.eval (.tmp 82) = _ := hD 25 82 (by kernel_rfl)
        have e82 := (eval_tmp FA 82).symm.trans ev82
        replace ev82 := Lib.hid ev82
        have ev58 : FA.eval (.tmp 58) = _ := hD 1 58 (by kernel_rfl)
        have e58 := (eval_tmp FA 58).symm.trans ev58
        replace ev58 := Lib.hid ev58
        first | have ge58 := slot_of e58 | have ge58 := slot_un e58
        clear hO hD
        first | (go_simp; exact hK.out _ _ (Ex.refl _) rfl) | (rcases ge58 with ge58 | ge58 <;> (go_simp; exact hK.out _ _ (Ex.refl _) rfl))
      apply Steps.one (MP.eq _) 28 rfl
      · intro o ho FA x hO hD K hK
        obtain rfl := Option.some.inj ho.symm
        clear ho
        have ev58 : FA.eval (.tmp 58) = _ := hD 1 58 (by kernel_rfl)
        have e58 := (eval_tmp FA 58).symm.trans ev58
        replace ev58 := Lib.hid ev58
        have ev83 : FA.eval (.tmp 83) = _ := hD 26 83 (by kernel_rfl)
        have e83 := (eval_tmp FA 83).symm.trans ev83
        replace ev83 := Lib.hid ev83
        clear hO hD
        go_simp
        exact hK.out _ _ (Ex.refl _) rfl
      apply Steps.one (MP.eq _) 29 rfl
      · intro o ho FA x hO hD K hK
        obtain rfl := Option.some.inj ho.symm
        clear ho
        have ev84 : FA.eval (.tmp 84) = _ := hD 27 84 (by kernel_rfl)
        have e84 := (eval_tmp FA 84).symm.trans ev84
        replace ev84 := Lib.hid ev84
        clear hO hD
        go_simp
        exact hK.out _ _ (Ex.refl _) rfl
      apply Steps.one (MP.eq _) 30 rfl
      · intro o ho FA x hO hD K hK
        obtain rfl := Option.some.inj ho.symm
        clear ho
        have e10 := hO 10 (by kernel_rfl)
        simp only [eval_tmp, List.getElem?_toArray, List.getElem?_cons_succ, List.getElem?_cons_zero, Option.getD_some] at e10
        have ev10 := Lib.hid ((eval_tmp FA 10).trans e10)
        have ev85 : FA.eval (.tmp 85) = _ := hD 28 85 (by kernel_rfl)
        have e85 := (eval_tmp FA 85).symm.trans ev85
        replace ev85 := Lib.hid ev85
        first | have ge85 := slot_of e85 | have ge85 := slot_un e85
        clear hO hD
        first | (go_simp; exact hK.out _ _ (Ex.refl _) rfl) | (rcases ge85 with ge85 | ge85 <;> (go_simp; exact hK.out _ _ (Ex.refl _) rfl))
      apply Steps.one (MP.eq _) 31 rfl
      · intro o ho FA x hO hD K hK
        obtain rfl := Option.some.inj ho.symm
        clear ho
        have ev86 : FA.eval (.tmp 86) = _ := hD 29 86 (by kernel_rfl)
        have e86 := (eval_tmp FA 86).symm.trans ev86
        replace ev86 := Lib.hid ev86
        have ev85 : FA.eval (.tmp 85) = _ := hD 28 85 (by kernel_rfl)
        have e85 := (eval_tmp FA 85).symm.trans ev85
        replace ev85 := Lib.hid ev85
        first | have ge85 := slot_of e85 | have ge85 := slot_un e85
        clear hO hD
        first | (go_simp; exact hK.out _ _ (Ex.refl _) rfl) | (rcases ge85 with ge85 | ge85 <;> (go_simp; exact hK.out _ _ (Ex.refl _) rfl))
      apply Steps.one (MP.eq _) 32 rfl
      · intro o ho FA x hO hD K hK
        obtain rfl := Option.some.inj ho.symm
        clear ho
        have ev87 : FA.eval (.tmp 87) = _ := hD 30 87 (by kernel_rfl)
        have e87 := (eval_tmp FA 87).symm.trans ev87
        replace ev87 := Lib.hid ev87
        have ev85 : FA.eval (.tmp 85) = _ := hD 28 85 (by kernel_rfl)
        have e85 := (eval_tmp FA 85).symm.trans ev85
        replace ev85 := Lib.hid ev85
        first | have ge85 := slot_of e85 | have ge85 := slot_un e85
        clear hO hD
        first | (go_simp; exact hK.out _ _ (Ex.refl _) rfl) | (rcases ge85 with ge85 | ge85 <;> (go_simp; exact hK.out _ _ (Ex.refl _) rfl))
      apply Steps.one (MP.eq _) 33 rfl
      · intro o ho FA x hO hD K hK
        obtain rfl := Option.some.inj ho.symm
        clear ho
        have e9 := hO 9 (by kernel_rfl)
        simp only [eval_tmp, List.getElem?_toArray, List.getElem?_cons_succ, List.getElem?_cons_zero, Option.getD_some] at e9
        have ev9 := Lib.hid ((eval_tmp FA 9).trans e9)
        have ev88 : FA.eval (.tmp 88) = _ := hD 31 88 (by kernel_rfl)
        have e88 := (eval_tmp FA 88).symm.trans ev88
        replace ev88 := Lib.hid ev88
        first | have ge88 := slot_of e88 | have ge88 := slot_un e88
        clear hO hD
        first | (go_simp; exact hK.out _ _ (Ex.refl _) rfl) | (rcases ge88 with ge88 | ge88 <;> (go_simp; exact hK.out _ _ (Ex.refl _) rfl))
      apply Steps.one (MP.eq _) 34 rfl
      · intro o ho FA x hO hD K hK
        obtain rfl := Option.some.inj ho.symm
        clear ho
        have ev89 : FA.eval (.tmp 89) = _ := hD 32 89 (by kernel_rfl)
        have e89 := (eval_tmp FA 89).symm.trans ev89
        replace ev89 := Lib.hid ev89
        have ev88 : FA.eval (.tmp 88) = _ := hD 31 88 (by kernel_rfl)
        have e88 := (eval_tmp FA 88).symm.trans ev88
        replace ev88 := Lib.hid ev88
        first | have ge88 := slot_of e88 | have ge88 := slot_un e88
        clear hO hD
        first | (go_simp; exact hK.out _ _ (Ex.refl _) rfl) | (rcases ge88 with ge88 | ge88 <;> (go_simp; exact hK.out _ _ (Ex.refl _) rfl))
      apply Steps.one (MP.eq _) 35 rfl
      · intro o ho FA x hO hD K hK
        obtain rfl := Option.some.inj ho.symm
        clear ho
        have ev90 : FA.eval (.tmp 90) = _ := hD 33 90 (by kernel_rfl)
        have e90 := (eval_tmp FA 90).symm.trans ev90
        replace ev90 := Lib.hid ev90
        have ev88 : FA.eval (.tmp 88) = _ := hD 31 88 (by kernel_rfl)
        have e88 := (eval_tmp FA 88).symm.trans ev88
        replace ev88 := Lib.hid ev88
        first | have ge88 := slot_of e88 | have ge88 := slot_un e88
        clear hO hD
        first | (go_simp; exact hK.out _ _ (Ex.refl _) rfl) | (rcases ge88 with ge88 | ge88 <;> (go_simp; exact hK.out _ _ (Ex.refl _) rfl))
      apply Steps.one (MP.eq _) 36 rfl
      · intro o ho FA x hO hD K hK
        obtain rfl := Option.some.inj ho.symm
        clear ho
        have e8 := hO 8 (by kernel_rfl)
        simp only [eval_tmp, List.getElem?_toArray, List.getElem?_cons_succ, List.getElem?_cons_zero, Option.getD_some] at e8
        have ev8 := Lib.hid ((eval_tmp FA 8).trans e8)
        have ev91 : FA.eval (.tmp 91) = _ := hD 34 91 (by kernel_rfl)
        have e91 := (eval_tmp FA 91).symm.trans ev91
        replace ev91 := Lib.hid ev91
        first | have ge91 := slot_of e91 | have ge91 := slot_un e91
        clear hO hD
        first | (go_simp; exact hK.out _ _ (Ex.refl _) rfl) | (rcases ge91 with ge91 | ge91 <;> (go_simp; exact hK.out _ _ (Ex.refl _) rfl))
      apply Steps.one (MP.eq _) 37 rfl
      · intro o ho FA x hO hD K hK
        obtain rfl := Option.some.inj ho.symm
        clear ho
        have ev92 : FA.eval (.tmp 92) = _ := hD 35 92 (by kernel_rfl)
        have e92 := (eval_tmp FA 92).symm.trans ev92
        replace ev92 := Lib.hid ev92
        have ev91 : FA.eval (.tmp 91) = _ := hD 34 91 (by kernel_rfl)
        have e91 := (eval_tmp FA 91).symm.trans ev91
        replace ev91 := Lib.hid ev91
        first | have ge91 := slot_of e91 | have ge91 := slot_un e91
        clear hO hD
        first | (refine wanted_ifG ?_ ?_; (· go_simp); refine wp_ld1 5 (.tmp 92) rfl ev92.out (hO.later (below_plus _ _ _)) rfl Try.underlying5 rfl ?_; exact hK.out _ _ (Ex.refl _) rfl) | (go_simp; exact hK.out _ _ (Ex.refl _) rfl) | (rcases ge91 with ge91 | ge91 <;> (go_simp; exact hK.out _ _ (Ex.refl _) rfl))
      apply Steps.one (MP.eq _) 38 rfl
      · intro o ho FA x hO hD K hK
        obtain rfl := Option.some.inj ho.symm
        clear ho
        have ev93 : FA.eval (.tmp 93) = _ := hD 36 93 (by kernel_rfl)
        have e93 := (eval_tmp FA 93).symm.trans ev93
        replace ev93 := Lib.hid ev93
        have ev91 : FA.eval (.tmp 91) = _ := hD 34 91 (by kernel_rfl)
        have e91 := (eval_tmp FA 91).symm.trans ev91
        replace ev91 := Lib.hid ev91
        first | have ge91 := slot_of e91 | have ge91 := slot_un e91
        clear hO hD
        first | (go_simp; exact hK.out _ _ (Ex.refl _) rfl) | (rcases ge91 with ge91 | ge91 <;> (go_simp; exact hK.out _ _ (Ex.refl _) rfl))
      apply Steps.one (MP.eq _) 39 rfl
      · intro o ho FA x hO hD K hK
        obtain rfl := Option.some.inj ho.symm
        clear ho
        have ev91 : FA.eval (.tmp 91) = _ := hD 34 91 (by kernel_rfl)
        have e91 := (eval_tmp FA 91).symm.trans ev91
        replace ev91 := Lib.hid ev91
        have ev94 : FA.eval (.tmp 94) = _ := hD 37 94 (by kernel_rfl)
        have e94 := (eval_tmp FA 94).symm.trans ev94
        replace ev94 := Lib.hid ev94
        have ev88 : FA.eval (.tmp 88) = _ := hD 31 88 (by kernel_rfl)
        have e88 := (eval_tmp FA 88).symm.trans ev88
        replace ev88 := Lib.hid ev88
        first | have ge88 := slot_of e88 | have ge88 := slot_un e88
        clear hO hD
        first | (go_simp; exact hK.out _ _ (Ex.refl _) rfl) | (rcases ge88 with ge88 | ge88 <;> (go_simp; exact hK.out _ _ (Ex.refl _) rfl))
      apply Steps.one (MP.eq _) 40 rfl
      · intro o ho FA x hO hD K hK
        obtain rfl := Option.some.inj ho.symm
        clear ho
        have ev95 : FA.eval (.tmp 95) = _ := hD 38 95 (by kernel_rfl)
        have e95 := (eval_tmp FA 95).symm.trans ev95
        replace ev95 := Lib.hid ev95
        have ev88 : FA.eval (.tmp 88) = _ := hD 31 88 (by kernel_rfl)
        have e88 := (eval_tmp FA 88).symm.trans ev88
        replace ev88 := Lib.hid ev88
        first | have ge88 := slot_of e88 | have ge88 := slot_un e88
        clear hO hD
        first | (go_simp; exact hK.out _ _ (Ex.refl _) rfl) | (rcases ge88 with ge88 | ge88 <;> (go_simp; exact hK.out _ _ (Ex.refl _) rfl))
      apply Steps.one (MP.eq _) 41 rfl
      · intro o ho FA x hO hD K hK
        obtain rfl := Option.some.inj ho.symm
        clear ho
        have e8 := hO 8 (by kernel_rfl)
        simp only [eval_tmp, List.getElem?_toArray, List.getElem?_cons_succ, List.getElem?_cons_zero, Option.getD_some] at e8
        have ev8 := Lib.hid ((eval_tmp FA 8).trans e8)
        have ev96 : FA.eval (.tmp 96) = _ := hD 39 96 (by kernel_rfl)
        have e96 := (eval_tmp FA 96).symm.trans ev96
        replace ev96 := Lib.hid ev96
        first | have ge96 := slot_of e96 | have ge96 := slot_un e96
        clear hO hD
        first | (go_simp; exact hK.out _ _ (Ex.refl _) rfl) | (rcases ge96 with ge96 | ge96 <;> (go_simp; exact hK.out _ _ (Ex.refl _) rfl))
      apply Steps.one (MP.eq _) 42 rfl
      · intro o ho FA x hO hD K hK
        obtain rfl := Option.some.inj ho.symm
        clear ho
        have ev97 : FA.eval (.tmp 97) = _ := hD 40 97 (by kernel_rfl)
        have e97 := (eval_tmp FA 97).symm.trans ev97
        replace ev97 := Lib.hid ev97
        have ev96 : FA.eval (.tmp 96) = _ := hD 39 96 (by kernel_rfl)
        have e96 := (eval_tmp FA 96).symm.trans ev96
        replace ev96 := Lib.hid ev96
        first | have ge96 := slot_of e96 | have ge96 := slot_un e96
        clear hO hD
        first | (refine wanted_ifG ?_ ?_; (· go_simp); refine wp_ld1 84 (.tmp 97) rfl ev97.out (hO.later (below_plus _ _ _)) rfl Try.underlying84 rfl ?_; exact hK.out _ _ (Ex.refl _) rfl) | (go_simp; exact hK.out _ _ (Ex.refl _) rfl) | (rcases ge96 with ge96 | ge96 <;> (go_simp; exact hK.out _ _ (Ex.refl _) rfl))
      apply Steps.one (MP.eq _) 43 rfl
      · intro o ho FA x hO hD K hK
        obtain rfl := Option.some.inj ho.symm
        clear ho
        have ev98 : FA.eval (.tmp 98) = _ := hD 41 98 (by kernel_rfl)
        have e98 := (eval_tmp FA 98).symm.trans ev98
        replace ev98 := Lib.hid ev98
        have ev96 : FA.eval (.tmp 96) = _ := hD 39 96 (by kernel_rfl)
        have e96 := (eval_tmp FA 96).symm.trans ev96
        replace ev96 := Lib.hid ev96
        first | have ge96 := slot_of e96 | have ge96 := slot_un e96
        clear hO hD
        first | (go_simp; exact hK.out _ _ (Ex.refl _) rfl) | (rcases ge96 with ge96 | ge96 <;> (go_simp; exact hK.out _ _ (Ex.refl _) rfl))
      apply Steps.one (MP.eq _) 44 rfl
      · intro o ho FA x hO hD K hK
        obtain rfl := Option.some.inj ho.symm
        clear ho
        have ev99 : FA.eval (.tmp 99) = _ := hD 42 99 (by kernel_rfl)
        have e99 := (eval_tmp FA 99).symm.trans ev99
        replace ev99 := Lib.hid ev99
        have ev96 : FA.eval (.tmp 96) = _ := hD 39 96 (by kernel_rfl)
        have e96 := (eval_tmp FA 96).symm.trans ev96
        replace ev96 := Lib.hid ev96
        first | have ge96 := slot_of e96 | have ge96 := slot_un e96
        clear hO hD
        first | (go_simp; exact hK.out _ _ (Ex.refl _) rfl) | (rcases ge96 with ge96 | ge96 <;> (go_simp; exact hK.out _ _ (Ex.refl _) rfl))
      apply Steps.one (MP.eq _) 45 rfl
      · intro o ho FA x hO hD K hK
        obtain rfl := Option.some.inj ho.symm
        clear ho
        have ev96 : FA.eval (.tmp 96) = _ := hD 39 96 (by kernel_rfl)
        have e96 := (eval_tmp FA 96).symm.trans ev96
        replace ev96 := Lib.hid ev96
        have ev100 : FA.eval (.tmp 100) = _ := hD 43 100 (by kernel_rfl)
        have e100 := (eval_tmp FA 100).symm.trans ev100
        replace ev100 := Lib.hid ev100
        have ev88 : FA.eval (.tmp 88) = _ := hD 31 88 (by kernel_rfl)
        have e88 := (eval_tmp FA 88).symm.trans ev88
        replace ev88 := Lib.hid ev88
        first | have ge88 := slot_of e88 | have ge88 := slot_un e88
        clear hO hD
        first | (go_simp; exact hK.out _ _ (Ex.refl _) rfl) | (rcases ge88 with ge88 | ge88 <;> (go_simp; exact hK.out _ _ (Ex.refl _) rfl))
      apply Steps.one (MP.eq _) 46 rfl
      · intro o ho FA x hO hD K hK
        obtain rfl := Option.some.inj ho.symm
        clear ho
        have ev88 : FA.eval (.tmp 88) = _ := hD 31 88 (by kernel_rfl)
        have e88 := (eval_tmp FA 88).symm.trans ev88
        replace ev88 := Lib.hid ev88
        have ev101 : FA.eval (.tmp 101) = _ := hD 44 101 (by kernel_rfl)
        have e101 := (eval_tmp FA 101).symm.trans ev101
        replace ev101 := Lib.hid ev101
        have ev85 : FA.eval (.tmp 85) = _ := hD 28 85 (by kernel_rfl)
        have e85 := (eval_tmp FA 85).symm.trans ev85
        replace ev85 := Lib.hid ev85
        first | have ge85 := slot_of e85 | have ge85 := slot_un e85
        clear hO hD
        first | (go_simp; exact hK.out _ _ (Ex.refl _) rfl) | (rcases ge85 with ge85 | ge85 <;> (go_simp; exact hK.out _ _ (Ex.refl _) rfl))
      apply Steps.one (MP.eq _) 47 rfl
      · intro o ho FA x hO hD K hK
        obtain rfl := Option.some.inj ho.symm
        clear ho
        have ev85 : FA.eval (.tmp 85) = _ := hD 28 85 (by kernel_rfl)
        have e85 := (eval_tmp FA 85).symm.trans ev85
        replace ev85 := Lib.hid ev85
        have ev102 : FA.eval (.tmp 102) = _ := hD 45 102 (by kernel_rfl)
        have e102 := (eval_tmp FA 102).symm.trans ev102
        replace ev102 := Lib.hid ev102
        clear hO hD
        go_simp
        exact hK.out _ _ (Ex.refl _) rfl
      refine Steps.fin_ (fun vs x hp => ?_)
      have p0 : vs 0 = _ := hp 0 (by omega)
      have p1 : vs 1 = _ := hp 1 (by omega)
      have p2 : vs 2 = _ := hp 2 (by omega)
      have p3 : vs 3 = _ := hp 3 (by omega)
      have p4 : vs 4 = _ := hp 4 (by omega)
      have p5 : vs 5 = _ := hp 5 (by omega)
      have p6 : vs 6 = _ := hp 6 (by omega)
      have p7 : vs 7 = _ := hp 7 (by omega)
      have p8 : vs 8 = _ := hp 8 (by omega)
      have p9 : vs 9 = _ := hp 9 (by omega)
      have p10 : vs 10 = _ := hp 10 (by omega)
      have p11 : vs 11 = _ := hp 11 (by omega)
      have p12 : vs 12 = _ := hp 12 (by omega)
      have p13 : vs 13 = _ := hp 13 (by omega)
      have p14 : vs 14 = _ := hp 14 (by omega)
      have p15 : vs 15 = _ := hp 15 (by omega)
      have p16 : vs 16 = _ := hp 16 (by omega)
      have p17 : vs 17 = _ := hp 17 (by omega)
      have p18 : vs 18 = _ := hp 18 (by omega)
      have p19 : vs 19 = _ := hp 19 (by omega)
      have p20 : vs 20 = _ := hp 20 (by omega)
      have p21 : vs 21 = _ := hp 21 (by omega)
      have p22 : vs 22 = _ := hp 22 (by omega)
      have p23 : vs 23 = _ := hp 23 (by omega)
      have p24 : vs 24 = _ := hp 24 (by omega)
      have p25 : vs 25 = _ := hp 25 (by omega)
      have p26 : vs 26 = _ := hp 26 (by omega)
      have p27 : vs 27 = _ := hp 27 (by omega)
      have p28 : vs 28 = _ := hp 28 (by omega)
      have p29 : vs 29 = _ := hp 29 (by omega)
      have p30 : vs 30 = _ := hp 30 (by omega)
      have p31 : vs 31 = _ := hp 31 (by omega)
      have p32 : vs 32 = _ := hp 32 (by omega)
      have p33 : vs 33 = _ := hp 33 (by omega)
      have p34 : vs 34 = _ := hp 34 (by omega)
      have p35 : vs 35 = _ := hp 35 (by omega)
      have p36 : vs 36 = _ := hp 36 (by omega)
      have p37 : vs 37 = _ := hp 37 (by omega)
      have p38 : vs 38 = _ := hp 38 (by omega)
      have p39 : vs 39 = _ := hp 39 (by omega)
      have p40 : vs 40 = _ := hp 40 (by omega)
      have p41 : vs 41 = _ := hp 41 (by omega)
      have p42 : vs 42 = _ := hp 42 (by omega)
      have p43 : vs 43 = _ := hp 43 (by omega)
      have p44 : vs 44 = _ := hp 44 (by omega)
      have p45 : vs 45 = _ := hp 45 (by omega)
      have p46 : vs 46 = _ := hp 46 (by omega)
      clear hp
      simp only [List.take_succ_cons, List.take_zero, List.drop_succ_cons, List.drop_zero, putAll, Nat.zero_add, Nat.reduceAdd, Act.put, List.setIfInBounds_toArray, List.set_cons_zero, List.set_cons_succ, p0, p1, p2, p3, p4, p5, p6, p7, p8, p9, p10, p11, p12, p13, p14, p15, p16, p17, p18, p19, p20, p21, p22, p23, p24, p25, p26, p27, p28, p29, p30, p31, p32, p33, p34, p35, p36, p37, p38, p39, p40, p41, p42, p43, p44, p45, p46]
      clear p0 p1 p2 p3 p4 p5 p6 p7 p8 p9 p10 p11 p12 p13 p14 p15 p16 p17 p18 p19 p20 p21 p22 p23 p24 p25 p26 p27 p28 p29 p30 p31 p32 p33 p34 p35 p36 p37 p38 p39 p40 p41 p42 p43 p44 p45 p46
      clear vs
      clear hO
      have be7 := below_plus W7 x.bs x.d
      replace be := belowP be x.bs x.d
      replace hr1 := hr1.later be7
      replace hl1 := hl1.later be7
      replace hd1 : ∀ z ∈ Lr, Rb (plus W7 x.bs x.d) z.A z.n z.c z.d := fun z hz => (hd1 z hz).later be7
      clear be7 hb7
      generalize plus W7 x.bs x.d = W8 at *
      go_upto_region 11 with (go_at_call 34; refine (acked_any A n c l W8 hr1 (by omega)).mono ?_; rintro e w1 ⟨A9, n9, c9, bs9, d9, rfl, rfl, h9⟩)
      have be8 := below_plus W8 bs9 d9
      replace be := belowP be bs9 d9
      replace hl1 := hl1.later be8
      replace hd1 : ∀ z ∈ Lr, Rb (plus W8 bs9 d9) z.A z.n z.c z.d := fun z hz => (hd1 z hz).later be8
      clear be8 hr1
      generalize plus W8 bs9 d9 = W9 at *
      go_upto_region 12 with (go_at_call 33; refine (refFind_at _ n1 c1 Lr W9 hl1 (by omega) 5 v5 HV5.out).mono ?_; rintro e w1 ⟨bs8, d8, rfl, rfl⟩)
      have be9 := below_plus W9 bs8 d8
      replace be := belowP be bs8 d8
      replace hl1 := hl1.later be9
      replace hd1 : ∀ z ∈ Lr, Rb (plus W9 bs8 d8) z.A z.n z.c z.d := fun z hz => (hd1 z hz).later be9
      replace h9 := h9.later be9
      clear be9 HV5
      generalize plus W9 bs8 d8 = W10 at *
      rcases HF5.out with ⟨rfl, h2⟩ | ⟨kk5, h0, rfl, h2, h3⟩
      · rw [h2] at h9
        have hn9 : n9 = 0 := by have := h9.1; simp [ackL] at this; omega
        subst hn9
        go_wp2_with (go_at_call 26; refine (awake44 _).mono ?_; rintro e w1 ⟨bs3, d3, rfl, rfl⟩)
        go_ret
        exact RetV.mk (belowP be _ _)
      · rw [h2] at h9
        have hk0 : kk5 < n1 := by have := HN1.out; omega
        have ik0 : (kk5 : Int) < (n1 : Int) := by omega
        have hrg5 : ∃ b5 o5, A1 = some ⟨b5, o5, none⟩ ∧ ∀ W, Below W10.heap.size W10 W → W.cell? ⟨b5, o5 + kk5 * 3 + 2, none⟩ = some (.slice Lr[kk5].A Lr[kk5].n Lr[kk5].c) := by
          obtain ⟨b5, o5, e5, -, -⟩ := hl1.at_ (by omega) (by decide)
          refine ⟨b5, o5, e5, fun W h => ?_⟩
          have h7 := hl1.later h
          rw [e5] at h7
          exact h7.rangeE rxC_len kk5 h0 2 _ rfl
        obtain ⟨b5, o5, e5, hrg5⟩ := hrg5
        have hy5 := hd1 Lr[kk5] (List.getElem_mem h0)
        generalize Lr[kk5] = y at *
        obtain ⟨yi, yk, yA, yn, yc, d5⟩ := y
        have hyl : d5.length = yn := hy5.1
        have hyn : yn ≤ n := by
          have h7 : (yi, yk, d5) ∈ opts l := List.mem_of_find?_eq_some h2
          have := (HOK.out _ h7).1
          simp only [] at this
          have := hr.1
          omega
        have q5 := hrg5 W10 (Below.refl _ _)
        simp only [] at q5 hrg5 hy5
        subst e5
        by_cases h8 : yn % 8 = 0
        · have hm1 : ((Int.tmod (yn : Int) 8) != 0) = false := by rw [show Int.tmod (yn : Int) 8 = ((yn % 8 : Nat) : Int) from rfl, h8]; rfl
          have hm2 : Int.tmod (yn : Int) 8 = 0 := by rw [show Int.tmod (yn : Int) 8 = ((yn % 8 : Nat) : Int) from rfl, h8]; rfl
          have e2 : ackL (some (Ox.p ⟨yi, yk, yA, yn, yc, d5⟩)) = ackB d5 := by show (if d5.length % 8 = 0 then ackB d5 else []) = ackB d5; rw [hyl, if_pos h8]
          rw [e2] at h9
          have hlb : (ackB d5).length = yn / 8 := by unfold ackB; rw [List.length_map, List.length_range, hyl]
          have hn9 : n9 = yn / 8 := by have := h9.1; rw [flat_len bkC 2 bkC_len, hlb] at this; omega
          have hn9a : 8 * n9 ≤ yn := by omega
          have hn9b : yn ≤ 8 * n9 := by omega
          have HLB := Lib.hid hlb
          have HYL := Lib.hid hyl
          clear e2 hlb hyl hn9 h2 h3
          go_upto_region 15 with (fail)
          clear hm1 hm2 q5
          go_loopw [14] (fun i wr => ∃ j : Nat, j ≤ n9 ∧ i = .int .i64 (j : Int) ∧ Below W10.heap.size W10 wr) (fun i _ => n9 - (intOf i).toNat)
          case atStart => exact ⟨0, Nat.zero_le _, rfl, Below.refl _ _⟩
          case round =>
            obtain ⟨j, hj, rfl, hbe⟩ := hrel
            have q5 := hrg5 wr hbe
            have hb10 := hbe.size
            by_cases hlt : j < n9
            · have ij : (j : Int) < (n9 : Int) := by omega
              have jl : 8 * (j : Int) + 8 ≤ (yn : Int) := by omega
              have m8a : IntKind.i64.wrap (8 * (j : Int)) = 8 * (j : Int) := IntWalk.i64_in _ (by omega)
              have m8b : IntKind.i64.wrap (8 * (j : Int) + 8) = 8 * (j : Int) + 8 := IntWalk.i64_in _ (by omega)
              obtain ⟨xb, xo, rfl, hxb, -⟩ := h9.at_ (by omega) (by decide)
              have hjb : j < (ackB d5).length := by have := HLB.out; have := h9.1; rw [flat_len bkC 2 bkC_len] at this; omega
              have hgk : (ackB d5)[j] = (num ((d5.drop (8 * j)).take 4), num ((d5.drop (8 * j + 4)).take 4)) := by simp [ackB]
              have hrk := fun W (h : Below W10.heap.size W10 W) => (h9.later h).rangeE bkC_len j hjb
              rw [hgk] at hrk
              obtain ⟨a5, ha5⟩ : ∃ a, num ((d5.drop (8 * j)).take 4) = a := ⟨_, rfl⟩
              obtain ⟨b6, hb6⟩ : ∃ a, num ((d5.drop (8 * j + 4)).take 4) = a := ⟨_, rfl⟩
              have la5 : a5 < 4294967296 := by rw [← ha5]; exact num_lt' d5 _ 4 _ (by decide)
              have lb5 : b6 < 4294967296 := by rw [← hb6]; exact num_lt' d5 _ 4 _ (by decide)
              rw [ha5, hb6] at hrk
              have HA5 := Lib.hid ha5
              have HB5 := Lib.hid hb6
              have wa5 : IntKind.u64.wrap (a5 : Int) = (a5 : Int) := IntWalk.u64_in _ (by omega)
              have wb5 : IntKind.u64.wrap (b6 : Int) = (b6 : Int) := IntWalk.u64_in _ (by omega)
              have m8 : Hid (IntKind.i64.wrap (8 * (j : Int)) = ((8 * j : Nat) : Int)) := Lib.hid (by rw [m8a]; omega)
              have m84 : Hid (IntKind.i64.wrap (8 * (j : Int) + 4) = ((8 * j + 4 : Nat) : Int)) := Lib.hid (by rw [IntWalk.i64_in _ (by omega)]; omega)
              have HQ := Lib.hid (fun (W : World) (h : Below wr.heap.size wr W) => show W.cell? ⟨xb, xo + j * 2, none⟩ = some (.int .u32 (a5 : Int)) ∧ W.cell? ⟨xb, xo + j * 2 + 1, none⟩ = some (.int .u32 (b6 : Int)) ∧ W.cell? ⟨b5, o5 + kk5 * 3 + 2, none⟩ = some (.slice yA yn yc) ∧ Rb W yA yn yc d5 from
                ⟨hrk W (hbe.trans (h.mono hb10)) 0 _ rfl, hrk W (hbe.trans (h.mono hb10)) 1 _ rfl, hrg5 W (hbe.trans (h.mono hb10)), hy5.later (hbe.trans (h.mono hb10))⟩)
              clear hrk ha5 hb6 hgk hjb
              go_upto_region 17 with (fail)
              clear m8a m8b
              go_wp2
              refine wp_relS 33 190 rfl (by kernel_rfl) (by kernel_rfl) ?_
              apply Steps.one (MP.eq _) 1 rfl
              · intro o ho FA x hO hD K hK
                obtain rfl := Option.some.inj ho.symm
                clear ho
                have e12 := hO 12 (by kernel_rfl)
                simp only [eval_tmp, List.getElem?_toArray, List.getElem?_cons_succ, List.getElem?_cons_zero, Option.getD_some] at e12
                have ev12 := Lib.hid ((eval_tmp FA 12).trans e12)
                clear hO hD
                go_simp
                exact hK.out _ _ (Ex.refl _) rfl
              apply Steps.one (MP.eq _) 2 rfl
              · intro o ho FA x hO hD K hK
                obtain rfl := Option.some.inj ho.symm
                clear ho
                have e14 := hO 14 (by kernel_rfl)
                simp only [eval_tmp, List.getElem?_toArray, List.getElem?_cons_succ, List.getElem?_cons_zero, Option.getD_some] at e14
                have ev14 := Lib.hid ((eval_tmp FA 14).trans e14)
                clear hO hD
                go_simp
                exact hK.out _ _ (Ex.refl _) rfl
              apply Steps.one (MP.eq _) 3 rfl
              · intro o ho FA x hO hD K hK
                obtain rfl := Option.some.inj ho.symm
                clear ho
                have ev144 : FA.eval (.tmp 144) = _ := hD 0 144 (by kernel_rfl)
                have e144 := (eval_tmp FA 144).symm.trans ev144
                replace ev144 := Lib.hid ev144
                have ev145 : FA.eval (.tmp 145) = _ := hD 1 145 (by kernel_rfl)
                have e145 := (eval_tmp FA 145).symm.trans ev145
                replace ev145 := Lib.hid ev145
                clear hO hD
                go_simp
                exact hK.out _ _ (Ex.refl _) rfl
              apply Steps.one (MP.eq _) 4 rfl
              · intro o ho FA x hO hD K hK
                obtain rfl := Option.some.inj ho.symm
                clear ho
                have ev146 : FA.eval (.tmp 146) = _ := hD 2 146 (by kernel_rfl)
                have e146 := (eval_tmp FA 146).symm.trans ev146
                replace ev146 := Lib.hid ev146
                clear hO hD
                go_simp
                exact hK.out _ _ (Ex.refl _) rfl
              apply Steps.one (MP.eq _) 5 rfl
              · intro o ho FA x hO hD K hK
                obtain rfl := Option.some.inj ho.symm
                clear ho
                have ev147 : FA.eval (.tmp 147) = _ := hD 3 147 (by kernel_rfl)
                have e147 := (eval_tmp FA 147).symm.trans ev147
                replace ev147 := Lib.hid ev147
                clear hO hD
                have q9 := (HQ.out (plus wr x.bs x.d) (below_plus _ _ _)).1
                go_simp
                exact hK.out _ _ (Ex.refl _) rfl
              apply Steps.one (MP.eq _) 6 rfl
              · intro o ho FA x hO hD K hK
                obtain rfl := Option.some.inj ho.symm
                clear ho
                have ev148 : FA.eval (.tmp 148) = _ := hD 4 148 (by kernel_rfl)
                have e148 := (eval_tmp FA 148).symm.trans ev148
                replace ev148 := Lib.hid ev148
                clear hO hD
                go_simp
                exact hK.out _ _ (Ex.refl _) rfl
              apply Steps.one (MP.eq _) 7 rfl
              · intro o ho FA x hO hD K hK
                obtain rfl := Option.some.inj ho.symm
                clear ho
                have e7 := hO 7 (by kernel_rfl)
                simp only [eval_tmp, List.getElem?_toArray, List.getElem?_cons_succ, List.getElem?_cons_zero, Option.getD_some] at e7
                have ev7 := Lib.hid ((eval_tmp FA 7).trans e7)
                clear hO hD
                go_simp
                exact hK.out _ _ (Ex.refl _) rfl
              apply Steps.one (MP.eq _) 8 rfl
              · intro o ho FA x hO hD K hK
                obtain rfl := Option.some.inj ho.symm
                clear ho
                have e13 := hO 13 (by kernel_rfl)
                simp only [eval_tmp, List.getElem?_toArray, List.getElem?_cons_succ, List.getElem?_cons_zero, Option.getD_some] at e13
                have ev13 := Lib.hid ((eval_tmp FA 13).trans e13)
                clear hO hD
                go_simp
                exact hK.out _ _ (Ex.refl _) rfl
              apply Steps.one (MP.eq _) 9 rfl
              · intro o ho FA x hO hD K hK
                obtain rfl := Option.some.inj ho.symm
                clear ho
                have ev150 : FA.eval (.tmp 150) = _ := hD 6 150 (by kernel_rfl)
                have e150 := (eval_tmp FA 150).symm.trans ev150
                replace ev150 := Lib.hid ev150
                have ev151 : FA.eval (.tmp 151) = _ := hD 7 151 (by kernel_rfl)
                have e151 := (eval_tmp FA 151).symm.trans ev151
                replace ev151 := Lib.hid ev151
                clear hO hD
                go_simp
                exact hK.out _ _ (Ex.refl _) rfl
              apply Steps.one (MP.eq _) 10 rfl
              · intro o ho FA x hO hD K hK
                obtain rfl := Option.some.inj ho.symm
                clear ho
                have ev152 : FA.eval (.tmp 152) = _ := hD 8 152 (by kernel_rfl)
                have e152 := (eval_tmp FA 152).symm.trans ev152
                replace ev152 := Lib.hid ev152
                clear hO hD
                go_simp
                exact hK.out _ _ (Ex.refl _) rfl
              apply Steps.one (MP.eq _) 11 rfl
              · intro o ho FA x hO hD K hK
                obtain rfl := Option.some.inj ho.symm
                clear ho
                have ev153 : FA.eval (.tmp 153) = _ := hD 9 153 (by kernel_rfl)
                have e153 := (eval_tmp FA 153).symm.trans ev153
                replace ev153 := Lib.hid ev153
                clear hO hD
                have q9 := (HQ.out (plus wr x.bs x.d) (below_plus _ _ _)).2.2.1
                go_simp
                exact hK.out _ _ (Ex.refl _) rfl
              apply Steps.one (MP.eq _) 12 rfl
              · intro o ho FA x hO hD K hK
                obtain rfl := Option.some.inj ho.symm
                clear ho
                have e14 := hO 14 (by kernel_rfl)
                simp only [eval_tmp, List.getElem?_toArray, List.getElem?_cons_succ, List.getElem?_cons_zero, Option.getD_some] at e14
                have ev14 := Lib.hid ((eval_tmp FA 14).trans e14)
                clear hO hD
                go_simp
                exact hK.out _ _ (Ex.refl _) rfl
              apply Steps.one (MP.eq (.int .i64 ((8 * j : Nat) : Int))) 13 rfl
              · intro o ho FA x hO hD K hK
                obtain rfl := Option.some.inj ho.symm
                clear ho
                have ev155 : FA.eval (.tmp 155) = _ := hD 11 155 (by kernel_rfl)
                have e155 := (eval_tmp FA 155).symm.trans ev155
                replace ev155 := Lib.hid ev155
                clear hO hD
                go_simp
                exact hK.out _ _ (Ex.refl _) (congrArg (Value.int .i64) m8.out)
              apply Steps.one (MP.eq (.int .u64 (a5 : Int))) 14 rfl
              · intro o ho FA x hO hD K hK
                obtain rfl := Option.some.inj ho.symm
                clear ho
                have ev154 : FA.eval (.tmp 154) = _ := hD 10 154 (by kernel_rfl)
                have e154 := (eval_tmp FA 154).symm.trans ev154
                replace ev154 := Lib.hid ev154
                have ev156 : FA.eval (.tmp 156) = _ := hD 12 156 (by kernel_rfl)
                have e156 := (eval_tmp FA 156).symm.trans ev156
                replace ev156 := Lib.hid ev156
                clear hO hD
                go_simp
                refine (refGet_any yA yn yc d5 (8 * j) 4 _ ((HQ.out (plus wr x.bs x.d) (below_plus _ _ _)).2.2.2) (by omega) (by omega) (by omega)).mono ?_
                rintro e w1 ⟨rfl, rfl⟩
                exact hK.out _ _ (Ex.refl _) (congrArg (fun z : Nat => Value.int .u64 (z : Int)) HA5.out)
              apply Steps.one (MP.eq _) 15 rfl
              · intro o ho FA x hO hD K hK
                obtain rfl := Option.some.inj ho.symm
                clear ho
                have ev149 : FA.eval (.tmp 149) = _ := hD 5 149 (by kernel_rfl)
                have e149 := (eval_tmp FA 149).symm.trans ev149
                replace ev149 := Lib.hid ev149
                have ev157 : FA.eval (.tmp 157) = _ := hD 13 157 (by kernel_rfl)
                have e157 := (eval_tmp FA 157).symm.trans ev157
                replace ev157 := Lib.hid ev157
                clear hO hD
                go_simp
                exact hK.out _ _ (Ex.refl _) rfl
              apply Steps.one (MP.eq _) 16 rfl
              · intro o ho FA x hO hD K hK
                obtain rfl := Option.some.inj ho.symm
                clear ho
                have ev158 : FA.eval (.tmp 158) = _ := hD 14 158 (by kernel_rfl)
                have e158 := (eval_tmp FA 158).symm.trans ev158
                replace ev158 := Lib.hid ev158
                clear hO hD
                go_simp
                exact hK.out _ _ (Ex.refl _) rfl
              apply Steps.one (MP.eq _) 17 rfl
              · intro o ho FA x hO hD K hK
                obtain rfl := Option.some.inj ho.symm
                clear ho
                have e12 := hO 12 (by kernel_rfl)
                simp only [eval_tmp, List.getElem?_toArray, List.getElem?_cons_succ, List.getElem?_cons_zero, Option.getD_some] at e12
                have ev12 := Lib.hid ((eval_tmp FA 12).trans e12)
                have ev159 : FA.eval (.tmp 159) = _ := hD 15 159 (by kernel_rfl)
                have e159 := (eval_tmp FA 159).symm.trans ev159
                replace ev159 := Lib.hid ev159
                first | have ge159 := slot_of e159 | have ge159 := slot_un e159
                clear hO hD
                first | (go_simp; exact hK.out _ _ (Ex.refl _) rfl) | (rcases ge159 with ge159 | ge159 <;> (go_simp; exact hK.out _ _ (Ex.refl _) rfl))
              apply Steps.one (MP.eq _) 18 rfl
              · intro o ho FA x hO hD K hK
                obtain rfl := Option.some.inj ho.symm
                clear ho
                have e14 := hO 14 (by kernel_rfl)
                simp only [eval_tmp, List.getElem?_toArray, List.getElem?_cons_succ, List.getElem?_cons_zero, Option.getD_some] at e14
                have ev14 := Lib.hid ((eval_tmp FA 14).trans e14)
                have ev159 : FA.eval (.tmp 159) = _ := hD 15 159 (by kernel_rfl)
                have e159 := (eval_tmp FA 159).symm.trans ev159
                replace ev159 := Lib.hid ev159
                first | have ge159 := slot_of e159 | have ge159 := slot_un e159
                clear hO hD
                first | (go_simp; exact hK.out _ _ (Ex.refl _) rfl) | (rcases ge159 with ge159 | ge159 <;> (go_simp; exact hK.out _ _ (Ex.refl _) rfl))
              apply Steps.one (MP.eq _) 19 rfl
              · intro o ho FA x hO hD K hK
                obtain rfl := Option.some.inj ho.symm
                clear ho
                have ev160 : FA.eval (.tmp 160) = _ := hD 16 160 (by kernel_rfl)
                have e160 := (eval_tmp FA 160).symm.trans ev160
                replace ev160 := Lib.hid ev160
                have ev161 : FA.eval (.tmp 161) = _ := hD 17 161 (by kernel_rfl)
                have e161 := (eval_tmp FA 161).symm.trans ev161
                replace ev161 := Lib.hid ev161
                have ev159 : FA.eval (.tmp 159) = _ := hD 15 159 (by kernel_rfl)
                have e159 := (eval_tmp FA 159).symm.trans ev159
                replace ev159 := Lib.hid ev159
                first | have ge159 := slot_of e159 | have ge159 := slot_un e159
                clear hO hD
                first | (go_simp; exact hK.out _ _ (Ex.refl _) rfl) | (rcases ge159 with ge159 | ge159 <;> (go_simp; exact hK.out _ _ (Ex.refl _) rfl))
              apply Steps.one (MP.eq _) 20 rfl
              · intro o ho FA x hO hD K hK
                obtain rfl := Option.some.inj ho.symm
                clear ho
                have ev162 : FA.eval (.tmp 162) = _ := hD 18 162 (by kernel_rfl)
                have e162 := (eval_tmp FA 162).symm.trans ev162
                replace ev162 := Lib.hid ev162
                have ev159 : FA.eval (.tmp 159) = _ := hD 15 159 (by kernel_rfl)
                have e159 := (eval_tmp FA 159).symm.trans ev159
                replace ev159 := Lib.hid ev159
                first | have ge159 := slot_of e159 | have ge159 := slot_un e159
                clear hO hD
                first | (go_simp; exact hK.out _ _ (Ex.refl _) rfl) | (rcases ge159 with ge159 | ge159 <;> (go_simp; exact hK.out _ _ (Ex.refl _) rfl))
              apply Steps.one (MP.eq _) 21 rfl
              · intro o ho FA x hO hD K hK
                obtain rfl := Option.some.inj ho.symm
                clear ho
                have ev163 : FA.eval (.tmp 163) = _ := hD 19 163 (by kernel_rfl)
                have e163 := (eval_tmp FA 163).symm.trans ev163
                replace ev163 := Lib.hid ev163
                have ev159 : FA.eval (.tmp 159) = _ := hD 15 159 (by kernel_rfl)
                have e159 := (eval_tmp FA 159).symm.trans ev159
                replace ev159 := Lib.hid ev159
                first | have ge159 := slot_of e159 | have ge159 := slot_un e159
                clear hO hD
                have q9 := (HQ.out (plus wr x.bs x.d) (below_plus _ _ _)).2.1
                go_simp
                exact hK.out _ _ (Ex.refl _) rfl
              apply Steps.one (MP.eq _) 22 rfl
              · intro o ho FA x hO hD K hK
                obtain rfl := Option.some.inj ho.symm
                clear ho
                have ev164 : FA.eval (.tmp 164) = _ := hD 20 164 (by kernel_rfl)
                have e164 := (eval_tmp FA 164).symm.trans ev164
                replace ev164 := Lib.hid ev164
                have ev159 : FA.eval (.tmp 159) = _ := hD 15 159 (by kernel_rfl)
                have e159 := (eval_tmp FA 159).symm.trans ev159
                replace ev159 := Lib.hid ev159
                first | have ge159 := slot_of e159 | have ge159 := slot_un e159
                clear hO hD
                first | (go_simp; exact hK.out _ _ (Ex.refl _) rfl) | (rcases ge159 with ge159 | ge159 <;> (go_simp; exact hK.out _ _ (Ex.refl _) rfl))
              apply Steps.one (MP.eq _) 23 rfl
              · intro o ho FA x hO hD K hK
                obtain rfl := Option.some.inj ho.symm
                clear ho
                have e7 := hO 7 (by kernel_rfl)
                simp only [eval_tmp, List.getElem?_toArray, List.getElem?_cons_succ, List.getElem?_cons_zero, Option.getD_some] at e7
                have ev7 := Lib.hid ((eval_tmp FA 7).trans e7)
                have ev159 : FA.eval (.tmp 159) = _ := hD 15 159 (by kernel_rfl)
                have e159 := (eval_tmp FA 159).symm.trans ev159
                replace ev159 := Lib.hid ev159
                first | have ge159 := slot_of e159 | have ge159 := slot_un e159
                clear hO hD
                first | (go_simp; exact hK.out _ _ (Ex.refl _) rfl) | (rcases ge159 with ge159 | ge159 <;> (go_simp; exact hK.out _ _ (Ex.refl _) rfl))
              apply Steps.one (MP.eq _) 24 rfl
              · intro o ho FA x hO hD K hK
                obtain rfl := Option.some.inj ho.symm
                clear ho
                have e13 := hO 13 (by kernel_rfl)
                simp only [eval_tmp, List.getElem?_toArray, List.getElem?_cons_succ, List.getElem?_cons_zero, Option.getD_some] at e13
                have ev13 := Lib.hid ((eval_tmp FA 13).trans e13)
                have ev159 : FA.eval (.tmp 159) = _ := hD 15 159 (by kernel_rfl)
                have e159 := (eval_tmp FA 159).symm.trans ev159
                replace ev159 := Lib.hid ev159
                first | have ge159 := slot_of e159 | have ge159 := slot_un e159
                clear hO hD
                first | (go_simp; exact hK.out _ _ (Ex.refl _) rfl) | (rcases ge159 with ge159 | ge159 <;> (go_simp; exact hK.out _ _ (Ex.refl _) rfl))
              apply Steps.one (MP.eq _) 25 rfl
              · intro o ho FA x hO hD K hK
                obtain rfl := Option.some.inj ho.symm
                clear ho
                have ev166 : FA.eval (.tmp 166) = _ := hD 22 166 (by kernel_rfl)
                have e166 := (eval_tmp FA 166).symm.trans ev166
                replace ev166 := Lib.hid ev166
                have ev167 : FA.eval (.tmp 167) = _ := hD 23 167 (by kernel_rfl)
                have e167 := (eval_tmp FA 167).symm.trans ev167
                replace ev167 := Lib.hid ev167
                have ev159 : FA.eval (.tmp 159) = _ := hD 15 159 (by kernel_rfl)
                have e159 := (eval_tmp FA 159).symm.trans ev159
                replace ev159 := Lib.hid ev159
                first | have ge159 := slot_of e159 | have ge159 := slot_un e159
                clear hO hD
                first | (go_simp; exact hK.out _ _ (Ex.refl _) rfl) | (rcases ge159 with ge159 | ge159 <;> (go_simp; exact hK.out _ _ (Ex.refl _) rfl))
              apply Steps.one (MP.eq _) 26 rfl
              · intro o ho FA x hO hD K hK
                obtain rfl := Option.some.inj ho.symm
                clear ho
                have ev168 : FA.eval (.tmp 168) = _ := hD 24 168 (by kernel_rfl)
                have e168 := (eval_tmp FA 168).symm.trans ev168
                replace ev168 := Lib.hid ev168
                have ev159 : FA.eval (.tmp 159) = _ := hD 15 159 (by kernel_rfl)
                have e159 := (eval_tmp FA 159).symm.trans ev159
                replace ev159 := Lib.hid ev159
                first | have ge159 := slot_of e159 | have ge159 := slot_un e159
                clear hO hD
                first | (go_simp; exact hK.out _ _ (Ex.refl _) rfl) | (rcases ge159 with ge159 | ge159 <;> (go_simp; exact hK.out _ _ (Ex.refl _) rfl))
              apply Steps.one (MP.eq _) 27 rfl
              · intro o ho FA x hO hD K hK
                obtain rfl := Option.some.inj ho.symm
                clear ho
                have ev169 : FA.eval (.tmp 169) = _ := hD 25 169 (by kernel_rfl)
                have e169 := (eval_tmp FA 169).symm.trans ev169
                replace ev169 := Lib.hid ev169
                have ev159 : FA.eval (.tmp 159) = _ := hD 15 159 (by kernel_rfl)
                have e159 := (eval_tmp FA 159).symm.trans ev159
                replace ev159 := Lib.hid ev159
                first | have ge159 := slot_of e159 | have ge159 := slot_un e159
                clear hO hD
                have q9 := (HQ.out (plus wr x.bs x.d) (below_plus _ _ _)).2.2.1
                go_simp
                exact hK.out _ _ (Ex.refl _) rfl
              apply Steps.one (MP.eq _) 28 rfl
              · intro o ho FA x hO hD K hK
                obtain rfl := Option.some.inj ho.symm
                clear ho
                have e14 := hO 14 (by kernel_rfl)
                simp only [eval_tmp, List.getElem?_toArray, List.getElem?_cons_succ, List.getElem?_cons_zero, Option.getD_some] at e14
                have ev14 := Lib.hid ((eval_tmp FA 14).trans e14)
                have ev159 : FA.eval (.tmp 159) = _ := hD 15 159 (by kernel_rfl)
                have e159 := (eval_tmp FA 159).symm.trans ev159
                replace ev159 := Lib.hid ev159
                first | have ge159 := slot_of e159 | have ge159 := slot_un e159
                clear hO hD
                first | (go_simp; exact hK.out _ _ (Ex.refl _) rfl) | (rcases ge159 with ge159 | ge159 <;> (go_simp; exact hK.out _ _ (Ex.refl _) rfl))
              apply Steps.one (MP.eq (.int .i64 ((8 * j : Nat) : Int))) 29 rfl
              · intro o ho FA x hO hD K hK
                obtain rfl := Option.some.inj ho.symm
                clear ho
                have ev171 : FA.eval (.tmp 171) = _ := hD 27 171 (by kernel_rfl)
                have e171 := (eval_tmp FA 171).symm.trans ev171
                replace ev171 := Lib.hid ev171
                have ev159 : FA.eval (.tmp 159) = _ := hD 15 159 (by kernel_rfl)
                have e159 := (eval_tmp FA 159).symm.trans ev159
                replace ev159 := Lib.hid ev159
                first | have ge159 := slot_of e159 | have ge159 := slot_un e159
                clear hO hD
                go_simp
                exact hK.out _ _ (Ex.refl _) (congrArg (Value.int .i64) m8.out)
              apply Steps.one (MP.eq (.int .i64 ((8 * j + 4 : Nat) : Int))) 30 rfl
              · intro o ho FA x hO hD K hK
                obtain rfl := Option.some.inj ho.symm
                clear ho
                have ev172 : FA.eval (.tmp 172) = _ := hD 28 172 (by kernel_rfl)
                have e172 := (eval_tmp FA 172).symm.trans ev172
                replace ev172 := Lib.hid ev172
                have ev159 : FA.eval (.tmp 159) = _ := hD 15 159 (by kernel_rfl)
                have e159 := (eval_tmp FA 159).symm.trans ev159
                replace ev159 := Lib.hid ev159
                first | have ge159 := slot_of e159 | have ge159 := slot_un e159
                clear hO hD
                go_simp
                exact hK.out _ _ (Ex.refl _) (congrArg (Value.int .i64) m84.out)
              apply Steps.one (MP.eq (.int .u64 (b6 : Int))) 31 rfl
              · intro o ho FA x hO hD K hK
                obtain rfl := Option.some.inj ho.symm
                clear ho
                have ev170 : FA.eval (.tmp 170) = _ := hD 26 170 (by kernel_rfl)
                have e170 := (eval_tmp FA 170).symm.trans ev170
                replace ev170 := Lib.hid ev170
                have ev173 : FA.eval (.tmp 173) = _ := hD 29 173 (by kernel_rfl)
                have e173 := (eval_tmp FA 173).symm.trans ev173
                replace ev173 := Lib.hid ev173
                have ev159 : FA.eval (.tmp 159) = _ := hD 15 159 (by kernel_rfl)
                have e159 := (eval_tmp FA 159).symm.trans ev159
                replace ev159 := Lib.hid ev159
                first | have ge159 := slot_of e159 | have ge159 := slot_un e159
                clear hO hD
                go_simp
                refine (refGet_any yA yn yc d5 (8 * j + 4) 4 _ ((HQ.out (plus wr x.bs x.d) (below_plus _ _ _)).2.2.2) (by omega) (by omega) (by omega)).mono ?_
                rintro e w1 ⟨rfl, rfl⟩
                exact hK.out _ _ (Ex.refl _) (congrArg (fun z : Nat => Value.int .u64 (z : Int)) HB5.out)
              apply Steps.one (MP.eq _) 32 rfl
              · intro o ho FA x hO hD K hK
                obtain rfl := Option.some.inj ho.symm
                clear ho
                have ev165 : FA.eval (.tmp 165) = _ := hD 21 165 (by kernel_rfl)
                have e165 := (eval_tmp FA 165).symm.trans ev165
                replace ev165 := Lib.hid ev165
                have ev174 : FA.eval (.tmp 174) = _ := hD 30 174 (by kernel_rfl)
                have e174 := (eval_tmp FA 174).symm.trans ev174
                replace ev174 := Lib.hid ev174
                have ev159 : FA.eval (.tmp 159) = _ := hD 15 159 (by kernel_rfl)
                have e159 := (eval_tmp FA 159).symm.trans ev159
                replace ev159 := Lib.hid ev159
                first | have ge159 := slot_of e159 | have ge159 := slot_un e159
                clear hO hD
                first | (go_simp; exact hK.out _ _ (Ex.refl _) rfl) | (rcases ge159 with ge159 | ge159 <;> (go_simp; exact hK.out _ _ (Ex.refl _) rfl))
              apply Steps.one (MP.eq _) 33 rfl
              · intro o ho FA x hO hD K hK
                obtain rfl := Option.some.inj ho.symm
                clear ho
                have ev159 : FA.eval (.tmp 159) = _ := hD 15 159 (by kernel_rfl)
                have e159 := (eval_tmp FA 159).symm.trans ev159
                replace ev159 := Lib.hid ev159
                have ev175 : FA.eval (.tmp 175) = _ := hD 31 175 (by kernel_rfl)
                have e175 := (eval_tmp FA 175).symm.trans ev175
                replace ev175 := Lib.hid ev175
                clear hO hD
                go_simp
                exact hK.out _ _ (Ex.refl _) rfl
              refine Steps.fin_ (fun vs x hp => ?_)
              have p0 : vs 0 = _ := hp 0 (by omega)
              have p1 : vs 1 = _ := hp 1 (by omega)
              have p2 : vs 2 = _ := hp 2 (by omega)
              have p3 : vs 3 = _ := hp 3 (by omega)
              have p4 : vs 4 = _ := hp 4 (by omega)
              have p5 : vs 5 = _ := hp 5 (by omega)
              have p6 : vs 6 = _ := hp 6 (by omega)
              have p7 : vs 7 = _ := hp 7 (by omega)
              have p8 : vs 8 = _ := hp 8 (by omega)
              have p9 : vs 9 = _ := hp 9 (by omega)
              have p10 : vs 10 = _ := hp 10 (by omega)
              have p11 : vs 11 = _ := hp 11 (by omega)
              have p12 : vs 12 = _ := hp 12 (by omega)
              have p13 : vs 13 = _ := hp 13 (by omega)
              have p14 : vs 14 = _ := hp 14 (by omega)
              have p15 : vs 15 = _ := hp 15 (by omega)
              have p16 : vs 16 = _ := hp 16 (by omega)
              have p17 : vs 17 = _ := hp 17 (by omega)
              have p18 : vs 18 = _ := hp 18 (by omega)
              have p19 : vs 19 = _ := hp 19 (by omega)
              have p20 : vs 20 = _ := hp 20 (by omega)
              have p21 : vs 21 = _ := hp 21 (by omega)
              have p22 : vs 22 = _ := hp 22 (by omega)
              have p23 : vs 23 = _ := hp 23 (by omega)
              have p24 : vs 24 = _ := hp 24 (by omega)
              have p25 : vs 25 = _ := hp 25 (by omega)
              have p26 : vs 26 = _ := hp 26 (by omega)
              have p27 : vs 27 = _ := hp 27 (by omega)
              have p28 : vs 28 = _ := hp 28 (by omega)
              have p29 : vs 29 = _ := hp 29 (by omega)
              have p30 : vs 30 = _ := hp 30 (by omega)
              have p31 : vs 31 = _ := hp 31 (by omega)
              have p32 : vs 32 = _ := hp 32 (by omega)
              clear hp
              simp only [List.take_succ_cons, List.take_zero, List.drop_succ_cons, List.drop_zero, putAll, Nat.zero_add, Nat.reduceAdd, Act.put, List.setIfInBounds_toArray, List.set_cons_zero, List.set_cons_succ, p0, p1, p2, p3, p4, p5, p6, p7, p8, p9, p10, p11, p12, p13, p14, p15, p16, p17, p18, p19, p20, p21, p22, p23, p24, p25, p26, p27, p28, p29, p30, p31, p32]
              clear p0 p1 p2 p3 p4 p5 p6 p7 p8 p9 p10 p11 p12 p13 p14 p15 p16 p17 p18 p19 p20 p21 p22 p23 p24 p25 p26 p27 p28 p29 p30 p31 p32
              clear vs
              go_wp2
              exact ⟨⟨j + 1, by omega, by go_num, hbe.trans ((below_plus _ _ _).mono hb10)⟩, by simp [intOf]; omega⟩
            · have ij : ¬ (j : Int) < (n9 : Int) := by omega
              have m9 : IntKind.i64.wrap (8 * (n9 : Int)) = 8 * (n9 : Int) := IntWalk.i64_in _ (by omega)
              have m10 : (8 * (n9 : Int) == (yn : Int)) = true := by simp; omega
              go_wp2_with (go_at_call 26; refine (awake44 _).mono ?_; rintro e w1 ⟨bs3, d3, rfl, rfl⟩)
              go_ret
              exact RetV.mk (belowP (be.trans (hbe.mono be.size)) _ _)
        · have hm3 : (((yn : Int) % 8) != 0) = true := by simp; omega
          have hm1 : ((Int.tmod (yn : Int) 8) != 0) = true := by rw [show Int.tmod (yn : Int) 8 = ((yn % 8 : Nat) : Int) from rfl]; simp; omega
          have hm2 : ¬ Int.tmod (yn : Int) 8 = 0 := by rw [show Int.tmod (yn : Int) 8 = ((yn % 8 : Nat) : Int) from rfl]; omega
          have e2 : ackL (some (Ox.p ⟨yi, yk, yA, yn, yc, d5⟩)) = [] := by show (if d5.length % 8 = 0 then ackB d5 else []) = []; rw [hyl, if_neg h8]
          rw [e2] at h9
          have hn9 : n9 = 0 := by have := h9.1; simp at this; omega
          subst hn9
          have HYL := Lib.hid hyl
          clear hyl h2 h3 e2
          go_wp2_with (go_at_call 26; refine (awake44 _).mono ?_; rintro e w1 ⟨bs3, d3, rfl, rfl⟩)
          go_ret
          exact RetV.mk (belowP be _ _)
    · rw [h2] at hf1
      cases hf1
end Go.Proofs.Ytenaiojddohbkaa

/- OptionReads' row (chapter 44). -/
namespace Go.Proofs.Ytenaiojddohbkaa
open Go.RowKit
set_option linter.unusedVariables false

theorem optionReads_row (w : World) (A : Option Addr) (c : Nat) (l : List UInt8) (hl : l.length ≤ c) (hc : c ≤ maxLen) (hr : Rd w w.heap.size A (bcs l)) (a : Int) (ha : 0 ≤ a ∧ a ≤ 255) (b : Int) (hb : 0 ≤ b ∧ b ≤ 255) :
    Calls Try.prog 6 #[.slice A l.length c, .int .u8 a, .int .u8 b] w fun e w' => e = .returned (.bool true) ∧ Below w.heap.size w w' := by
  obtain ⟨a, rfl⟩ := Int.eq_ofNat_of_zero_le ha.1
  obtain ⟨b, rfl⟩ := Int.eq_ofNat_of_zero_le hb.1
  simp only [maxLen] at hc
  refine (optionReads_walk w A l.length c l ⟨rfl, hl, hr⟩ a (by omega) b (by omega) (by omega)).mono ?_
  rintro e w1 ⟨bs, d, rfl, rfl⟩
  exact ⟨rfl, below_plus _ _ _⟩
end Go.Proofs.Ytenaiojddohbkaa

