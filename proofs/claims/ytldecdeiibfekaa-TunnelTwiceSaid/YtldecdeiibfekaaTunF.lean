/- The law TunnelReads. -/
import Derived.Test.YtldecdeiibfekaaTunE
namespace Go.Proofs.Ytldecdeiibfekaa
open Go.RowKit
set_option linter.unusedVariables false
set_option linter.unusedSimpArgs false
attribute [local go_sem ↓] sliced_cut
attribute [local go_sem] cutA_zero

theorem sx_ip4 (ts ln id pl tl pr s sl dl : Nat) (o load : List UInt8) (h : o.length ≤ 40) : Sx (ip4B ts ln id pl tl pr s sl dl o ++ load) 4 false 0 := by
  unfold ip4B
  rw [dig1 (69 + o.length / 4) (by omega)]
  simp only [List.cons_append, List.nil_append, List.append_assoc]
  refine Sx.four _ _ ?_
  simp
  omega
theorem sx_ip6 (cl lb ln nx ht sh sl dh dl : Nat) (load : List UInt8) (h1 : cl < 256) (h2 : lb < 1048576) : Sx (ip6B cl lb ln nx ht sh sl dh dl ++ load) 6 true 0 := by
  have e : dig (1610612736 + cl * 1048576 + lb) 4 = UInt8.ofNat (96 + cl / 16) :: (UInt8.ofNat (cl % 16 * 16 + lb / 65536) :: dig lb 2) := by
    simp only [dig, List.nil_append, List.cons_append]
    rw [ofNat_eq ((1610612736 + cl * 1048576 + lb) / 256 / 256 / 256 % 256) (96 + cl / 16) (by omega), ofNat_eq ((1610612736 + cl * 1048576 + lb) / 256 / 256 % 256) (cl % 16 * 16 + lb / 65536) (by omega), ofNat_eq ((1610612736 + cl * 1048576 + lb) / 256 % 256) (lb / 256 % 256) (by omega), ofNat_eq ((1610612736 + cl * 1048576 + lb) % 256) (lb % 256) (by omega)]
  unfold ip6B
  rw [e]
  simp only [List.cons_append, List.append_assoc]
  refine Sx.six _ _ ?_
  simp
  omega
set_option maxHeartbeats 4000000 in
set_option maxRecDepth 100000 in
theorem unwraps (A : Option Addr) (n c : Nat) (l : List UInt8) (w : World) (h : Rb w A n c l) (hm : n ≤ 1000000) : ∃ (load : List UInt8) (s6 : Bool) (sh sl : Nat) (d6 : Bool) (dh dl tl : Nat) (E : Int), (∀ w', Below w.heap.size w w' → Calls Try.prog 72 #[.slice A n c] w' (RetTW w' load s6 sh sl d6 dh dl tl E)) ∧ (∀ w', Below w.heap.size w w' → Calls Try.prog 73 #[.slice A n c] w' (RetTW w' load s6 sh sl d6 dh dl tl E)) := by
  have fin : ∀ (load : List UInt8) (s6 : Bool) (sh sl : Nat) (d6 : Bool) (dh dl tl : Nat) (ok : Bool) (E : Int), (∀ w', Below w.heap.size w w' → Calls Try.prog 72 #[.slice A n c] w' (RetTF w' load s6 sh sl d6 dh dl tl ok E)) → (∀ w', Below w.heap.size w w' → Calls Try.prog 73 #[.slice A n c] w' (RetTF w' load s6 sh sl d6 dh dl tl ok E)) → ∃ (load : List UInt8) (s6 : Bool) (sh sl : Nat) (d6 : Bool) (dh dl tl : Nat) (E : Int), (∀ w', Below w.heap.size w w' → Calls Try.prog 72 #[.slice A n c] w' (RetTW w' load s6 sh sl d6 dh dl tl E)) ∧ (∀ w', Below w.heap.size w w' → Calls Try.prog 73 #[.slice A n c] w' (RetTW w' load s6 sh sl d6 dh dl tl E)) := fun load s6 sh sl d6 dh dl tl ok E h1 h2 => by
    cases ok
    · exact ⟨[], false, 0, 0, false, 0, 0, 0, E, h1, h2⟩
    · exact ⟨load, s6, sh, sl, d6, dh, dl, tl, E, h1, h2⟩
  obtain ⟨N, B, E, s⟩ := sx_any l
  have HS : ∀ w', Below w.heap.size w w' → Calls Try.prog 74 #[.slice A n c] w' fun e w2 => e = .returned (.tuple #[.bool B, .int .i64 E]) ∧ w' = w2 := fun w' hb => tunSix A n c l w' (h.later hb) _ _ _ s
  have tr : ∀ w' w2 w3, Below w.heap.size w w' → Below w'.heap.size w' w2 → Below w2.heap.size w2 w3 → Below w.heap.size w w3 := fun w' w2 w3 hb hb2 hb3 => (hb.trans (hb2.mono hb.size)).trans (hb3.mono (Nat.le_trans hb.size hb2.size))
  have tr2 : ∀ w' w2, Below w.heap.size w w' → Below w'.heap.size w' w2 → Below w.heap.size w w2 := fun w' w2 hb hb2 => hb.trans (hb2.mono hb.size)
  rcases sx_E s with hE | hE
  case inr => exact fin [] false 0 0 false 0 0 0 false E (fun w' hb => unwrap_all A n c [] false 0 0 false 0 0 0 0 E w' false E (.err hE) (fun w2 hb2 => outer_err A n c w2 B E hE (fun w3 hb3 => HS w3 (tr _ _ _ hb hb2 hb3)))) (fun w' hb => refU_err A n c l w' (h.later hb) N B E s hE)
  subst hE
  rcases sx_ok s with ⟨rfl, rfl⟩ | ⟨rfl, rfl⟩
  · obtain ⟨ts, ln, id, st, mo, fo, tl, pr, sm, sa, da, o, load, E1, H1, H2⟩ := reads4 A n c l w h hm
    obtain ⟨E2, hEff⟩ : ∃ E2 : Int, ((E1 == 0) = false ∧ E2 = E1) ∨ (E1 = 0 ∧ mo = true ∧ E2 = 21) ∨ (E1 = 0 ∧ mo = false ∧ decide (0 < (fo : Int)) = true ∧ E2 = 21) ∨ (E1 = 0 ∧ mo = false ∧ decide (0 < (fo : Int)) = false ∧ E2 = 0) := by
      by_cases hE1 : E1 = 0
      case neg => exact ⟨E1, .inl ⟨by rw [beq_eq_false_iff_ne]; exact hE1, rfl⟩⟩
      cases mo
      · by_cases hfo : decide (0 < (fo : Int)) = true
        · exact ⟨21, .inr (.inr (.inl ⟨hE1, rfl, hfo, rfl⟩))⟩
        · exact ⟨0, .inr (.inr (.inr ⟨hE1, rfl, by simpa using hfo, rfl⟩))⟩
      · exact ⟨21, .inr (.inl ⟨hE1, rfl, rfl⟩)⟩
    have HO : ∀ w', Below w.heap.size w w' → ∀ w2, Below w'.heap.size w' w2 → Calls Try.prog 136 #[.slice A n c] w2 (RetTO w2 load false 0 sa false 0 da tl pr E2) := fun w' hb w2 hb2 => by
      rcases hEff with ⟨hE1, rfl⟩ | ⟨rfl, hmo, rfl⟩ | ⟨rfl, hmo, hfo, rfl⟩ | ⟨rfl, hmo, hfo, rfl⟩
      · exact outer_4e A n c w2 ts ln id st mo fo tl pr sm sa da o load _ hE1 (fun w3 hb3 => HS w3 (tr _ _ _ hb hb2 hb3)) (fun w3 hb3 => H1 w3 (tr _ _ _ hb hb2 hb3))
      · exact outer_4f A n c w2 ts ln id st mo fo tl pr sm sa da o load 0 rfl (by rw [hmo]; rfl) (fun w3 hb3 => HS w3 (tr _ _ _ hb hb2 hb3)) (fun w3 hb3 => H1 w3 (tr _ _ _ hb hb2 hb3))
      · exact outer_4f A n c w2 ts ln id st mo fo tl pr sm sa da o load 0 rfl (by rw [hmo, hfo]; rfl) (fun w3 hb3 => HS w3 (tr _ _ _ hb hb2 hb3)) (fun w3 hb3 => H1 w3 (tr _ _ _ hb hb2 hb3))
      · exact outer_4 A n c w2 ts ln id st mo fo tl pr sm sa da o load 0 rfl (by rw [hmo, hfo]; rfl) (fun w3 hb3 => HS w3 (tr _ _ _ hb hb2 hb3)) (fun w3 hb3 => H1 w3 (tr _ _ _ hb hb2 hb3))
    obtain ⟨ok, E, F⟩ := fate_any load pr E2
    exact fin load false 0 sa false 0 da tl ok E (fun w' hb => unwrap_all A n c load false 0 sa false 0 da tl pr E2 w' ok E F (HO w' hb)) (fun w' hb => refU4 A n c l w' (h.later hb) s ts ln id st mo fo tl pr sm sa da o load E1 E2 hEff ok E F (fun w2 hb2 => H2 w2 (tr2 _ _ hb hb2)))
  · obtain ⟨cl, lb, ln, nx, ht, s6, sh, sl, dh, dl, load, E1, -, H1, H2⟩ := reads6 A n c l w h hm
    have HO : ∀ w', Below w.heap.size w w' → ∀ w2, Below w'.heap.size w' w2 → Calls Try.prog 136 #[.slice A n c] w2 (RetTO w2 load s6 sh sl s6 dh dl ht nx E1) := fun w' hb w2 hb2 => outer_6 A n c w2 cl lb ln nx ht s6 sh sl dh dl load E1 (fun w3 hb3 => HS w3 (tr _ _ _ hb hb2 hb3)) (fun w3 hb3 => H1 w3 (tr _ _ _ hb hb2 hb3))
    obtain ⟨ok, E, F⟩ := fate_any load nx E1
    exact fin load s6 sh sl s6 dh dl ht ok E (fun w' hb => unwrap_all A n c load s6 sh sl s6 dh dl ht nx E1 w' ok E F (HO w' hb)) (fun w' hb => refU6 A n c l w' (h.later hb) s cl lb ln nx ht s6 sh sl dh dl load E1 ok E F (fun w2 hb2 => H2 w2 (tr2 _ _ hb hb2)))
set_option maxRecDepth 100000 in
theorem tunTo (s6 : Bool) (sh sl : Nat) (d6 : Bool) (dh dl tl : Nat) (w : World) : Calls Try.prog 76 #[.agg (wyC s6 sh sl d6 dh dl tl).toArray] w (RetV w (.agg (wyC s6 sh sl d6 dh dl tl).toArray)) := by
  unfold wyC
  go_enter Try.func76, Try.ntmps76
  go_wp2
  refine bodyPost_ret (v := .agg #[.bool s6, .int .u64 (sh : Int), .int .u64 (sl : Int), .bool d6, .int .u64 (dh : Int), .int .u64 (dl : Int), .int .u8 (tl : Int)]) (by simp [results, Try.results76, go_sem]) rfl (RetV.mk ?_)
  repeat (first | exact Below.refl _ _ | refine Below.allocS ?_ _)
set_option maxHeartbeats 4000000 in
set_option maxRecDepth 100000 in
theorem awake9 (w : World) : Calls Try.prog 71 #[] w (RetV w (.bool true)) := by
  have HP0 := fun w => packet4_ok 0 0 0 false false 0 9 0 0 0 0 none 0 0 [] none 0 0 [] w Rb.nil_ Rb.nil_ (by decide) (by decide) (by decide) (by decide) (by decide) (by decide) (by decide) (by decide) (by decide) (by decide)
  have hL : (ip4B 0 (20 + 0 + 0) 0 (pl4 false false 0) 9 0 (ip4K 0 (20 + 0 + 0) 0 (pl4 false false 0) 9 0 0 0 []) 0 0 [] ++ []).length = 20 := by rw [List.length_append, ip4B_length]; rfl
  have hs : Sx (ip4B 0 (20 + 0 + 0) 0 (pl4 false false 0) 9 0 (ip4K 0 (20 + 0 + 0) 0 (pl4 false false 0) 9 0 0 0 []) 0 0 [] ++ []) 4 false 0 := sx_ip4 _ _ _ _ _ _ _ _ _ _ _ (by decide)
  have HZ0 := fun A n c w h => parse4_w 0 (20 + 0 + 0) 0 false false 0 9 0 0 0 A n c [] [] w h (by decide) (by decide) (by decide) (by decide) (by decide) (by decide) (by decide) (by decide) (by decide) (by decide) (by decide)
  generalize ip4B 0 (20 + 0 + 0) 0 (pl4 false false 0) 9 0 (ip4K 0 (20 + 0 + 0) 0 (pl4 false false 0) 9 0 0 0 []) 0 0 [] ++ [] = L at *
  generalize ip4K 0 (20 + 0 + 0) 0 (pl4 false false 0) 9 0 0 0 [] = ks at *
  have HW0 := fun A c w (h : Rb w A 20 c L) => wrap44 A 20 c L w h 0 (20 + 0 + 0) 0 false false 0 9 0 ks 0 0 [] [] 0 0 64 (by decide) (by decide) (by decide) (by decide) (by decide) hs (fun w' hb => (HZ0 A 20 c w' (h.later hb)).mono fun _ _ => RetPE.ok)
  have hl2 : (ip4B 0 (20 + 0 + 20) 0 (pl4 false false 0) 64 4 (ip4K 0 (20 + 0 + 20) 0 (pl4 false false 0) 64 4 0 0 []) 0 0 [] ++ L).length = 40 := by rw [List.length_append, ip4B_length, hL]; rfl
  generalize ip4B 0 (20 + 0 + 20) 0 (pl4 false false 0) 64 4 (ip4K 0 (20 + 0 + 20) 0 (pl4 false false 0) 64 4 0 0 []) 0 0 [] ++ L = L2 at *
  have HP := Lib.hid HP0
  have HW := Lib.hid HW0
  replace hL := Lib.hid hL
  replace hl2 := Lib.hid hl2
  clear HP0 HW0 HZ0 hs
  go_enter Try.func71, Try.ntmps71
  go_wp2_with fail
  refine (HP.out _).mono ?_
  rintro e w1 ⟨A1, n1, c1, bs1, d1, rfl, rfl, h1⟩
  obtain rfl : n1 = 20 := by rw [← h1.1, hL.out]
  go_wp2_with fail
  refine (HW.out _ _ _ h1).mono ?_
  rintro e w1 ⟨A2, n2, c2, bs2, d2, rfl, rfl, h2⟩
  obtain rfl : n2 = 40 := by rw [← h2.1, hl2.out]
  go_wp2
  go_ret
  refine RetV.is_ rfl ?_
  repeat (first | exact Below.refl _ _ | refine belowP ?_ _ _ | refine Below.allocS ?_ _)
set_option maxRecDepth 100000 in
theorem eq_wy (w : World) (s6 : Bool) (sh sl : Nat) (d6 : Bool) (dh dl tl : Nat) : (binOp .eql 126 (.agg (wyC s6 sh sl d6 dh dl tl).toArray) (.agg (wyC s6 sh sl d6 dh dl tl).toArray)).run Try.prog w = .ok (.bool true) w := by
  unfold wyC
  go_simp
attribute [local go_sem ↓] eq_wy
set_option maxHeartbeats 4000000 in
set_option maxRecDepth 100000 in
theorem tunnelReads_walk (w : World) (A : Option Addr) (n c : Nat) (l : List UInt8) (h : Rb w A n c l) (hc : c ≤ maxLen) : Calls Try.prog 12 #[.slice A n c] w fun e w' => e = .returned (.bool true) ∧ Below w.heap.size w w' := by
  have HAW := Lib.hid awake9
  have hcn := h.2.1
  simp only [maxLen] at hc
  by_cases hbig : 3000 < n
  · have d1 : decide (3000 < (n : Int)) = true := by simp only [decide_eq_true_eq]; omega
    go_enter Try.func12, Try.ntmps12
    go_wp2_with (go_at_call 71; refine (HAW.out _).mono ?_; rintro e w1 ⟨bs1, d1, rfl, rfl⟩)
    go_ret
    exact ⟨rfl, below_plus _ _ _⟩
  have d1 : decide (3000 < (n : Int)) = false := by simp only [decide_eq_false_iff_not]; omega
  obtain ⟨load, s6, sh, sl, d6, dh, dl, tl, E, H1, H2⟩ := unwraps A n c l w h (by omega)
  obtain ⟨N, B, E0, s⟩ := sx_any l
  have HS := Lib.hid (fun w (h : Rb w A n c l) => tunSix A n c l w h _ _ _ s)
  have HR := Lib.hid (fun w (h : Rb w A n c l) => refSix A n c l w h _ _ _ s)
  have HTO := Lib.hid (tunTo s6 sh sl d6 dh dl tl)
  replace H1 := Lib.hid H1
  replace H2 := Lib.hid H2
  obtain ⟨dy, y1, y2⟩ := rowWy
  obtain ⟨dr, r1, r2⟩ := rowRWy
  clear hbig hc hcn
  have be : Below w.heap.size w w := Below.refl _ _
  cases s
  case none_ =>
    go_enter Try.func12, Try.ntmps12
    go_wp2_with fail
    refine (H1.out _ be).mono ?_
    rintro e w1 ⟨A2, n2, k2, bs1, d1', rfl, rfl, hx⟩
    go_upto_region 4 with (refine at_op (.store 126 (.tmp 4) (.tmp 21)) rfl ?_; refine wpList_stA (t := 126) 126 (.tmp 4) (.tmp 21) rfl rfl (wyC s6 sh sl d6 dh dl tl) (wyC false 0 0 false 0 0 0) rfl (wyC_one _ _ _ _ _ _ _) rfl rfl ?_ (szWy _ _ _ _ _ _ _) ?_; (· refine Bk.newK _ _ _ ?_ rfl; simp [size_plus]); intro W4 hX gr4)
    have be4 := below_grown (Below.allocS (belowP be bs1 d1') _) gr4 (by omega)
    replace hx := hx.later (below_grown (Below.allocS (Below.refl _ _) _) gr4 (by simp [size_plus]))
    clear gr4
    generalize w.heap.size + bs1.length = g4 at *
    go_wp2_with fail
    refine (H2.out _ be4).mono ?_
    rintro e w1 ⟨A3, n3, k3, bs2, d2, rfl, rfl, hy⟩
    have z3 := hX.lt
    go_upto_region 5 with (refine at_op (.store 129 (.tmp 7) (.tmp 27)) rfl ?_; refine wpList_stA (t := 129) 129 (.tmp 7) (.tmp 27) rfl rfl (wyC s6 sh sl d6 dh dl tl) (wyC false 0 0 false 0 0 0) rfl (wyC_one _ _ _ _ _ _ _) rfl rfl ?_ (szRWy _ _ _ _ _ _ _) ?_; (· refine Bk.newK _ _ _ ?_ rfl; simp [size_plus]); intro W6 hY gr6)
    have b6 := below_grown (Below.allocS (below_plus W4 bs2 d2) _) gr6 (by omega)
    replace be4 := be4.trans (b6.mono be4.size)
    replace hX := hX.later b6
    replace hx := hx.later b6
    replace hy := hy.later (below_grown (Below.allocS (Below.refl _ _) _) gr6 (by simp [size_plus]))
    clear gr6 b6 z3
    generalize W4.heap.size + bs2.length = g7 at *
    go_wp2_with fail
    refine (HS.out _ (h.later be4)).mono ?_
    rintro e w1 ⟨rfl, rfl⟩
    go_wp2_with fail
    refine (HR.out _ (h.later be4)).mono ?_
    rintro e w1 ⟨rfl, rfl⟩
    go_upto_region 12 with (fail)
    go_wp2
    refine wp_relS 31 70 rfl (by kernel_rfl) (by kernel_rfl) ?_
    apply Steps.one (MP.eq _) 1 rfl
    · intro o ho FA x hO hD K hK
      obtain rfl := Option.some.inj ho.symm
      clear ho
      have e3 := hO 3 (by kernel_rfl)
      simp only [eval_tmp, List.getElem?_toArray, List.getElem?_cons_succ, List.getElem?_cons_zero, Option.getD_some] at e3
      have ev3 := Lib.hid ((eval_tmp FA 3).trans e3)
      clear hO hD
      go_simp
      exact hK.out _ _ (Ex.refl _) rfl
    apply Steps.one (MP.eq _) 2 rfl
    · intro o ho FA x hO hD K hK
      obtain rfl := Option.some.inj ho.symm
      clear ho
      have ev40 : FA.eval (.tmp 40) = _ := hD 0 40 (by kernel_rfl)
      have e40 := (eval_tmp FA 40).symm.trans ev40
      replace ev40 := Lib.hid ev40
      clear hO hD
      have es := run_str bt Try.underlying9 (hx.plus_ x.bs x.d)
      go_simp
      exact hK.out _ _ (Ex.refl _) rfl
    apply Steps.one (MP.eq _) 3 rfl
    · intro o ho FA x hO hD K hK
      obtain rfl := Option.some.inj ho.symm
      clear ho
      have e6 := hO 6 (by kernel_rfl)
      simp only [eval_tmp, List.getElem?_toArray, List.getElem?_cons_succ, List.getElem?_cons_zero, Option.getD_some] at e6
      have ev6 := Lib.hid ((eval_tmp FA 6).trans e6)
      clear hO hD
      go_simp
      exact hK.out _ _ (Ex.refl _) rfl
    apply Steps.one (MP.eq _) 4 rfl
    · intro o ho FA x hO hD K hK
      obtain rfl := Option.some.inj ho.symm
      clear ho
      have ev42 : FA.eval (.tmp 42) = _ := hD 2 42 (by kernel_rfl)
      have e42 := (eval_tmp FA 42).symm.trans ev42
      replace ev42 := Lib.hid ev42
      clear hO hD
      have es := run_str bt Try.underlying9 (hy.plus_ x.bs x.d)
      go_simp
      exact hK.out _ _ (Ex.refl _) rfl
    apply Steps.one (MP.eq _) 5 rfl
    · intro o ho FA x hO hD K hK
      obtain rfl := Option.some.inj ho.symm
      clear ho
      have ev41 : FA.eval (.tmp 41) = _ := hD 1 41 (by kernel_rfl)
      have e41 := (eval_tmp FA 41).symm.trans ev41
      replace ev41 := Lib.hid ev41
      have ev43 : FA.eval (.tmp 43) = _ := hD 3 43 (by kernel_rfl)
      have e43 := (eval_tmp FA 43).symm.trans ev43
      replace ev43 := Lib.hid ev43
      clear hO hD
      go_simp
      exact hK.out _ _ (Ex.refl _) rfl
    apply Steps.one (MP.eq _) 6 rfl
    · intro o ho FA x hO hD K hK
      obtain rfl := Option.some.inj ho.symm
      clear ho
      have ev44 : FA.eval (.tmp 44) = _ := hD 4 44 (by kernel_rfl)
      have e44 := (eval_tmp FA 44).symm.trans ev44
      replace ev44 := Lib.hid ev44
      clear hO hD
      go_simp
      exact hK.out _ _ (Ex.refl _) rfl
    apply Steps.one (MP.eq _) 7 rfl
    · intro o ho FA x hO hD K hK
      obtain rfl := Option.some.inj ho.symm
      clear ho
      have e4 := hO 4 (by kernel_rfl)
      simp only [eval_tmp, List.getElem?_toArray, List.getElem?_cons_succ, List.getElem?_cons_zero, Option.getD_some] at e4
      have ev4 := Lib.hid ((eval_tmp FA 4).trans e4)
      have ev45 : FA.eval (.tmp 45) = _ := hD 5 45 (by kernel_rfl)
      have e45 := (eval_tmp FA 45).symm.trans ev45
      replace ev45 := Lib.hid ev45
      first | have ge45 := slot_of e45 | have ge45 := slot_un e45
      clear hO hD
      first | (refine wanted_ifG ?_ ?_; (· go_simp); refine wp_ldA 126 (.tmp 4) rfl (wyC s6 sh sl d6 dh dl tl) ev4.out (hX.later (below_plus _ _ _)) (whole_ _) y1 y2 (szWy _ _ _ _ _ _ _) ?_; exact hK.out _ _ (Ex.refl _) rfl) | (go_simp; exact hK.out _ _ (Ex.refl _) rfl)
    apply Steps.one (MP.eq _) 8 rfl
    · intro o ho FA x hO hD K hK
      obtain rfl := Option.some.inj ho.symm
      clear ho
      have e7 := hO 7 (by kernel_rfl)
      simp only [eval_tmp, List.getElem?_toArray, List.getElem?_cons_succ, List.getElem?_cons_zero, Option.getD_some] at e7
      have ev7 := Lib.hid ((eval_tmp FA 7).trans e7)
      have ev45 : FA.eval (.tmp 45) = _ := hD 5 45 (by kernel_rfl)
      have e45 := (eval_tmp FA 45).symm.trans ev45
      replace ev45 := Lib.hid ev45
      first | have ge45 := slot_of e45 | have ge45 := slot_un e45
      clear hO hD
      first | (refine wanted_ifG ?_ ?_; (· go_simp); refine wp_ldA 129 (.tmp 7) rfl (wyC s6 sh sl d6 dh dl tl) ev7.out (hY.later (below_plus _ _ _)) (whole_ _) r1 r2 (szRWy _ _ _ _ _ _ _) ?_; exact hK.out _ _ (Ex.refl _) rfl) | (go_simp; exact hK.out _ _ (Ex.refl _) rfl)
    apply Steps.one (MP.eq _) 9 rfl
    · intro o ho FA x hO hD K hK
      obtain rfl := Option.some.inj ho.symm
      clear ho
      have ev47 : FA.eval (.tmp 47) = _ := hD 7 47 (by kernel_rfl)
      have e47 := (eval_tmp FA 47).symm.trans ev47
      replace ev47 := Lib.hid ev47
      have ev45 : FA.eval (.tmp 45) = _ := hD 5 45 (by kernel_rfl)
      have e45 := (eval_tmp FA 45).symm.trans ev45
      replace ev45 := Lib.hid ev45
      first | have ge45 := slot_of e45 | have ge45 := slot_un e45
      clear hO hD
      first | (go_simp; exact hK.out _ _ (Ex.refl _) rfl) | (go_simp; refine (HTO.out _).mono ?_; rintro e w1 ⟨bs2, d2, rfl, rfl⟩; exact hK.out _ _ (Ex.plus_ _ _ _) rfl)
    apply Steps.one (MP.eq _) 10 rfl
    · intro o ho FA x hO hD K hK
      obtain rfl := Option.some.inj ho.symm
      clear ho
      have ev46 : FA.eval (.tmp 46) = _ := hD 6 46 (by kernel_rfl)
      have e46 := (eval_tmp FA 46).symm.trans ev46
      replace ev46 := Lib.hid ev46
      have ev48 : FA.eval (.tmp 48) = _ := hD 8 48 (by kernel_rfl)
      have e48 := (eval_tmp FA 48).symm.trans ev48
      replace ev48 := Lib.hid ev48
      have ev45 : FA.eval (.tmp 45) = _ := hD 5 45 (by kernel_rfl)
      have e45 := (eval_tmp FA 45).symm.trans ev45
      replace ev45 := Lib.hid ev45
      first | have ge45 := slot_of e45 | have ge45 := slot_un e45
      clear hO hD
      go_simp
      exact hK.out _ _ (Ex.refl _) rfl
    apply Steps.one (MP.eq _) 11 rfl
    · intro o ho FA x hO hD K hK
      obtain rfl := Option.some.inj ho.symm
      clear ho
      have ev45 : FA.eval (.tmp 45) = _ := hD 5 45 (by kernel_rfl)
      have e45 := (eval_tmp FA 45).symm.trans ev45
      replace ev45 := Lib.hid ev45
      have ev49 : FA.eval (.tmp 49) = _ := hD 9 49 (by kernel_rfl)
      have e49 := (eval_tmp FA 49).symm.trans ev49
      replace ev49 := Lib.hid ev49
      clear hO hD
      go_simp
      exact hK.out _ _ (Ex.refl _) rfl
    apply Steps.one (MP.eq _) 12 rfl
    · intro o ho FA x hO hD K hK
      obtain rfl := Option.some.inj ho.symm
      clear ho
      have ev50 : FA.eval (.tmp 50) = _ := hD 10 50 (by kernel_rfl)
      have e50 := (eval_tmp FA 50).symm.trans ev50
      replace ev50 := Lib.hid ev50
      clear hO hD
      go_simp
      exact hK.out _ _ (Ex.refl _) rfl
    apply Steps.one (MP.eq _) 13 rfl
    · intro o ho FA x hO hD K hK
      obtain rfl := Option.some.inj ho.symm
      clear ho
      have e5 := hO 5 (by kernel_rfl)
      simp only [eval_tmp, List.getElem?_toArray, List.getElem?_cons_succ, List.getElem?_cons_zero, Option.getD_some] at e5
      have ev5 := Lib.hid ((eval_tmp FA 5).trans e5)
      have ev51 : FA.eval (.tmp 51) = _ := hD 11 51 (by kernel_rfl)
      have e51 := (eval_tmp FA 51).symm.trans ev51
      replace ev51 := Lib.hid ev51
      first | have ge51 := slot_of e51 | have ge51 := slot_un e51
      clear hO hD
      go_simp
      exact hK.out _ _ (Ex.refl _) rfl
    apply Steps.one (MP.eq _) 14 rfl
    · intro o ho FA x hO hD K hK
      obtain rfl := Option.some.inj ho.symm
      clear ho
      have e8 := hO 8 (by kernel_rfl)
      simp only [eval_tmp, List.getElem?_toArray, List.getElem?_cons_succ, List.getElem?_cons_zero, Option.getD_some] at e8
      have ev8 := Lib.hid ((eval_tmp FA 8).trans e8)
      have ev51 : FA.eval (.tmp 51) = _ := hD 11 51 (by kernel_rfl)
      have e51 := (eval_tmp FA 51).symm.trans ev51
      replace ev51 := Lib.hid ev51
      first | have ge51 := slot_of e51 | have ge51 := slot_un e51
      clear hO hD
      go_simp
      exact hK.out _ _ (Ex.refl _) rfl
    apply Steps.one (MP.eq _) 15 rfl
    · intro o ho FA x hO hD K hK
      obtain rfl := Option.some.inj ho.symm
      clear ho
      have ev52 : FA.eval (.tmp 52) = _ := hD 12 52 (by kernel_rfl)
      have e52 := (eval_tmp FA 52).symm.trans ev52
      replace ev52 := Lib.hid ev52
      have ev53 : FA.eval (.tmp 53) = _ := hD 13 53 (by kernel_rfl)
      have e53 := (eval_tmp FA 53).symm.trans ev53
      replace ev53 := Lib.hid ev53
      have ev51 : FA.eval (.tmp 51) = _ := hD 11 51 (by kernel_rfl)
      have e51 := (eval_tmp FA 51).symm.trans ev51
      replace ev51 := Lib.hid ev51
      first | have ge51 := slot_of e51 | have ge51 := slot_un e51
      clear hO hD
      go_simp
      exact hK.out _ _ (Ex.refl _) rfl
    apply Steps.one (MP.eq _) 16 rfl
    · intro o ho FA x hO hD K hK
      obtain rfl := Option.some.inj ho.symm
      clear ho
      have ev51 : FA.eval (.tmp 51) = _ := hD 11 51 (by kernel_rfl)
      have e51 := (eval_tmp FA 51).symm.trans ev51
      replace ev51 := Lib.hid ev51
      have ev54 : FA.eval (.tmp 54) = _ := hD 14 54 (by kernel_rfl)
      have e54 := (eval_tmp FA 54).symm.trans ev54
      replace ev54 := Lib.hid ev54
      clear hO hD
      go_simp
      exact hK.out _ _ (Ex.refl _) rfl
    apply Steps.one (MP.eq _) 17 rfl
    · intro o ho FA x hO hD K hK
      obtain rfl := Option.some.inj ho.symm
      clear ho
      have ev55 : FA.eval (.tmp 55) = _ := hD 15 55 (by kernel_rfl)
      have e55 := (eval_tmp FA 55).symm.trans ev55
      replace ev55 := Lib.hid ev55
      clear hO hD
      go_simp
      exact hK.out _ _ (Ex.refl _) rfl
    apply Steps.one (MP.eq _) 18 rfl
    · intro o ho FA x hO hD K hK
      obtain rfl := Option.some.inj ho.symm
      clear ho
      have e9 := hO 9 (by kernel_rfl)
      simp only [eval_tmp, List.getElem?_toArray, List.getElem?_cons_succ, List.getElem?_cons_zero, Option.getD_some] at e9
      have ev9 := Lib.hid ((eval_tmp FA 9).trans e9)
      have ev56 : FA.eval (.tmp 56) = _ := hD 16 56 (by kernel_rfl)
      have e56 := (eval_tmp FA 56).symm.trans ev56
      replace ev56 := Lib.hid ev56
      first | have ge56 := slot_of e56 | have ge56 := slot_un e56
      clear hO hD
      go_simp
      exact hK.out _ _ (Ex.refl _) rfl
    apply Steps.one (MP.eq _) 19 rfl
    · intro o ho FA x hO hD K hK
      obtain rfl := Option.some.inj ho.symm
      clear ho
      have e11 := hO 11 (by kernel_rfl)
      simp only [eval_tmp, List.getElem?_toArray, List.getElem?_cons_succ, List.getElem?_cons_zero, Option.getD_some] at e11
      have ev11 := Lib.hid ((eval_tmp FA 11).trans e11)
      have ev56 : FA.eval (.tmp 56) = _ := hD 16 56 (by kernel_rfl)
      have e56 := (eval_tmp FA 56).symm.trans ev56
      replace ev56 := Lib.hid ev56
      first | have ge56 := slot_of e56 | have ge56 := slot_un e56
      clear hO hD
      go_simp
      exact hK.out _ _ (Ex.refl _) rfl
    apply Steps.one (MP.eq _) 20 rfl
    · intro o ho FA x hO hD K hK
      obtain rfl := Option.some.inj ho.symm
      clear ho
      have ev58 : FA.eval (.tmp 58) = _ := hD 18 58 (by kernel_rfl)
      have e58 := (eval_tmp FA 58).symm.trans ev58
      replace ev58 := Lib.hid ev58
      have ev56 : FA.eval (.tmp 56) = _ := hD 16 56 (by kernel_rfl)
      have e56 := (eval_tmp FA 56).symm.trans ev56
      replace ev56 := Lib.hid ev56
      first | have ge56 := slot_of e56 | have ge56 := slot_un e56
      clear hO hD
      go_simp
      exact hK.out _ _ (Ex.refl _) rfl
    apply Steps.one (MP.eq _) 21 rfl
    · intro o ho FA x hO hD K hK
      obtain rfl := Option.some.inj ho.symm
      clear ho
      have ev57 : FA.eval (.tmp 57) = _ := hD 17 57 (by kernel_rfl)
      have e57 := (eval_tmp FA 57).symm.trans ev57
      replace ev57 := Lib.hid ev57
      have ev59 : FA.eval (.tmp 59) = _ := hD 19 59 (by kernel_rfl)
      have e59 := (eval_tmp FA 59).symm.trans ev59
      replace ev59 := Lib.hid ev59
      have ev56 : FA.eval (.tmp 56) = _ := hD 16 56 (by kernel_rfl)
      have e56 := (eval_tmp FA 56).symm.trans ev56
      replace ev56 := Lib.hid ev56
      first | have ge56 := slot_of e56 | have ge56 := slot_un e56
      clear hO hD
      go_simp
      exact hK.out _ _ (Ex.refl _) rfl
    apply Steps.one (MP.eq _) 22 rfl
    · intro o ho FA x hO hD K hK
      obtain rfl := Option.some.inj ho.symm
      clear ho
      have ev56 : FA.eval (.tmp 56) = _ := hD 16 56 (by kernel_rfl)
      have e56 := (eval_tmp FA 56).symm.trans ev56
      replace ev56 := Lib.hid ev56
      have ev60 : FA.eval (.tmp 60) = _ := hD 20 60 (by kernel_rfl)
      have e60 := (eval_tmp FA 60).symm.trans ev60
      replace ev60 := Lib.hid ev60
      clear hO hD
      go_simp
      exact hK.out _ _ (Ex.refl _) rfl
    apply Steps.one (MP.eq _) 23 rfl
    · intro o ho FA x hO hD K hK
      obtain rfl := Option.some.inj ho.symm
      clear ho
      have ev61 : FA.eval (.tmp 61) = _ := hD 21 61 (by kernel_rfl)
      have e61 := (eval_tmp FA 61).symm.trans ev61
      replace ev61 := Lib.hid ev61
      clear hO hD
      go_simp
      exact hK.out _ _ (Ex.refl _) rfl
    apply Steps.one (MP.eq _) 24 rfl
    · intro o ho FA x hO hD K hK
      obtain rfl := Option.some.inj ho.symm
      clear ho
      have e10 := hO 10 (by kernel_rfl)
      simp only [eval_tmp, List.getElem?_toArray, List.getElem?_cons_succ, List.getElem?_cons_zero, Option.getD_some] at e10
      have ev10 := Lib.hid ((eval_tmp FA 10).trans e10)
      have ev62 : FA.eval (.tmp 62) = _ := hD 22 62 (by kernel_rfl)
      have e62 := (eval_tmp FA 62).symm.trans ev62
      replace ev62 := Lib.hid ev62
      first | have ge62 := slot_of e62 | have ge62 := slot_un e62
      clear hO hD
      go_simp
      exact hK.out _ _ (Ex.refl _) rfl
    apply Steps.one (MP.eq _) 25 rfl
    · intro o ho FA x hO hD K hK
      obtain rfl := Option.some.inj ho.symm
      clear ho
      have e12 := hO 12 (by kernel_rfl)
      simp only [eval_tmp, List.getElem?_toArray, List.getElem?_cons_succ, List.getElem?_cons_zero, Option.getD_some] at e12
      have ev12 := Lib.hid ((eval_tmp FA 12).trans e12)
      have ev62 : FA.eval (.tmp 62) = _ := hD 22 62 (by kernel_rfl)
      have e62 := (eval_tmp FA 62).symm.trans ev62
      replace ev62 := Lib.hid ev62
      first | have ge62 := slot_of e62 | have ge62 := slot_un e62
      clear hO hD
      go_simp
      exact hK.out _ _ (Ex.refl _) rfl
    apply Steps.one (MP.eq _) 26 rfl
    · intro o ho FA x hO hD K hK
      obtain rfl := Option.some.inj ho.symm
      clear ho
      have ev63 : FA.eval (.tmp 63) = _ := hD 23 63 (by kernel_rfl)
      have e63 := (eval_tmp FA 63).symm.trans ev63
      replace ev63 := Lib.hid ev63
      have ev64 : FA.eval (.tmp 64) = _ := hD 24 64 (by kernel_rfl)
      have e64 := (eval_tmp FA 64).symm.trans ev64
      replace ev64 := Lib.hid ev64
      have ev62 : FA.eval (.tmp 62) = _ := hD 22 62 (by kernel_rfl)
      have e62 := (eval_tmp FA 62).symm.trans ev62
      replace ev62 := Lib.hid ev62
      first | have ge62 := slot_of e62 | have ge62 := slot_un e62
      clear hO hD
      go_simp
      exact hK.out _ _ (Ex.refl _) rfl
    apply Steps.one (MP.eq _) 27 rfl
    · intro o ho FA x hO hD K hK
      obtain rfl := Option.some.inj ho.symm
      clear ho
      have ev62 : FA.eval (.tmp 62) = _ := hD 22 62 (by kernel_rfl)
      have e62 := (eval_tmp FA 62).symm.trans ev62
      replace ev62 := Lib.hid ev62
      have ev65 : FA.eval (.tmp 65) = _ := hD 25 65 (by kernel_rfl)
      have e65 := (eval_tmp FA 65).symm.trans ev65
      replace ev65 := Lib.hid ev65
      clear hO hD
      go_simp
      exact hK.out _ _ (Ex.refl _) rfl
    apply Steps.one (MP.eq _) 28 rfl
    · intro o ho FA x hO hD K hK
      obtain rfl := Option.some.inj ho.symm
      clear ho
      have ev66 : FA.eval (.tmp 66) = _ := hD 26 66 (by kernel_rfl)
      have e66 := (eval_tmp FA 66).symm.trans ev66
      replace ev66 := Lib.hid ev66
      clear hO hD
      go_simp
      exact hK.out _ _ (Ex.refl _) rfl
    apply Steps.one (MP.eq _) 29 rfl
    · intro o ho FA x hO hD K hK
      obtain rfl := Option.some.inj ho.symm
      clear ho
      have ev67 : FA.eval (.tmp 67) = _ := hD 27 67 (by kernel_rfl)
      have e67 := (eval_tmp FA 67).symm.trans ev67
      replace ev67 := Lib.hid ev67
      first | have ge67 := slot_of e67 | have ge67 := slot_un e67
      clear hO hD
      first | (go_simp; exact hK.out _ _ (Ex.refl _) rfl) | (go_simp; refine (HAW.out _).mono ?_; rintro e w1 ⟨bs2, d2, rfl, rfl⟩; exact hK.out _ _ (Ex.plus_ _ _ _) rfl)
    apply Steps.one (MP.eq _) 30 rfl
    · intro o ho FA x hO hD K hK
      obtain rfl := Option.some.inj ho.symm
      clear ho
      have ev67 : FA.eval (.tmp 67) = _ := hD 27 67 (by kernel_rfl)
      have e67 := (eval_tmp FA 67).symm.trans ev67
      replace ev67 := Lib.hid ev67
      have ev68 : FA.eval (.tmp 68) = _ := hD 28 68 (by kernel_rfl)
      have e68 := (eval_tmp FA 68).symm.trans ev68
      replace ev68 := Lib.hid ev68
      clear hO hD
      go_simp
      exact hK.out _ _ (Ex.refl _) rfl
    apply Steps.one (MP.eq _) 31 rfl
    · intro o ho FA x hO hD K hK
      obtain rfl := Option.some.inj ho.symm
      clear ho
      have ev69 : FA.eval (.tmp 69) = _ := hD 29 69 (by kernel_rfl)
      have e69 := (eval_tmp FA 69).symm.trans ev69
      replace ev69 := Lib.hid ev69
      clear hO hD
      go_simp
      exact hK.out _ _ (Ex.refl _) rfl
    refine Steps.fin_ (fun vs x hp => ?_)
    have p0 : vs 0 = _ := hp 0 (by omega)
    have p1 : vs 1 = _ := hp 1 (by omega)
    have p2 : vs 2 = _ := hp 2 (by omega)
    have p3 : vs 3 = _ := hp 3 (by omega)
    have p4 : vs 4 = _ := hp 4 (by omega)
    have p5 : vs 5 = _ := hp 5 (by omega)
    have p6 : vs 6 = _ := hp 6 (by omega)
    have p7 : vs 7 = _ := hp 7 (by omega)
    have p8 : vs 8 = _ := hp 8 (by omega)
    have p9 : vs 9 = _ := hp 9 (by omega)
    have p10 : vs 10 = _ := hp 10 (by omega)
    have p11 : vs 11 = _ := hp 11 (by omega)
    have p12 : vs 12 = _ := hp 12 (by omega)
    have p13 : vs 13 = _ := hp 13 (by omega)
    have p14 : vs 14 = _ := hp 14 (by omega)
    have p15 : vs 15 = _ := hp 15 (by omega)
    have p16 : vs 16 = _ := hp 16 (by omega)
    have p17 : vs 17 = _ := hp 17 (by omega)
    have p18 : vs 18 = _ := hp 18 (by omega)
    have p19 : vs 19 = _ := hp 19 (by omega)
    have p20 : vs 20 = _ := hp 20 (by omega)
    have p21 : vs 21 = _ := hp 21 (by omega)
    have p22 : vs 22 = _ := hp 22 (by omega)
    have p23 : vs 23 = _ := hp 23 (by omega)
    have p24 : vs 24 = _ := hp 24 (by omega)
    have p25 : vs 25 = _ := hp 25 (by omega)
    have p26 : vs 26 = _ := hp 26 (by omega)
    have p27 : vs 27 = _ := hp 27 (by omega)
    have p28 : vs 28 = _ := hp 28 (by omega)
    have p29 : vs 29 = _ := hp 29 (by omega)
    have p30 : vs 30 = _ := hp 30 (by omega)
    clear hp
    simp only [List.take_succ_cons, List.take_zero, List.drop_succ_cons, List.drop_zero, putAll, Nat.zero_add, Nat.reduceAdd, Act.put, List.setIfInBounds_toArray, List.set_cons_zero, List.set_cons_succ, p0, p1, p2, p3, p4, p5, p6, p7, p8, p9, p10, p11, p12, p13, p14, p15, p16, p17, p18, p19, p20, p21, p22, p23, p24, p25, p26, p27, p28, p29, p30]
    clear p0 p1 p2 p3 p4 p5 p6 p7 p8 p9 p10 p11 p12 p13 p14 p15 p16 p17 p18 p19 p20 p21 p22 p23 p24 p25 p26 p27 p28 p29 p30
    clear vs
    go_wp2
    go_ret
    exact ⟨rfl, belowP be4 _ _⟩
  case four b r hb =>
    clear hb
    go_enter Try.func12, Try.ntmps12
    go_wp2_with fail
    refine (H1.out _ be).mono ?_
    rintro e w1 ⟨A2, n2, k2, bs1, d1', rfl, rfl, hx⟩
    go_upto_region 4 with (refine at_op (.store 126 (.tmp 4) (.tmp 21)) rfl ?_; refine wpList_stA (t := 126) 126 (.tmp 4) (.tmp 21) rfl rfl (wyC s6 sh sl d6 dh dl tl) (wyC false 0 0 false 0 0 0) rfl (wyC_one _ _ _ _ _ _ _) rfl rfl ?_ (szWy _ _ _ _ _ _ _) ?_; (· refine Bk.newK _ _ _ ?_ rfl; simp [size_plus]); intro W4 hX gr4)
    have be4 := below_grown (Below.allocS (belowP be bs1 d1') _) gr4 (by omega)
    replace hx := hx.later (below_grown (Below.allocS (Below.refl _ _) _) gr4 (by simp [size_plus]))
    clear gr4
    generalize w.heap.size + bs1.length = g4 at *
    go_wp2_with fail
    refine (H2.out _ be4).mono ?_
    rintro e w1 ⟨A3, n3, k3, bs2, d2, rfl, rfl, hy⟩
    have z3 := hX.lt
    go_upto_region 5 with (refine at_op (.store 129 (.tmp 7) (.tmp 27)) rfl ?_; refine wpList_stA (t := 129) 129 (.tmp 7) (.tmp 27) rfl rfl (wyC s6 sh sl d6 dh dl tl) (wyC false 0 0 false 0 0 0) rfl (wyC_one _ _ _ _ _ _ _) rfl rfl ?_ (szRWy _ _ _ _ _ _ _) ?_; (· refine Bk.newK _ _ _ ?_ rfl; simp [size_plus]); intro W6 hY gr6)
    have b6 := below_grown (Below.allocS (below_plus W4 bs2 d2) _) gr6 (by omega)
    replace be4 := be4.trans (b6.mono be4.size)
    replace hX := hX.later b6
    replace hx := hx.later b6
    replace hy := hy.later (below_grown (Below.allocS (Below.refl _ _) _) gr6 (by simp [size_plus]))
    clear gr6 b6 z3
    generalize W4.heap.size + bs2.length = g7 at *
    go_wp2_with fail
    refine (HS.out _ (h.later be4)).mono ?_
    rintro e w1 ⟨rfl, rfl⟩
    go_wp2_with fail
    refine (HR.out _ (h.later be4)).mono ?_
    rintro e w1 ⟨rfl, rfl⟩
    go_upto_region 12 with (fail)
    go_wp2
    refine wp_relS 31 70 rfl (by kernel_rfl) (by kernel_rfl) ?_
    apply Steps.one (MP.eq _) 1 rfl
    · intro o ho FA x hO hD K hK
      obtain rfl := Option.some.inj ho.symm
      clear ho
      have e3 := hO 3 (by kernel_rfl)
      simp only [eval_tmp, List.getElem?_toArray, List.getElem?_cons_succ, List.getElem?_cons_zero, Option.getD_some] at e3
      have ev3 := Lib.hid ((eval_tmp FA 3).trans e3)
      clear hO hD
      go_simp
      exact hK.out _ _ (Ex.refl _) rfl
    apply Steps.one (MP.eq _) 2 rfl
    · intro o ho FA x hO hD K hK
      obtain rfl := Option.some.inj ho.symm
      clear ho
      have ev40 : FA.eval (.tmp 40) = _ := hD 0 40 (by kernel_rfl)
      have e40 := (eval_tmp FA 40).symm.trans ev40
      replace ev40 := Lib.hid ev40
      clear hO hD
      have es := run_str bt Try.underlying9 (hx.plus_ x.bs x.d)
      go_simp
      exact hK.out _ _ (Ex.refl _) rfl
    apply Steps.one (MP.eq _) 3 rfl
    · intro o ho FA x hO hD K hK
      obtain rfl := Option.some.inj ho.symm
      clear ho
      have e6 := hO 6 (by kernel_rfl)
      simp only [eval_tmp, List.getElem?_toArray, List.getElem?_cons_succ, List.getElem?_cons_zero, Option.getD_some] at e6
      have ev6 := Lib.hid ((eval_tmp FA 6).trans e6)
      clear hO hD
      go_simp
      exact hK.out _ _ (Ex.refl _) rfl
    apply Steps.one (MP.eq _) 4 rfl
    · intro o ho FA x hO hD K hK
      obtain rfl := Option.some.inj ho.symm
      clear ho
      have ev42 : FA.eval (.tmp 42) = _ := hD 2 42 (by kernel_rfl)
      have e42 := (eval_tmp FA 42).symm.trans ev42
      replace ev42 := Lib.hid ev42
      clear hO hD
      have es := run_str bt Try.underlying9 (hy.plus_ x.bs x.d)
      go_simp
      exact hK.out _ _ (Ex.refl _) rfl
    apply Steps.one (MP.eq _) 5 rfl
    · intro o ho FA x hO hD K hK
      obtain rfl := Option.some.inj ho.symm
      clear ho
      have ev41 : FA.eval (.tmp 41) = _ := hD 1 41 (by kernel_rfl)
      have e41 := (eval_tmp FA 41).symm.trans ev41
      replace ev41 := Lib.hid ev41
      have ev43 : FA.eval (.tmp 43) = _ := hD 3 43 (by kernel_rfl)
      have e43 := (eval_tmp FA 43).symm.trans ev43
      replace ev43 := Lib.hid ev43
      clear hO hD
      go_simp
      exact hK.out _ _ (Ex.refl _) rfl
    apply Steps.one (MP.eq _) 6 rfl
    · intro o ho FA x hO hD K hK
      obtain rfl := Option.some.inj ho.symm
      clear ho
      have ev44 : FA.eval (.tmp 44) = _ := hD 4 44 (by kernel_rfl)
      have e44 := (eval_tmp FA 44).symm.trans ev44
      replace ev44 := Lib.hid ev44
      clear hO hD
      go_simp
      exact hK.out _ _ (Ex.refl _) rfl
    apply Steps.one (MP.eq _) 7 rfl
    · intro o ho FA x hO hD K hK
      obtain rfl := Option.some.inj ho.symm
      clear ho
      have e4 := hO 4 (by kernel_rfl)
      simp only [eval_tmp, List.getElem?_toArray, List.getElem?_cons_succ, List.getElem?_cons_zero, Option.getD_some] at e4
      have ev4 := Lib.hid ((eval_tmp FA 4).trans e4)
      have ev45 : FA.eval (.tmp 45) = _ := hD 5 45 (by kernel_rfl)
      have e45 := (eval_tmp FA 45).symm.trans ev45
      replace ev45 := Lib.hid ev45
      first | have ge45 := slot_of e45 | have ge45 := slot_un e45
      clear hO hD
      first | (refine wanted_ifG ?_ ?_; (· go_simp); refine wp_ldA 126 (.tmp 4) rfl (wyC s6 sh sl d6 dh dl tl) ev4.out (hX.later (below_plus _ _ _)) (whole_ _) y1 y2 (szWy _ _ _ _ _ _ _) ?_; exact hK.out _ _ (Ex.refl _) rfl) | (go_simp; exact hK.out _ _ (Ex.refl _) rfl)
    apply Steps.one (MP.eq _) 8 rfl
    · intro o ho FA x hO hD K hK
      obtain rfl := Option.some.inj ho.symm
      clear ho
      have e7 := hO 7 (by kernel_rfl)
      simp only [eval_tmp, List.getElem?_toArray, List.getElem?_cons_succ, List.getElem?_cons_zero, Option.getD_some] at e7
      have ev7 := Lib.hid ((eval_tmp FA 7).trans e7)
      have ev45 : FA.eval (.tmp 45) = _ := hD 5 45 (by kernel_rfl)
      have e45 := (eval_tmp FA 45).symm.trans ev45
      replace ev45 := Lib.hid ev45
      first | have ge45 := slot_of e45 | have ge45 := slot_un e45
      clear hO hD
      first | (refine wanted_ifG ?_ ?_; (· go_simp); refine wp_ldA 129 (.tmp 7) rfl (wyC s6 sh sl d6 dh dl tl) ev7.out (hY.later (below_plus _ _ _)) (whole_ _) r1 r2 (szRWy _ _ _ _ _ _ _) ?_; exact hK.out _ _ (Ex.refl _) rfl) | (go_simp; exact hK.out _ _ (Ex.refl _) rfl)
    apply Steps.one (MP.eq _) 9 rfl
    · intro o ho FA x hO hD K hK
      obtain rfl := Option.some.inj ho.symm
      clear ho
      have ev47 : FA.eval (.tmp 47) = _ := hD 7 47 (by kernel_rfl)
      have e47 := (eval_tmp FA 47).symm.trans ev47
      replace ev47 := Lib.hid ev47
      have ev45 : FA.eval (.tmp 45) = _ := hD 5 45 (by kernel_rfl)
      have e45 := (eval_tmp FA 45).symm.trans ev45
      replace ev45 := Lib.hid ev45
      first | have ge45 := slot_of e45 | have ge45 := slot_un e45
      clear hO hD
      first | (go_simp; exact hK.out _ _ (Ex.refl _) rfl) | (go_simp; refine (HTO.out _).mono ?_; rintro e w1 ⟨bs2, d2, rfl, rfl⟩; exact hK.out _ _ (Ex.plus_ _ _ _) rfl)
    apply Steps.one (MP.eq _) 10 rfl
    · intro o ho FA x hO hD K hK
      obtain rfl := Option.some.inj ho.symm
      clear ho
      have ev46 : FA.eval (.tmp 46) = _ := hD 6 46 (by kernel_rfl)
      have e46 := (eval_tmp FA 46).symm.trans ev46
      replace ev46 := Lib.hid ev46
      have ev48 : FA.eval (.tmp 48) = _ := hD 8 48 (by kernel_rfl)
      have e48 := (eval_tmp FA 48).symm.trans ev48
      replace ev48 := Lib.hid ev48
      have ev45 : FA.eval (.tmp 45) = _ := hD 5 45 (by kernel_rfl)
      have e45 := (eval_tmp FA 45).symm.trans ev45
      replace ev45 := Lib.hid ev45
      first | have ge45 := slot_of e45 | have ge45 := slot_un e45
      clear hO hD
      go_simp
      exact hK.out _ _ (Ex.refl _) rfl
    apply Steps.one (MP.eq _) 11 rfl
    · intro o ho FA x hO hD K hK
      obtain rfl := Option.some.inj ho.symm
      clear ho
      have ev45 : FA.eval (.tmp 45) = _ := hD 5 45 (by kernel_rfl)
      have e45 := (eval_tmp FA 45).symm.trans ev45
      replace ev45 := Lib.hid ev45
      have ev49 : FA.eval (.tmp 49) = _ := hD 9 49 (by kernel_rfl)
      have e49 := (eval_tmp FA 49).symm.trans ev49
      replace ev49 := Lib.hid ev49
      clear hO hD
      go_simp
      exact hK.out _ _ (Ex.refl _) rfl
    apply Steps.one (MP.eq _) 12 rfl
    · intro o ho FA x hO hD K hK
      obtain rfl := Option.some.inj ho.symm
      clear ho
      have ev50 : FA.eval (.tmp 50) = _ := hD 10 50 (by kernel_rfl)
      have e50 := (eval_tmp FA 50).symm.trans ev50
      replace ev50 := Lib.hid ev50
      clear hO hD
      go_simp
      exact hK.out _ _ (Ex.refl _) rfl
    apply Steps.one (MP.eq _) 13 rfl
    · intro o ho FA x hO hD K hK
      obtain rfl := Option.some.inj ho.symm
      clear ho
      have e5 := hO 5 (by kernel_rfl)
      simp only [eval_tmp, List.getElem?_toArray, List.getElem?_cons_succ, List.getElem?_cons_zero, Option.getD_some] at e5
      have ev5 := Lib.hid ((eval_tmp FA 5).trans e5)
      have ev51 : FA.eval (.tmp 51) = _ := hD 11 51 (by kernel_rfl)
      have e51 := (eval_tmp FA 51).symm.trans ev51
      replace ev51 := Lib.hid ev51
      first | have ge51 := slot_of e51 | have ge51 := slot_un e51
      clear hO hD
      go_simp
      exact hK.out _ _ (Ex.refl _) rfl
    apply Steps.one (MP.eq _) 14 rfl
    · intro o ho FA x hO hD K hK
      obtain rfl := Option.some.inj ho.symm
      clear ho
      have e8 := hO 8 (by kernel_rfl)
      simp only [eval_tmp, List.getElem?_toArray, List.getElem?_cons_succ, List.getElem?_cons_zero, Option.getD_some] at e8
      have ev8 := Lib.hid ((eval_tmp FA 8).trans e8)
      have ev51 : FA.eval (.tmp 51) = _ := hD 11 51 (by kernel_rfl)
      have e51 := (eval_tmp FA 51).symm.trans ev51
      replace ev51 := Lib.hid ev51
      first | have ge51 := slot_of e51 | have ge51 := slot_un e51
      clear hO hD
      go_simp
      exact hK.out _ _ (Ex.refl _) rfl
    apply Steps.one (MP.eq _) 15 rfl
    · intro o ho FA x hO hD K hK
      obtain rfl := Option.some.inj ho.symm
      clear ho
      have ev52 : FA.eval (.tmp 52) = _ := hD 12 52 (by kernel_rfl)
      have e52 := (eval_tmp FA 52).symm.trans ev52
      replace ev52 := Lib.hid ev52
      have ev53 : FA.eval (.tmp 53) = _ := hD 13 53 (by kernel_rfl)
      have e53 := (eval_tmp FA 53).symm.trans ev53
      replace ev53 := Lib.hid ev53
      have ev51 : FA.eval (.tmp 51) = _ := hD 11 51 (by kernel_rfl)
      have e51 := (eval_tmp FA 51).symm.trans ev51
      replace ev51 := Lib.hid ev51
      first | have ge51 := slot_of e51 | have ge51 := slot_un e51
      clear hO hD
      go_simp
      exact hK.out _ _ (Ex.refl _) rfl
    apply Steps.one (MP.eq _) 16 rfl
    · intro o ho FA x hO hD K hK
      obtain rfl := Option.some.inj ho.symm
      clear ho
      have ev51 : FA.eval (.tmp 51) = _ := hD 11 51 (by kernel_rfl)
      have e51 := (eval_tmp FA 51).symm.trans ev51
      replace ev51 := Lib.hid ev51
      have ev54 : FA.eval (.tmp 54) = _ := hD 14 54 (by kernel_rfl)
      have e54 := (eval_tmp FA 54).symm.trans ev54
      replace ev54 := Lib.hid ev54
      clear hO hD
      go_simp
      exact hK.out _ _ (Ex.refl _) rfl
    apply Steps.one (MP.eq _) 17 rfl
    · intro o ho FA x hO hD K hK
      obtain rfl := Option.some.inj ho.symm
      clear ho
      have ev55 : FA.eval (.tmp 55) = _ := hD 15 55 (by kernel_rfl)
      have e55 := (eval_tmp FA 55).symm.trans ev55
      replace ev55 := Lib.hid ev55
      clear hO hD
      go_simp
      exact hK.out _ _ (Ex.refl _) rfl
    apply Steps.one (MP.eq _) 18 rfl
    · intro o ho FA x hO hD K hK
      obtain rfl := Option.some.inj ho.symm
      clear ho
      have e9 := hO 9 (by kernel_rfl)
      simp only [eval_tmp, List.getElem?_toArray, List.getElem?_cons_succ, List.getElem?_cons_zero, Option.getD_some] at e9
      have ev9 := Lib.hid ((eval_tmp FA 9).trans e9)
      have ev56 : FA.eval (.tmp 56) = _ := hD 16 56 (by kernel_rfl)
      have e56 := (eval_tmp FA 56).symm.trans ev56
      replace ev56 := Lib.hid ev56
      first | have ge56 := slot_of e56 | have ge56 := slot_un e56
      clear hO hD
      go_simp
      exact hK.out _ _ (Ex.refl _) rfl
    apply Steps.one (MP.eq _) 19 rfl
    · intro o ho FA x hO hD K hK
      obtain rfl := Option.some.inj ho.symm
      clear ho
      have e11 := hO 11 (by kernel_rfl)
      simp only [eval_tmp, List.getElem?_toArray, List.getElem?_cons_succ, List.getElem?_cons_zero, Option.getD_some] at e11
      have ev11 := Lib.hid ((eval_tmp FA 11).trans e11)
      have ev56 : FA.eval (.tmp 56) = _ := hD 16 56 (by kernel_rfl)
      have e56 := (eval_tmp FA 56).symm.trans ev56
      replace ev56 := Lib.hid ev56
      first | have ge56 := slot_of e56 | have ge56 := slot_un e56
      clear hO hD
      go_simp
      exact hK.out _ _ (Ex.refl _) rfl
    apply Steps.one (MP.eq _) 20 rfl
    · intro o ho FA x hO hD K hK
      obtain rfl := Option.some.inj ho.symm
      clear ho
      have ev58 : FA.eval (.tmp 58) = _ := hD 18 58 (by kernel_rfl)
      have e58 := (eval_tmp FA 58).symm.trans ev58
      replace ev58 := Lib.hid ev58
      have ev56 : FA.eval (.tmp 56) = _ := hD 16 56 (by kernel_rfl)
      have e56 := (eval_tmp FA 56).symm.trans ev56
      replace ev56 := Lib.hid ev56
      first | have ge56 := slot_of e56 | have ge56 := slot_un e56
      clear hO hD
      go_simp
      exact hK.out _ _ (Ex.refl _) rfl
    apply Steps.one (MP.eq _) 21 rfl
    · intro o ho FA x hO hD K hK
      obtain rfl := Option.some.inj ho.symm
      clear ho
      have ev57 : FA.eval (.tmp 57) = _ := hD 17 57 (by kernel_rfl)
      have e57 := (eval_tmp FA 57).symm.trans ev57
      replace ev57 := Lib.hid ev57
      have ev59 : FA.eval (.tmp 59) = _ := hD 19 59 (by kernel_rfl)
      have e59 := (eval_tmp FA 59).symm.trans ev59
      replace ev59 := Lib.hid ev59
      have ev56 : FA.eval (.tmp 56) = _ := hD 16 56 (by kernel_rfl)
      have e56 := (eval_tmp FA 56).symm.trans ev56
      replace ev56 := Lib.hid ev56
      first | have ge56 := slot_of e56 | have ge56 := slot_un e56
      clear hO hD
      go_simp
      exact hK.out _ _ (Ex.refl _) rfl
    apply Steps.one (MP.eq _) 22 rfl
    · intro o ho FA x hO hD K hK
      obtain rfl := Option.some.inj ho.symm
      clear ho
      have ev56 : FA.eval (.tmp 56) = _ := hD 16 56 (by kernel_rfl)
      have e56 := (eval_tmp FA 56).symm.trans ev56
      replace ev56 := Lib.hid ev56
      have ev60 : FA.eval (.tmp 60) = _ := hD 20 60 (by kernel_rfl)
      have e60 := (eval_tmp FA 60).symm.trans ev60
      replace ev60 := Lib.hid ev60
      clear hO hD
      go_simp
      exact hK.out _ _ (Ex.refl _) rfl
    apply Steps.one (MP.eq _) 23 rfl
    · intro o ho FA x hO hD K hK
      obtain rfl := Option.some.inj ho.symm
      clear ho
      have ev61 : FA.eval (.tmp 61) = _ := hD 21 61 (by kernel_rfl)
      have e61 := (eval_tmp FA 61).symm.trans ev61
      replace ev61 := Lib.hid ev61
      clear hO hD
      go_simp
      exact hK.out _ _ (Ex.refl _) rfl
    apply Steps.one (MP.eq _) 24 rfl
    · intro o ho FA x hO hD K hK
      obtain rfl := Option.some.inj ho.symm
      clear ho
      have e10 := hO 10 (by kernel_rfl)
      simp only [eval_tmp, List.getElem?_toArray, List.getElem?_cons_succ, List.getElem?_cons_zero, Option.getD_some] at e10
      have ev10 := Lib.hid ((eval_tmp FA 10).trans e10)
      have ev62 : FA.eval (.tmp 62) = _ := hD 22 62 (by kernel_rfl)
      have e62 := (eval_tmp FA 62).symm.trans ev62
      replace ev62 := Lib.hid ev62
      first | have ge62 := slot_of e62 | have ge62 := slot_un e62
      clear hO hD
      go_simp
      exact hK.out _ _ (Ex.refl _) rfl
    apply Steps.one (MP.eq _) 25 rfl
    · intro o ho FA x hO hD K hK
      obtain rfl := Option.some.inj ho.symm
      clear ho
      have e12 := hO 12 (by kernel_rfl)
      simp only [eval_tmp, List.getElem?_toArray, List.getElem?_cons_succ, List.getElem?_cons_zero, Option.getD_some] at e12
      have ev12 := Lib.hid ((eval_tmp FA 12).trans e12)
      have ev62 : FA.eval (.tmp 62) = _ := hD 22 62 (by kernel_rfl)
      have e62 := (eval_tmp FA 62).symm.trans ev62
      replace ev62 := Lib.hid ev62
      first | have ge62 := slot_of e62 | have ge62 := slot_un e62
      clear hO hD
      go_simp
      exact hK.out _ _ (Ex.refl _) rfl
    apply Steps.one (MP.eq _) 26 rfl
    · intro o ho FA x hO hD K hK
      obtain rfl := Option.some.inj ho.symm
      clear ho
      have ev63 : FA.eval (.tmp 63) = _ := hD 23 63 (by kernel_rfl)
      have e63 := (eval_tmp FA 63).symm.trans ev63
      replace ev63 := Lib.hid ev63
      have ev64 : FA.eval (.tmp 64) = _ := hD 24 64 (by kernel_rfl)
      have e64 := (eval_tmp FA 64).symm.trans ev64
      replace ev64 := Lib.hid ev64
      have ev62 : FA.eval (.tmp 62) = _ := hD 22 62 (by kernel_rfl)
      have e62 := (eval_tmp FA 62).symm.trans ev62
      replace ev62 := Lib.hid ev62
      first | have ge62 := slot_of e62 | have ge62 := slot_un e62
      clear hO hD
      go_simp
      exact hK.out _ _ (Ex.refl _) rfl
    apply Steps.one (MP.eq _) 27 rfl
    · intro o ho FA x hO hD K hK
      obtain rfl := Option.some.inj ho.symm
      clear ho
      have ev62 : FA.eval (.tmp 62) = _ := hD 22 62 (by kernel_rfl)
      have e62 := (eval_tmp FA 62).symm.trans ev62
      replace ev62 := Lib.hid ev62
      have ev65 : FA.eval (.tmp 65) = _ := hD 25 65 (by kernel_rfl)
      have e65 := (eval_tmp FA 65).symm.trans ev65
      replace ev65 := Lib.hid ev65
      clear hO hD
      go_simp
      exact hK.out _ _ (Ex.refl _) rfl
    apply Steps.one (MP.eq _) 28 rfl
    · intro o ho FA x hO hD K hK
      obtain rfl := Option.some.inj ho.symm
      clear ho
      have ev66 : FA.eval (.tmp 66) = _ := hD 26 66 (by kernel_rfl)
      have e66 := (eval_tmp FA 66).symm.trans ev66
      replace ev66 := Lib.hid ev66
      clear hO hD
      go_simp
      exact hK.out _ _ (Ex.refl _) rfl
    apply Steps.one (MP.eq _) 29 rfl
    · intro o ho FA x hO hD K hK
      obtain rfl := Option.some.inj ho.symm
      clear ho
      have ev67 : FA.eval (.tmp 67) = _ := hD 27 67 (by kernel_rfl)
      have e67 := (eval_tmp FA 67).symm.trans ev67
      replace ev67 := Lib.hid ev67
      first | have ge67 := slot_of e67 | have ge67 := slot_un e67
      clear hO hD
      first | (go_simp; exact hK.out _ _ (Ex.refl _) rfl) | (go_simp; refine (HAW.out _).mono ?_; rintro e w1 ⟨bs2, d2, rfl, rfl⟩; exact hK.out _ _ (Ex.plus_ _ _ _) rfl)
    apply Steps.one (MP.eq _) 30 rfl
    · intro o ho FA x hO hD K hK
      obtain rfl := Option.some.inj ho.symm
      clear ho
      have ev67 : FA.eval (.tmp 67) = _ := hD 27 67 (by kernel_rfl)
      have e67 := (eval_tmp FA 67).symm.trans ev67
      replace ev67 := Lib.hid ev67
      have ev68 : FA.eval (.tmp 68) = _ := hD 28 68 (by kernel_rfl)
      have e68 := (eval_tmp FA 68).symm.trans ev68
      replace ev68 := Lib.hid ev68
      clear hO hD
      go_simp
      exact hK.out _ _ (Ex.refl _) rfl
    apply Steps.one (MP.eq _) 31 rfl
    · intro o ho FA x hO hD K hK
      obtain rfl := Option.some.inj ho.symm
      clear ho
      have ev69 : FA.eval (.tmp 69) = _ := hD 29 69 (by kernel_rfl)
      have e69 := (eval_tmp FA 69).symm.trans ev69
      replace ev69 := Lib.hid ev69
      clear hO hD
      go_simp
      exact hK.out _ _ (Ex.refl _) rfl
    refine Steps.fin_ (fun vs x hp => ?_)
    have p0 : vs 0 = _ := hp 0 (by omega)
    have p1 : vs 1 = _ := hp 1 (by omega)
    have p2 : vs 2 = _ := hp 2 (by omega)
    have p3 : vs 3 = _ := hp 3 (by omega)
    have p4 : vs 4 = _ := hp 4 (by omega)
    have p5 : vs 5 = _ := hp 5 (by omega)
    have p6 : vs 6 = _ := hp 6 (by omega)
    have p7 : vs 7 = _ := hp 7 (by omega)
    have p8 : vs 8 = _ := hp 8 (by omega)
    have p9 : vs 9 = _ := hp 9 (by omega)
    have p10 : vs 10 = _ := hp 10 (by omega)
    have p11 : vs 11 = _ := hp 11 (by omega)
    have p12 : vs 12 = _ := hp 12 (by omega)
    have p13 : vs 13 = _ := hp 13 (by omega)
    have p14 : vs 14 = _ := hp 14 (by omega)
    have p15 : vs 15 = _ := hp 15 (by omega)
    have p16 : vs 16 = _ := hp 16 (by omega)
    have p17 : vs 17 = _ := hp 17 (by omega)
    have p18 : vs 18 = _ := hp 18 (by omega)
    have p19 : vs 19 = _ := hp 19 (by omega)
    have p20 : vs 20 = _ := hp 20 (by omega)
    have p21 : vs 21 = _ := hp 21 (by omega)
    have p22 : vs 22 = _ := hp 22 (by omega)
    have p23 : vs 23 = _ := hp 23 (by omega)
    have p24 : vs 24 = _ := hp 24 (by omega)
    have p25 : vs 25 = _ := hp 25 (by omega)
    have p26 : vs 26 = _ := hp 26 (by omega)
    have p27 : vs 27 = _ := hp 27 (by omega)
    have p28 : vs 28 = _ := hp 28 (by omega)
    have p29 : vs 29 = _ := hp 29 (by omega)
    have p30 : vs 30 = _ := hp 30 (by omega)
    clear hp
    simp only [List.take_succ_cons, List.take_zero, List.drop_succ_cons, List.drop_zero, putAll, Nat.zero_add, Nat.reduceAdd, Act.put, List.setIfInBounds_toArray, List.set_cons_zero, List.set_cons_succ, p0, p1, p2, p3, p4, p5, p6, p7, p8, p9, p10, p11, p12, p13, p14, p15, p16, p17, p18, p19, p20, p21, p22, p23, p24, p25, p26, p27, p28, p29, p30]
    clear p0 p1 p2 p3 p4 p5 p6 p7 p8 p9 p10 p11 p12 p13 p14 p15 p16 p17 p18 p19 p20 p21 p22 p23 p24 p25 p26 p27 p28 p29 p30
    clear vs
    go_wp2
    go_ret
    exact ⟨rfl, belowP be4 _ _⟩
  case six b r hb =>
    clear hb
    go_enter Try.func12, Try.ntmps12
    go_wp2_with fail
    refine (H1.out _ be).mono ?_
    rintro e w1 ⟨A2, n2, k2, bs1, d1', rfl, rfl, hx⟩
    go_upto_region 4 with (refine at_op (.store 126 (.tmp 4) (.tmp 21)) rfl ?_; refine wpList_stA (t := 126) 126 (.tmp 4) (.tmp 21) rfl rfl (wyC s6 sh sl d6 dh dl tl) (wyC false 0 0 false 0 0 0) rfl (wyC_one _ _ _ _ _ _ _) rfl rfl ?_ (szWy _ _ _ _ _ _ _) ?_; (· refine Bk.newK _ _ _ ?_ rfl; simp [size_plus]); intro W4 hX gr4)
    have be4 := below_grown (Below.allocS (belowP be bs1 d1') _) gr4 (by omega)
    replace hx := hx.later (below_grown (Below.allocS (Below.refl _ _) _) gr4 (by simp [size_plus]))
    clear gr4
    generalize w.heap.size + bs1.length = g4 at *
    go_wp2_with fail
    refine (H2.out _ be4).mono ?_
    rintro e w1 ⟨A3, n3, k3, bs2, d2, rfl, rfl, hy⟩
    have z3 := hX.lt
    go_upto_region 5 with (refine at_op (.store 129 (.tmp 7) (.tmp 27)) rfl ?_; refine wpList_stA (t := 129) 129 (.tmp 7) (.tmp 27) rfl rfl (wyC s6 sh sl d6 dh dl tl) (wyC false 0 0 false 0 0 0) rfl (wyC_one _ _ _ _ _ _ _) rfl rfl ?_ (szRWy _ _ _ _ _ _ _) ?_; (· refine Bk.newK _ _ _ ?_ rfl; simp [size_plus]); intro W6 hY gr6)
    have b6 := below_grown (Below.allocS (below_plus W4 bs2 d2) _) gr6 (by omega)
    replace be4 := be4.trans (b6.mono be4.size)
    replace hX := hX.later b6
    replace hx := hx.later b6
    replace hy := hy.later (below_grown (Below.allocS (Below.refl _ _) _) gr6 (by simp [size_plus]))
    clear gr6 b6 z3
    generalize W4.heap.size + bs2.length = g7 at *
    go_wp2_with fail
    refine (HS.out _ (h.later be4)).mono ?_
    rintro e w1 ⟨rfl, rfl⟩
    go_wp2_with fail
    refine (HR.out _ (h.later be4)).mono ?_
    rintro e w1 ⟨rfl, rfl⟩
    go_upto_region 12 with (fail)
    go_wp2
    refine wp_relS 31 70 rfl (by kernel_rfl) (by kernel_rfl) ?_
    apply Steps.one (MP.eq _) 1 rfl
    · intro o ho FA x hO hD K hK
      obtain rfl := Option.some.inj ho.symm
      clear ho
      have e3 := hO 3 (by kernel_rfl)
      simp only [eval_tmp, List.getElem?_toArray, List.getElem?_cons_succ, List.getElem?_cons_zero, Option.getD_some] at e3
      have ev3 := Lib.hid ((eval_tmp FA 3).trans e3)
      clear hO hD
      go_simp
      exact hK.out _ _ (Ex.refl _) rfl
    apply Steps.one (MP.eq _) 2 rfl
    · intro o ho FA x hO hD K hK
      obtain rfl := Option.some.inj ho.symm
      clear ho
      have ev40 : FA.eval (.tmp 40) = _ := hD 0 40 (by kernel_rfl)
      have e40 := (eval_tmp FA 40).symm.trans ev40
      replace ev40 := Lib.hid ev40
      clear hO hD
      have es := run_str bt Try.underlying9 (hx.plus_ x.bs x.d)
      go_simp
      exact hK.out _ _ (Ex.refl _) rfl
    apply Steps.one (MP.eq _) 3 rfl
    · intro o ho FA x hO hD K hK
      obtain rfl := Option.some.inj ho.symm
      clear ho
      have e6 := hO 6 (by kernel_rfl)
      simp only [eval_tmp, List.getElem?_toArray, List.getElem?_cons_succ, List.getElem?_cons_zero, Option.getD_some] at e6
      have ev6 := Lib.hid ((eval_tmp FA 6).trans e6)
      clear hO hD
      go_simp
      exact hK.out _ _ (Ex.refl _) rfl
    apply Steps.one (MP.eq _) 4 rfl
    · intro o ho FA x hO hD K hK
      obtain rfl := Option.some.inj ho.symm
      clear ho
      have ev42 : FA.eval (.tmp 42) = _ := hD 2 42 (by kernel_rfl)
      have e42 := (eval_tmp FA 42).symm.trans ev42
      replace ev42 := Lib.hid ev42
      clear hO hD
      have es := run_str bt Try.underlying9 (hy.plus_ x.bs x.d)
      go_simp
      exact hK.out _ _ (Ex.refl _) rfl
    apply Steps.one (MP.eq _) 5 rfl
    · intro o ho FA x hO hD K hK
      obtain rfl := Option.some.inj ho.symm
      clear ho
      have ev41 : FA.eval (.tmp 41) = _ := hD 1 41 (by kernel_rfl)
      have e41 := (eval_tmp FA 41).symm.trans ev41
      replace ev41 := Lib.hid ev41
      have ev43 : FA.eval (.tmp 43) = _ := hD 3 43 (by kernel_rfl)
      have e43 := (eval_tmp FA 43).symm.trans ev43
      replace ev43 := Lib.hid ev43
      clear hO hD
      go_simp
      exact hK.out _ _ (Ex.refl _) rfl
    apply Steps.one (MP.eq _) 6 rfl
    · intro o ho FA x hO hD K hK
      obtain rfl := Option.some.inj ho.symm
      clear ho
      have ev44 : FA.eval (.tmp 44) = _ := hD 4 44 (by kernel_rfl)
      have e44 := (eval_tmp FA 44).symm.trans ev44
      replace ev44 := Lib.hid ev44
      clear hO hD
      go_simp
      exact hK.out _ _ (Ex.refl _) rfl
    apply Steps.one (MP.eq _) 7 rfl
    · intro o ho FA x hO hD K hK
      obtain rfl := Option.some.inj ho.symm
      clear ho
      have e4 := hO 4 (by kernel_rfl)
      simp only [eval_tmp, List.getElem?_toArray, List.getElem?_cons_succ, List.getElem?_cons_zero, Option.getD_some] at e4
      have ev4 := Lib.hid ((eval_tmp FA 4).trans e4)
      have ev45 : FA.eval (.tmp 45) = _ := hD 5 45 (by kernel_rfl)
      have e45 := (eval_tmp FA 45).symm.trans ev45
      replace ev45 := Lib.hid ev45
      first | have ge45 := slot_of e45 | have ge45 := slot_un e45
      clear hO hD
      first | (refine wanted_ifG ?_ ?_; (· go_simp); refine wp_ldA 126 (.tmp 4) rfl (wyC s6 sh sl d6 dh dl tl) ev4.out (hX.later (below_plus _ _ _)) (whole_ _) y1 y2 (szWy _ _ _ _ _ _ _) ?_; exact hK.out _ _ (Ex.refl _) rfl) | (go_simp; exact hK.out _ _ (Ex.refl _) rfl)
    apply Steps.one (MP.eq _) 8 rfl
    · intro o ho FA x hO hD K hK
      obtain rfl := Option.some.inj ho.symm
      clear ho
      have e7 := hO 7 (by kernel_rfl)
      simp only [eval_tmp, List.getElem?_toArray, List.getElem?_cons_succ, List.getElem?_cons_zero, Option.getD_some] at e7
      have ev7 := Lib.hid ((eval_tmp FA 7).trans e7)
      have ev45 : FA.eval (.tmp 45) = _ := hD 5 45 (by kernel_rfl)
      have e45 := (eval_tmp FA 45).symm.trans ev45
      replace ev45 := Lib.hid ev45
      first | have ge45 := slot_of e45 | have ge45 := slot_un e45
      clear hO hD
      first | (refine wanted_ifG ?_ ?_; (· go_simp); refine wp_ldA 129 (.tmp 7) rfl (wyC s6 sh sl d6 dh dl tl) ev7.out (hY.later (below_plus _ _ _)) (whole_ _) r1 r2 (szRWy _ _ _ _ _ _ _) ?_; exact hK.out _ _ (Ex.refl _) rfl) | (go_simp; exact hK.out _ _ (Ex.refl _) rfl)
    apply Steps.one (MP.eq _) 9 rfl
    · intro o ho FA x hO hD K hK
      obtain rfl := Option.some.inj ho.symm
      clear ho
      have ev47 : FA.eval (.tmp 47) = _ := hD 7 47 (by kernel_rfl)
      have e47 := (eval_tmp FA 47).symm.trans ev47
      replace ev47 := Lib.hid ev47
      have ev45 : FA.eval (.tmp 45) = _ := hD 5 45 (by kernel_rfl)
      have e45 := (eval_tmp FA 45).symm.trans ev45
      replace ev45 := Lib.hid ev45
      first | have ge45 := slot_of e45 | have ge45 := slot_un e45
      clear hO hD
      first | (go_simp; exact hK.out _ _ (Ex.refl _) rfl) | (go_simp; refine (HTO.out _).mono ?_; rintro e w1 ⟨bs2, d2, rfl, rfl⟩; exact hK.out _ _ (Ex.plus_ _ _ _) rfl)
    apply Steps.one (MP.eq _) 10 rfl
    · intro o ho FA x hO hD K hK
      obtain rfl := Option.some.inj ho.symm
      clear ho
      have ev46 : FA.eval (.tmp 46) = _ := hD 6 46 (by kernel_rfl)
      have e46 := (eval_tmp FA 46).symm.trans ev46
      replace ev46 := Lib.hid ev46
      have ev48 : FA.eval (.tmp 48) = _ := hD 8 48 (by kernel_rfl)
      have e48 := (eval_tmp FA 48).symm.trans ev48
      replace ev48 := Lib.hid ev48
      have ev45 : FA.eval (.tmp 45) = _ := hD 5 45 (by kernel_rfl)
      have e45 := (eval_tmp FA 45).symm.trans ev45
      replace ev45 := Lib.hid ev45
      first | have ge45 := slot_of e45 | have ge45 := slot_un e45
      clear hO hD
      go_simp
      exact hK.out _ _ (Ex.refl _) rfl
    apply Steps.one (MP.eq _) 11 rfl
    · intro o ho FA x hO hD K hK
      obtain rfl := Option.some.inj ho.symm
      clear ho
      have ev45 : FA.eval (.tmp 45) = _ := hD 5 45 (by kernel_rfl)
      have e45 := (eval_tmp FA 45).symm.trans ev45
      replace ev45 := Lib.hid ev45
      have ev49 : FA.eval (.tmp 49) = _ := hD 9 49 (by kernel_rfl)
      have e49 := (eval_tmp FA 49).symm.trans ev49
      replace ev49 := Lib.hid ev49
      clear hO hD
      go_simp
      exact hK.out _ _ (Ex.refl _) rfl
    apply Steps.one (MP.eq _) 12 rfl
    · intro o ho FA x hO hD K hK
      obtain rfl := Option.some.inj ho.symm
      clear ho
      have ev50 : FA.eval (.tmp 50) = _ := hD 10 50 (by kernel_rfl)
      have e50 := (eval_tmp FA 50).symm.trans ev50
      replace ev50 := Lib.hid ev50
      clear hO hD
      go_simp
      exact hK.out _ _ (Ex.refl _) rfl
    apply Steps.one (MP.eq _) 13 rfl
    · intro o ho FA x hO hD K hK
      obtain rfl := Option.some.inj ho.symm
      clear ho
      have e5 := hO 5 (by kernel_rfl)
      simp only [eval_tmp, List.getElem?_toArray, List.getElem?_cons_succ, List.getElem?_cons_zero, Option.getD_some] at e5
      have ev5 := Lib.hid ((eval_tmp FA 5).trans e5)
      have ev51 : FA.eval (.tmp 51) = _ := hD 11 51 (by kernel_rfl)
      have e51 := (eval_tmp FA 51).symm.trans ev51
      replace ev51 := Lib.hid ev51
      first | have ge51 := slot_of e51 | have ge51 := slot_un e51
      clear hO hD
      go_simp
      exact hK.out _ _ (Ex.refl _) rfl
    apply Steps.one (MP.eq _) 14 rfl
    · intro o ho FA x hO hD K hK
      obtain rfl := Option.some.inj ho.symm
      clear ho
      have e8 := hO 8 (by kernel_rfl)
      simp only [eval_tmp, List.getElem?_toArray, List.getElem?_cons_succ, List.getElem?_cons_zero, Option.getD_some] at e8
      have ev8 := Lib.hid ((eval_tmp FA 8).trans e8)
      have ev51 : FA.eval (.tmp 51) = _ := hD 11 51 (by kernel_rfl)
      have e51 := (eval_tmp FA 51).symm.trans ev51
      replace ev51 := Lib.hid ev51
      first | have ge51 := slot_of e51 | have ge51 := slot_un e51
      clear hO hD
      go_simp
      exact hK.out _ _ (Ex.refl _) rfl
    apply Steps.one (MP.eq _) 15 rfl
    · intro o ho FA x hO hD K hK
      obtain rfl := Option.some.inj ho.symm
      clear ho
      have ev52 : FA.eval (.tmp 52) = _ := hD 12 52 (by kernel_rfl)
      have e52 := (eval_tmp FA 52).symm.trans ev52
      replace ev52 := Lib.hid ev52
      have ev53 : FA.eval (.tmp 53) = _ := hD 13 53 (by kernel_rfl)
      have e53 := (eval_tmp FA 53).symm.trans ev53
      replace ev53 := Lib.hid ev53
      have ev51 : FA.eval (.tmp 51) = _ := hD 11 51 (by kernel_rfl)
      have e51 := (eval_tmp FA 51).symm.trans ev51
      replace ev51 := Lib.hid ev51
      first | have ge51 := slot_of e51 | have ge51 := slot_un e51
      clear hO hD
      go_simp
      exact hK.out _ _ (Ex.refl _) rfl
    apply Steps.one (MP.eq _) 16 rfl
    · intro o ho FA x hO hD K hK
      obtain rfl := Option.some.inj ho.symm
      clear ho
      have ev51 : FA.eval (.tmp 51) = _ := hD 11 51 (by kernel_rfl)
      have e51 := (eval_tmp FA 51).symm.trans ev51
      replace ev51 := Lib.hid ev51
      have ev54 : FA.eval (.tmp 54) = _ := hD 14 54 (by kernel_rfl)
      have e54 := (eval_tmp FA 54).symm.trans ev54
      replace ev54 := Lib.hid ev54
      clear hO hD
      go_simp
      exact hK.out _ _ (Ex.refl _) rfl
    apply Steps.one (MP.eq _) 17 rfl
    · intro o ho FA x hO hD K hK
      obtain rfl := Option.some.inj ho.symm
      clear ho
      have ev55 : FA.eval (.tmp 55) = _ := hD 15 55 (by kernel_rfl)
      have e55 := (eval_tmp FA 55).symm.trans ev55
      replace ev55 := Lib.hid ev55
      clear hO hD
      go_simp
      exact hK.out _ _ (Ex.refl _) rfl
    apply Steps.one (MP.eq _) 18 rfl
    · intro o ho FA x hO hD K hK
      obtain rfl := Option.some.inj ho.symm
      clear ho
      have e9 := hO 9 (by kernel_rfl)
      simp only [eval_tmp, List.getElem?_toArray, List.getElem?_cons_succ, List.getElem?_cons_zero, Option.getD_some] at e9
      have ev9 := Lib.hid ((eval_tmp FA 9).trans e9)
      have ev56 : FA.eval (.tmp 56) = _ := hD 16 56 (by kernel_rfl)
      have e56 := (eval_tmp FA 56).symm.trans ev56
      replace ev56 := Lib.hid ev56
      first | have ge56 := slot_of e56 | have ge56 := slot_un e56
      clear hO hD
      go_simp
      exact hK.out _ _ (Ex.refl _) rfl
    apply Steps.one (MP.eq _) 19 rfl
    · intro o ho FA x hO hD K hK
      obtain rfl := Option.some.inj ho.symm
      clear ho
      have e11 := hO 11 (by kernel_rfl)
      simp only [eval_tmp, List.getElem?_toArray, List.getElem?_cons_succ, List.getElem?_cons_zero, Option.getD_some] at e11
      have ev11 := Lib.hid ((eval_tmp FA 11).trans e11)
      have ev56 : FA.eval (.tmp 56) = _ := hD 16 56 (by kernel_rfl)
      have e56 := (eval_tmp FA 56).symm.trans ev56
      replace ev56 := Lib.hid ev56
      first | have ge56 := slot_of e56 | have ge56 := slot_un e56
      clear hO hD
      go_simp
      exact hK.out _ _ (Ex.refl _) rfl
    apply Steps.one (MP.eq _) 20 rfl
    · intro o ho FA x hO hD K hK
      obtain rfl := Option.some.inj ho.symm
      clear ho
      have ev58 : FA.eval (.tmp 58) = _ := hD 18 58 (by kernel_rfl)
      have e58 := (eval_tmp FA 58).symm.trans ev58
      replace ev58 := Lib.hid ev58
      have ev56 : FA.eval (.tmp 56) = _ := hD 16 56 (by kernel_rfl)
      have e56 := (eval_tmp FA 56).symm.trans ev56
      replace ev56 := Lib.hid ev56
      first | have ge56 := slot_of e56 | have ge56 := slot_un e56
      clear hO hD
      go_simp
      exact hK.out _ _ (Ex.refl _) rfl
    apply Steps.one (MP.eq _) 21 rfl
    · intro o ho FA x hO hD K hK
      obtain rfl := Option.some.inj ho.symm
      clear ho
      have ev57 : FA.eval (.tmp 57) = _ := hD 17 57 (by kernel_rfl)
      have e57 := (eval_tmp FA 57).symm.trans ev57
      replace ev57 := Lib.hid ev57
      have ev59 : FA.eval (.tmp 59) = _ := hD 19 59 (by kernel_rfl)
      have e59 := (eval_tmp FA 59).symm.trans ev59
      replace ev59 := Lib.hid ev59
      have ev56 : FA.eval (.tmp 56) = _ := hD 16 56 (by kernel_rfl)
      have e56 := (eval_tmp FA 56).symm.trans ev56
      replace ev56 := Lib.hid ev56
      first | have ge56 := slot_of e56 | have ge56 := slot_un e56
      clear hO hD
      go_simp
      exact hK.out _ _ (Ex.refl _) rfl
    apply Steps.one (MP.eq _) 22 rfl
    · intro o ho FA x hO hD K hK
      obtain rfl := Option.some.inj ho.symm
      clear ho
      have ev56 : FA.eval (.tmp 56) = _ := hD 16 56 (by kernel_rfl)
      have e56 := (eval_tmp FA 56).symm.trans ev56
      replace ev56 := Lib.hid ev56
      have ev60 : FA.eval (.tmp 60) = _ := hD 20 60 (by kernel_rfl)
      have e60 := (eval_tmp FA 60).symm.trans ev60
      replace ev60 := Lib.hid ev60
      clear hO hD
      go_simp
      exact hK.out _ _ (Ex.refl _) rfl
    apply Steps.one (MP.eq _) 23 rfl
    · intro o ho FA x hO hD K hK
      obtain rfl := Option.some.inj ho.symm
      clear ho
      have ev61 : FA.eval (.tmp 61) = _ := hD 21 61 (by kernel_rfl)
      have e61 := (eval_tmp FA 61).symm.trans ev61
      replace ev61 := Lib.hid ev61
      clear hO hD
      go_simp
      exact hK.out _ _ (Ex.refl _) rfl
    apply Steps.one (MP.eq _) 24 rfl
    · intro o ho FA x hO hD K hK
      obtain rfl := Option.some.inj ho.symm
      clear ho
      have e10 := hO 10 (by kernel_rfl)
      simp only [eval_tmp, List.getElem?_toArray, List.getElem?_cons_succ, List.getElem?_cons_zero, Option.getD_some] at e10
      have ev10 := Lib.hid ((eval_tmp FA 10).trans e10)
      have ev62 : FA.eval (.tmp 62) = _ := hD 22 62 (by kernel_rfl)
      have e62 := (eval_tmp FA 62).symm.trans ev62
      replace ev62 := Lib.hid ev62
      first | have ge62 := slot_of e62 | have ge62 := slot_un e62
      clear hO hD
      go_simp
      exact hK.out _ _ (Ex.refl _) rfl
    apply Steps.one (MP.eq _) 25 rfl
    · intro o ho FA x hO hD K hK
      obtain rfl := Option.some.inj ho.symm
      clear ho
      have e12 := hO 12 (by kernel_rfl)
      simp only [eval_tmp, List.getElem?_toArray, List.getElem?_cons_succ, List.getElem?_cons_zero, Option.getD_some] at e12
      have ev12 := Lib.hid ((eval_tmp FA 12).trans e12)
      have ev62 : FA.eval (.tmp 62) = _ := hD 22 62 (by kernel_rfl)
      have e62 := (eval_tmp FA 62).symm.trans ev62
      replace ev62 := Lib.hid ev62
      first | have ge62 := slot_of e62 | have ge62 := slot_un e62
      clear hO hD
      go_simp
      exact hK.out _ _ (Ex.refl _) rfl
    apply Steps.one (MP.eq _) 26 rfl
    · intro o ho FA x hO hD K hK
      obtain rfl := Option.some.inj ho.symm
      clear ho
      have ev63 : FA.eval (.tmp 63) = _ := hD 23 63 (by kernel_rfl)
      have e63 := (eval_tmp FA 63).symm.trans ev63
      replace ev63 := Lib.hid ev63
      have ev64 : FA.eval (.tmp 64) = _ := hD 24 64 (by kernel_rfl)
      have e64 := (eval_tmp FA 64).symm.trans ev64
      replace ev64 := Lib.hid ev64
      have ev62 : FA.eval (.tmp 62) = _ := hD 22 62 (by kernel_rfl)
      have e62 := (eval_tmp FA 62).symm.trans ev62
      replace ev62 := Lib.hid ev62
      first | have ge62 := slot_of e62 | have ge62 := slot_un e62
      clear hO hD
      go_simp
      exact hK.out _ _ (Ex.refl _) rfl
    apply Steps.one (MP.eq _) 27 rfl
    · intro o ho FA x hO hD K hK
      obtain rfl := Option.some.inj ho.symm
      clear ho
      have ev62 : FA.eval (.tmp 62) = _ := hD 22 62 (by kernel_rfl)
      have e62 := (eval_tmp FA 62).symm.trans ev62
      replace ev62 := Lib.hid ev62
      have ev65 : FA.eval (.tmp 65) = _ := hD 25 65 (by kernel_rfl)
      have e65 := (eval_tmp FA 65).symm.trans ev65
      replace ev65 := Lib.hid ev65
      clear hO hD
      go_simp
      exact hK.out _ _ (Ex.refl _) rfl
    apply Steps.one (MP.eq _) 28 rfl
    · intro o ho FA x hO hD K hK
      obtain rfl := Option.some.inj ho.symm
      clear ho
      have ev66 : FA.eval (.tmp 66) = _ := hD 26 66 (by kernel_rfl)
      have e66 := (eval_tmp FA 66).symm.trans ev66
      replace ev66 := Lib.hid ev66
      clear hO hD
      go_simp
      exact hK.out _ _ (Ex.refl _) rfl
    apply Steps.one (MP.eq _) 29 rfl
    · intro o ho FA x hO hD K hK
      obtain rfl := Option.some.inj ho.symm
      clear ho
      have ev67 : FA.eval (.tmp 67) = _ := hD 27 67 (by kernel_rfl)
      have e67 := (eval_tmp FA 67).symm.trans ev67
      replace ev67 := Lib.hid ev67
      first | have ge67 := slot_of e67 | have ge67 := slot_un e67
      clear hO hD
      first | (go_simp; exact hK.out _ _ (Ex.refl _) rfl) | (go_simp; refine (HAW.out _).mono ?_; rintro e w1 ⟨bs2, d2, rfl, rfl⟩; exact hK.out _ _ (Ex.plus_ _ _ _) rfl)
    apply Steps.one (MP.eq _) 30 rfl
    · intro o ho FA x hO hD K hK
      obtain rfl := Option.some.inj ho.symm
      clear ho
      have ev67 : FA.eval (.tmp 67) = _ := hD 27 67 (by kernel_rfl)
      have e67 := (eval_tmp FA 67).symm.trans ev67
      replace ev67 := Lib.hid ev67
      have ev68 : FA.eval (.tmp 68) = _ := hD 28 68 (by kernel_rfl)
      have e68 := (eval_tmp FA 68).symm.trans ev68
      replace ev68 := Lib.hid ev68
      clear hO hD
      go_simp
      exact hK.out _ _ (Ex.refl _) rfl
    apply Steps.one (MP.eq _) 31 rfl
    · intro o ho FA x hO hD K hK
      obtain rfl := Option.some.inj ho.symm
      clear ho
      have ev69 : FA.eval (.tmp 69) = _ := hD 29 69 (by kernel_rfl)
      have e69 := (eval_tmp FA 69).symm.trans ev69
      replace ev69 := Lib.hid ev69
      clear hO hD
      go_simp
      exact hK.out _ _ (Ex.refl _) rfl
    refine Steps.fin_ (fun vs x hp => ?_)
    have p0 : vs 0 = _ := hp 0 (by omega)
    have p1 : vs 1 = _ := hp 1 (by omega)
    have p2 : vs 2 = _ := hp 2 (by omega)
    have p3 : vs 3 = _ := hp 3 (by omega)
    have p4 : vs 4 = _ := hp 4 (by omega)
    have p5 : vs 5 = _ := hp 5 (by omega)
    have p6 : vs 6 = _ := hp 6 (by omega)
    have p7 : vs 7 = _ := hp 7 (by omega)
    have p8 : vs 8 = _ := hp 8 (by omega)
    have p9 : vs 9 = _ := hp 9 (by omega)
    have p10 : vs 10 = _ := hp 10 (by omega)
    have p11 : vs 11 = _ := hp 11 (by omega)
    have p12 : vs 12 = _ := hp 12 (by omega)
    have p13 : vs 13 = _ := hp 13 (by omega)
    have p14 : vs 14 = _ := hp 14 (by omega)
    have p15 : vs 15 = _ := hp 15 (by omega)
    have p16 : vs 16 = _ := hp 16 (by omega)
    have p17 : vs 17 = _ := hp 17 (by omega)
    have p18 : vs 18 = _ := hp 18 (by omega)
    have p19 : vs 19 = _ := hp 19 (by omega)
    have p20 : vs 20 = _ := hp 20 (by omega)
    have p21 : vs 21 = _ := hp 21 (by omega)
    have p22 : vs 22 = _ := hp 22 (by omega)
    have p23 : vs 23 = _ := hp 23 (by omega)
    have p24 : vs 24 = _ := hp 24 (by omega)
    have p25 : vs 25 = _ := hp 25 (by omega)
    have p26 : vs 26 = _ := hp 26 (by omega)
    have p27 : vs 27 = _ := hp 27 (by omega)
    have p28 : vs 28 = _ := hp 28 (by omega)
    have p29 : vs 29 = _ := hp 29 (by omega)
    have p30 : vs 30 = _ := hp 30 (by omega)
    clear hp
    simp only [List.take_succ_cons, List.take_zero, List.drop_succ_cons, List.drop_zero, putAll, Nat.zero_add, Nat.reduceAdd, Act.put, List.setIfInBounds_toArray, List.set_cons_zero, List.set_cons_succ, p0, p1, p2, p3, p4, p5, p6, p7, p8, p9, p10, p11, p12, p13, p14, p15, p16, p17, p18, p19, p20, p21, p22, p23, p24, p25, p26, p27, p28, p29, p30]
    clear p0 p1 p2 p3 p4 p5 p6 p7 p8 p9 p10 p11 p12 p13 p14 p15 p16 p17 p18 p19 p20 p21 p22 p23 p24 p25 p26 p27 p28 p29 p30
    clear vs
    go_wp2
    go_ret
    exact ⟨rfl, belowP be4 _ _⟩
  case other b r hb4 hb6 =>
    clear hb4 hb6
    go_enter Try.func12, Try.ntmps12
    go_wp2_with fail
    refine (H1.out _ be).mono ?_
    rintro e w1 ⟨A2, n2, k2, bs1, d1', rfl, rfl, hx⟩
    go_upto_region 4 with (refine at_op (.store 126 (.tmp 4) (.tmp 21)) rfl ?_; refine wpList_stA (t := 126) 126 (.tmp 4) (.tmp 21) rfl rfl (wyC s6 sh sl d6 dh dl tl) (wyC false 0 0 false 0 0 0) rfl (wyC_one _ _ _ _ _ _ _) rfl rfl ?_ (szWy _ _ _ _ _ _ _) ?_; (· refine Bk.newK _ _ _ ?_ rfl; simp [size_plus]); intro W4 hX gr4)
    have be4 := below_grown (Below.allocS (belowP be bs1 d1') _) gr4 (by omega)
    replace hx := hx.later (below_grown (Below.allocS (Below.refl _ _) _) gr4 (by simp [size_plus]))
    clear gr4
    generalize w.heap.size + bs1.length = g4 at *
    go_wp2_with fail
    refine (H2.out _ be4).mono ?_
    rintro e w1 ⟨A3, n3, k3, bs2, d2, rfl, rfl, hy⟩
    have z3 := hX.lt
    go_upto_region 5 with (refine at_op (.store 129 (.tmp 7) (.tmp 27)) rfl ?_; refine wpList_stA (t := 129) 129 (.tmp 7) (.tmp 27) rfl rfl (wyC s6 sh sl d6 dh dl tl) (wyC false 0 0 false 0 0 0) rfl (wyC_one _ _ _ _ _ _ _) rfl rfl ?_ (szRWy _ _ _ _ _ _ _) ?_; (· refine Bk.newK _ _ _ ?_ rfl; simp [size_plus]); intro W6 hY gr6)
    have b6 := below_grown (Below.allocS (below_plus W4 bs2 d2) _) gr6 (by omega)
    replace be4 := be4.trans (b6.mono be4.size)
    replace hX := hX.later b6
    replace hx := hx.later b6
    replace hy := hy.later (below_grown (Below.allocS (Below.refl _ _) _) gr6 (by simp [size_plus]))
    clear gr6 b6 z3
    generalize W4.heap.size + bs2.length = g7 at *
    go_wp2_with fail
    refine (HS.out _ (h.later be4)).mono ?_
    rintro e w1 ⟨rfl, rfl⟩
    go_wp2_with fail
    refine (HR.out _ (h.later be4)).mono ?_
    rintro e w1 ⟨rfl, rfl⟩
    go_upto_region 12 with (fail)
    go_wp2
    refine wp_relS 31 70 rfl (by kernel_rfl) (by kernel_rfl) ?_
    apply Steps.one (MP.eq _) 1 rfl
    · intro o ho FA x hO hD K hK
      obtain rfl := Option.some.inj ho.symm
      clear ho
      have e3 := hO 3 (by kernel_rfl)
      simp only [eval_tmp, List.getElem?_toArray, List.getElem?_cons_succ, List.getElem?_cons_zero, Option.getD_some] at e3
      have ev3 := Lib.hid ((eval_tmp FA 3).trans e3)
      clear hO hD
      go_simp
      exact hK.out _ _ (Ex.refl _) rfl
    apply Steps.one (MP.eq _) 2 rfl
    · intro o ho FA x hO hD K hK
      obtain rfl := Option.some.inj ho.symm
      clear ho
      have ev40 : FA.eval (.tmp 40) = _ := hD 0 40 (by kernel_rfl)
      have e40 := (eval_tmp FA 40).symm.trans ev40
      replace ev40 := Lib.hid ev40
      clear hO hD
      have es := run_str bt Try.underlying9 (hx.plus_ x.bs x.d)
      go_simp
      exact hK.out _ _ (Ex.refl _) rfl
    apply Steps.one (MP.eq _) 3 rfl
    · intro o ho FA x hO hD K hK
      obtain rfl := Option.some.inj ho.symm
      clear ho
      have e6 := hO 6 (by kernel_rfl)
      simp only [eval_tmp, List.getElem?_toArray, List.getElem?_cons_succ, List.getElem?_cons_zero, Option.getD_some] at e6
      have ev6 := Lib.hid ((eval_tmp FA 6).trans e6)
      clear hO hD
      go_simp
      exact hK.out _ _ (Ex.refl _) rfl
    apply Steps.one (MP.eq _) 4 rfl
    · intro o ho FA x hO hD K hK
      obtain rfl := Option.some.inj ho.symm
      clear ho
      have ev42 : FA.eval (.tmp 42) = _ := hD 2 42 (by kernel_rfl)
      have e42 := (eval_tmp FA 42).symm.trans ev42
      replace ev42 := Lib.hid ev42
      clear hO hD
      have es := run_str bt Try.underlying9 (hy.plus_ x.bs x.d)
      go_simp
      exact hK.out _ _ (Ex.refl _) rfl
    apply Steps.one (MP.eq _) 5 rfl
    · intro o ho FA x hO hD K hK
      obtain rfl := Option.some.inj ho.symm
      clear ho
      have ev41 : FA.eval (.tmp 41) = _ := hD 1 41 (by kernel_rfl)
      have e41 := (eval_tmp FA 41).symm.trans ev41
      replace ev41 := Lib.hid ev41
      have ev43 : FA.eval (.tmp 43) = _ := hD 3 43 (by kernel_rfl)
      have e43 := (eval_tmp FA 43).symm.trans ev43
      replace ev43 := Lib.hid ev43
      clear hO hD
      go_simp
      exact hK.out _ _ (Ex.refl _) rfl
    apply Steps.one (MP.eq _) 6 rfl
    · intro o ho FA x hO hD K hK
      obtain rfl := Option.some.inj ho.symm
      clear ho
      have ev44 : FA.eval (.tmp 44) = _ := hD 4 44 (by kernel_rfl)
      have e44 := (eval_tmp FA 44).symm.trans ev44
      replace ev44 := Lib.hid ev44
      clear hO hD
      go_simp
      exact hK.out _ _ (Ex.refl _) rfl
    apply Steps.one (MP.eq _) 7 rfl
    · intro o ho FA x hO hD K hK
      obtain rfl := Option.some.inj ho.symm
      clear ho
      have e4 := hO 4 (by kernel_rfl)
      simp only [eval_tmp, List.getElem?_toArray, List.getElem?_cons_succ, List.getElem?_cons_zero, Option.getD_some] at e4
      have ev4 := Lib.hid ((eval_tmp FA 4).trans e4)
      have ev45 : FA.eval (.tmp 45) = _ := hD 5 45 (by kernel_rfl)
      have e45 := (eval_tmp FA 45).symm.trans ev45
      replace ev45 := Lib.hid ev45
      first | have ge45 := slot_of e45 | have ge45 := slot_un e45
      clear hO hD
      first | (refine wanted_ifG ?_ ?_; (· go_simp); refine wp_ldA 126 (.tmp 4) rfl (wyC s6 sh sl d6 dh dl tl) ev4.out (hX.later (below_plus _ _ _)) (whole_ _) y1 y2 (szWy _ _ _ _ _ _ _) ?_; exact hK.out _ _ (Ex.refl _) rfl) | (go_simp; exact hK.out _ _ (Ex.refl _) rfl)
    apply Steps.one (MP.eq _) 8 rfl
    · intro o ho FA x hO hD K hK
      obtain rfl := Option.some.inj ho.symm
      clear ho
      have e7 := hO 7 (by kernel_rfl)
      simp only [eval_tmp, List.getElem?_toArray, List.getElem?_cons_succ, List.getElem?_cons_zero, Option.getD_some] at e7
      have ev7 := Lib.hid ((eval_tmp FA 7).trans e7)
      have ev45 : FA.eval (.tmp 45) = _ := hD 5 45 (by kernel_rfl)
      have e45 := (eval_tmp FA 45).symm.trans ev45
      replace ev45 := Lib.hid ev45
      first | have ge45 := slot_of e45 | have ge45 := slot_un e45
      clear hO hD
      first | (refine wanted_ifG ?_ ?_; (· go_simp); refine wp_ldA 129 (.tmp 7) rfl (wyC s6 sh sl d6 dh dl tl) ev7.out (hY.later (below_plus _ _ _)) (whole_ _) r1 r2 (szRWy _ _ _ _ _ _ _) ?_; exact hK.out _ _ (Ex.refl _) rfl) | (go_simp; exact hK.out _ _ (Ex.refl _) rfl)
    apply Steps.one (MP.eq _) 9 rfl
    · intro o ho FA x hO hD K hK
      obtain rfl := Option.some.inj ho.symm
      clear ho
      have ev47 : FA.eval (.tmp 47) = _ := hD 7 47 (by kernel_rfl)
      have e47 := (eval_tmp FA 47).symm.trans ev47
      replace ev47 := Lib.hid ev47
      have ev45 : FA.eval (.tmp 45) = _ := hD 5 45 (by kernel_rfl)
      have e45 := (eval_tmp FA 45).symm.trans ev45
      replace ev45 := Lib.hid ev45
      first | have ge45 := slot_of e45 | have ge45 := slot_un e45
      clear hO hD
      first | (go_simp; exact hK.out _ _ (Ex.refl _) rfl) | (go_simp; refine (HTO.out _).mono ?_; rintro e w1 ⟨bs2, d2, rfl, rfl⟩; exact hK.out _ _ (Ex.plus_ _ _ _) rfl)
    apply Steps.one (MP.eq _) 10 rfl
    · intro o ho FA x hO hD K hK
      obtain rfl := Option.some.inj ho.symm
      clear ho
      have ev46 : FA.eval (.tmp 46) = _ := hD 6 46 (by kernel_rfl)
      have e46 := (eval_tmp FA 46).symm.trans ev46
      replace ev46 := Lib.hid ev46
      have ev48 : FA.eval (.tmp 48) = _ := hD 8 48 (by kernel_rfl)
      have e48 := (eval_tmp FA 48).symm.trans ev48
      replace ev48 := Lib.hid ev48
      have ev45 : FA.eval (.tmp 45) = _ := hD 5 45 (by kernel_rfl)
      have e45 := (eval_tmp FA 45).symm.trans ev45
      replace ev45 := Lib.hid ev45
      first | have ge45 := slot_of e45 | have ge45 := slot_un e45
      clear hO hD
      go_simp
      exact hK.out _ _ (Ex.refl _) rfl
    apply Steps.one (MP.eq _) 11 rfl
    · intro o ho FA x hO hD K hK
      obtain rfl := Option.some.inj ho.symm
      clear ho
      have ev45 : FA.eval (.tmp 45) = _ := hD 5 45 (by kernel_rfl)
      have e45 := (eval_tmp FA 45).symm.trans ev45
      replace ev45 := Lib.hid ev45
      have ev49 : FA.eval (.tmp 49) = _ := hD 9 49 (by kernel_rfl)
      have e49 := (eval_tmp FA 49).symm.trans ev49
      replace ev49 := Lib.hid ev49
      clear hO hD
      go_simp
      exact hK.out _ _ (Ex.refl _) rfl
    apply Steps.one (MP.eq _) 12 rfl
    · intro o ho FA x hO hD K hK
      obtain rfl := Option.some.inj ho.symm
      clear ho
      have ev50 : FA.eval (.tmp 50) = _ := hD 10 50 (by kernel_rfl)
      have e50 := (eval_tmp FA 50).symm.trans ev50
      replace ev50 := Lib.hid ev50
      clear hO hD
      go_simp
      exact hK.out _ _ (Ex.refl _) rfl
    apply Steps.one (MP.eq _) 13 rfl
    · intro o ho FA x hO hD K hK
      obtain rfl := Option.some.inj ho.symm
      clear ho
      have e5 := hO 5 (by kernel_rfl)
      simp only [eval_tmp, List.getElem?_toArray, List.getElem?_cons_succ, List.getElem?_cons_zero, Option.getD_some] at e5
      have ev5 := Lib.hid ((eval_tmp FA 5).trans e5)
      have ev51 : FA.eval (.tmp 51) = _ := hD 11 51 (by kernel_rfl)
      have e51 := (eval_tmp FA 51).symm.trans ev51
      replace ev51 := Lib.hid ev51
      first | have ge51 := slot_of e51 | have ge51 := slot_un e51
      clear hO hD
      go_simp
      exact hK.out _ _ (Ex.refl _) rfl
    apply Steps.one (MP.eq _) 14 rfl
    · intro o ho FA x hO hD K hK
      obtain rfl := Option.some.inj ho.symm
      clear ho
      have e8 := hO 8 (by kernel_rfl)
      simp only [eval_tmp, List.getElem?_toArray, List.getElem?_cons_succ, List.getElem?_cons_zero, Option.getD_some] at e8
      have ev8 := Lib.hid ((eval_tmp FA 8).trans e8)
      have ev51 : FA.eval (.tmp 51) = _ := hD 11 51 (by kernel_rfl)
      have e51 := (eval_tmp FA 51).symm.trans ev51
      replace ev51 := Lib.hid ev51
      first | have ge51 := slot_of e51 | have ge51 := slot_un e51
      clear hO hD
      go_simp
      exact hK.out _ _ (Ex.refl _) rfl
    apply Steps.one (MP.eq _) 15 rfl
    · intro o ho FA x hO hD K hK
      obtain rfl := Option.some.inj ho.symm
      clear ho
      have ev52 : FA.eval (.tmp 52) = _ := hD 12 52 (by kernel_rfl)
      have e52 := (eval_tmp FA 52).symm.trans ev52
      replace ev52 := Lib.hid ev52
      have ev53 : FA.eval (.tmp 53) = _ := hD 13 53 (by kernel_rfl)
      have e53 := (eval_tmp FA 53).symm.trans ev53
      replace ev53 := Lib.hid ev53
      have ev51 : FA.eval (.tmp 51) = _ := hD 11 51 (by kernel_rfl)
      have e51 := (eval_tmp FA 51).symm.trans ev51
      replace ev51 := Lib.hid ev51
      first | have ge51 := slot_of e51 | have ge51 := slot_un e51
      clear hO hD
      go_simp
      exact hK.out _ _ (Ex.refl _) rfl
    apply Steps.one (MP.eq _) 16 rfl
    · intro o ho FA x hO hD K hK
      obtain rfl := Option.some.inj ho.symm
      clear ho
      have ev51 : FA.eval (.tmp 51) = _ := hD 11 51 (by kernel_rfl)
      have e51 := (eval_tmp FA 51).symm.trans ev51
      replace ev51 := Lib.hid ev51
      have ev54 : FA.eval (.tmp 54) = _ := hD 14 54 (by kernel_rfl)
      have e54 := (eval_tmp FA 54).symm.trans ev54
      replace ev54 := Lib.hid ev54
      clear hO hD
      go_simp
      exact hK.out _ _ (Ex.refl _) rfl
    apply Steps.one (MP.eq _) 17 rfl
    · intro o ho FA x hO hD K hK
      obtain rfl := Option.some.inj ho.symm
      clear ho
      have ev55 : FA.eval (.tmp 55) = _ := hD 15 55 (by kernel_rfl)
      have e55 := (eval_tmp FA 55).symm.trans ev55
      replace ev55 := Lib.hid ev55
      clear hO hD
      go_simp
      exact hK.out _ _ (Ex.refl _) rfl
    apply Steps.one (MP.eq _) 18 rfl
    · intro o ho FA x hO hD K hK
      obtain rfl := Option.some.inj ho.symm
      clear ho
      have e9 := hO 9 (by kernel_rfl)
      simp only [eval_tmp, List.getElem?_toArray, List.getElem?_cons_succ, List.getElem?_cons_zero, Option.getD_some] at e9
      have ev9 := Lib.hid ((eval_tmp FA 9).trans e9)
      have ev56 : FA.eval (.tmp 56) = _ := hD 16 56 (by kernel_rfl)
      have e56 := (eval_tmp FA 56).symm.trans ev56
      replace ev56 := Lib.hid ev56
      first | have ge56 := slot_of e56 | have ge56 := slot_un e56
      clear hO hD
      go_simp
      exact hK.out _ _ (Ex.refl _) rfl
    apply Steps.one (MP.eq _) 19 rfl
    · intro o ho FA x hO hD K hK
      obtain rfl := Option.some.inj ho.symm
      clear ho
      have e11 := hO 11 (by kernel_rfl)
      simp only [eval_tmp, List.getElem?_toArray, List.getElem?_cons_succ, List.getElem?_cons_zero, Option.getD_some] at e11
      have ev11 := Lib.hid ((eval_tmp FA 11).trans e11)
      have ev56 : FA.eval (.tmp 56) = _ := hD 16 56 (by kernel_rfl)
      have e56 := (eval_tmp FA 56).symm.trans ev56
      replace ev56 := Lib.hid ev56
      first | have ge56 := slot_of e56 | have ge56 := slot_un e56
      clear hO hD
      go_simp
      exact hK.out _ _ (Ex.refl _) rfl
    apply Steps.one (MP.eq _) 20 rfl
    · intro o ho FA x hO hD K hK
      obtain rfl := Option.some.inj ho.symm
      clear ho
      have ev58 : FA.eval (.tmp 58) = _ := hD 18 58 (by kernel_rfl)
      have e58 := (eval_tmp FA 58).symm.trans ev58
      replace ev58 := Lib.hid ev58
      have ev56 : FA.eval (.tmp 56) = _ := hD 16 56 (by kernel_rfl)
      have e56 := (eval_tmp FA 56).symm.trans ev56
      replace ev56 := Lib.hid ev56
      first | have ge56 := slot_of e56 | have ge56 := slot_un e56
      clear hO hD
      go_simp
      exact hK.out _ _ (Ex.refl _) rfl
    apply Steps.one (MP.eq _) 21 rfl
    · intro o ho FA x hO hD K hK
      obtain rfl := Option.some.inj ho.symm
      clear ho
      have ev57 : FA.eval (.tmp 57) = _ := hD 17 57 (by kernel_rfl)
      have e57 := (eval_tmp FA 57).symm.trans ev57
      replace ev57 := Lib.hid ev57
      have ev59 : FA.eval (.tmp 59) = _ := hD 19 59 (by kernel_rfl)
      have e59 := (eval_tmp FA 59).symm.trans ev59
      replace ev59 := Lib.hid ev59
      have ev56 : FA.eval (.tmp 56) = _ := hD 16 56 (by kernel_rfl)
      have e56 := (eval_tmp FA 56).symm.trans ev56
      replace ev56 := Lib.hid ev56
      first | have ge56 := slot_of e56 | have ge56 := slot_un e56
      clear hO hD
      go_simp
      exact hK.out _ _ (Ex.refl _) rfl
    apply Steps.one (MP.eq _) 22 rfl
    · intro o ho FA x hO hD K hK
      obtain rfl := Option.some.inj ho.symm
      clear ho
      have ev56 : FA.eval (.tmp 56) = _ := hD 16 56 (by kernel_rfl)
      have e56 := (eval_tmp FA 56).symm.trans ev56
      replace ev56 := Lib.hid ev56
      have ev60 : FA.eval (.tmp 60) = _ := hD 20 60 (by kernel_rfl)
      have e60 := (eval_tmp FA 60).symm.trans ev60
      replace ev60 := Lib.hid ev60
      clear hO hD
      go_simp
      exact hK.out _ _ (Ex.refl _) rfl
    apply Steps.one (MP.eq _) 23 rfl
    · intro o ho FA x hO hD K hK
      obtain rfl := Option.some.inj ho.symm
      clear ho
      have ev61 : FA.eval (.tmp 61) = _ := hD 21 61 (by kernel_rfl)
      have e61 := (eval_tmp FA 61).symm.trans ev61
      replace ev61 := Lib.hid ev61
      clear hO hD
      go_simp
      exact hK.out _ _ (Ex.refl _) rfl
    apply Steps.one (MP.eq _) 24 rfl
    · intro o ho FA x hO hD K hK
      obtain rfl := Option.some.inj ho.symm
      clear ho
      have e10 := hO 10 (by kernel_rfl)
      simp only [eval_tmp, List.getElem?_toArray, List.getElem?_cons_succ, List.getElem?_cons_zero, Option.getD_some] at e10
      have ev10 := Lib.hid ((eval_tmp FA 10).trans e10)
      have ev62 : FA.eval (.tmp 62) = _ := hD 22 62 (by kernel_rfl)
      have e62 := (eval_tmp FA 62).symm.trans ev62
      replace ev62 := Lib.hid ev62
      first | have ge62 := slot_of e62 | have ge62 := slot_un e62
      clear hO hD
      go_simp
      exact hK.out _ _ (Ex.refl _) rfl
    apply Steps.one (MP.eq _) 25 rfl
    · intro o ho FA x hO hD K hK
      obtain rfl := Option.some.inj ho.symm
      clear ho
      have e12 := hO 12 (by kernel_rfl)
      simp only [eval_tmp, List.getElem?_toArray, List.getElem?_cons_succ, List.getElem?_cons_zero, Option.getD_some] at e12
      have ev12 := Lib.hid ((eval_tmp FA 12).trans e12)
      have ev62 : FA.eval (.tmp 62) = _ := hD 22 62 (by kernel_rfl)
      have e62 := (eval_tmp FA 62).symm.trans ev62
      replace ev62 := Lib.hid ev62
      first | have ge62 := slot_of e62 | have ge62 := slot_un e62
      clear hO hD
      go_simp
      exact hK.out _ _ (Ex.refl _) rfl
    apply Steps.one (MP.eq _) 26 rfl
    · intro o ho FA x hO hD K hK
      obtain rfl := Option.some.inj ho.symm
      clear ho
      have ev63 : FA.eval (.tmp 63) = _ := hD 23 63 (by kernel_rfl)
      have e63 := (eval_tmp FA 63).symm.trans ev63
      replace ev63 := Lib.hid ev63
      have ev64 : FA.eval (.tmp 64) = _ := hD 24 64 (by kernel_rfl)
      have e64 := (eval_tmp FA 64).symm.trans ev64
      replace ev64 := Lib.hid ev64
      have ev62 : FA.eval (.tmp 62) = _ := hD 22 62 (by kernel_rfl)
      have e62 := (eval_tmp FA 62).symm.trans ev62
      replace ev62 := Lib.hid ev62
      first | have ge62 := slot_of e62 | have ge62 := slot_un e62
      clear hO hD
      go_simp
      exact hK.out _ _ (Ex.refl _) rfl
    apply Steps.one (MP.eq _) 27 rfl
    · intro o ho FA x hO hD K hK
      obtain rfl := Option.some.inj ho.symm
      clear ho
      have ev62 : FA.eval (.tmp 62) = _ := hD 22 62 (by kernel_rfl)
      have e62 := (eval_tmp FA 62).symm.trans ev62
      replace ev62 := Lib.hid ev62
      have ev65 : FA.eval (.tmp 65) = _ := hD 25 65 (by kernel_rfl)
      have e65 := (eval_tmp FA 65).symm.trans ev65
      replace ev65 := Lib.hid ev65
      clear hO hD
      go_simp
      exact hK.out _ _ (Ex.refl _) rfl
    apply Steps.one (MP.eq _) 28 rfl
    · intro o ho FA x hO hD K hK
      obtain rfl := Option.some.inj ho.symm
      clear ho
      have ev66 : FA.eval (.tmp 66) = _ := hD 26 66 (by kernel_rfl)
      have e66 := (eval_tmp FA 66).symm.trans ev66
      replace ev66 := Lib.hid ev66
      clear hO hD
      go_simp
      exact hK.out _ _ (Ex.refl _) rfl
    apply Steps.one (MP.eq _) 29 rfl
    · intro o ho FA x hO hD K hK
      obtain rfl := Option.some.inj ho.symm
      clear ho
      have ev67 : FA.eval (.tmp 67) = _ := hD 27 67 (by kernel_rfl)
      have e67 := (eval_tmp FA 67).symm.trans ev67
      replace ev67 := Lib.hid ev67
      first | have ge67 := slot_of e67 | have ge67 := slot_un e67
      clear hO hD
      first | (go_simp; exact hK.out _ _ (Ex.refl _) rfl) | (go_simp; refine (HAW.out _).mono ?_; rintro e w1 ⟨bs2, d2, rfl, rfl⟩; exact hK.out _ _ (Ex.plus_ _ _ _) rfl)
    apply Steps.one (MP.eq _) 30 rfl
    · intro o ho FA x hO hD K hK
      obtain rfl := Option.some.inj ho.symm
      clear ho
      have ev67 : FA.eval (.tmp 67) = _ := hD 27 67 (by kernel_rfl)
      have e67 := (eval_tmp FA 67).symm.trans ev67
      replace ev67 := Lib.hid ev67
      have ev68 : FA.eval (.tmp 68) = _ := hD 28 68 (by kernel_rfl)
      have e68 := (eval_tmp FA 68).symm.trans ev68
      replace ev68 := Lib.hid ev68
      clear hO hD
      go_simp
      exact hK.out _ _ (Ex.refl _) rfl
    apply Steps.one (MP.eq _) 31 rfl
    · intro o ho FA x hO hD K hK
      obtain rfl := Option.some.inj ho.symm
      clear ho
      have ev69 : FA.eval (.tmp 69) = _ := hD 29 69 (by kernel_rfl)
      have e69 := (eval_tmp FA 69).symm.trans ev69
      replace ev69 := Lib.hid ev69
      clear hO hD
      go_simp
      exact hK.out _ _ (Ex.refl _) rfl
    refine Steps.fin_ (fun vs x hp => ?_)
    have p0 : vs 0 = _ := hp 0 (by omega)
    have p1 : vs 1 = _ := hp 1 (by omega)
    have p2 : vs 2 = _ := hp 2 (by omega)
    have p3 : vs 3 = _ := hp 3 (by omega)
    have p4 : vs 4 = _ := hp 4 (by omega)
    have p5 : vs 5 = _ := hp 5 (by omega)
    have p6 : vs 6 = _ := hp 6 (by omega)
    have p7 : vs 7 = _ := hp 7 (by omega)
    have p8 : vs 8 = _ := hp 8 (by omega)
    have p9 : vs 9 = _ := hp 9 (by omega)
    have p10 : vs 10 = _ := hp 10 (by omega)
    have p11 : vs 11 = _ := hp 11 (by omega)
    have p12 : vs 12 = _ := hp 12 (by omega)
    have p13 : vs 13 = _ := hp 13 (by omega)
    have p14 : vs 14 = _ := hp 14 (by omega)
    have p15 : vs 15 = _ := hp 15 (by omega)
    have p16 : vs 16 = _ := hp 16 (by omega)
    have p17 : vs 17 = _ := hp 17 (by omega)
    have p18 : vs 18 = _ := hp 18 (by omega)
    have p19 : vs 19 = _ := hp 19 (by omega)
    have p20 : vs 20 = _ := hp 20 (by omega)
    have p21 : vs 21 = _ := hp 21 (by omega)
    have p22 : vs 22 = _ := hp 22 (by omega)
    have p23 : vs 23 = _ := hp 23 (by omega)
    have p24 : vs 24 = _ := hp 24 (by omega)
    have p25 : vs 25 = _ := hp 25 (by omega)
    have p26 : vs 26 = _ := hp 26 (by omega)
    have p27 : vs 27 = _ := hp 27 (by omega)
    have p28 : vs 28 = _ := hp 28 (by omega)
    have p29 : vs 29 = _ := hp 29 (by omega)
    have p30 : vs 30 = _ := hp 30 (by omega)
    clear hp
    simp only [List.take_succ_cons, List.take_zero, List.drop_succ_cons, List.drop_zero, putAll, Nat.zero_add, Nat.reduceAdd, Act.put, List.setIfInBounds_toArray, List.set_cons_zero, List.set_cons_succ, p0, p1, p2, p3, p4, p5, p6, p7, p8, p9, p10, p11, p12, p13, p14, p15, p16, p17, p18, p19, p20, p21, p22, p23, p24, p25, p26, p27, p28, p29, p30]
    clear p0 p1 p2 p3 p4 p5 p6 p7 p8 p9 p10 p11 p12 p13 p14 p15 p16 p17 p18 p19 p20 p21 p22 p23 p24 p25 p26 p27 p28 p29 p30
    clear vs
    go_wp2
    go_ret
    exact ⟨rfl, belowP be4 _ _⟩
end Go.Proofs.Ytldecdeiibfekaa
