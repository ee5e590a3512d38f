/- The law TcpWrites (chapter 6). -/
import Derived.Test.YticlohlpccollaaTcpX
import Derived.Test.YticlohlpccollaaCid
namespace Go.Proofs.Yticlohlpccollaa
open Go.RowKit
set_option linter.unusedVariables false
set_option linter.unusedSimpArgs false
attribute [local go_sem ↓] sliced_cut
attribute [local go_sem] cutA_zero

def segC (a b c d f wi sm ur : Nat) (A : Option Addr) (n k : Nat) (A2 : Option Addr) (n2 k2 : Nat) : List Value := [.int .u16 (a : Int), .int .u16 (b : Int), .int .u32 (c : Int), .int .u32 (d : Int), .int .u8 (f : Int), .int .u16 (wi : Int), .int .u16 (sm : Int), .int .u16 (ur : Int), .slice A n k, .slice A2 n2 k2]
theorem whole_ (cs : List Value) : (cs.drop 0).take cs.length = cs := by rw [List.drop_zero]; exact List.take_of_length_le (Nat.le_refl _)
theorem segC_one (a b c d f wi sm ur : Nat) (A : Option Addr) (n k : Nat) (A2 : Option Addr) (n2 k2 : Nat) : ∀ u ∈ segC a b c d f wi sm ur A n k A2 n2 k2, u.oneCell' = true := by
  intro u hu
  simp only [segC, List.mem_cons, List.not_mem_nil, or_false] at hu
  rcases hu with rfl | rfl | rfl | rfl | rfl | rfl | rfl | rfl | rfl | rfl <;> rfl
theorem num_mid (p r : List UInt8) (x s k : Nat) (hp : p.length = k) (hx : x < 256 ^ s) : num (((p ++ (dig x s ++ r)).drop k).take s) = x := by
  subst hp
  rw [List.drop_left, List.take_left' (dig_length s x), numDig x s hx]
set_option maxHeartbeats 1000000 in
/-- what is written is read -/
theorem tcpBack (a b c d f wi sm ur : Nat) (A : Option Addr) (n k : Nat) (A2 : Option Addr) (n2 k2 : Nat) (l l2 : List UInt8) (ha : a < 65536) (hb : b < 65536) (hc : c < 4294967296) (hd : d < 4294967296) (hf : f < 256) (hwi : wi < 65536) (hsm : sm < 65536) (hur : ur < 65536) (hl : l.length = n) (hl2 : l2.length = n2) (hn : n ≤ 40) (h4 : n % 4 = 0) (hn2 : n2 ≤ 2000) (B' : Option Addr) (m q : Nat) (w : World) (hr : Rb w B' m q (tcpB a b c d (80 + n / 4 * 16) f wi sm ur l l2)) :
    Calls Try.prog 16 #[.slice B' m q] w (RetSeg w a b c d f wi sm ur l l2 (.int .i64 0)) := by
  have eB : (tcpB a b c d (80 + n / 4 * 16) f wi sm ur l l2) = dig a 2 ++ dig b 2 ++ dig c 4 ++ dig d 4 ++ dig (80 + n / 4 * 16) 1 ++ dig f 1 ++ dig wi 2 ++ dig sm 2 ++ dig ur 2 ++ l ++ l2 := by
    rw [dig1 _ (by omega), dig1 _ hf]
    simp [tcpB]
  have k0 : num (((tcpB a b c d (80 + n / 4 * 16) f wi sm ur l l2).drop 0).take 2) = a := by rw [eB]; have := num_mid ([]) (dig b 2 ++ dig c 4 ++ dig d 4 ++ dig (80 + n / 4 * 16) 1 ++ dig f 1 ++ dig wi 2 ++ dig sm 2 ++ dig ur 2 ++ l ++ l2) a 2 0 (by simp [dig_length]) (by omega); simpa [List.append_assoc] using this
  have k1 : num (((tcpB a b c d (80 + n / 4 * 16) f wi sm ur l l2).drop 2).take 2) = b := by rw [eB]; have := num_mid (dig a 2) (dig c 4 ++ dig d 4 ++ dig (80 + n / 4 * 16) 1 ++ dig f 1 ++ dig wi 2 ++ dig sm 2 ++ dig ur 2 ++ l ++ l2) b 2 2 (by simp [dig_length]) (by omega); simpa [List.append_assoc] using this
  have k2 : num (((tcpB a b c d (80 + n / 4 * 16) f wi sm ur l l2).drop 4).take 4) = c := by rw [eB]; have := num_mid (dig a 2 ++ dig b 2) (dig d 4 ++ dig (80 + n / 4 * 16) 1 ++ dig f 1 ++ dig wi 2 ++ dig sm 2 ++ dig ur 2 ++ l ++ l2) c 4 4 (by simp [dig_length]) (by omega); simpa [List.append_assoc] using this
  have k3 : num (((tcpB a b c d (80 + n / 4 * 16) f wi sm ur l l2).drop 8).take 4) = d := by rw [eB]; have := num_mid (dig a 2 ++ dig b 2 ++ dig c 4) (dig (80 + n / 4 * 16) 1 ++ dig f 1 ++ dig wi 2 ++ dig sm 2 ++ dig ur 2 ++ l ++ l2) d 4 8 (by simp [dig_length]) (by omega); simpa [List.append_assoc] using this
  have k4 : num (((tcpB a b c d (80 + n / 4 * 16) f wi sm ur l l2).drop 12).take 1) = (80 + n / 4 * 16) := by rw [eB]; have := num_mid (dig a 2 ++ dig b 2 ++ dig c 4 ++ dig d 4) (dig f 1 ++ dig wi 2 ++ dig sm 2 ++ dig ur 2 ++ l ++ l2) (80 + n / 4 * 16) 1 12 (by simp [dig_length]) (by omega); simpa [List.append_assoc] using this
  have k5 : num (((tcpB a b c d (80 + n / 4 * 16) f wi sm ur l l2).drop 13).take 1) = f := by rw [eB]; have := num_mid (dig a 2 ++ dig b 2 ++ dig c 4 ++ dig d 4 ++ dig (80 + n / 4 * 16) 1) (dig wi 2 ++ dig sm 2 ++ dig ur 2 ++ l ++ l2) f 1 13 (by simp [dig_length]) (by omega); simpa [List.append_assoc] using this
  have k6 : num (((tcpB a b c d (80 + n / 4 * 16) f wi sm ur l l2).drop 14).take 2) = wi := by rw [eB]; have := num_mid (dig a 2 ++ dig b 2 ++ dig c 4 ++ dig d 4 ++ dig (80 + n / 4 * 16) 1 ++ dig f 1) (dig sm 2 ++ dig ur 2 ++ l ++ l2) wi 2 14 (by simp [dig_length]) (by omega); simpa [List.append_assoc] using this
  have k7 : num (((tcpB a b c d (80 + n / 4 * 16) f wi sm ur l l2).drop 16).take 2) = sm := by rw [eB]; have := num_mid (dig a 2 ++ dig b 2 ++ dig c 4 ++ dig d 4 ++ dig (80 + n / 4 * 16) 1 ++ dig f 1 ++ dig wi 2) (dig ur 2 ++ l ++ l2) sm 2 16 (by simp [dig_length]) (by omega); simpa [List.append_assoc] using this
  have k8 : num (((tcpB a b c d (80 + n / 4 * 16) f wi sm ur l l2).drop 18).take 2) = ur := by rw [eB]; have := num_mid (dig a 2 ++ dig b 2 ++ dig c 4 ++ dig d 4 ++ dig (80 + n / 4 * 16) 1 ++ dig f 1 ++ dig wi 2 ++ dig sm 2) (l ++ l2) ur 2 18 (by simp [dig_length]) (by omega); simpa [List.append_assoc] using this
  have hm : m = 20 + n + n2 := by rw [← hr.1, eB]; simp [dig_length, hl, hl2]; omega
  have e1 : ((tcpB a b c d (80 + n / 4 * 16) f wi sm ur l l2).drop 20).take (20 + n - 20) = l := by
    rw [eB, show dig a 2 ++ dig b 2 ++ dig c 4 ++ dig d 4 ++ dig (80 + n / 4 * 16) 1 ++ dig f 1 ++ dig wi 2 ++ dig sm 2 ++ dig ur 2 ++ l ++ l2 = (dig a 2 ++ dig b 2 ++ dig c 4 ++ dig d 4 ++ dig (80 + n / 4 * 16) 1 ++ dig f 1 ++ dig wi 2 ++ dig sm 2 ++ dig ur 2) ++ (l ++ l2) from by simp [List.append_assoc], List.drop_left' (by simp [dig_length]), List.take_left' (by omega)]
  have e2 : (tcpB a b c d (80 + n / 4 * 16) f wi sm ur l l2).drop (20 + n) = l2 := by
    rw [eB, List.drop_left' (by simp [dig_length, hl]; omega)]
  have := tcpParse_ok B' m q (tcpB a b c d (80 + n / 4 * 16) f wi sm ur l l2) w hr (by omega) (by omega) a b c d (80 + n / 4 * 16) f wi sm ur k0 k1 k2 k3 k4 k5 k6 k7 k8 (by omega) (by omega) (20 + n) (by omega) (by omega)
  rw [e1, e2] at this
  exact this
set_option maxRecDepth 100000 in
theorem tcpToV (a b c d f wi sm ur : Nat) (A : Option Addr) (n k : Nat) (A2 : Option Addr) (n2 k2 : Nat) (w : World) : Calls Try.prog 25 #[.agg (segC a b c d f wi sm ur A n k A2 n2 k2).toArray] w (RetV w (.agg (segC a b c d f wi sm ur A n k A2 n2 k2).toArray)) := by
  unfold segC
  go_enter Try.func25, Try.ntmps25
  go_wp2
  refine bodyPost_ret (v := .agg #[.int .u16 (a : Int), .int .u16 (b : Int), .int .u32 (c : Int), .int .u32 (d : Int), .int .u8 (f : Int), .int .u16 (wi : Int), .int .u16 (sm : Int), .int .u16 (ur : Int), .slice A n k, .slice A2 n2 k2]) (by simp [results, Try.results25, go_sem]) rfl (RetV.mk ?_)
  exact Below.allocS (Below.allocS (Below.refl _ _) _) _
theorem tcpLtYes (a b c d f wi sm ur : Nat) (A : Option Addr) (n k : Nat) (A2 : Option Addr) (n2 k2 : Nat) (w : World) (h1 : n ≤ 200) (h2 : n2 ≤ 2000) : Calls Try.prog 24 #[.agg (segC a b c d f wi sm ur A n k A2 n2 k2).toArray] w (RetV w (.bool true)) := by
  unfold segC
  go_enter Try.func24, Try.ntmps24
  go_wp2
  go_ret
  exact RetV.is_ (by simp; omega) (Below.allocS (Below.refl _ _) _)
theorem tcpLtNo (a b c d f wi sm ur : Nat) (A : Option Addr) (n k : Nat) (A2 : Option Addr) (n2 k2 : Nat) (w : World) (h1 : ¬ (n ≤ 200 ∧ n2 ≤ 2000)) (hk : n ≤ 9223372036854775807) (hk' : n2 ≤ 9223372036854775807) : Calls Try.prog 24 #[.agg (segC a b c d f wi sm ur A n k A2 n2 k2).toArray] w (RetV w (.bool false)) := by
  unfold segC
  by_cases h2 : n ≤ 200
  · go_enter Try.func24, Try.ntmps24
    go_wp2
    go_ret
    exact RetV.is_ (by simp; omega) (Below.allocS (Below.refl _ _) _)
  · have d2 : decide (n ≤ 200) = false := by simpa using h2
    go_enter Try.func24, Try.ntmps24
    go_wp2
    go_ret
    exact RetV.is_ (by simp) (Below.allocS (Below.refl _ _) _)
set_option maxHeartbeats 4000000 in
set_option maxRecDepth 100000 in
theorem tcpWrites_walk (w : World) (a b c d f wi sm ur : Nat) (A : Option Addr) (n k : Nat) (A2 : Option Addr) (n2 k2 : Nat) (l l2 : List UInt8) (ha : a < 65536) (hb : b < 65536) (hc : c < 4294967296) (hd : d < 4294967296) (hf : f < 256) (hwi : wi < 65536) (hsm : sm < 65536) (hur : ur < 65536) (h : Rb w A n k l) (h2 : Rb w A2 n2 k2 l2) (hk : k ≤ maxLen) (hk2 : k2 ≤ maxLen) :
    Calls Try.prog 5 #[.agg (segC a b c d f wi sm ur A n k A2 n2 k2).toArray] w fun e w' => e = .returned (.bool true) ∧ Below w.heap.size w w' := by
  have hnk := h.2.1
  have hnk2 := h2.2.1
  simp only [maxLen] at hk hk2
  obtain ⟨dr, r1, r2⟩ : ∃ d, Try.prog.underlying 31 = some d ∧ d.isRow = true := ⟨_, Try.underlying31, rfl⟩
  obtain ⟨dx, x1, x2⟩ : ∃ d, Try.prog.underlying 27 = some d ∧ d.isRow = true := ⟨_, Try.underlying27, rfl⟩
  have hS : Bk (w.alloc (.cells (segC a b c d f wi sm ur A n k A2 n2 k2).toArray 31)) w.heap.size 31 (segC a b c d f wi sm ur A n k A2 n2 k2) := Bk.new w 31 (segC a b c d f wi sm ur A n k A2 n2 k2).toArray
  have be : Below w.heap.size w (w.alloc (.cells (segC a b c d f wi sm ur A n k A2 n2 k2).toArray 31)) := Below.allocS (Below.refl _ _) _
  by_cases hli : n ≤ 200 ∧ n2 ≤ 2000
  · obtain ⟨hl1, hl2⟩ := hli
    have HL := Lib.hid (fun w => tcpLtYes a b c d f wi sm ur A n k A2 n2 k2 w hl1 hl2)
    have HTO := Lib.hid (fun w => tcpToV a b c d f wi sm ur A n k A2 n2 k2 w)
    replace h := h.alloc (.cells (segC a b c d f wi sm ur A n k A2 n2 k2).toArray 31)
    replace h2 := h2.alloc (.cells (segC a b c d f wi sm ur A n k A2 n2 k2).toArray 31)
    go_enter Try.func5, Try.ntmps5
    go_upto_region 1 with (fail)
    generalize w.alloc (.cells (segC a b c d f wi sm ur A n k A2 n2 k2).toArray 31) = W at *
    go_upto_region 4 with (first
      | (refine at_op (.load 31 (.tmp 1)) rfl ?_; refine wpList_ldA (t := 31) 31 (.tmp 1) rfl rfl (segC a b c d f wi sm ur A n k A2 n2 k2) rfl (by with_reducible repeat (first | exact hS | refine Bk.later ?_ (below_plus _ _ _))) (whole_ _) r1 r2 (szSegR _ rfl) ?_)
      | (go_at_call 24; refine (HL.out _).mono ?_; rintro e w1 ⟨bs1, d1, rfl, rfl⟩)
      | (go_at_call 25; refine (HTO.out _).mono ?_; rintro e w1 ⟨bs2, d2, rfl, rfl⟩)
      | (refine at_op (.store 27 (.tmp 3) (.tmp 11)) rfl ?_; refine wpList_stA (t := 27) 27 (.tmp 3) (.tmp 11) rfl rfl (segC a b c d f wi sm ur A n k A2 n2 k2) (segC 0 0 0 0 0 0 0 0 none 0 0 none 0 0) rfl (segC_one a b c d f wi sm ur A n k A2 n2 k2) rfl rfl ?_ (szSeg _ rfl) ?_; (· refine Bk.newK _ _ _ ?_ rfl; simp [size_plus]); intro W3 hX hgr))
    have zb := be.size
    have z0 := hS.lt
    replace hS := (((hS.later (below_plus _ bs1 d1)).later (below_plus _ bs2 d2)).alloc _).grown hgr (by simp; omega)
    replace h := h.later (below_grown (Below.allocS (belowP (below_plus _ bs1 d1) bs2 d2) _) hgr (by omega))
    replace h2 := h2.later (below_grown (Below.allocS (belowP (below_plus _ bs1 d1) bs2 d2) _) hgr (by omega))
    replace be := below_grown (Below.allocS (belowP (belowP be bs1 d1) bs2 d2) _) hgr (by omega)
    have hg3 : w.heap.size < W.heap.size + bs1.length + bs2.length := by omega
    generalize W.heap.size + bs1.length + bs2.length = g3 at *
    clear hgr zb z0 W
    by_cases hrt : 40 < n ∨ n % 4 ≠ 0
    · have HR1 := Lib.hid (fun w => tcpRight_no a b c d f wi sm ur A n k A2 n2 k2 w hrt (by omega))
      have HR2 := Lib.hid (fun w => refTcpRight_no a b c d f wi sm ur A n k A2 n2 k2 w hrt (by omega))
      have HBN := Lib.hid (fun w => tcpBytes_no a b c d f wi sm ur A n k A2 n2 k2 w hrt (by omega))
      simp only [Act.put]
      refine wp_plus (by kernel_rfl) (by kernel_rfl) ?_
      repeat (first
        | (go_big_quiet_want; refine at_opQ (.load 27 (.tmp 3)) rfl ?_; refine quiet_ldA (t := 27) 27 (.tmp 3) rfl (segC a b c d f wi sm ur A n k A2 n2 k2) rfl (fun w' hw' => by obtain ⟨x, rfl⟩ := hw'; exact hX.later (below_plus _ _ _)) (whole_ _) x1 x2 (szSeg _ rfl) ?_; simp only [Act.put, List.setIfInBounds_toArray, List.set_cons_zero, List.set_cons_succ]; go_big_quiet_on)
        | (go_big_quiet_want; refine at_opQ (.load 31 (.tmp 1)) rfl ?_; refine quiet_ldA (t := 31) 31 (.tmp 1) rfl (segC a b c d f wi sm ur A n k A2 n2 k2) rfl (fun w' hw' => by obtain ⟨x, rfl⟩ := hw'; exact hS.later (below_plus _ _ _)) (whole_ _) r1 r2 (szSegR _ rfl) ?_; simp only [Act.put, List.setIfInBounds_toArray, List.set_cons_zero, List.set_cons_succ]; go_big_quiet_on)
        | go_big_quiet_step (first
          | (go_at_call 26; exact callP (HR1.out _))
          | (go_at_call 27; exact callP (HR2.out _))))
      refine wpQuiet_nil ?_
      rintro _ ⟨x, rfl⟩
      replace hS := hS.later (below_plus _ x.bs x.d)
      replace hX := hX.later (below_plus _ x.bs x.d)
      replace be := belowP be x.bs x.d
      generalize plus W3 x.bs x.d = W4 at *
      go_wp2_with (first
        | (refine at_op (.load 31 (.tmp 1)) rfl ?_; refine wpList_ldA (t := 31) 31 (.tmp 1) rfl rfl (segC a b c d f wi sm ur A n k A2 n2 k2) rfl (by with_reducible repeat (first | exact hS | refine Bk.later ?_ (below_plus _ _ _))) (whole_ _) r1 r2 (szSegR _ rfl) ?_)
        | (refine at_op (.load 27 (.tmp 3)) rfl ?_; refine wpList_ldA (t := 27) 27 (.tmp 3) rfl rfl (segC a b c d f wi sm ur A n k A2 n2 k2) rfl (by with_reducible repeat (first | exact hX | refine Bk.later ?_ (below_plus _ _ _))) (whole_ _) x1 x2 (szSeg _ rfl) ?_)
        | (go_at_call 27; refine (HR2.out _).mono ?_; rintro e w1 ⟨bs5, d5, rfl, rfl⟩)
        | (go_at_call 28; refine (HBN.out _).mono ?_; rintro e w1 ⟨bs6, d6, rfl, rfl⟩)
        | (go_at_call 15; refine (tcpAwakeV _).mono ?_; rintro e w1 ⟨bs7, d7, rfl, rfl⟩))
      go_ret
      exact ⟨rfl, belowP (belowP (belowP be _ _) _ _) _ _⟩
    · have hn40 : n ≤ 40 := by omega
      have hn4 : n % 4 = 0 := by omega
      have hz1 := h.1
      have hz2 := h2.1
      have HR1 := Lib.hid (fun w => tcpRight_yes a b c d f wi sm ur A n k A2 n2 k2 w hn40 hn4 hl2)
      have HR2 := Lib.hid (fun w => refTcpRight_yes a b c d f wi sm ur A n k A2 n2 k2 w hn40 hn4 hl2)
      have HB := Lib.hid (fun w (h : Rb w A n k l) (h2 : Rb w A2 n2 k2 l2) => tcpBytes_yes a b c d f wi sm ur A n k A2 n2 k2 l l2 w ha hb hc hd hf hwi hsm hur h h2 hn40 hn4 hl2)
      have HRB := Lib.hid (fun w (h : Rb w A n k l) (h2 : Rb w A2 n2 k2 l2) => refTcpBytes_any a b c d f wi sm ur A n k A2 n2 k2 l l2 w ha hb hc hd hf hwi hsm hur h h2 hn40 (by omega))
      have HP := Lib.hid (fun B' m q w hr => tcpBack a b c d f wi sm ur A n k A2 n2 k2 l l2 ha hb hc hd hf hwi hsm hur hz1 hz2 hn40 hn4 hl2 B' m q w hr)
      clear hrt hn4 hz1 hz2
      simp only [Act.put]
      refine wp_plus (by kernel_rfl) (by kernel_rfl) ?_
      repeat (first
        | (go_big_quiet_want; refine at_opQ (.load 27 (.tmp 3)) rfl ?_; refine quiet_ldA (t := 27) 27 (.tmp 3) rfl (segC a b c d f wi sm ur A n k A2 n2 k2) rfl (fun w' hw' => by obtain ⟨x, rfl⟩ := hw'; exact hX.later (below_plus _ _ _)) (whole_ _) x1 x2 (szSeg _ rfl) ?_; simp only [Act.put, List.setIfInBounds_toArray, List.set_cons_zero, List.set_cons_succ]; go_big_quiet_on)
        | (go_big_quiet_want; refine at_opQ (.load 31 (.tmp 1)) rfl ?_; refine quiet_ldA (t := 31) 31 (.tmp 1) rfl (segC a b c d f wi sm ur A n k A2 n2 k2) rfl (fun w' hw' => by obtain ⟨x, rfl⟩ := hw'; exact hS.later (below_plus _ _ _)) (whole_ _) r1 r2 (szSegR _ rfl) ?_; simp only [Act.put, List.setIfInBounds_toArray, List.set_cons_zero, List.set_cons_succ]; go_big_quiet_on)
        | go_big_quiet_step (first
          | (go_at_call 26; exact callP (HR1.out _))
          | (go_at_call 27; exact callP (HR2.out _))))
      refine wpQuiet_nil ?_
      rintro _ ⟨x, rfl⟩
      replace hS := hS.later (below_plus _ x.bs x.d)
      replace hX := hX.later (below_plus _ x.bs x.d)
      replace h := h.plus_ x.bs x.d
      replace h2 := h2.plus_ x.bs x.d
      replace be := belowP be x.bs x.d
      generalize plus W3 x.bs x.d = W4 at *
      go_upto_region 9 with (first
        | (refine at_op (.load 31 (.tmp 1)) rfl ?_; refine wpList_ldA (t := 31) 31 (.tmp 1) rfl rfl (segC a b c d f wi sm ur A n k A2 n2 k2) rfl (by with_reducible repeat (first | exact hS | refine Bk.later ?_ (below_plus _ _ _))) (whole_ _) r1 r2 (szSegR _ rfl) ?_)
        | (refine at_op (.load 27 (.tmp 3)) rfl ?_; refine wpList_ldA (t := 27) 27 (.tmp 3) rfl rfl (segC a b c d f wi sm ur A n k A2 n2 k2) rfl (by with_reducible repeat (first | exact hX | refine Bk.later ?_ (below_plus _ _ _))) (whole_ _) x1 x2 (szSeg _ rfl) ?_)
        | (go_at_call 27; refine (HR2.out _).mono ?_; rintro e w1 ⟨bs5, d5, rfl, rfl⟩)
        | (go_at_call 28; refine (HB.out _ (h.plus_ _ _) (h2.plus_ _ _)).mono ?_; rintro e w1 ⟨A6, n6, c6, bs6, d6, rfl, rfl, ho6⟩)
        | (go_at_call 16; refine (HP.out _ _ _ _ ho6.rb).mono ?_; rintro e w1 ⟨Ay, ny, ky, Az, nz, kz, bs7, d7, rfl, rfl, hy1, hy2⟩)
        | (refine at_op (.store 27 (.tmp 4) (.tmp 31)) rfl ?_; refine wpList_stA (t := 27) 27 (.tmp 4) (.tmp 31) rfl rfl (segC a b c d f wi sm ur Ay ny ky Az nz kz) (segC 0 0 0 0 0 0 0 0 none 0 0 none 0 0) rfl (segC_one _ _ _ _ _ _ _ _ _ _ _ _ _ _) rfl rfl ?_ (szSeg _ rfl) ?_; (· refine Bk.newK _ _ _ ?_ rfl; simp [size_plus]); intro W5 hY hgr))
      have zb := be.size
      have z0 := hS.lt
      have z3 := hX.lt
      replace hS := ((((hS.later (below_plus _ bs5 d5)).later (below_plus _ bs6 d6)).later (below_plus _ bs7 d7)).alloc _).grown hgr (by simp; omega)
      replace hX := ((((hX.later (below_plus _ bs5 d5)).later (below_plus _ bs6 d6)).later (below_plus _ bs7 d7)).alloc _).grown hgr (by simp; omega)
      have bb := below_grown (Below.allocS (belowP (belowP (below_plus W4 bs5 d5) bs6 d6) bs7 d7) _) hgr (by omega)
      replace h := h.later bb
      replace h2 := h2.later bb
      have b7 := below_grown (Below.allocS (Below.refl _ _) _) hgr (by simp [size_plus])
      replace hy1 := hy1.later b7
      replace hy2 := hy2.later b7
      replace be := below_grown (Below.allocS (belowP (belowP (belowP be bs5 d5) bs6 d6) bs7 d7) _) hgr (by omega)
      generalize W4.heap.size + bs5.length + bs6.length + bs7.length = g4 at *
      clear hgr bb b7 ho6 zb z0 z3 HR1 HR2 HP
      go_wp2
      refine wp_rel 21 53 rfl (by kernel_rfl) (by kernel_rfl) (fun i => match i with | 0 => MP.eq (.agg (segC a b c d f wi sm ur A n k A2 n2 k2).toArray) | 1 => MP.rb (tcpB a b c d (80 + n / 4 * 16) f wi sm ur l l2) | 2 => MP.eq (.string ⟨(tcpB a b c d (80 + n / 4 * 16) f wi sm ur l l2).toArray⟩) | 3 => MP.eq (.agg (segC a b c d f wi sm ur A n k A2 n2 k2).toArray) | 4 => MP.rb (tcpB a b c d (80 + n / 4 * 16) f wi sm ur l l2) | 5 => MP.eq (.string ⟨(tcpB a b c d (80 + n / 4 * 16) f wi sm ur l l2).toArray⟩) | 6 => MP.eq (.bool true) | 7 => MP.eq (.bool true) | 8 => MP.eq (.agg (segC a b c d f wi sm ur Ay ny ky Az nz kz).toArray) | 9 => MP.eq (.agg (segC a b c d f wi sm ur Ay ny ky Az nz kz).toArray) | 10 => MP.eq (.agg (segC a b c d f wi sm ur A n k A2 n2 k2).toArray) | 11 => MP.eq (.bool true) | 12 => MP.eq (.bool true) | 13 => MP.eq (.bool true) | 14 => MP.eq (.int .i64 0) | 15 => MP.eq (.bool true) | 16 => MP.eq (.bool true) | 17 => MP.eq (.bool true) | 18 => MP.eq (.bool true) | 19 => MP.eq (.bool true) | 20 => MP.eq (.bool true) | _ => MP.any) ?_ ?_
      · intro i hi o ho FA x hO hD K hK
        match i, hi, ho, hO, hD, hK with
        | 0, _, ho, hO, hD, hK => 
          obtain rfl := Option.some.inj ho.symm
          clear ho
          have ev3 : FA.eval (.tmp 3) = .pointer (some ⟨g3, 0, none⟩) := hO 3 (by kernel_rfl)
          have e3 : FA.tmps[3]?.getD undef = .pointer (some ⟨g3, 0, none⟩) := by simpa [Act.eval] using ev3
          replace ev3 := Lib.hid ev3
          clear hO hD
          refine wanted_ifG (by go_simp) ?_
          refine wp_load_mid 27 (.tmp 3) rfl g3 0 ev3.out (segC a b c d f wi sm ur A n k A2 n2 k2) _ (Bk.range (hX.later (below_plus _ _ _))) x1 x2 (szSeg _ rfl) ?_
          exact hK.out _ _ (Ex.refl _) rfl
        | 1, _, ho, hO, hD, hK => 
          obtain rfl := Option.some.inj ho.symm
          clear ho
          have ev33 : FA.eval (.tmp 33) = .agg (segC a b c d f wi sm ur A n k A2 n2 k2).toArray := hD 0 33 (by kernel_rfl)
          have e33 : FA.tmps[33]?.getD undef = .agg (segC a b c d f wi sm ur A n k A2 n2 k2).toArray := by simpa [Act.eval] using ev33
          replace ev33 := Lib.hid ev33
          clear hO hD
          go_simp
          refine (HB.out _ (h.plus_ _ _) (h2.plus_ _ _)).mono ?_
          rintro e w1 ⟨A3, n3, c3, bs2, d2, rfl, rfl, ho2⟩
          exact hK.out _ _ (Ex.plus_ _ _ _) ⟨_, _, _, rfl, ho2.rb⟩
        | 2, _, ho, hO, hD, hK => 
          obtain rfl := Option.some.inj ho.symm
          clear ho
          have f34 := hD 1 34 (by kernel_rfl)
          generalize eu34 : FA.eval (.tmp 34) = u34 at f34
          have e34 : FA.tmps[34]?.getD undef = u34 := by rw [← eu34]; simp [Act.eval]
          have ev34 := Lib.hid eu34
          clear eu34
          clear hO hD
          obtain ⟨A1, n1, c1, rfl, hr1⟩ := f34
          have es := run_str bt Try.underlying9 hr1
          go_simp
          exact hK.out _ _ (Ex.refl _) rfl
        | 3, _, ho, hO, hD, hK => 
          obtain rfl := Option.some.inj ho.symm
          clear ho
          have ev1 : FA.eval (.tmp 1) = .pointer (some ⟨w.heap.size, 0, none⟩) := hO 1 (by kernel_rfl)
          have e1 : FA.tmps[1]?.getD undef = .pointer (some ⟨w.heap.size, 0, none⟩) := by simpa [Act.eval] using ev1
          replace ev1 := Lib.hid ev1
          clear hO hD
          refine wanted_ifG (by go_simp) ?_
          refine wp_load_mid 31 (.tmp 1) rfl w.heap.size 0 ev1.out (segC a b c d f wi sm ur A n k A2 n2 k2) _ (Bk.range (hS.later (below_plus _ _ _))) r1 r2 (szSegR _ rfl) ?_
          exact hK.out _ _ (Ex.refl _) rfl
        | 4, _, ho, hO, hD, hK => 
          obtain rfl := Option.some.inj ho.symm
          clear ho
          have ev36 : FA.eval (.tmp 36) = .agg (segC a b c d f wi sm ur A n k A2 n2 k2).toArray := hD 3 36 (by kernel_rfl)
          have e36 : FA.tmps[36]?.getD undef = .agg (segC a b c d f wi sm ur A n k A2 n2 k2).toArray := by simpa [Act.eval] using ev36
          replace ev36 := Lib.hid ev36
          clear hO hD
          go_simp
          refine (HRB.out _ (h.plus_ _ _) (h2.plus_ _ _)).mono ?_
          rintro e w1 ⟨A3, n3, c3, bs2, d2, rfl, rfl, ho2⟩
          exact hK.out _ _ (Ex.plus_ _ _ _) ⟨_, _, _, rfl, ho2.rb⟩
        | 5, _, ho, hO, hD, hK => 
          obtain rfl := Option.some.inj ho.symm
          clear ho
          have f37 := hD 4 37 (by kernel_rfl)
          generalize eu37 : FA.eval (.tmp 37) = u37 at f37
          have e37 : FA.tmps[37]?.getD undef = u37 := by rw [← eu37]; simp [Act.eval]
          have ev37 := Lib.hid eu37
          clear eu37
          clear hO hD
          obtain ⟨A1, n1, c1, rfl, hr1⟩ := f37
          have es := run_str bt Try.underlying9 hr1
          go_simp
          exact hK.out _ _ (Ex.refl _) rfl
        | 6, _, ho, hO, hD, hK => 
          obtain rfl := Option.some.inj ho.symm
          clear ho
          have ev35 : FA.eval (.tmp 35) = .string ⟨(tcpB a b c d (80 + n / 4 * 16) f wi sm ur l l2).toArray⟩ := hD 2 35 (by kernel_rfl)
          have e35 : FA.tmps[35]?.getD undef = .string ⟨(tcpB a b c d (80 + n / 4 * 16) f wi sm ur l l2).toArray⟩ := by simpa [Act.eval] using ev35
          replace ev35 := Lib.hid ev35
          have ev38 : FA.eval (.tmp 38) = .string ⟨(tcpB a b c d (80 + n / 4 * 16) f wi sm ur l l2).toArray⟩ := hD 5 38 (by kernel_rfl)
          have e38 : FA.tmps[38]?.getD undef = .string ⟨(tcpB a b c d (80 + n / 4 * 16) f wi sm ur l l2).toArray⟩ := by simpa [Act.eval] using ev38
          replace ev38 := Lib.hid ev38
          clear hO hD
          go_simp
          exact hK.out _ _ (Ex.refl _) rfl
        | 7, _, ho, hO, hD, hK => 
          obtain rfl := Option.some.inj ho.symm
          clear ho
          have ev39 : FA.eval (.tmp 39) = .bool true := hD 6 39 (by kernel_rfl)
          have e39 : FA.tmps[39]?.getD undef = .bool true := by simpa [Act.eval] using ev39
          replace ev39 := Lib.hid ev39
          clear hO hD
          go_simp
          exact hK.out _ _ (Ex.refl _) rfl
        | 8, _, ho, hO, hD, hK => 
          obtain rfl := Option.some.inj ho.symm
          clear ho
          have ev4 : FA.eval (.tmp 4) = .pointer (some ⟨g4, 0, none⟩) := hO 4 (by kernel_rfl)
          have e4 : FA.tmps[4]?.getD undef = .pointer (some ⟨g4, 0, none⟩) := by simpa [Act.eval] using ev4
          replace ev4 := Lib.hid ev4
          have ev40 : FA.eval (.tmp 40) = .bool true := hD 7 40 (by kernel_rfl)
          have e40 : FA.tmps[40]?.getD undef = .bool true := by simpa [Act.eval] using ev40
          replace ev40 := Lib.hid ev40
          have ge40 := slot_of e40
          clear hO hD
          refine wanted_ifG (by go_simp) ?_
          refine wp_load_mid 27 (.tmp 4) rfl g4 0 ev4.out (segC a b c d f wi sm ur Ay ny ky Az nz kz) _ (Bk.range (hY.later (below_plus _ _ _))) x1 x2 (szSeg _ rfl) ?_
          exact hK.out _ _ (Ex.refl _) rfl
        | 9, _, ho, hO, hD, hK => 
          obtain rfl := Option.some.inj ho.symm
          clear ho
          have ev41 : FA.eval (.tmp 41) = .agg (segC a b c d f wi sm ur Ay ny ky Az nz kz).toArray := hD 8 41 (by kernel_rfl)
          have e41 : FA.tmps[41]?.getD undef = .agg (segC a b c d f wi sm ur Ay ny ky Az nz kz).toArray := by simpa [Act.eval] using ev41
          replace ev41 := Lib.hid ev41
          have ev40 : FA.eval (.tmp 40) = .bool true := hD 7 40 (by kernel_rfl)
          have e40 : FA.tmps[40]?.getD undef = .bool true := by simpa [Act.eval] using ev40
          replace ev40 := Lib.hid ev40
          have ge40 := slot_of e40
          clear hO hD
          go_simp
          refine (tcpOf_any _ _ _ _ _ _ _ _ _ _ _ _ _ _ _).mono ?_
          rintro e w1 ⟨bs2, d2, rfl, rfl⟩
          exact hK.out _ _ (Ex.plus_ _ _ _) rfl
        | 10, _, ho, hO, hD, hK => 
          obtain rfl := Option.some.inj ho.symm
          clear ho
          have ev1 : FA.eval (.tmp 1) = .pointer (some ⟨w.heap.size, 0, none⟩) := hO 1 (by kernel_rfl)
          have e1 : FA.tmps[1]?.getD undef = .pointer (some ⟨w.heap.size, 0, none⟩) := by simpa [Act.eval] using ev1
          replace ev1 := Lib.hid ev1
          have ev40 : FA.eval (.tmp 40) = .bool true := hD 7 40 (by kernel_rfl)
          have e40 : FA.tmps[40]?.getD undef = .bool true := by simpa [Act.eval] using ev40
          replace ev40 := Lib.hid ev40
          have ge40 := slot_of e40
          clear hO hD
          refine wanted_ifG (by go_simp) ?_
          refine wp_load_mid 31 (.tmp 1) rfl w.heap.size 0 ev1.out (segC a b c d f wi sm ur A n k A2 n2 k2) _ (Bk.range (hS.later (below_plus _ _ _))) r1 r2 (szSegR _ rfl) ?_
          exact hK.out _ _ (Ex.refl _) rfl
        | 11, _, ho, hO, hD, hK => 
          obtain rfl := Option.some.inj ho.symm
          clear ho
          have ev42 : FA.eval (.tmp 42) = .agg (segC a b c d f wi sm ur Ay ny ky Az nz kz).toArray := hD 9 42 (by kernel_rfl)
          have e42 : FA.tmps[42]?.getD undef = .agg (segC a b c d f wi sm ur Ay ny ky Az nz kz).toArray := by simpa [Act.eval] using ev42
          replace ev42 := Lib.hid ev42
          have ev43 : FA.eval (.tmp 43) = .agg (segC a b c d f wi sm ur A n k A2 n2 k2).toArray := hD 10 43 (by kernel_rfl)
          have e43 : FA.tmps[43]?.getD undef = .agg (segC a b c d f wi sm ur A n k A2 n2 k2).toArray := by simpa [Act.eval] using ev43
          replace ev43 := Lib.hid ev43
          have ev40 : FA.eval (.tmp 40) = .bool true := hD 7 40 (by kernel_rfl)
          have e40 : FA.tmps[40]?.getD undef = .bool true := by simpa [Act.eval] using ev40
          replace ev40 := Lib.hid ev40
          have ge40 := slot_of e40
          clear hO hD
          go_simp
          refine (tcpSame_any _ _ _ _ _ _ _ _ _ _ _ _ _ _ _ _ _ _ _ _ l l2 _ (hy1.plus_ _ _) (hy2.plus_ _ _) (h.plus_ _ _) (h2.plus_ _ _)).mono ?_
          rintro e w1 ⟨bs2, d2, rfl, rfl⟩
          exact hK.out _ _ (Ex.plus_ _ _ _) rfl
        | 12, _, ho, hO, hD, hK => 
          obtain rfl := Option.some.inj ho.symm
          clear ho
          have ev40 : FA.eval (.tmp 40) = .bool true := hD 7 40 (by kernel_rfl)
          have e40 : FA.tmps[40]?.getD undef = .bool true := by simpa [Act.eval] using ev40
          replace ev40 := Lib.hid ev40
          have ev44 : FA.eval (.tmp 44) = .bool true := hD 11 44 (by kernel_rfl)
          have e44 : FA.tmps[44]?.getD undef = .bool true := by simpa [Act.eval] using ev44
          replace ev44 := Lib.hid ev44
          clear hO hD
          go_simp
          exact hK.out _ _ (Ex.refl _) rfl
        | 13, _, ho, hO, hD, hK => 
          obtain rfl := Option.some.inj ho.symm
          clear ho
          have ev45 : FA.eval (.tmp 45) = .bool true := hD 12 45 (by kernel_rfl)
          have e45 : FA.tmps[45]?.getD undef = .bool true := by simpa [Act.eval] using ev45
          replace ev45 := Lib.hid ev45
          clear hO hD
          go_simp
          exact hK.out _ _ (Ex.refl _) rfl
        | 14, _, ho, hO, hD, hK => 
          obtain rfl := Option.some.inj ho.symm
          clear ho
          have ev5 : FA.eval (.tmp 5) = .int .i64 0 := hO 5 (by kernel_rfl)
          have e5 : FA.tmps[5]?.getD undef = .int .i64 0 := by simpa [Act.eval] using ev5
          replace ev5 := Lib.hid ev5
          have ev46 : FA.eval (.tmp 46) = .bool true := hD 13 46 (by kernel_rfl)
          have e46 : FA.tmps[46]?.getD undef = .bool true := by simpa [Act.eval] using ev46
          replace ev46 := Lib.hid ev46
          have ge46 := slot_of e46
          clear hO hD
          go_simp
          exact hK.out _ _ (Ex.refl _) rfl
        | 15, _, ho, hO, hD, hK => 
          obtain rfl := Option.some.inj ho.symm
          clear ho
          have ev47 : FA.eval (.tmp 47) = .int .i64 0 := hD 14 47 (by kernel_rfl)
          have e47 : FA.tmps[47]?.getD undef = .int .i64 0 := by simpa [Act.eval] using ev47
          replace ev47 := Lib.hid ev47
          have ev46 : FA.eval (.tmp 46) = .bool true := hD 13 46 (by kernel_rfl)
          have e46 : FA.tmps[46]?.getD undef = .bool true := by simpa [Act.eval] using ev46
          replace ev46 := Lib.hid ev46
          have ge46 := slot_of e46
          clear hO hD
          go_simp
          exact hK.out _ _ (Ex.refl _) rfl
        | 16, _, ho, hO, hD, hK => 
          obtain rfl := Option.some.inj ho.symm
          clear ho
          have ev46 : FA.eval (.tmp 46) = .bool true := hD 13 46 (by kernel_rfl)
          have e46 : FA.tmps[46]?.getD undef = .bool true := by simpa [Act.eval] using ev46
          replace ev46 := Lib.hid ev46
          have ev48 : FA.eval (.tmp 48) = .bool true := hD 15 48 (by kernel_rfl)
          have e48 : FA.tmps[48]?.getD undef = .bool true := by simpa [Act.eval] using ev48
          replace ev48 := Lib.hid ev48
          clear hO hD
          go_simp
          exact hK.out _ _ (Ex.refl _) rfl
        | 17, _, ho, hO, hD, hK => 
          obtain rfl := Option.some.inj ho.symm
          clear ho
          have ev49 : FA.eval (.tmp 49) = .bool true := hD 16 49 (by kernel_rfl)
          have e49 : FA.tmps[49]?.getD undef = .bool true := by simpa [Act.eval] using ev49
          replace ev49 := Lib.hid ev49
          clear hO hD
          go_simp
          exact hK.out _ _ (Ex.refl _) rfl
        | 18, _, ho, hO, hD, hK => 
          obtain rfl := Option.some.inj ho.symm
          clear ho
          have ev50 : FA.eval (.tmp 50) = .bool true := hD 17 50 (by kernel_rfl)
          have e50 : FA.tmps[50]?.getD undef = .bool true := by simpa [Act.eval] using ev50
          replace ev50 := Lib.hid ev50
          have ge50 := slot_of e50
          clear hO hD
          go_simp
          refine (tcpAwakeV _).mono ?_
          rintro e w1 ⟨bs2, d2, rfl, rfl⟩
          exact hK.out _ _ (Ex.plus_ _ _ _) rfl
        | 19, _, ho, hO, hD, hK => 
          obtain rfl := Option.some.inj ho.symm
          clear ho
          have ev50 : FA.eval (.tmp 50) = .bool true := hD 17 50 (by kernel_rfl)
          have e50 : FA.tmps[50]?.getD undef = .bool true := by simpa [Act.eval] using ev50
          replace ev50 := Lib.hid ev50
          have ev51 : FA.eval (.tmp 51) = .bool true := hD 18 51 (by kernel_rfl)
          have e51 : FA.tmps[51]?.getD undef = .bool true := by simpa [Act.eval] using ev51
          replace ev51 := Lib.hid ev51
          clear hO hD
          go_simp
          exact hK.out _ _ (Ex.refl _) rfl
        | 20, _, ho, hO, hD, hK => 
          obtain rfl := Option.some.inj ho.symm
          clear ho
          have ev52 : FA.eval (.tmp 52) = .bool true := hD 19 52 (by kernel_rfl)
          have e52 : FA.tmps[52]?.getD undef = .bool true := by simpa [Act.eval] using ev52
          replace ev52 := Lib.hid ev52
          clear hO hD
          go_simp
          exact hK.out _ _ (Ex.refl _) rfl
        | (k + 21), hi, _, _, _, _ => exact absurd hi (by omega)
      intro vs x hp
      have p0 : vs 0 = .agg (segC a b c d f wi sm ur A n k A2 n2 k2).toArray := hp 0 (by omega)
      have p1 := hp 1 (by omega)
      have p2 : vs 2 = .string ⟨(tcpB a b c d (80 + n / 4 * 16) f wi sm ur l l2).toArray⟩ := hp 2 (by omega)
      have p3 : vs 3 = .agg (segC a b c d f wi sm ur A n k A2 n2 k2).toArray := hp 3 (by omega)
      have p4 := hp 4 (by omega)
      have p5 : vs 5 = .string ⟨(tcpB a b c d (80 + n / 4 * 16) f wi sm ur l l2).toArray⟩ := hp 5 (by omega)
      have p6 : vs 6 = .bool true := hp 6 (by omega)
      have p7 : vs 7 = .bool true := hp 7 (by omega)
      have p8 : vs 8 = .agg (segC a b c d f wi sm ur Ay ny ky Az nz kz).toArray := hp 8 (by omega)
      have p9 : vs 9 = .agg (segC a b c d f wi sm ur Ay ny ky Az nz kz).toArray := hp 9 (by omega)
      have p10 : vs 10 = .agg (segC a b c d f wi sm ur A n k A2 n2 k2).toArray := hp 10 (by omega)
      have p11 : vs 11 = .bool true := hp 11 (by omega)
      have p12 : vs 12 = .bool true := hp 12 (by omega)
      have p13 : vs 13 = .bool true := hp 13 (by omega)
      have p14 : vs 14 = .int .i64 0 := hp 14 (by omega)
      have p15 : vs 15 = .bool true := hp 15 (by omega)
      have p16 : vs 16 = .bool true := hp 16 (by omega)
      have p17 : vs 17 = .bool true := hp 17 (by omega)
      have p18 : vs 18 = .bool true := hp 18 (by omega)
      have p19 : vs 19 = .bool true := hp 19 (by omega)
      have p20 : vs 20 = .bool true := hp 20 (by omega)
      clear hp
      simp only [List.take_succ_cons, List.take_zero, List.drop_succ_cons, List.drop_zero, putAll, Nat.zero_add, Nat.reduceAdd, Act.put, List.setIfInBounds_toArray, List.set_cons_zero, List.set_cons_succ, p0, p2, p3, p5, p6, p7, p8, p9, p10, p11, p12, p13, p14, p15, p16, p17, p18, p19, p20]
      clear p0 p2 p3 p5 p6 p7 p8 p9 p10 p11 p12 p13 p14 p15 p16 p17 p18 p19 p20
      generalize vs 1 = y1 at *
      generalize vs 4 = y4 at *
      clear vs
      go_wp2
      go_ret
      exact ⟨rfl, belowP be _ _⟩
  · have HL := Lib.hid (fun w => tcpLtNo a b c d f wi sm ur A n k A2 n2 k2 w hli (by omega) (by omega))
    go_enter Try.func5, Try.ntmps5
    go_wp2_with (first
      | (refine at_op (.load 31 (.tmp 1)) rfl ?_; refine wpList_ldA (t := 31) 31 (.tmp 1) rfl rfl (segC a b c d f wi sm ur A n k A2 n2 k2) rfl (hS) (whole_ _) r1 r2 (szSegR _ rfl) ?_)
      | (go_at_call 24; refine (HL.out _).mono ?_; rintro e w1 ⟨bs1, d1, rfl, rfl⟩)
      | (go_at_call 15; refine (tcpAwakeV _).mono ?_; rintro e w1 ⟨bs2, d2, rfl, rfl⟩))
    go_ret
    exact ⟨rfl, belowP (belowP be _ _) _ _⟩
end Go.Proofs.Yticlohlpccollaa
