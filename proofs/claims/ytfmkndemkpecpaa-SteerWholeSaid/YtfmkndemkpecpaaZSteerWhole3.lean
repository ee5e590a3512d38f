/- Texts of the law SteerWhole, part 3. -/
import Derived.Test.YtfmkndemkpecpaaZSteerWhole2
/- Fine of segments and of datagrams, on both sides (chapters 6, 7). -/
namespace Go.Proofs.Ytfmkndemkpecpaa
open Go.RowKit
set_option linter.unusedVariables false
set_option linter.unusedSimpArgs false
attribute [local go_sem ↓] sliced_cut

attribute [local go_sem] cutA_zero

/-- the sum of all that a segment's checksum covers -/
def tcT (s6 : Bool) (sh sl : Nat) (d6 : Bool) (dh dl : Nat) (l : List UInt8) : Nat := tot false (psdB s6 sh sl d6 dh dl 6 l.length ++ l)
set_option maxHeartbeats 4000000 in
set_option maxRecDepth 100000 in
theorem tcpFine (A : Option Addr) (n c : Nat) (s6 : Bool) (sh sl : Nat) (d6 : Bool) (dh dl : Nat) (l : List UInt8) (w : World) (k1 : sh < 18446744073709551616) (k2 : sl < 18446744073709551616) (k3 : dh < 18446744073709551616) (k4 : dl < 18446744073709551616) (h : Rb w A n c l) (hn : n ≤ 65535) : Calls Try.prog 158 #[.slice A n c, .agg (adC s6 sh sl).toArray, .agg (adC d6 dh dl).toArray] w (RetV w (.bool (65535 - fd (tcT s6 sh sl d6 dh dl l) == 0))) := by
  have d1 : decide ((n : Int) ≤ 65535) = true := by simp only [decide_eq_true_eq]; omega
  have hT : ([psdB s6 sh sl d6 dh dl 6 n, l] : List (List UInt8)).flatten.length ≤ 1000000 := by have := psdB_length s6 sh sl d6 dh dl 6 n; have := h.1; simp; omega
  have HE : Hid (tot false ([psdB s6 sh sl d6 dh dl 6 n, l] : List (List UInt8)).flatten = tcT s6 sh sl d6 dh dl l) := Lib.hid (by rw [← h.1]; simp [tcT])
  have HO := Lib.hid (fun w A1 c1 (h : RdL w A1 2 [psdB s6 sh sl d6 dh dl 6 n, l]) => sumRight A1 2 c1 _ w h (by omega) hT)
  rw [HE.out] at HO
  have HP := Lib.hid (fun w => (pseudo_any s6 sh sl d6 dh dl 6 n w k1 k2 k3 k4 (by omega) (by omega) : Calls Try.prog 179 #[.agg (adC s6 sh sl).toArray, .agg (adC d6 dh dl).toArray, .int .u8 6, .int .i64 (n : Int)] w (RetF w (psdB s6 sh sl d6 dh dl 6 n))))
  obtain ⟨dy, y1, y2⟩ := rowAd
  have hS : Bk ((w.alloc (.cells (adC s6 sh sl).toArray 26)).alloc (.cells (adC d6 dh dl).toArray 26)) w.heap.size 26 (adC s6 sh sl) := (Bk.new w 26 (adC s6 sh sl).toArray).alloc _
  have hD : Bk ((w.alloc (.cells (adC s6 sh sl).toArray 26)).alloc (.cells (adC d6 dh dl).toArray 26)) (w.heap.size + 1) 26 (adC d6 dh dl) := Bk.newK _ _ _ (by simp) rfl
  have be : Below w.heap.size w ((w.alloc (.cells (adC s6 sh sl).toArray 26)).alloc (.cells (adC d6 dh dl).toArray 26)) := Below.allocS (Below.allocS (Below.refl _ _) _) _
  replace h := (h.alloc (.cells (adC s6 sh sl).toArray 26)).alloc (.cells (adC d6 dh dl).toArray 26)
  clear hT HE
  generalize psdB s6 sh sl d6 dh dl 6 n = Pq at *
  generalize tcT s6 sh sl d6 dh dl l = t at *
  go_enter Try.func158, Try.ntmps158
  go_upto_region 1 with (fail)
  generalize (w.alloc (.cells (adC s6 sh sl).toArray 26)).alloc (.cells (adC d6 dh dl).toArray 26) = W at *
  refine wp_region_lit ?_
  iterate 4 (refine wpList_plain rfl (fun K hK => ?_); go_simp; with_reducible refine hK _ _ ?_; clear hK K)
  refine wpList_ldG (t := 26) 26 (.tmp 4) rfl (by go_simp) (adC s6 sh sl) rfl (hS) (whole_ _) y1 y2 (szAd _ _ _) ?_
  simp only [Act.put, List.setIfInBounds_toArray, List.set_cons_zero, List.set_cons_succ]
  refine wpList_ldG (t := 26) 26 (.tmp 5) rfl (by go_simp) (adC d6 dh dl) rfl (hD) (whole_ _) y1 y2 (szAd _ _ _) ?_
  iterate 2 (refine wpList_step (fun K hK => ?_); go_simp; with_reducible refine hK _ _ ?_; clear hK K)
  refine wpList_step (fun K hK => ?_)
  go_simp
  refine (HP.out _).mono ?_
  rintro e w1 ⟨A2, n2, bs2, d2, rfl, rfl, ho2⟩
  with_reducible refine hK _ _ ?_
  clear hK K
  iterate 2 (refine wpList_step (fun K hK => ?_); go_simp; with_reducible refine hK _ _ ?_; clear hK K)
  go_wp2_with fail
  refine (HO.out _ _ _ (RdL.litW [.slice A2 n2 n2, .slice A n c] _ (by simp [size_plus]) (.cons ⟨_, _, _, rfl, ho2.rb⟩ (.cons ⟨_, _, _, rfl, h.plus_ _ _⟩ .nil)))).mono ?_
  rintro e w1 ⟨rfl, rfl⟩
  go_wp2
  go_ret
  exact RetV.mk (Below.allocS (belowP be _ _) _)
set_option maxHeartbeats 4000000 in
set_option maxRecDepth 100000 in
theorem refTcpFine (A : Option Addr) (n c : Nat) (s6 : Bool) (sh sl : Nat) (d6 : Bool) (dh dl : Nat) (l : List UInt8) (w : World) (k1 : sh < 18446744073709551616) (k2 : sl < 18446744073709551616) (k3 : dh < 18446744073709551616) (k4 : dl < 18446744073709551616) (h : Rb w A n c l) (hn : n ≤ 65535) : Calls Try.prog 60 #[.slice A n c, .agg (adC s6 sh sl).toArray, .agg (adC d6 dh dl).toArray] w (RetV w (.bool (65535 - fd (tcT s6 sh sl d6 dh dl l) == 0))) := by
  have d1 : decide ((n : Int) ≤ 65535) = true := by simp only [decide_eq_true_eq]; omega
  have hT : ([psdB s6 sh sl d6 dh dl 6 n, l] : List (List UInt8)).flatten.length ≤ 40 + n := by have := psdB_length s6 sh sl d6 dh dl 6 n; have := h.1; simp; omega
  have HE : Hid (tot false ([psdB s6 sh sl d6 dh dl 6 n, l] : List (List UInt8)).flatten = tcT s6 sh sl d6 dh dl l) := Lib.hid (by rw [← h.1]; simp [tcT])
  have HJ := Lib.hid (fun w A5 c5 (h : RdL w A5 2 [psdB s6 sh sl d6 dh dl 6 n, l]) => refJoin_any A5 2 c5 _ w h (by omega) (by omega))
  have HO := Lib.hid (fun w A5 n5 c5 (h : Rb w A5 n5 c5 ([psdB s6 sh sl d6 dh dl 6 n, l] : List (List UInt8)).flatten) => refSumOf A5 n5 c5 _ w h (by rw [← h.1]; omega))
  rw [HE.out] at HO
  have HP := Lib.hid (fun w => (refPseudo_any s6 sh sl d6 dh dl 6 n w k1 k2 k3 k4 (by omega) (by omega) : Calls Try.prog 120 #[.agg (adC s6 sh sl).toArray, .agg (adC d6 dh dl).toArray, .int .u8 6, .int .i64 (n : Int)] w (RetB w (psdB s6 sh sl d6 dh dl 6 n))))
  obtain ⟨dy, y1, y2⟩ := rowAd
  have hS : Bk ((w.alloc (.cells (adC s6 sh sl).toArray 26)).alloc (.cells (adC d6 dh dl).toArray 26)) w.heap.size 26 (adC s6 sh sl) := (Bk.new w 26 (adC s6 sh sl).toArray).alloc _
  have hD : Bk ((w.alloc (.cells (adC s6 sh sl).toArray 26)).alloc (.cells (adC d6 dh dl).toArray 26)) (w.heap.size + 1) 26 (adC d6 dh dl) := Bk.newK _ _ _ (by simp) rfl
  have be : Below w.heap.size w ((w.alloc (.cells (adC s6 sh sl).toArray 26)).alloc (.cells (adC d6 dh dl).toArray 26)) := Below.allocS (Below.allocS (Below.refl _ _) _) _
  replace h := (h.alloc (.cells (adC s6 sh sl).toArray 26)).alloc (.cells (adC d6 dh dl).toArray 26)
  have HW : ∀ f : Nat, (f ≤ 65535) → (((65535 - f : Nat) : Int) == 0) = (65535 - f == 0) := fun f hf => by rw [Bool.eq_iff_iff, beq_iff_eq, beq_iff_eq]; omega
  replace HW := HW _ (fd_le (tcT s6 sh sl d6 dh dl l))
  clear hT HE
  generalize psdB s6 sh sl d6 dh dl 6 n = Pq at *
  generalize tcT s6 sh sl d6 dh dl l = t at *
  go_enter Try.func60, Try.ntmps60
  go_upto_region 1 with (fail)
  generalize (w.alloc (.cells (adC s6 sh sl).toArray 26)).alloc (.cells (adC d6 dh dl).toArray 26) = W at *
  refine wp_region_lit ?_
  iterate 4 (refine wpList_plain rfl (fun K hK => ?_); go_simp; with_reducible refine hK _ _ ?_; clear hK K)
  refine wpList_ldG (t := 26) 26 (.tmp 4) rfl (by go_simp) (adC s6 sh sl) rfl (hS) (whole_ _) y1 y2 (szAd _ _ _) ?_
  simp only [Act.put, List.setIfInBounds_toArray, List.set_cons_zero, List.set_cons_succ]
  refine wpList_ldG (t := 26) 26 (.tmp 5) rfl (by go_simp) (adC d6 dh dl) rfl (hD) (whole_ _) y1 y2 (szAd _ _ _) ?_
  iterate 2 (refine wpList_step (fun K hK => ?_); go_simp; with_reducible refine hK _ _ ?_; clear hK K)
  refine wpList_step (fun K hK => ?_)
  go_simp
  refine (HP.out _).mono ?_
  rintro e w1 ⟨A2, n2, c2, bs2, d2, rfl, rfl, ho2⟩
  with_reducible refine hK _ _ ?_
  clear hK K
  iterate 2 (refine wpList_step (fun K hK => ?_); go_simp; with_reducible refine hK _ _ ?_; clear hK K)
  go_wp2_with fail
  refine (HJ.out _ _ _ (RdL.litW [.slice A2 n2 c2, .slice A n c] _ (by simp [size_plus]) (.cons ⟨_, _, _, rfl, ho2.rb⟩ (.cons ⟨_, _, _, rfl, h.plus_ _ _⟩ .nil)))).mono ?_
  rintro e w1 ⟨A6, n6, c6, bs6, d6', rfl, rfl, ho6⟩
  go_wp2_with fail
  refine (HO.out _ _ _ _ ho6.rb).mono ?_
  rintro e w1 ⟨rfl, rfl⟩
  go_wp2
  go_ret
  exact RetV.is_ (by first | rfl | rw [HW]) (belowP (Below.allocS (belowP be _ _) _) _ _)
def dgX (a b s : Nat) (A : Option Addr) (n k : Nat) : List Value := [.int .u16 (a : Int), .int .u16 (b : Int), .int .u16 (s : Int), .slice A n k]
theorem dgX_one (a b s : Nat) (A : Option Addr) (n k : Nat) : ∀ u ∈ dgX a b s A n k, u.oneCell' = true := by
  intro u hu
  simp only [dgX, List.mem_cons, List.not_mem_nil, or_false] at hu
  rcases hu with rfl | rfl | rfl | rfl <;> rfl
theorem szDX (a b s : Nat) (A : Option Addr) (n k : Nat) : (Try.prog.info? 49).map (·.size) = some (dgX a b s A n k).length := by kernel_rfl
theorem szRX (a b s : Nat) (A : Option Addr) (n k : Nat) : (Try.prog.info? 57).map (·.size) = some (dgX a b s A n k).length := by kernel_rfl
theorem rowDX : ∃ d, Try.prog.underlying 49 = some d ∧ d.isRow = true := ⟨_, Try.underlying49, rfl⟩
theorem rowRX : ∃ d, Try.prog.underlying 57 = some d ∧ d.isRow = true := ⟨_, Try.underlying57, rfl⟩
/-- the bytes of a datagram -/
def udpD (a b s : Nat) (l : List UInt8) : List UInt8 := dig a 2 ++ dig b 2 ++ dig (8 + l.length) 2 ++ dig s 2 ++ l
theorem udpD_length (a b s : Nat) (l : List UInt8) : (udpD a b s l).length = 8 + l.length := by simp [udpD, dig_length]; omega
theorem udpBytesX (a b s : Nat) (A : Option Addr) (n k : Nat) (l : List UInt8) (w : World) (ha : a < 65536) (hb : b < 65536) (hs : s < 65536) (h : Rb w A n k l) (hn : n ≤ 65527) : Calls Try.prog 181 #[.agg (dgX a b s A n k).toArray] w (RetB w (udpD a b s l)) := by
  have := udpBytes_any (a : Int) b s A n k l w (by omega) (by omega) (by omega) h hn
  simpa [udpD, dgX, h.1] using this
set_option maxHeartbeats 4000000 in
set_option maxRecDepth 100000 in
theorem refUdpBytesX (a b s : Nat) (A : Option Addr) (n k : Nat) (l : List UInt8) (w : World) (ha : a < 65536) (hb : b < 65536) (hs : s < 65536) (h : Rb w A n k l) (hn : n ≤ 65527) : Calls Try.prog 165 #[.agg (dgX a b s A n k).toArray] w (RetB w (udpD a b s l)) := by
  obtain ⟨m, hm⟩ : ∃ m : Nat, m = 8 + n := ⟨_, rfl⟩
  have wm : Hid (IntKind.i64.wrap (8 + (n : Int)) = (m : Int)) := Lib.hid (by rw [IntWalk.i64_in _ (by omega)]; omega)
  have mb : m ≤ 65535 := by omega
  have HT : Hid (([(dig (a) 2), (dig (b) 2), (dig (m) 2), (dig (s) 2), l]).flatten.length ≤ 549755813888) := Lib.hid (by simp [dig_length, h.1]; omega)
  have HE : Hid (([(dig (a) 2), (dig (b) 2), (dig (m) 2), (dig (s) 2), l]).flatten = udpD a b s l) := Lib.hid (by simp [udpD, h.1, hm])
  clear hm
  have hX : Bk (w.alloc (.cells (dgX a b s A n k).toArray 57)) w.heap.size 57 (dgX a b s A n k) := Bk.new w 57 (dgX a b s A n k).toArray
  obtain ⟨du, u1, u2⟩ := rowRX
  have g0 : IntKind.u64.wrap (a : Int) = (a : Int) := IntWalk.u64_in _ (by omega)
  have g1 : IntKind.u64.wrap (b : Int) = (b : Int) := IntWalk.u64_in _ (by omega)
  have g2 : IntKind.u64.wrap (m : Int) = (m : Int) := IntWalk.u64_in _ (by omega)
  have g3 : IntKind.u64.wrap (s : Int) = (s : Int) := IntWalk.u64_in _ (by omega)
  go_enter Try.func165, Try.ntmps165
  go_upto_region 1 with (fail)
  go_wp2
  refine wp_relS 23 25 rfl (by kernel_rfl) (by kernel_rfl) ?_
  apply Steps.one (MP.eq _) 1 rfl
  · intro o ho FA x hO hD K hK
    obtain rfl := Option.some.inj ho.symm
    clear ho
    have e1 := hO 1 (by kernel_rfl)
    simp only [eval_tmp, List.getElem?_toArray, List.getElem?_cons_succ, List.getElem?_cons_zero, Option.getD_some] at e1
    have ev1 := Lib.hid ((eval_tmp FA 1).trans e1)
    clear hO hD
    go_simp
    exact hK.out _ _ (Ex.refl _) rfl
  apply Steps.one (MP.eq _) 2 rfl
  · intro o ho FA x hO hD K hK
    obtain rfl := Option.some.inj ho.symm
    clear ho
    have ev3 : FA.eval (.tmp 3) = _ := hD 0 3 (by kernel_rfl)
    have e3 := (eval_tmp FA 3).symm.trans ev3
    replace ev3 := Lib.hid ev3
    clear hO hD
    refine wanted_if rfl ?_
    refine wp_ld1 27 (.tmp 3) rfl ev3.out (hX.later (below_plus _ _ _)) rfl Try.underlying27 rfl ?_
    exact hK.out _ _ (Ex.refl _) rfl
  apply Steps.one (MP.eq _) 3 rfl
  · intro o ho FA x hO hD K hK
    obtain rfl := Option.some.inj ho.symm
    clear ho
    have ev4 : FA.eval (.tmp 4) = _ := hD 1 4 (by kernel_rfl)
    have e4 := (eval_tmp FA 4).symm.trans ev4
    replace ev4 := Lib.hid ev4
    clear hO hD
    go_simp
    exact hK.out _ _ (Ex.refl _) rfl
  apply Steps.one (MP.rb (dig (a) 2)) 4 rfl
  · intro o ho FA x hO hD K hK
    obtain rfl := Option.some.inj ho.symm
    clear ho
    have ev5 : FA.eval (.tmp 5) = _ := hD 2 5 (by kernel_rfl)
    have e5 := (eval_tmp FA 5).symm.trans ev5
    replace ev5 := Lib.hid ev5
    clear hO hD
    go_simp
    refine (refBytes_any (a) 2 _ (by omega) (by omega)).mono ?_
    rintro e w1 ⟨A2, n2, c2, bs2, d2, rfl, rfl, ho2⟩
    exact hK.out _ _ (Ex.plus_ _ _ _) ⟨_, _, _, rfl, ho2.rb⟩
  apply Steps.one (MP.eq _) 5 rfl
  · intro o ho FA x hO hD K hK
    obtain rfl := Option.some.inj ho.symm
    clear ho
    have e1 := hO 1 (by kernel_rfl)
    simp only [eval_tmp, List.getElem?_toArray, List.getElem?_cons_succ, List.getElem?_cons_zero, Option.getD_some] at e1
    have ev1 := Lib.hid ((eval_tmp FA 1).trans e1)
    clear hO hD
    go_simp
    exact hK.out _ _ (Ex.refl _) rfl
  apply Steps.one (MP.eq _) 6 rfl
  · intro o ho FA x hO hD K hK
    obtain rfl := Option.some.inj ho.symm
    clear ho
    have ev7 : FA.eval (.tmp 7) = _ := hD 4 7 (by kernel_rfl)
    have e7 := (eval_tmp FA 7).symm.trans ev7
    replace ev7 := Lib.hid ev7
    clear hO hD
    refine wanted_if rfl ?_
    refine wp_ld1 27 (.tmp 7) rfl ev7.out (hX.later (below_plus _ _ _)) rfl Try.underlying27 rfl ?_
    exact hK.out _ _ (Ex.refl _) rfl
  apply Steps.one (MP.eq _) 7 rfl
  · intro o ho FA x hO hD K hK
    obtain rfl := Option.some.inj ho.symm
    clear ho
    have ev8 : FA.eval (.tmp 8) = _ := hD 5 8 (by kernel_rfl)
    have e8 := (eval_tmp FA 8).symm.trans ev8
    replace ev8 := Lib.hid ev8
    clear hO hD
    go_simp
    exact hK.out _ _ (Ex.refl _) rfl
  apply Steps.one (MP.rb (dig (b) 2)) 8 rfl
  · intro o ho FA x hO hD K hK
    obtain rfl := Option.some.inj ho.symm
    clear ho
    have ev9 : FA.eval (.tmp 9) = _ := hD 6 9 (by kernel_rfl)
    have e9 := (eval_tmp FA 9).symm.trans ev9
    replace ev9 := Lib.hid ev9
    clear hO hD
    go_simp
    refine (refBytes_any (b) 2 _ (by omega) (by omega)).mono ?_
    rintro e w1 ⟨A2, n2, c2, bs2, d2, rfl, rfl, ho2⟩
    exact hK.out _ _ (Ex.plus_ _ _ _) ⟨_, _, _, rfl, ho2.rb⟩
  apply Steps.one (MP.eq _) 9 rfl
  · intro o ho FA x hO hD K hK
    obtain rfl := Option.some.inj ho.symm
    clear ho
    have e1 := hO 1 (by kernel_rfl)
    simp only [eval_tmp, List.getElem?_toArray, List.getElem?_cons_succ, List.getElem?_cons_zero, Option.getD_some] at e1
    have ev1 := Lib.hid ((eval_tmp FA 1).trans e1)
    clear hO hD
    go_simp
    exact hK.out _ _ (Ex.refl _) rfl
  apply Steps.one (MP.eq _) 10 rfl
  · intro o ho FA x hO hD K hK
    obtain rfl := Option.some.inj ho.symm
    clear ho
    have ev11 : FA.eval (.tmp 11) = _ := hD 8 11 (by kernel_rfl)
    have e11 := (eval_tmp FA 11).symm.trans ev11
    replace ev11 := Lib.hid ev11
    clear hO hD
    refine wanted_if rfl ?_
    refine wp_ld1 22 (.tmp 11) rfl ev11.out (hX.later (below_plus _ _ _)) rfl Try.underlying22 rfl ?_
    exact hK.out _ _ (Ex.refl _) rfl
  apply Steps.one (MP.eq _) 11 rfl
  · intro o ho FA x hO hD K hK
    obtain rfl := Option.some.inj ho.symm
    clear ho
    have ev12 : FA.eval (.tmp 12) = _ := hD 9 12 (by kernel_rfl)
    have e12 := (eval_tmp FA 12).symm.trans ev12
    replace ev12 := Lib.hid ev12
    clear hO hD
    go_simp
    exact hK.out _ _ (Ex.refl _) rfl
  apply Steps.one (MP.eq (.int .i64 (m : Int))) 12 rfl
  · intro o ho FA x hO hD K hK
    obtain rfl := Option.some.inj ho.symm
    clear ho
    have ev13 : FA.eval (.tmp 13) = _ := hD 10 13 (by kernel_rfl)
    have e13 := (eval_tmp FA 13).symm.trans ev13
    replace ev13 := Lib.hid ev13
    clear hO hD
    go_simp
    exact hK.out _ _ (Ex.refl _) (congrArg (Value.int .i64) wm.out)
  apply Steps.one (MP.eq _) 13 rfl
  · intro o ho FA x hO hD K hK
    obtain rfl := Option.some.inj ho.symm
    clear ho
    have ev14 : FA.eval (.tmp 14) = _ := hD 11 14 (by kernel_rfl)
    have e14 := (eval_tmp FA 14).symm.trans ev14
    replace ev14 := Lib.hid ev14
    clear hO hD
    go_simp
    exact hK.out _ _ (Ex.refl _) rfl
  apply Steps.one (MP.rb (dig (m) 2)) 14 rfl
  · intro o ho FA x hO hD K hK
    obtain rfl := Option.some.inj ho.symm
    clear ho
    have ev15 : FA.eval (.tmp 15) = _ := hD 12 15 (by kernel_rfl)
    have e15 := (eval_tmp FA 15).symm.trans ev15
    replace ev15 := Lib.hid ev15
    clear hO hD
    go_simp
    refine (refBytes_any (m) 2 _ (by omega) (by omega)).mono ?_
    rintro e w1 ⟨A2, n2, c2, bs2, d2, rfl, rfl, ho2⟩
    exact hK.out _ _ (Ex.plus_ _ _ _) ⟨_, _, _, rfl, ho2.rb⟩
  apply Steps.one (MP.eq _) 15 rfl
  · intro o ho FA x hO hD K hK
    obtain rfl := Option.some.inj ho.symm
    clear ho
    have e1 := hO 1 (by kernel_rfl)
    simp only [eval_tmp, List.getElem?_toArray, List.getElem?_cons_succ, List.getElem?_cons_zero, Option.getD_some] at e1
    have ev1 := Lib.hid ((eval_tmp FA 1).trans e1)
    clear hO hD
    go_simp
    exact hK.out _ _ (Ex.refl _) rfl
  apply Steps.one (MP.eq _) 16 rfl
  · intro o ho FA x hO hD K hK
    obtain rfl := Option.some.inj ho.symm
    clear ho
    have ev17 : FA.eval (.tmp 17) = _ := hD 14 17 (by kernel_rfl)
    have e17 := (eval_tmp FA 17).symm.trans ev17
    replace ev17 := Lib.hid ev17
    clear hO hD
    refine wanted_if rfl ?_
    refine wp_ld1 27 (.tmp 17) rfl ev17.out (hX.later (below_plus _ _ _)) rfl Try.underlying27 rfl ?_
    exact hK.out _ _ (Ex.refl _) rfl
  apply Steps.one (MP.eq _) 17 rfl
  · intro o ho FA x hO hD K hK
    obtain rfl := Option.some.inj ho.symm
    clear ho
    have ev18 : FA.eval (.tmp 18) = _ := hD 15 18 (by kernel_rfl)
    have e18 := (eval_tmp FA 18).symm.trans ev18
    replace ev18 := Lib.hid ev18
    clear hO hD
    go_simp
    exact hK.out _ _ (Ex.refl _) rfl
  apply Steps.one (MP.rb (dig (s) 2)) 18 rfl
  · intro o ho FA x hO hD K hK
    obtain rfl := Option.some.inj ho.symm
    clear ho
    have ev19 : FA.eval (.tmp 19) = _ := hD 16 19 (by kernel_rfl)
    have e19 := (eval_tmp FA 19).symm.trans ev19
    replace ev19 := Lib.hid ev19
    clear hO hD
    go_simp
    refine (refBytes_any (s) 2 _ (by omega) (by omega)).mono ?_
    rintro e w1 ⟨A2, n2, c2, bs2, d2, rfl, rfl, ho2⟩
    exact hK.out _ _ (Ex.plus_ _ _ _) ⟨_, _, _, rfl, ho2.rb⟩
  apply Steps.one (MP.eq _) 19 rfl
  · intro o ho FA x hO hD K hK
    obtain rfl := Option.some.inj ho.symm
    clear ho
    have e1 := hO 1 (by kernel_rfl)
    simp only [eval_tmp, List.getElem?_toArray, List.getElem?_cons_succ, List.getElem?_cons_zero, Option.getD_some] at e1
    have ev1 := Lib.hid ((eval_tmp FA 1).trans e1)
    clear hO hD
    go_simp
    exact hK.out _ _ (Ex.refl _) rfl
  apply Steps.one (MP.eq _) 20 rfl
  · intro o ho FA x hO hD K hK
    obtain rfl := Option.some.inj ho.symm
    clear ho
    have ev21 : FA.eval (.tmp 21) = _ := hD 18 21 (by kernel_rfl)
    have e21 := (eval_tmp FA 21).symm.trans ev21
    replace ev21 := Lib.hid ev21
    clear hO hD
    refine wanted_if rfl ?_
    refine wp_ld1 22 (.tmp 21) rfl ev21.out (hX.later (below_plus _ _ _)) rfl Try.underlying22 rfl ?_
    exact hK.out _ _ (Ex.refl _) rfl
  apply Steps.one (MP.rdl [(dig (a) 2), (dig (b) 2), (dig (m) 2), (dig (s) 2), l]) 21 rfl
  · intro o ho FA x hO hD K hK
    obtain rfl := Option.some.inj ho.symm
    clear ho
    have f6 := hD 3 6 (by kernel_rfl)
    generalize eu6 : FA.eval (.tmp 6) = u6 at f6
    have e6 := (eval_tmp FA 6).symm.trans eu6
    have ev6 := Lib.hid eu6
    clear eu6
    have f10 := hD 7 10 (by kernel_rfl)
    generalize eu10 : FA.eval (.tmp 10) = u10 at f10
    have e10 := (eval_tmp FA 10).symm.trans eu10
    have ev10 := Lib.hid eu10
    clear eu10
    have f16 := hD 13 16 (by kernel_rfl)
    generalize eu16 : FA.eval (.tmp 16) = u16 at f16
    have e16 := (eval_tmp FA 16).symm.trans eu16
    have ev16 := Lib.hid eu16
    clear eu16
    have f20 := hD 17 20 (by kernel_rfl)
    generalize eu20 : FA.eval (.tmp 20) = u20 at f20
    have e20 := (eval_tmp FA 20).symm.trans eu20
    have ev20 := Lib.hid eu20
    clear eu20
    have ev22 : FA.eval (.tmp 22) = _ := hD 19 22 (by kernel_rfl)
    have e22 := (eval_tmp FA 22).symm.trans ev22
    replace ev22 := Lib.hid ev22
    clear hO hD
    obtain ⟨A6, n6, c6, rfl, h6⟩ := f6
    obtain ⟨A10, n10, c10, rfl, h10⟩ := f10
    obtain ⟨A16, n16, c16, rfl, h16⟩ := f16
    obtain ⟨A20, n20, c20, rfl, h20⟩ := f20
    go_simp
    refine hK.out _ _ (Ex.alloc _ _) ⟨_, _, _, rfl, ?_⟩
    refine RdL.litW _ _ ?_ ?_
    · simp [size_plus]
    · exact .cons ⟨_, _, _, rfl, h6⟩ (.cons ⟨_, _, _, rfl, h10⟩ (.cons ⟨_, _, _, rfl, h16⟩ (.cons ⟨_, _, _, rfl, h20⟩ (.cons ⟨_, _, _, rfl, (h.alloc _).plus_ _ _⟩ (.nil)))))
  apply Steps.one (MP.ob w.heap.size ([(dig (a) 2), (dig (b) 2), (dig (m) 2), (dig (s) 2), l]).flatten) 22 rfl
  · intro o ho FA x hO hD K hK
    obtain rfl := Option.some.inj ho.symm
    clear ho
    have f23 := hD 20 23 (by kernel_rfl)
    generalize eu23 : FA.eval (.tmp 23) = u23 at f23
    have e23 := (eval_tmp FA 23).symm.trans eu23
    have ev23 := Lib.hid eu23
    clear eu23
    clear hO hD
    obtain ⟨A1, m1, c1, rfl, hl1⟩ := f23
    have hm1 : m1 ≤ 100 := by obtain ⟨_, _, h2, _⟩ := hl1; simp only [List.length_cons, List.length_nil] at h2; omega
    go_simp
    refine (refJoin_any A1 m1 c1 _ _ hl1 (by omega) HT.out).mono ?_
    rintro e w1 ⟨A2, n2, c2, bs2, d2, rfl, rfl, ho2⟩
    exact hK.out _ _ (Ex.plus_ _ _ _) ⟨_, _, _, rfl, ho2.mono (by simp [size_plus]; omega)⟩
  apply Steps.one (MP.ob w.heap.size ([(dig (a) 2), (dig (b) 2), (dig (m) 2), (dig (s) 2), l]).flatten) 23 rfl
  · intro o ho FA x hO hD K hK
    obtain rfl := Option.some.inj ho.symm
    clear ho
    have f24 := hD 21 24 (by kernel_rfl)
    generalize eu24 : FA.eval (.tmp 24) = u24 at f24
    have e24 := (eval_tmp FA 24).symm.trans eu24
    have ev24 := Lib.hid eu24
    clear eu24
    clear hO hD
    go_simp
    exact hK.out _ _ (Ex.refl _) f24
  refine Steps.fin_ (fun vs x hp => ?_)
  have p0 : vs 0 = _ := hp 0 (by omega)
  have p1 : vs 1 = _ := hp 1 (by omega)
  have p2 : vs 2 = _ := hp 2 (by omega)
  have p3 := hp 3 (by omega)
  have p4 : vs 4 = _ := hp 4 (by omega)
  have p5 : vs 5 = _ := hp 5 (by omega)
  have p6 : vs 6 = _ := hp 6 (by omega)
  have p7 := hp 7 (by omega)
  have p8 : vs 8 = _ := hp 8 (by omega)
  have p9 : vs 9 = _ := hp 9 (by omega)
  have p10 : vs 10 = _ := hp 10 (by omega)
  have p11 : vs 11 = _ := hp 11 (by omega)
  have p12 : vs 12 = _ := hp 12 (by omega)
  have p13 := hp 13 (by omega)
  have p14 : vs 14 = _ := hp 14 (by omega)
  have p15 : vs 15 = _ := hp 15 (by omega)
  have p16 : vs 16 = _ := hp 16 (by omega)
  have p17 := hp 17 (by omega)
  have p18 : vs 18 = _ := hp 18 (by omega)
  have p19 : vs 19 = _ := hp 19 (by omega)
  have p20 := hp 20 (by omega)
  have p21 := hp 21 (by omega)
  have p22 := hp 22 (by omega)
  clear hp
  simp only [List.take_succ_cons, List.take_zero, List.drop_succ_cons, List.drop_zero, putAll, Nat.zero_add, Nat.reduceAdd, Act.put, List.setIfInBounds_toArray, List.set_cons_zero, List.set_cons_succ, p0, p1, p2, p4, p5, p6, p8, p9, p10, p11, p12, p14, p15, p16, p18, p19]
  clear p0 p1 p2 p4 p5 p6 p8 p9 p10 p11 p12 p14 p15 p16 p18 p19
  generalize vs 3 = y3 at *
  generalize vs 7 = y7 at *
  generalize vs 13 = y13 at *
  generalize vs 17 = y17 at *
  generalize vs 20 = y20 at *
  generalize vs 21 = y21 at *
  generalize vs 22 = y22 at *
  clear vs
  obtain ⟨A9, n9, c9, rfl, h9⟩ := p22
  rw [HE.out] at h9
  go_wp2
  go_ret
  exact RetB.mk h9 (belowP (Below.allocS (Below.refl _ _) _) _ _)
end Go.Proofs.Ytfmkndemkpecpaa

/- Fine of datagrams, on both sides (chapter 7). -/
namespace Go.Proofs.Ytfmkndemkpecpaa
open Go.RowKit
set_option linter.unusedVariables false
set_option linter.unusedSimpArgs false
attribute [local go_sem ↓] sliced_cut

attribute [local go_sem] cutA_zero

/-- the sum of all that a datagram's checksum covers -/
def udT (s6 : Bool) (sh sl : Nat) (d6 : Bool) (dh dl : Nat) (a b s : Nat) (l : List UInt8) : Nat := tot false (psdB s6 sh sl d6 dh dl 17 (8 + l.length) ++ udpD a b s l)
/-- whether a datagram is fine -/
def udF (s6 : Bool) (sh sl dh dl : Nat) (a b s : Nat) (l : List UInt8) : Bool := if s = 0 then !s6 else 65535 - fd (udT s6 sh sl s6 dh dl a b s l) == 0
set_option maxHeartbeats 4000000 in
set_option maxRecDepth 100000 in
theorem udpFine (a b s : Nat) (A : Option Addr) (n k : Nat) (s6 : Bool) (sh sl dh dl : Nat) (l : List UInt8) (w : World) (ha : a < 65536) (hb : b < 65536) (hs : s < 65536) (k1 : sh < 18446744073709551616) (k2 : sl < 18446744073709551616) (k3 : dh < 18446744073709551616) (k4 : dl < 18446744073709551616) (h : Rb w A n k l) (hn : n ≤ 10000) : Calls Try.prog 160 #[.agg (dgX a b s A n k).toArray, .agg (adC s6 sh sl).toArray, .agg (adC s6 dh dl).toArray] w (RetV w (.bool (udF s6 sh sl dh dl a b s l))) := by
  have HR := Lib.hid (fun w => (udpRight_yes (a : Int) b s A n k w (by omega) : Calls Try.prog 180 #[.agg (dgX a b s A n k).toArray] w (RetV w (.bool true))))
  have HB := Lib.hid (fun w (h : Rb w A n k l) => udpBytesX a b s A n k l w ha hb hs h (by omega))
  have hT : ([psdB s6 sh sl s6 dh dl 17 (8 + n), udpD a b s l] : List (List UInt8)).flatten.length ≤ 1000000 := by have := psdB_length s6 sh sl s6 dh dl 17 (8 + n); have := h.1; simp [udpD_length]; omega
  have HE : Hid (tot false ([psdB s6 sh sl s6 dh dl 17 (8 + n), udpD a b s l] : List (List UInt8)).flatten = udT s6 sh sl s6 dh dl a b s l) := Lib.hid (by rw [← h.1]; simp [udT])
  have HO := Lib.hid (fun w A1 c1 (h : RdL w A1 2 [psdB s6 sh sl s6 dh dl 17 (8 + n), udpD a b s l]) => sumRight A1 2 c1 _ w h (by omega) hT)
  rw [HE.out] at HO
  have hlD : (udpD a b s l).length = 8 + n := by rw [udpD_length, h.1]
  have HP := Lib.hid (fun w => (pseudo_any s6 sh sl s6 dh dl 17 (8 + n) w k1 k2 k3 k4 (by omega) (by omega) : Calls Try.prog 179 #[.agg (adC s6 sh sl).toArray, .agg (adC s6 dh dl).toArray, .int .u8 17, .int .i64 ((8 + n : Nat) : Int)] w (RetF w (psdB s6 sh sl s6 dh dl 17 (8 + n)))))
  have hF : udF s6 sh sl dh dl a b s l = if s = 0 then !s6 else 65535 - fd (udT s6 sh sl s6 dh dl a b s l) == 0 := rfl
  clear hT HE
  generalize udF s6 sh sl dh dl a b s l = z at *
  generalize psdB s6 sh sl s6 dh dl 17 (8 + n) = Pq at *
  generalize udpD a b s l = Pd at *
  generalize udT s6 sh sl s6 dh dl a b s l = t at *
  generalize 8 + n = m at *
  obtain ⟨du1, u1, u2⟩ := rowDX
  obtain ⟨dy1, y1, y2⟩ := rowAd
  have hX : Bk (((w.alloc (.cells (dgX a b s A n k).toArray 49)).alloc (.cells (adC s6 sh sl).toArray 26)).alloc (.cells (adC s6 dh dl).toArray 26)) w.heap.size 49 (dgX a b s A n k) := ((Bk.new w 49 (dgX a b s A n k).toArray).alloc _).alloc _
  have hS : Bk (((w.alloc (.cells (dgX a b s A n k).toArray 49)).alloc (.cells (adC s6 sh sl).toArray 26)).alloc (.cells (adC s6 dh dl).toArray 26)) (w.heap.size + 1) 26 (adC s6 sh sl) := (Bk.newK _ _ _ (by simp) rfl).alloc _
  have hE : Bk (((w.alloc (.cells (dgX a b s A n k).toArray 49)).alloc (.cells (adC s6 sh sl).toArray 26)).alloc (.cells (adC s6 dh dl).toArray 26)) (w.heap.size + 1 + 1) 26 (adC s6 dh dl) := Bk.newK _ _ _ (by simp) rfl
  have be : Below w.heap.size w (((w.alloc (.cells (dgX a b s A n k).toArray 49)).alloc (.cells (adC s6 sh sl).toArray 26)).alloc (.cells (adC s6 dh dl).toArray 26)) := Below.allocS (Below.allocS (Below.allocS (Below.refl _ _) _) _) _
  replace h := (((h.alloc (.cells (dgX a b s A n k).toArray 49)).alloc (.cells (adC s6 sh sl).toArray 26)).alloc (.cells (adC s6 dh dl).toArray 26))
  have zV : w.heap.size + 3 ≤ (((w.alloc (.cells (dgX a b s A n k).toArray 49)).alloc (.cells (adC s6 sh sl).toArray 26)).alloc (.cells (adC s6 dh dl).toArray 26)).heap.size := by simp
  go_enter Try.func160, Try.ntmps160
  go_upto_region 1 with (fail)
  generalize ((w.alloc (.cells (dgX a b s A n k).toArray 49)).alloc (.cells (adC s6 sh sl).toArray 26)).alloc (.cells (adC s6 dh dl).toArray 26) = V at *
  refine wp_region_lit ?_
  refine wpList_ldA (t := 49) 49 (.tmp 3) rfl rfl (dgX a b s A n k) rfl (hX) (whole_ _) u1 u2 (szDX _ _ _ _ _ _) ?_
  refine wpList_plain rfl (fun K hK => ?_)
  go_simp
  refine (HR.out _).mono ?_
  rintro e w1 ⟨bs1, d1, rfl, rfl⟩
  with_reducible refine hK _ _ ?_
  clear hK K
  refine wpList_plain rfl (fun K hK => ?_); go_simp; with_reducible refine hK _ _ ?_; clear hK K
  replace hX := hX.later (below_plus _ bs1 d1)
  replace hS := hS.later (below_plus _ bs1 d1)
  replace hE := hE.later (below_plus _ bs1 d1)
  replace h := h.plus_ bs1 d1
  replace be := belowP be bs1 d1
  generalize plus V bs1 d1 = V1 at *
  by_cases h0 : s = 0
  · subst h0
    obtain rfl : z = !s6 := hF
    clear HB HO HP hlD HR h ha hb hs
    go_upto_region 3 with (fail)
    refine wp_region_lit ?_
    refine wpList_plain rfl (fun K hK => ?_); go_simp; with_reducible refine hK _ _ ?_; clear hK K
    refine wpList_ld1 (t := 49) (cs := dgX a b 0 A n k) 27 (.tmp 11) rfl (by rfl) rfl (hX) rfl Try.underlying27 rfl ?_
    refine wpList_plain rfl (fun K hK => ?_); go_simp; with_reducible refine hK _ _ ?_; clear hK K
    go_upto_region 4 with (fail)
    cases s6
    · 
      refine wp_region_lit ?_
      refine wpList_plain rfl (fun K hK => ?_); go_simp; with_reducible refine hK _ _ ?_; clear hK K
      refine wpList_ld1 (t := 26) (cs := adC false sh sl) 4 (.tmp 14) rfl (by rfl) rfl (hS) rfl Try.underlying4 rfl ?_
      iterate 2 (refine wpList_plain rfl (fun K hK => ?_); go_simp; with_reducible refine hK _ _ ?_; clear hK K)
      refine wpList_step (fun K hK => ?_); go_simp; with_reducible refine hK _ _ ?_; clear hK K
      refine wpList_ld1 (t := 26) (cs := adC false dh dl) 4 (.tmp 18) rfl (by go_simp) rfl (hE) rfl Try.underlying4 rfl ?_
      refine wpList_step (fun K hK => ?_); go_simp; with_reducible refine hK _ _ ?_; clear hK K
      iterate 2 (refine wpList_plain rfl (fun K hK => ?_); go_simp; with_reducible refine hK _ _ ?_; clear hK K)
      go_wp2
      go_ret
      exact RetV.is_ rfl be
    · 
      refine wp_region_lit ?_
      refine wpList_plain rfl (fun K hK => ?_); go_simp; with_reducible refine hK _ _ ?_; clear hK K
      refine wpList_ld1 (t := 26) (cs := adC true sh sl) 4 (.tmp 14) rfl (by rfl) rfl (hS) rfl Try.underlying4 rfl ?_
      iterate 2 (refine wpList_plain rfl (fun K hK => ?_); go_simp; with_reducible refine hK _ _ ?_; clear hK K)
      iterate 3 ((with_reducible refine wpList_skip ?_ ?_); (· first | (go_simp; done) | (go_simp; intro h; cases h)); simp only [Act.put, List.setIfInBounds_toArray, List.set_cons_zero, List.set_cons_succ])
      iterate 2 (refine wpList_plain rfl (fun K hK => ?_); go_simp; with_reducible refine hK _ _ ?_; clear hK K)
      go_wp2
      go_ret
      exact RetV.is_ rfl be
  · have d0 : ((s : Int) == 0) = false := by rw [beq_eq_false_iff_ne]; omega
    rw [if_neg h0] at hF
    subst hF
    clear HR h0
    go_upto_region 3 with (fail)
    refine wp_region_lit ?_
    refine wpList_plain rfl (fun K hK => ?_); go_simp; with_reducible refine hK _ _ ?_; clear hK K
    refine wpList_ld1 (t := 49) (cs := dgX a b s A n k) 27 (.tmp 11) rfl (by rfl) rfl (hX) rfl Try.underlying27 rfl ?_
    refine wpList_plain rfl (fun K hK => ?_); go_simp; with_reducible refine hK _ _ ?_; clear hK K
    go_upto_region 5 with (fail)
    refine wp_region_lit ?_
    refine wpList_ldA (t := 49) 49 (.tmp 3) rfl rfl (dgX a b s A n k) rfl (hX) (whole_ _) u1 u2 (szDX _ _ _ _ _ _) ?_
    refine wpList_plain rfl (fun K hK => ?_)
    go_simp
    refine (HB.out _ h).mono ?_
    rintro e w1 ⟨A1, n1, c1, bs1, d1, rfl, rfl, ho1⟩
    with_reducible refine hK _ _ ?_
    clear hK K
    obtain rfl : n1 = m := by rw [← ho1.1]; exact hlD
    replace hS := hS.later (below_plus _ bs1 d1)
    replace hE := hE.later (below_plus _ bs1 d1)
    replace be := belowP be bs1 d1
    replace ho1 := ho1.rb
    generalize plus V1 bs1 d1 = V2 at *
    go_upto_region 6 with (fail)
    refine wp_region_lit ?_
    refine wpList_ldA (t := 26) 26 (.tmp 4) rfl rfl (adC s6 sh sl) rfl (hS) (whole_ _) y1 y2 (szAd _ _ _) ?_
    simp only [Act.put, List.setIfInBounds_toArray, List.set_cons_zero, List.set_cons_succ]
    refine wpList_ldA (t := 26) 26 (.tmp 5) rfl rfl (adC s6 dh dl) rfl (hE) (whole_ _) y1 y2 (szAd _ _ _) ?_
    iterate 2 (refine wpList_plain rfl (fun K hK => ?_); go_simp; with_reducible refine hK _ _ ?_; clear hK K)
    refine wpList_plain rfl (fun K hK => ?_)
    go_simp
    refine (HP.out _).mono ?_
    rintro e w1 ⟨A2, n2, bs2, d2, rfl, rfl, ho2⟩
    with_reducible refine hK _ _ ?_
    clear hK K
    iterate 2 (refine wpList_plain rfl (fun K hK => ?_); go_simp; with_reducible refine hK _ _ ?_; clear hK K)
    go_wp2_with fail
    refine (HO.out _ _ _ (RdL.litW [.slice A2 n2 n2, .slice A1 n1 c1] _ (by simp [size_plus]) (.cons ⟨_, _, _, rfl, ho2.rb⟩ (.cons ⟨_, _, _, rfl, ho1.plus_ _ _⟩ .nil)))).mono ?_
    rintro e w1 ⟨rfl, rfl⟩
    go_wp2
    go_ret
    exact RetV.is_ rfl (Below.allocS (belowP be _ _) _)
set_option maxHeartbeats 4000000 in
set_option maxRecDepth 100000 in
theorem refUdpSum (a b s : Nat) (A : Option Addr) (n k : Nat) (s6 : Bool) (sh sl dh dl : Nat) (l : List UInt8) (w : World) (ha : a < 65536) (hb : b < 65536) (hs : s < 65536) (k1 : sh < 18446744073709551616) (k2 : sl < 18446744073709551616) (k3 : dh < 18446744073709551616) (k4 : dl < 18446744073709551616) (h : Rb w A n k l) (hn : n ≤ 10000) : Calls Try.prog 121 #[.agg (dgX a b s A n k).toArray, .agg (adC s6 sh sl).toArray, .agg (adC s6 dh dl).toArray] w (RetV w (.int .u16 ((65535 - fd (udT s6 sh sl s6 dh dl a b s l) : Nat) : Int))) := by
  have HB := Lib.hid (fun w (h : Rb w A n k l) => refUdpBytesX a b s A n k l w ha hb hs h (by omega))
  have hlD : (udpD a b s l).length = 8 + n := by rw [udpD_length, h.1]
  have hT : ([psdB s6 sh sl s6 dh dl 17 (8 + n), udpD a b s l] : List (List UInt8)).flatten.length ≤ 20000 := by have := psdB_length s6 sh sl s6 dh dl 17 (8 + n); have := h.1; simp [udpD_length]; omega
  have HE : Hid (tot false ([psdB s6 sh sl s6 dh dl 17 (8 + n), udpD a b s l] : List (List UInt8)).flatten = udT s6 sh sl s6 dh dl a b s l) := Lib.hid (by rw [← h.1]; simp [udT])
  have HJ := Lib.hid (fun w A5 c5 (h : RdL w A5 2 [psdB s6 sh sl s6 dh dl 17 (8 + n), udpD a b s l]) => refJoin_any A5 2 c5 _ w h (by omega) (by omega))
  have HO := Lib.hid (fun w A5 n5 c5 (h : Rb w A5 n5 c5 ([psdB s6 sh sl s6 dh dl 17 (8 + n), udpD a b s l] : List (List UInt8)).flatten) => refSumOf A5 n5 c5 _ w h (by rw [← h.1]; omega))
  rw [HE.out] at HO
  have HP := Lib.hid (fun w => (refPseudo_any s6 sh sl s6 dh dl 17 (8 + n) w k1 k2 k3 k4 (by omega) (by omega) : Calls Try.prog 120 #[.agg (adC s6 sh sl).toArray, .agg (adC s6 dh dl).toArray, .int .u8 17, .int .i64 ((8 + n : Nat) : Int)] w (RetB w (psdB s6 sh sl s6 dh dl 17 (8 + n)))))
  clear hT HE
  generalize psdB s6 sh sl s6 dh dl 17 (8 + n) = Pq at *
  generalize udpD a b s l = Pd at *
  generalize udT s6 sh sl s6 dh dl a b s l = t at *
  generalize 8 + n = m at *
  obtain ⟨du1, u1, u2⟩ := rowRX
  obtain ⟨dy1, y1, y2⟩ := rowAd
  have hX : Bk (((w.alloc (.cells (dgX a b s A n k).toArray 57)).alloc (.cells (adC s6 sh sl).toArray 26)).alloc (.cells (adC s6 dh dl).toArray 26)) w.heap.size 57 (dgX a b s A n k) := ((Bk.new w 57 (dgX a b s A n k).toArray).alloc _).alloc _
  have hS : Bk (((w.alloc (.cells (dgX a b s A n k).toArray 57)).alloc (.cells (adC s6 sh sl).toArray 26)).alloc (.cells (adC s6 dh dl).toArray 26)) (w.heap.size + 1) 26 (adC s6 sh sl) := (Bk.newK _ _ _ (by simp) rfl).alloc _
  have hE : Bk (((w.alloc (.cells (dgX a b s A n k).toArray 57)).alloc (.cells (adC s6 sh sl).toArray 26)).alloc (.cells (adC s6 dh dl).toArray 26)) (w.heap.size + 1 + 1) 26 (adC s6 dh dl) := Bk.newK _ _ _ (by simp) rfl
  have be : Below w.heap.size w (((w.alloc (.cells (dgX a b s A n k).toArray 57)).alloc (.cells (adC s6 sh sl).toArray 26)).alloc (.cells (adC s6 dh dl).toArray 26)) := Below.allocS (Below.allocS (Below.allocS (Below.refl _ _) _) _) _
  replace h := (((h.alloc (.cells (dgX a b s A n k).toArray 57)).alloc (.cells (adC s6 sh sl).toArray 26)).alloc (.cells (adC s6 dh dl).toArray 26))
  have zV : w.heap.size + 3 ≤ (((w.alloc (.cells (dgX a b s A n k).toArray 57)).alloc (.cells (adC s6 sh sl).toArray 26)).alloc (.cells (adC s6 dh dl).toArray 26)).heap.size := by simp
  go_enter Try.func121, Try.ntmps121
  go_upto_region 1 with (fail)
  generalize ((w.alloc (.cells (dgX a b s A n k).toArray 57)).alloc (.cells (adC s6 sh sl).toArray 26)).alloc (.cells (adC s6 dh dl).toArray 26) = V at *
  refine wp_region_lit ?_
  refine wpList_ldA (t := 57) 57 (.tmp 3) rfl rfl (dgX a b s A n k) rfl (hX) (whole_ _) u1 u2 (szRX _ _ _ _ _ _) ?_
  refine wpList_plain rfl (fun K hK => ?_)
  go_simp
  refine (HB.out _ h).mono ?_
  rintro e w1 ⟨A1, n1, c1, bs1, d1, rfl, rfl, ho1⟩
  with_reducible refine hK _ _ ?_
  clear hK K
  obtain rfl : n1 = m := by rw [← ho1.1]; exact hlD
  replace hS := hS.later (below_plus _ bs1 d1)
  replace hE := hE.later (below_plus _ bs1 d1)
  replace be := belowP be bs1 d1
  replace ho1 := ho1.rb
  generalize plus V bs1 d1 = V2 at *
  go_upto_region 2 with (fail)
  refine wp_region_lit ?_
  refine wpList_ldA (t := 26) 26 (.tmp 4) rfl rfl (adC s6 sh sl) rfl (hS) (whole_ _) y1 y2 (szAd _ _ _) ?_
  simp only [Act.put, List.setIfInBounds_toArray, List.set_cons_zero, List.set_cons_succ]
  refine wpList_ldA (t := 26) 26 (.tmp 5) rfl rfl (adC s6 dh dl) rfl (hE) (whole_ _) y1 y2 (szAd _ _ _) ?_
  iterate 2 (refine wpList_plain rfl (fun K hK => ?_); go_simp; with_reducible refine hK _ _ ?_; clear hK K)
  refine wpList_plain rfl (fun K hK => ?_)
  go_simp
  refine (HP.out _).mono ?_
  rintro e w1 ⟨A2, n2, c2, bs2, d2, rfl, rfl, ho2⟩
  with_reducible refine hK _ _ ?_
  clear hK K
  iterate 2 (refine wpList_plain rfl (fun K hK => ?_); go_simp; with_reducible refine hK _ _ ?_; clear hK K)
  go_wp2_with fail
  refine (HJ.out _ _ _ (RdL.litW [.slice A2 n2 c2, .slice A1 n1 c1] _ (by simp [size_plus]) (.cons ⟨_, _, _, rfl, ho2.rb⟩ (.cons ⟨_, _, _, rfl, ho1.plus_ _ _⟩ .nil)))).mono ?_
  rintro e w1 ⟨A6, n6, c6, bs6, d6', rfl, rfl, ho6⟩
  go_wp2_with fail
  refine (HO.out _ _ _ _ ho6.rb).mono ?_
  rintro e w1 ⟨rfl, rfl⟩
  go_wp2
  go_ret
  exact RetV.is_ rfl (belowP (Below.allocS (belowP be _ _) _) _ _)
set_option maxHeartbeats 4000000 in
set_option maxRecDepth 100000 in
theorem refUdpFine (a b s : Nat) (A : Option Addr) (n k : Nat) (s6 : Bool) (sh sl dh dl : Nat) (l : List UInt8) (w : World) (ha : a < 65536) (hb : b < 65536) (hs : s < 65536) (k1 : sh < 18446744073709551616) (k2 : sl < 18446744073709551616) (k3 : dh < 18446744073709551616) (k4 : dl < 18446744073709551616) (h : Rb w A n k l) (hn : n ≤ 10000) : Calls Try.prog 62 #[.agg (dgX a b s A n k).toArray, .agg (adC s6 sh sl).toArray, .agg (adC s6 dh dl).toArray] w (RetV w (.bool (udF s6 sh sl dh dl a b s l))) := by
  have HS := Lib.hid (fun w (h : Rb w A n k l) => refUdpSum a b s A n k s6 sh sl dh dl l w ha hb hs k1 k2 k3 k4 h hn)
  have HW : ∀ f : Nat, (f ≤ 65535) → (((65535 - f : Nat) : Int) == 0) = (65535 - f == 0) := fun f hf => by rw [Bool.eq_iff_iff, beq_iff_eq, beq_iff_eq]; omega
  replace HW := HW _ (fd_le (udT s6 sh sl s6 dh dl a b s l))
  have hF : udF s6 sh sl dh dl a b s l = if s = 0 then !s6 else 65535 - fd (udT s6 sh sl s6 dh dl a b s l) == 0 := rfl
  generalize udF s6 sh sl dh dl a b s l = z at *
  generalize udT s6 sh sl s6 dh dl a b s l = t at *
  generalize 65535 - fd t = q at *
  obtain ⟨du1, u1, u2⟩ := rowRX
  obtain ⟨dy1, y1, y2⟩ := rowAd
  have hX : Bk (((w.alloc (.cells (dgX a b s A n k).toArray 57)).alloc (.cells (adC s6 sh sl).toArray 26)).alloc (.cells (adC s6 dh dl).toArray 26)) w.heap.size 57 (dgX a b s A n k) := ((Bk.new w 57 (dgX a b s A n k).toArray).alloc _).alloc _
  have hS : Bk (((w.alloc (.cells (dgX a b s A n k).toArray 57)).alloc (.cells (adC s6 sh sl).toArray 26)).alloc (.cells (adC s6 dh dl).toArray 26)) (w.heap.size + 1) 26 (adC s6 sh sl) := (Bk.newK _ _ _ (by simp) rfl).alloc _
  have hE : Bk (((w.alloc (.cells (dgX a b s A n k).toArray 57)).alloc (.cells (adC s6 sh sl).toArray 26)).alloc (.cells (adC s6 dh dl).toArray 26)) (w.heap.size + 1 + 1) 26 (adC s6 dh dl) := Bk.newK _ _ _ (by simp) rfl
  have be : Below w.heap.size w (((w.alloc (.cells (dgX a b s A n k).toArray 57)).alloc (.cells (adC s6 sh sl).toArray 26)).alloc (.cells (adC s6 dh dl).toArray 26)) := Below.allocS (Below.allocS (Below.allocS (Below.refl _ _) _) _) _
  replace h := (((h.alloc (.cells (dgX a b s A n k).toArray 57)).alloc (.cells (adC s6 sh sl).toArray 26)).alloc (.cells (adC s6 dh dl).toArray 26))
  have zV : w.heap.size + 3 ≤ (((w.alloc (.cells (dgX a b s A n k).toArray 57)).alloc (.cells (adC s6 sh sl).toArray 26)).alloc (.cells (adC s6 dh dl).toArray 26)).heap.size := by simp
  go_enter Try.func62, Try.ntmps62
  go_upto_region 1 with (fail)
  generalize ((w.alloc (.cells (dgX a b s A n k).toArray 57)).alloc (.cells (adC s6 sh sl).toArray 26)).alloc (.cells (adC s6 dh dl).toArray 26) = V at *
  by_cases h0 : s = 0
  · subst h0
    obtain rfl : z = !s6 := hF
    clear HS HW h ha hb hs
    refine wp_region_lit ?_
    refine wpList_plain rfl (fun K hK => ?_); go_simp; with_reducible refine hK _ _ ?_; clear hK K
    refine wpList_ld1 (t := 57) (cs := dgX a b 0 A n k) 27 (.tmp 7) rfl (by rfl) rfl (hX) rfl Try.underlying27 rfl ?_
    refine wpList_plain rfl (fun K hK => ?_); go_simp; with_reducible refine hK _ _ ?_; clear hK K
    go_upto_region 2 with (fail)
    refine wp_region_lit ?_
    refine wpList_plain rfl (fun K hK => ?_); go_simp; with_reducible refine hK _ _ ?_; clear hK K
    refine wpList_ld1 (t := 26) (cs := adC s6 sh sl) 4 (.tmp 10) rfl (by rfl) rfl (hS) rfl Try.underlying4 rfl ?_
    iterate 2 (refine wpList_plain rfl (fun K hK => ?_); go_simp; with_reducible refine hK _ _ ?_; clear hK K)
    go_wp2
    go_ret
    exact RetV.is_ rfl be
  · have d0 : ((s : Int) == 0) = false := by rw [beq_eq_false_iff_ne]; omega
    rw [if_neg h0] at hF
    subst hF
    clear h0
    refine wp_region_lit ?_
    refine wpList_plain rfl (fun K hK => ?_); go_simp; with_reducible refine hK _ _ ?_; clear hK K
    refine wpList_ld1 (t := 57) (cs := dgX a b s A n k) 27 (.tmp 7) rfl (by rfl) rfl (hX) rfl Try.underlying27 rfl ?_
    refine wpList_plain rfl (fun K hK => ?_); go_simp; with_reducible refine hK _ _ ?_; clear hK K
    go_upto_region 3 with (fail)
    refine wp_region_lit ?_
    refine wpList_ldA (t := 57) 57 (.tmp 3) rfl rfl (dgX a b s A n k) rfl (hX) (whole_ _) u1 u2 (szRX _ _ _ _ _ _) ?_
    simp only [Act.put, List.setIfInBounds_toArray, List.set_cons_zero, List.set_cons_succ]
    refine wpList_ldA (t := 26) 26 (.tmp 4) rfl rfl (adC s6 sh sl) rfl (hS) (whole_ _) y1 y2 (szAd _ _ _) ?_
    simp only [Act.put, List.setIfInBounds_toArray, List.set_cons_zero, List.set_cons_succ]
    refine wpList_ldA (t := 26) 26 (.tmp 5) rfl rfl (adC s6 dh dl) rfl (hE) (whole_ _) y1 y2 (szAd _ _ _) ?_
    refine wpList_plain rfl (fun K hK => ?_)
    go_simp
    refine (HS.out _ h).mono ?_
    rintro e w1 ⟨bs1, d1, rfl, rfl⟩
    with_reducible refine hK _ _ ?_
    clear hK K
    iterate 2 (refine wpList_plain rfl (fun K hK => ?_); go_simp; with_reducible refine hK _ _ ?_; clear hK K)
    go_wp2
    go_ret
    exact RetV.is_ (by first | rfl | rw [HW]) (belowP be _ _)
end Go.Proofs.Ytfmkndemkpecpaa

/- Contracts of tcp.Parse. -/
namespace Go.Proofs.Ytfmkndemkpecpaa
open Go.RowKit
set_option linter.unusedVariables false
set_option linter.unusedSimpArgs false
attribute [local go_sem ↓] sliced_cut

attribute [local go_sem] cutA_zero

theorem szSeg (cs : List Value) (h : cs.length = 10) : (Try.prog.info? 47).map (·.size) = some cs.length := by rw [h]; kernel_rfl
set_option maxRecDepth 100000 in
theorem run_buildSeg0 (w : World) : (Instr.build 47 #[]).run Try.prog w = .ok (.agg #[.int .u16 0, .int .u16 0, .int .u32 0, .int .u32 0, .int .u8 0, .int .u16 0, .int .u16 0, .int .u16 0, .slice none 0 0, .slice none 0 0]) w := by kernel_rfl
/-- a segment in new memory, and a second result -/
def RetSeg (w : World) (x0 x1 x2 x3 x4 x5 x6 x7 : Nat) (l l2 : List UInt8) (v : Value) (e : Ending) (w' : World) : Prop :=
  ∃ A n c A2 n2 c2 bs d, e = .returned (.tuple #[.agg #[.int .u16 x0, .int .u16 x1, .int .u32 x2, .int .u32 x3, .int .u8 x4, .int .u16 x5, .int .u16 x6, .int .u16 x7, .slice A n c, .slice A2 n2 c2], v]) ∧ w' = plus w bs d ∧ Rb (plus w bs d) A n c l ∧ Rb (plus w bs d) A2 n2 c2 l2
theorem RetSeg.mk {w w' : World} {x0 x1 x2 x3 x4 x5 x6 x7 : Nat} {l l2 : List UInt8} {A : Option Addr} {n c : Nat} {A2 : Option Addr} {n2 c2 : Nat} {v : Value} (h1 : Rb w' A n c l) (h2 : Rb w' A2 n2 c2 l2) (hb : Below w.heap.size w w') :
    RetSeg w x0 x1 x2 x3 x4 x5 x6 x7 l l2 v (.returned (.tuple #[.agg #[.int .u16 x0, .int .u16 x1, .int .u32 x2, .int .u32 x3, .int .u8 x4, .int .u16 x5, .int .u16 x6, .int .u16 x7, .slice A n c, .slice A2 n2 c2], v])) w' := by
  obtain ⟨bs, d, rfl⟩ := plus_of hb
  exact ⟨A, n, c, A2, n2, c2, bs, d, rfl, rfl, h1, h2⟩
/-- the same, the rows in new blocks -/
def RetSegF (w : World) (x0 x1 x2 x3 x4 x5 x6 x7 : Nat) (l l2 : List UInt8) (v : Value) (e : Ending) (w' : World) : Prop :=
  ∃ A n c A2 n2 c2 bs d, e = .returned (.tuple #[.agg #[.int .u16 x0, .int .u16 x1, .int .u32 x2, .int .u32 x3, .int .u8 x4, .int .u16 x5, .int .u16 x6, .int .u16 x7, .slice A n c, .slice A2 n2 c2], v]) ∧ w' = plus w bs d ∧ Rb (plus w bs d) A n c l ∧ Rb (plus w bs d) A2 n2 c2 l2 ∧ (∀ a, A = some a → w.heap.size ≤ a.block) ∧ ∀ a, A2 = some a → w.heap.size ≤ a.block
theorem Ob.freshT {w : World} {w0 base : Nat} {A : Option Addr} {n c : Nat} {l : List UInt8} (h : Ob w base A n c l) (hb : w0 ≤ base) : ∀ a, A = some a → w0 ≤ a.block := fun a ha => by
  subst ha
  have := (h.blk a.block rfl).1
  omega
theorem RetSegF.mk {w w' : World} {x0 x1 x2 x3 x4 x5 x6 x7 : Nat} {l l2 : List UInt8} {A : Option Addr} {n c : Nat} {A2 : Option Addr} {n2 c2 : Nat} {v : Value} {b1 b2 : Nat} (h1 : Ob w' b1 A n c l) (h2 : Ob w' b2 A2 n2 c2 l2) (hb : Below w.heap.size w w') (f1 : w.heap.size ≤ b1) (f2 : w.heap.size ≤ b2) :
    RetSegF w x0 x1 x2 x3 x4 x5 x6 x7 l l2 v (.returned (.tuple #[.agg #[.int .u16 x0, .int .u16 x1, .int .u32 x2, .int .u32 x3, .int .u8 x4, .int .u16 x5, .int .u16 x6, .int .u16 x7, .slice A n c, .slice A2 n2 c2], v])) w' := by
  obtain ⟨bs, d, rfl⟩ := plus_of hb
  exact ⟨A, n, c, A2, n2, c2, bs, d, rfl, rfl, h1.rb, h2.rb, h1.freshT f1, h2.freshT f2⟩
theorem RetSeg.zero {w w' : World} {v : Value} (hb : Below w.heap.size w w') : RetSeg w 0 0 0 0 0 0 0 0 [] [] v (.returned (.tuple #[.agg #[.int .u16 0, .int .u16 0, .int .u32 0, .int .u32 0, .int .u8 0, .int .u16 0, .int .u16 0, .int .u16 0, .slice none 0 0, .slice none 0 0], v])) w' := RetSeg.mk Rb.nil_ Rb.nil_ hb

theorem tcpParse_short (A : Option Addr) (n c : Nat) (l : List UInt8) (w : World) (hr : Rb w A n c l) (hn : n < 20) : Calls Try.prog 157 #[.slice A n c] w (RetSeg w 0 0 0 0 0 0 0 0 [] [] (.int .i64 20)) := by
  go_enter Try.func157, Try.ntmps157
  go_wp2
  refine bodyPost_ret (v := .tuple #[.agg #[.int .u16 0, .int .u16 0, .int .u32 0, .int .u32 0, .int .u8 0, .int .u16 0, .int .u16 0, .int .u16 0, .slice none 0 0, .slice none 0 0], .int .i64 20]) (by simp [results, Try.results157, go_sem]) rfl (RetSeg.zero ?_)
  repeat (first | exact Below.refl _ _ | refine Below.alloc ?_ (by simp) _)

set_option maxHeartbeats 4000000 in
theorem tcpParse_form1 (A : Option Addr) (n c : Nat) (l : List UInt8) (w : World) (hr : Rb w A n c l) (h20 : 20 ≤ n) (hn : n ≤ 1000000) (x0 : Nat) (x1 : Nat) (x2 : Nat) (x3 : Nat) (xf : Nat) (x4 : Nat) (x5 : Nat) (x6 : Nat) (x7 : Nat) (hx0 : num ((l.drop 0).take 2) = x0) (hx1 : num ((l.drop 2).take 2) = x1) (hx2 : num ((l.drop 4).take 4) = x2) (hx3 : num ((l.drop 8).take 4) = x3) (hxf : num ((l.drop 12).take 1) = xf) (hx4 : num ((l.drop 13).take 1) = x4) (hx5 : num ((l.drop 14).take 2) = x5) (hx6 : num ((l.drop 16).take 2) = x6) (hx7 : num ((l.drop 18).take 2) = x7) (hs : xf / 16 < 5) :
    Calls Try.prog 157 #[.slice A n c] w (RetSeg w 0 0 0 0 0 0 0 0 [] [] (.int .i64 21)) := by
  have hc := hr.cap
  have h20i : (20 : Int) ≤ (n : Int) := by omega
  have hf : xf < 256 := by rw [← hxf]; exact num_lt' l 12 1 256 (by decide)
  have hand := u8_and15 xf hf
  have Hx0 := Lib.hid hx0
  have Hx1 := Lib.hid hx1
  have Hx2 := Lib.hid hx2
  have Hx3 := Lib.hid hx3
  have Hxf := Lib.hid hxf
  have Hx4 := Lib.hid hx4
  have Hx5 := Lib.hid hx5
  have Hx6 := Lib.hid hx6
  have Hx7 := Lib.hid hx7
  clear hx0 hx1 hx2 hx3 hxf hx4 hx5 hx6 hx7
  have t1 : decide (4 * ((xf : Int) / 16) < 20) = true := by simp; omega
  go_enter Try.func157, Try.ntmps157
  go_wp2_with fail
  refine (readK _ _ _ (l.take 20) _ ((hr.take h20).alloc _) (by omega)).mono ?_
  rintro e w1 ⟨r, bs1, d1, rfl, rfl, hr1, hR0⟩
  have HL := Lib.hid (show (l.take 20).length = 20 by rw [List.length_take, hr.1]; omega)
  go_wp2_with fail
  refine (wordK _ _ _ r (l.take 20) 0 x0 hR0 hr1 (by rw [HL.out]; omega) (by rw [HL.out]; omega) (by rw [num_in _ _ _ _ (by omega)]; exact Hx0.out)).mono ?_
  rintro e w1 ⟨bs2, d2, rfl, rfl, hR1, -⟩
  go_wp2_with fail
  refine (wordK _ _ _ r (l.take 20) 2 x1 hR1 hr1 (by rw [HL.out]; omega) (by rw [HL.out]; omega) (by rw [num_in _ _ _ _ (by omega)]; exact Hx1.out)).mono ?_
  rintro e w1 ⟨bs3, d3, rfl, rfl, hR2, -⟩
  go_wp2_with fail
  refine (longK _ _ _ r (l.take 20) 4 x2 hR2 hr1 (by rw [HL.out]; omega) (by rw [HL.out]; omega) (by rw [num_in _ _ _ _ (by omega)]; exact Hx2.out)).mono ?_
  rintro e w1 ⟨bs4, d4, rfl, rfl, hR3, -⟩
  go_wp2_with fail
  refine (longK _ _ _ r (l.take 20) 8 x3 hR3 hr1 (by rw [HL.out]; omega) (by rw [HL.out]; omega) (by rw [num_in _ _ _ _ (by omega)]; exact Hx3.out)).mono ?_
  rintro e w1 ⟨bs5, d5, rfl, rfl, hR4, -⟩
  have hB0 : Below w.heap.size w (plus (w.alloc (.cells #[.int .u16 0, .int .u16 0, .int .u32 0, .int .u32 0, .int .u8 0, .int .u16 0, .int .u16 0, .int .u16 0, .slice none 0 0, .slice none 0 0] 47)) bs5 d5) := belowP ((Below.refl _ _).alloc (Nat.le_refl _) _) _ _
  have hX0 : Bk ((plus (w.alloc (.cells #[.int .u16 0, .int .u16 0, .int .u32 0, .int .u32 0, .int .u8 0, .int .u16 0, .int .u16 0, .int .u16 0, .slice none 0 0, .slice none 0 0] 47)) bs5 d5).alloc (.cells #[.int .u16 (x0 : Nat), .int .u16 (x1 : Nat), .int .u32 (x2 : Nat), .int .u32 (x3 : Nat), .int .u8 0, .int .u16 0, .int .u16 0, .int .u16 0, .slice none 0 0, .slice none 0 0] 47)) (w.heap.size + 1 + bs5.length) 47 [.int .u16 (x0 : Nat), .int .u16 (x1 : Nat), .int .u32 (x2 : Nat), .int .u32 (x3 : Nat), .int .u8 0, .int .u16 0, .int .u16 0, .int .u16 0, .slice none 0 0, .slice none 0 0] := by
    have := Bk.new (plus (w.alloc (.cells #[.int .u16 0, .int .u16 0, .int .u32 0, .int .u32 0, .int .u8 0, .int .u16 0, .int .u16 0, .int .u16 0, .slice none 0 0, .slice none 0 0] 47)) bs5 d5) 47 #[.int .u16 (x0 : Nat), .int .u16 (x1 : Nat), .int .u32 (x2 : Nat), .int .u32 (x3 : Nat), .int .u8 0, .int .u16 0, .int .u16 0, .int .u16 0, .slice none 0 0, .slice none 0 0]
    rw [size_plus, World.size_alloc] at this
    exact this
  have hZ0 : Bk ((plus (w.alloc (.cells #[.int .u16 0, .int .u16 0, .int .u32 0, .int .u32 0, .int .u8 0, .int .u16 0, .int .u16 0, .int .u16 0, .slice none 0 0, .slice none 0 0] 47)) bs5 d5).alloc (.cells #[.int .u16 (x0 : Nat), .int .u16 (x1 : Nat), .int .u32 (x2 : Nat), .int .u32 (x3 : Nat), .int .u8 0, .int .u16 0, .int .u16 0, .int .u16 0, .slice none 0 0, .slice none 0 0] 47)) w.heap.size 47 [.int .u16 0, .int .u16 0, .int .u32 0, .int .u32 0, .int .u8 0, .int .u16 0, .int .u16 0, .int .u16 0, .slice none 0 0, .slice none 0 0] := ((Bk.new w 47 #[.int .u16 0, .int .u16 0, .int .u32 0, .int .u32 0, .int .u8 0, .int .u16 0, .int .u16 0, .int .u16 0, .slice none 0 0, .slice none 0 0]).later (below_plus _ _ _)).alloc _
  have hlt : r < w.heap.size + 1 + bs5.length := by have := hR4.lt; simpa [size_plus] using this
  have hR5 := hR4.later ((Below.refl _ _).alloc (Nat.le_refl _) (.cells #[.int .u16 (x0 : Nat), .int .u16 (x1 : Nat), .int .u32 (x2 : Nat), .int .u32 (x3 : Nat), .int .u8 0, .int .u16 0, .int .u16 0, .int .u16 0, .slice none 0 0, .slice none 0 0] 47))
  have hB1 := hB0.alloc hB0.size (.cells #[.int .u16 (x0 : Nat), .int .u16 (x1 : Nat), .int .u32 (x2 : Nat), .int .u32 (x3 : Nat), .int .u8 0, .int .u16 0, .int .u16 0, .int .u16 0, .slice none 0 0, .slice none 0 0] 47)
  have hr2 : w.heap.size < r := by have := hr1; simp at this; omega
  go_wp2_with fail
  generalize (plus (w.alloc (.cells #[.int .u16 0, .int .u16 0, .int .u32 0, .int .u32 0, .int .u8 0, .int .u16 0, .int .u16 0, .int .u16 0, .slice none 0 0, .slice none 0 0] 47)) bs5 d5).alloc _ = W1 at hX0 hZ0 hR5 hB1 ⊢
  generalize w.heap.size + 1 + bs5.length = g at *
  refine (byteG _ r (l.take 20) 12 xf hR5 (by rw [HL.out]; omega) (by rw [HL.out]; omega) (by rw [num_in _ _ _ _ (by omega)]; exact Hxf.out)).mono ?_
  rintro e w1 ⟨rfl, hR6, hg6⟩
  have hX6 := hX0.grown hg6 (by simp; omega)
  have hZ6 := hZ0.grown hg6 (by simp; omega)
  have hB6 := hB1.trans (below_of_grown hg6 hB1.size (fun k hk => by injection hk with hk; omega))
  clear hg6 hX0 hZ0 hR5 hB1 hR0 hR1 hR2 hR3 hR4 hB0
  go_wp2_with (first
    | (refine at_op (.build 47 #[]) rfl ?_; refine wpList_build 47 [] rfl rfl (.agg #[.int .u16 0, .int .u16 0, .int .u32 0, .int .u32 0, .int .u8 0, .int .u16 0, .int .u16 0, .int .u16 0, .slice none 0 0, .slice none 0 0]) ?_ ?_; exact run_buildSeg0 _)
    | (refine at_op (.store 47 (.tmp 2) (.tmp 37)) rfl ?_; refine wpList_stA (t := 47) 47 (.tmp 2) (.tmp 37) rfl rfl [.int .u16 0, .int .u16 0, .int .u32 0, .int .u32 0, .int .u8 0, .int .u16 0, .int .u16 0, .int .u16 0, .slice none 0 0, .slice none 0 0] [.int .u16 0, .int .u16 0, .int .u32 0, .int .u32 0, .int .u8 0, .int .u16 0, .int .u16 0, .int .u16 0, .slice none 0 0, .slice none 0 0] rfl (by simp [Value.oneCell']) rfl rfl hZ6 (szSeg _ rfl) ?_; intro w2 hb2 hg2))
  refine bodyPost_agg2 Try.results157 rfl rfl hb2.range Try.underlying47 rfl (szSeg _ rfl) rfl (RetSeg.zero ?_)
  exact below_grown hB6 hg2 (Nat.le_refl _)

set_option maxHeartbeats 4000000 in
theorem tcpParse_form2 (A : Option Addr) (n c : Nat) (l : List UInt8) (w : World) (hr : Rb w A n c l) (h20 : 20 ≤ n) (hn : n ≤ 1000000) (x0 : Nat) (x1 : Nat) (x2 : Nat) (x3 : Nat) (xf : Nat) (x4 : Nat) (x5 : Nat) (x6 : Nat) (x7 : Nat) (hx0 : num ((l.drop 0).take 2) = x0) (hx1 : num ((l.drop 2).take 2) = x1) (hx2 : num ((l.drop 4).take 4) = x2) (hx3 : num ((l.drop 8).take 4) = x3) (hxf : num ((l.drop 12).take 1) = xf) (hx4 : num ((l.drop 13).take 1) = x4) (hx5 : num ((l.drop 14).take 2) = x5) (hx6 : num ((l.drop 16).take 2) = x6) (hx7 : num ((l.drop 18).take 2) = x7) (hs : 5 ≤ xf / 16) (hm : xf % 16 ≠ 0) :
    Calls Try.prog 157 #[.slice A n c] w (RetSeg w 0 0 0 0 0 0 0 0 [] [] (.int .i64 21)) := by
  have hc := hr.cap
  have h20i : (20 : Int) ≤ (n : Int) := by omega
  have hf : xf < 256 := by rw [← hxf]; exact num_lt' l 12 1 256 (by decide)
  have hand := u8_and15 xf hf
  have Hx0 := Lib.hid hx0
  have Hx1 := Lib.hid hx1
  have Hx2 := Lib.hid hx2
  have Hx3 := Lib.hid hx3
  have Hxf := Lib.hid hxf
  have Hx4 := Lib.hid hx4
  have Hx5 := Lib.hid hx5
  have Hx6 := Lib.hid hx6
  have Hx7 := Lib.hid hx7
  clear hx0 hx1 hx2 hx3 hxf hx4 hx5 hx6 hx7
  have t1 : decide (4 * ((xf : Int) / 16) < 20) = false := by simp; omega
  have t2 : (((xf % 16 : Nat) : Int) != 0) = true := by rw [bne_iff_ne]; omega
  go_enter Try.func157, Try.ntmps157
  go_wp2_with fail
  refine (readK _ _ _ (l.take 20) _ ((hr.take h20).alloc _) (by omega)).mono ?_
  rintro e w1 ⟨r, bs1, d1, rfl, rfl, hr1, hR0⟩
  have HL := Lib.hid (show (l.take 20).length = 20 by rw [List.length_take, hr.1]; omega)
  go_wp2_with fail
  refine (wordK _ _ _ r (l.take 20) 0 x0 hR0 hr1 (by rw [HL.out]; omega) (by rw [HL.out]; omega) (by rw [num_in _ _ _ _ (by omega)]; exact Hx0.out)).mono ?_
  rintro e w1 ⟨bs2, d2, rfl, rfl, hR1, -⟩
  go_wp2_with fail
  refine (wordK _ _ _ r (l.take 20) 2 x1 hR1 hr1 (by rw [HL.out]; omega) (by rw [HL.out]; omega) (by rw [num_in _ _ _ _ (by omega)]; exact Hx1.out)).mono ?_
  rintro e w1 ⟨bs3, d3, rfl, rfl, hR2, -⟩
  go_wp2_with fail
  refine (longK _ _ _ r (l.take 20) 4 x2 hR2 hr1 (by rw [HL.out]; omega) (by rw [HL.out]; omega) (by rw [num_in _ _ _ _ (by omega)]; exact Hx2.out)).mono ?_
  rintro e w1 ⟨bs4, d4, rfl, rfl, hR3, -⟩
  go_wp2_with fail
  refine (longK _ _ _ r (l.take 20) 8 x3 hR3 hr1 (by rw [HL.out]; omega) (by rw [HL.out]; omega) (by rw [num_in _ _ _ _ (by omega)]; exact Hx3.out)).mono ?_
  rintro e w1 ⟨bs5, d5, rfl, rfl, hR4, -⟩
  have hB0 : Below w.heap.size w (plus (w.alloc (.cells #[.int .u16 0, .int .u16 0, .int .u32 0, .int .u32 0, .int .u8 0, .int .u16 0, .int .u16 0, .int .u16 0, .slice none 0 0, .slice none 0 0] 47)) bs5 d5) := belowP ((Below.refl _ _).alloc (Nat.le_refl _) _) _ _
  have hX0 : Bk ((plus (w.alloc (.cells #[.int .u16 0, .int .u16 0, .int .u32 0, .int .u32 0, .int .u8 0, .int .u16 0, .int .u16 0, .int .u16 0, .slice none 0 0, .slice none 0 0] 47)) bs5 d5).alloc (.cells #[.int .u16 (x0 : Nat), .int .u16 (x1 : Nat), .int .u32 (x2 : Nat), .int .u32 (x3 : Nat), .int .u8 0, .int .u16 0, .int .u16 0, .int .u16 0, .slice none 0 0, .slice none 0 0] 47)) (w.heap.size + 1 + bs5.length) 47 [.int .u16 (x0 : Nat), .int .u16 (x1 : Nat), .int .u32 (x2 : Nat), .int .u32 (x3 : Nat), .int .u8 0, .int .u16 0, .int .u16 0, .int .u16 0, .slice none 0 0, .slice none 0 0] := by
    have := Bk.new (plus (w.alloc (.cells #[.int .u16 0, .int .u16 0, .int .u32 0, .int .u32 0, .int .u8 0, .int .u16 0, .int .u16 0, .int .u16 0, .slice none 0 0, .slice none 0 0] 47)) bs5 d5) 47 #[.int .u16 (x0 : Nat), .int .u16 (x1 : Nat), .int .u32 (x2 : Nat), .int .u32 (x3 : Nat), .int .u8 0, .int .u16 0, .int .u16 0, .int .u16 0, .slice none 0 0, .slice none 0 0]
    rw [size_plus, World.size_alloc] at this
    exact this
  have hZ0 : Bk ((plus (w.alloc (.cells #[.int .u16 0, .int .u16 0, .int .u32 0, .int .u32 0, .int .u8 0, .int .u16 0, .int .u16 0, .int .u16 0, .slice none 0 0, .slice none 0 0] 47)) bs5 d5).alloc (.cells #[.int .u16 (x0 : Nat), .int .u16 (x1 : Nat), .int .u32 (x2 : Nat), .int .u32 (x3 : Nat), .int .u8 0, .int .u16 0, .int .u16 0, .int .u16 0, .slice none 0 0, .slice none 0 0] 47)) w.heap.size 47 [.int .u16 0, .int .u16 0, .int .u32 0, .int .u32 0, .int .u8 0, .int .u16 0, .int .u16 0, .int .u16 0, .slice none 0 0, .slice none 0 0] := ((Bk.new w 47 #[.int .u16 0, .int .u16 0, .int .u32 0, .int .u32 0, .int .u8 0, .int .u16 0, .int .u16 0, .int .u16 0, .slice none 0 0, .slice none 0 0]).later (below_plus _ _ _)).alloc _
  have hlt : r < w.heap.size + 1 + bs5.length := by have := hR4.lt; simpa [size_plus] using this
  have hR5 := hR4.later ((Below.refl _ _).alloc (Nat.le_refl _) (.cells #[.int .u16 (x0 : Nat), .int .u16 (x1 : Nat), .int .u32 (x2 : Nat), .int .u32 (x3 : Nat), .int .u8 0, .int .u16 0, .int .u16 0, .int .u16 0, .slice none 0 0, .slice none 0 0] 47))
  have hB1 := hB0.alloc hB0.size (.cells #[.int .u16 (x0 : Nat), .int .u16 (x1 : Nat), .int .u32 (x2 : Nat), .int .u32 (x3 : Nat), .int .u8 0, .int .u16 0, .int .u16 0, .int .u16 0, .slice none 0 0, .slice none 0 0] 47)
  have hr2 : w.heap.size < r := by have := hr1; simp at this; omega
  go_wp2_with fail
  generalize (plus (w.alloc (.cells #[.int .u16 0, .int .u16 0, .int .u32 0, .int .u32 0, .int .u8 0, .int .u16 0, .int .u16 0, .int .u16 0, .slice none 0 0, .slice none 0 0] 47)) bs5 d5).alloc _ = W1 at hX0 hZ0 hR5 hB1 ⊢
  generalize w.heap.size + 1 + bs5.length = g at *
  refine (byteG _ r (l.take 20) 12 xf hR5 (by rw [HL.out]; omega) (by rw [HL.out]; omega) (by rw [num_in _ _ _ _ (by omega)]; exact Hxf.out)).mono ?_
  rintro e w1 ⟨rfl, hR6, hg6⟩
  have hX6 := hX0.grown hg6 (by simp; omega)
  have hZ6 := hZ0.grown hg6 (by simp; omega)
  have hB6 := hB1.trans (below_of_grown hg6 hB1.size (fun k hk => by injection hk with hk; omega))
  clear hg6 hX0 hZ0 hR5 hB1 hR0 hR1 hR2 hR3 hR4 hB0
  go_wp2_with (first
    | (refine at_op (.build 47 #[]) rfl ?_; refine wpList_build 47 [] rfl rfl (.agg #[.int .u16 0, .int .u16 0, .int .u32 0, .int .u32 0, .int .u8 0, .int .u16 0, .int .u16 0, .int .u16 0, .slice none 0 0, .slice none 0 0]) ?_ ?_; exact run_buildSeg0 _)
    | (refine at_op (.store 47 (.tmp 2) (.tmp 37)) rfl ?_; refine wpList_stA (t := 47) 47 (.tmp 2) (.tmp 37) rfl rfl [.int .u16 0, .int .u16 0, .int .u32 0, .int .u32 0, .int .u8 0, .int .u16 0, .int .u16 0, .int .u16 0, .slice none 0 0, .slice none 0 0] [.int .u16 0, .int .u16 0, .int .u32 0, .int .u32 0, .int .u8 0, .int .u16 0, .int .u16 0, .int .u16 0, .slice none 0 0, .slice none 0 0] rfl (by simp [Value.oneCell']) rfl rfl hZ6 (szSeg _ rfl) ?_; intro w2 hb2 hg2))
  refine bodyPost_agg2 Try.results157 rfl rfl hb2.range Try.underlying47 rfl (szSeg _ rfl) rfl (RetSeg.zero ?_)
  exact below_grown hB6 hg2 (Nat.le_refl _)

set_option maxHeartbeats 4000000 in
theorem tcpParse_short2 (A : Option Addr) (n c : Nat) (l : List UInt8) (w : World) (hr : Rb w A n c l) (h20 : 20 ≤ n) (hn : n ≤ 1000000) (x0 : Nat) (x1 : Nat) (x2 : Nat) (x3 : Nat) (xf : Nat) (x4 : Nat) (x5 : Nat) (x6 : Nat) (x7 : Nat) (hx0 : num ((l.drop 0).take 2) = x0) (hx1 : num ((l.drop 2).take 2) = x1) (hx2 : num ((l.drop 4).take 4) = x2) (hx3 : num ((l.drop 8).take 4) = x3) (hxf : num ((l.drop 12).take 1) = xf) (hx4 : num ((l.drop 13).take 1) = x4) (hx5 : num ((l.drop 14).take 2) = x5) (hx6 : num ((l.drop 16).take 2) = x6) (hx7 : num ((l.drop 18).take 2) = x7) (hs : 5 ≤ xf / 16) (hm : xf % 16 = 0) (hz : n < 4 * (xf / 16)) :
    Calls Try.prog 157 #[.slice A n c] w (RetSeg w 0 0 0 0 0 0 0 0 [] [] (.int .i64 20)) := by
  have hc := hr.cap
  have h20i : (20 : Int) ≤ (n : Int) := by omega
  have hf : xf < 256 := by rw [← hxf]; exact num_lt' l 12 1 256 (by decide)
  have hand := u8_and15 xf hf
  have Hx0 := Lib.hid hx0
  have Hx1 := Lib.hid hx1
  have Hx2 := Lib.hid hx2
  have Hx3 := Lib.hid hx3
  have Hxf := Lib.hid hxf
  have Hx4 := Lib.hid hx4
  have Hx5 := Lib.hid hx5
  have Hx6 := Lib.hid hx6
  have Hx7 := Lib.hid hx7
  clear hx0 hx1 hx2 hx3 hxf hx4 hx5 hx6 hx7
  rw [hm] at hand
  clear hm
  have t1 : decide (4 * ((xf : Int) / 16) < 20) = false := by simp; omega
  have t2 : decide ((n : Int) < 4 * ((xf : Int) / 16)) = true := by simp; omega
  go_enter Try.func157, Try.ntmps157
  go_wp2_with fail
  refine (readK _ _ _ (l.take 20) _ ((hr.take h20).alloc _) (by omega)).mono ?_
  rintro e w1 ⟨r, bs1, d1, rfl, rfl, hr1, hR0⟩
  have HL := Lib.hid (show (l.take 20).length = 20 by rw [List.length_take, hr.1]; omega)
  go_wp2_with fail
  refine (wordK _ _ _ r (l.take 20) 0 x0 hR0 hr1 (by rw [HL.out]; omega) (by rw [HL.out]; omega) (by rw [num_in _ _ _ _ (by omega)]; exact Hx0.out)).mono ?_
  rintro e w1 ⟨bs2, d2, rfl, rfl, hR1, -⟩
  go_wp2_with fail
  refine (wordK _ _ _ r (l.take 20) 2 x1 hR1 hr1 (by rw [HL.out]; omega) (by rw [HL.out]; omega) (by rw [num_in _ _ _ _ (by omega)]; exact Hx1.out)).mono ?_
  rintro e w1 ⟨bs3, d3, rfl, rfl, hR2, -⟩
  go_wp2_with fail
  refine (longK _ _ _ r (l.take 20) 4 x2 hR2 hr1 (by rw [HL.out]; omega) (by rw [HL.out]; omega) (by rw [num_in _ _ _ _ (by omega)]; exact Hx2.out)).mono ?_
  rintro e w1 ⟨bs4, d4, rfl, rfl, hR3, -⟩
  go_wp2_with fail
  refine (longK _ _ _ r (l.take 20) 8 x3 hR3 hr1 (by rw [HL.out]; omega) (by rw [HL.out]; omega) (by rw [num_in _ _ _ _ (by omega)]; exact Hx3.out)).mono ?_
  rintro e w1 ⟨bs5, d5, rfl, rfl, hR4, -⟩
  have hB0 : Below w.heap.size w (plus (w.alloc (.cells #[.int .u16 0, .int .u16 0, .int .u32 0, .int .u32 0, .int .u8 0, .int .u16 0, .int .u16 0, .int .u16 0, .slice none 0 0, .slice none 0 0] 47)) bs5 d5) := belowP ((Below.refl _ _).alloc (Nat.le_refl _) _) _ _
  have hX0 : Bk ((plus (w.alloc (.cells #[.int .u16 0, .int .u16 0, .int .u32 0, .int .u32 0, .int .u8 0, .int .u16 0, .int .u16 0, .int .u16 0, .slice none 0 0, .slice none 0 0] 47)) bs5 d5).alloc (.cells #[.int .u16 (x0 : Nat), .int .u16 (x1 : Nat), .int .u32 (x2 : Nat), .int .u32 (x3 : Nat), .int .u8 0, .int .u16 0, .int .u16 0, .int .u16 0, .slice none 0 0, .slice none 0 0] 47)) (w.heap.size + 1 + bs5.length) 47 [.int .u16 (x0 : Nat), .int .u16 (x1 : Nat), .int .u32 (x2 : Nat), .int .u32 (x3 : Nat), .int .u8 0, .int .u16 0, .int .u16 0, .int .u16 0, .slice none 0 0, .slice none 0 0] := by
    have := Bk.new (plus (w.alloc (.cells #[.int .u16 0, .int .u16 0, .int .u32 0, .int .u32 0, .int .u8 0, .int .u16 0, .int .u16 0, .int .u16 0, .slice none 0 0, .slice none 0 0] 47)) bs5 d5) 47 #[.int .u16 (x0 : Nat), .int .u16 (x1 : Nat), .int .u32 (x2 : Nat), .int .u32 (x3 : Nat), .int .u8 0, .int .u16 0, .int .u16 0, .int .u16 0, .slice none 0 0, .slice none 0 0]
    rw [size_plus, World.size_alloc] at this
    exact this
  have hZ0 : Bk ((plus (w.alloc (.cells #[.int .u16 0, .int .u16 0, .int .u32 0, .int .u32 0, .int .u8 0, .int .u16 0, .int .u16 0, .int .u16 0, .slice none 0 0, .slice none 0 0] 47)) bs5 d5).alloc (.cells #[.int .u16 (x0 : Nat), .int .u16 (x1 : Nat), .int .u32 (x2 : Nat), .int .u32 (x3 : Nat), .int .u8 0, .int .u16 0, .int .u16 0, .int .u16 0, .slice none 0 0, .slice none 0 0] 47)) w.heap.size 47 [.int .u16 0, .int .u16 0, .int .u32 0, .int .u32 0, .int .u8 0, .int .u16 0, .int .u16 0, .int .u16 0, .slice none 0 0, .slice none 0 0] := ((Bk.new w 47 #[.int .u16 0, .int .u16 0, .int .u32 0, .int .u32 0, .int .u8 0, .int .u16 0, .int .u16 0, .int .u16 0, .slice none 0 0, .slice none 0 0]).later (below_plus _ _ _)).alloc _
  have hlt : r < w.heap.size + 1 + bs5.length := by have := hR4.lt; simpa [size_plus] using this
  have hR5 := hR4.later ((Below.refl _ _).alloc (Nat.le_refl _) (.cells #[.int .u16 (x0 : Nat), .int .u16 (x1 : Nat), .int .u32 (x2 : Nat), .int .u32 (x3 : Nat), .int .u8 0, .int .u16 0, .int .u16 0, .int .u16 0, .slice none 0 0, .slice none 0 0] 47))
  have hB1 := hB0.alloc hB0.size (.cells #[.int .u16 (x0 : Nat), .int .u16 (x1 : Nat), .int .u32 (x2 : Nat), .int .u32 (x3 : Nat), .int .u8 0, .int .u16 0, .int .u16 0, .int .u16 0, .slice none 0 0, .slice none 0 0] 47)
  have hr2 : w.heap.size < r := by have := hr1; simp at this; omega
  go_wp2_with fail
  generalize (plus (w.alloc (.cells #[.int .u16 0, .int .u16 0, .int .u32 0, .int .u32 0, .int .u8 0, .int .u16 0, .int .u16 0, .int .u16 0, .slice none 0 0, .slice none 0 0] 47)) bs5 d5).alloc _ = W1 at hX0 hZ0 hR5 hB1 ⊢
  generalize w.heap.size + 1 + bs5.length = g at *
  refine (byteG _ r (l.take 20) 12 xf hR5 (by rw [HL.out]; omega) (by rw [HL.out]; omega) (by rw [num_in _ _ _ _ (by omega)]; exact Hxf.out)).mono ?_
  rintro e w1 ⟨rfl, hR6, hg6⟩
  have hX6 := hX0.grown hg6 (by simp; omega)
  have hZ6 := hZ0.grown hg6 (by simp; omega)
  have hB6 := hB1.trans (below_of_grown hg6 hB1.size (fun k hk => by injection hk with hk; omega))
  clear hg6 hX0 hZ0 hR5 hB1 hR0 hR1 hR2 hR3 hR4 hB0
  go_wp2_with (first
    | (refine at_op (.build 47 #[]) rfl ?_; refine wpList_build 47 [] rfl rfl (.agg #[.int .u16 0, .int .u16 0, .int .u32 0, .int .u32 0, .int .u8 0, .int .u16 0, .int .u16 0, .int .u16 0, .slice none 0 0, .slice none 0 0]) ?_ ?_; exact run_buildSeg0 _)
    | (refine at_op (.store 47 (.tmp 2) (.tmp 42)) rfl ?_; refine wpList_stA (t := 47) 47 (.tmp 2) (.tmp 42) rfl rfl [.int .u16 0, .int .u16 0, .int .u32 0, .int .u32 0, .int .u8 0, .int .u16 0, .int .u16 0, .int .u16 0, .slice none 0 0, .slice none 0 0] [.int .u16 0, .int .u16 0, .int .u32 0, .int .u32 0, .int .u8 0, .int .u16 0, .int .u16 0, .int .u16 0, .slice none 0 0, .slice none 0 0] rfl (by simp [Value.oneCell']) rfl rfl hZ6 (szSeg _ rfl) ?_; intro w2 hb2 hg2))
  refine bodyPost_agg2 Try.results157 rfl rfl hb2.range Try.underlying47 rfl (szSeg _ rfl) rfl (RetSeg.zero ?_)
  exact below_grown hB6 hg2 (Nat.le_refl _)

set_option maxHeartbeats 4000000 in
theorem tcpParse_okF (A : Option Addr) (n c : Nat) (l : List UInt8) (w : World) (hr : Rb w A n c l) (h20 : 20 ≤ n) (hn : n ≤ 1000000) (x0 : Nat) (x1 : Nat) (x2 : Nat) (x3 : Nat) (xf : Nat) (x4 : Nat) (x5 : Nat) (x6 : Nat) (x7 : Nat) (hx0 : num ((l.drop 0).take 2) = x0) (hx1 : num ((l.drop 2).take 2) = x1) (hx2 : num ((l.drop 4).take 4) = x2) (hx3 : num ((l.drop 8).take 4) = x3) (hxf : num ((l.drop 12).take 1) = xf) (hx4 : num ((l.drop 13).take 1) = x4) (hx5 : num ((l.drop 14).take 2) = x5) (hx6 : num ((l.drop 16).take 2) = x6) (hx7 : num ((l.drop 18).take 2) = x7) (hs : 5 ≤ xf / 16) (hm : xf % 16 = 0) (sz : Nat) (hsz : sz = 4 * (xf / 16)) (hz : sz ≤ n) :
    Calls Try.prog 157 #[.slice A n c] w (RetSegF w x0 x1 x2 x3 x4 x5 x6 x7 ((l.drop 20).take (sz - 20)) (l.drop sz) (.int .i64 0)) := by
  have hc := hr.cap
  have h20i : (20 : Int) ≤ (n : Int) := by omega
  have hf : xf < 256 := by rw [← hxf]; exact num_lt' l 12 1 256 (by decide)
  have hand := u8_and15 xf hf
  have Hx0 := Lib.hid hx0
  have Hx1 := Lib.hid hx1
  have Hx2 := Lib.hid hx2
  have Hx3 := Lib.hid hx3
  have Hxf := Lib.hid hxf
  have Hx4 := Lib.hid hx4
  have Hx5 := Lib.hid hx5
  have Hx6 := Lib.hid hx6
  have Hx7 := Lib.hid hx7
  clear hx0 hx1 hx2 hx3 hxf hx4 hx5 hx6 hx7
  rw [hm] at hand
  clear hm
  have esz : 4 * ((xf : Int) / 16) = (sz : Int) := by omega
  have hs2 : 20 ≤ sz := by omega
  have HSZ := Lib.hid hsz
  clear hsz
  have t1 : decide ((sz : Int) < 20) = false := by simp; omega
  go_enter Try.func157, Try.ntmps157
  go_wp2_with fail
  refine (readK _ _ _ (l.take 20) _ ((hr.take h20).alloc _) (by omega)).mono ?_
  rintro e w1 ⟨r, bs1, d1, rfl, rfl, hr1, hR0⟩
  have HL := Lib.hid (show (l.take 20).length = 20 by rw [List.length_take, hr.1]; omega)
  go_wp2_with fail
  refine (wordK _ _ _ r (l.take 20) 0 x0 hR0 hr1 (by rw [HL.out]; omega) (by rw [HL.out]; omega) (by rw [num_in _ _ _ _ (by omega)]; exact Hx0.out)).mono ?_
  rintro e w1 ⟨bs2, d2, rfl, rfl, hR1, -⟩
  go_wp2_with fail
  refine (wordK _ _ _ r (l.take 20) 2 x1 hR1 hr1 (by rw [HL.out]; omega) (by rw [HL.out]; omega) (by rw [num_in _ _ _ _ (by omega)]; exact Hx1.out)).mono ?_
  rintro e w1 ⟨bs3, d3, rfl, rfl, hR2, -⟩
  go_wp2_with fail
  refine (longK _ _ _ r (l.take 20) 4 x2 hR2 hr1 (by rw [HL.out]; omega) (by rw [HL.out]; omega) (by rw [num_in _ _ _ _ (by omega)]; exact Hx2.out)).mono ?_
  rintro e w1 ⟨bs4, d4, rfl, rfl, hR3, -⟩
  go_wp2_with fail
  refine (longK _ _ _ r (l.take 20) 8 x3 hR3 hr1 (by rw [HL.out]; omega) (by rw [HL.out]; omega) (by rw [num_in _ _ _ _ (by omega)]; exact Hx3.out)).mono ?_
  rintro e w1 ⟨bs5, d5, rfl, rfl, hR4, -⟩
  have hB0 : Below w.heap.size w (plus (w.alloc (.cells #[.int .u16 0, .int .u16 0, .int .u32 0, .int .u32 0, .int .u8 0, .int .u16 0, .int .u16 0, .int .u16 0, .slice none 0 0, .slice none 0 0] 47)) bs5 d5) := belowP ((Below.refl _ _).alloc (Nat.le_refl _) _) _ _
  have hX0 : Bk ((plus (w.alloc (.cells #[.int .u16 0, .int .u16 0, .int .u32 0, .int .u32 0, .int .u8 0, .int .u16 0, .int .u16 0, .int .u16 0, .slice none 0 0, .slice none 0 0] 47)) bs5 d5).alloc (.cells #[.int .u16 (x0 : Nat), .int .u16 (x1 : Nat), .int .u32 (x2 : Nat), .int .u32 (x3 : Nat), .int .u8 0, .int .u16 0, .int .u16 0, .int .u16 0, .slice none 0 0, .slice none 0 0] 47)) (w.heap.size + 1 + bs5.length) 47 [.int .u16 (x0 : Nat), .int .u16 (x1 : Nat), .int .u32 (x2 : Nat), .int .u32 (x3 : Nat), .int .u8 0, .int .u16 0, .int .u16 0, .int .u16 0, .slice none 0 0, .slice none 0 0] := by
    have := Bk.new (plus (w.alloc (.cells #[.int .u16 0, .int .u16 0, .int .u32 0, .int .u32 0, .int .u8 0, .int .u16 0, .int .u16 0, .int .u16 0, .slice none 0 0, .slice none 0 0] 47)) bs5 d5) 47 #[.int .u16 (x0 : Nat), .int .u16 (x1 : Nat), .int .u32 (x2 : Nat), .int .u32 (x3 : Nat), .int .u8 0, .int .u16 0, .int .u16 0, .int .u16 0, .slice none 0 0, .slice none 0 0]
    rw [size_plus, World.size_alloc] at this
    exact this
  have hZ0 : Bk ((plus (w.alloc (.cells #[.int .u16 0, .int .u16 0, .int .u32 0, .int .u32 0, .int .u8 0, .int .u16 0, .int .u16 0, .int .u16 0, .slice none 0 0, .slice none 0 0] 47)) bs5 d5).alloc (.cells #[.int .u16 (x0 : Nat), .int .u16 (x1 : Nat), .int .u32 (x2 : Nat), .int .u32 (x3 : Nat), .int .u8 0, .int .u16 0, .int .u16 0, .int .u16 0, .slice none 0 0, .slice none 0 0] 47)) w.heap.size 47 [.int .u16 0, .int .u16 0, .int .u32 0, .int .u32 0, .int .u8 0, .int .u16 0, .int .u16 0, .int .u16 0, .slice none 0 0, .slice none 0 0] := ((Bk.new w 47 #[.int .u16 0, .int .u16 0, .int .u32 0, .int .u32 0, .int .u8 0, .int .u16 0, .int .u16 0, .int .u16 0, .slice none 0 0, .slice none 0 0]).later (below_plus _ _ _)).alloc _
  have hlt : r < w.heap.size + 1 + bs5.length := by have := hR4.lt; simpa [size_plus] using this
  have hR5 := hR4.later ((Below.refl _ _).alloc (Nat.le_refl _) (.cells #[.int .u16 (x0 : Nat), .int .u16 (x1 : Nat), .int .u32 (x2 : Nat), .int .u32 (x3 : Nat), .int .u8 0, .int .u16 0, .int .u16 0, .int .u16 0, .slice none 0 0, .slice none 0 0] 47))
  have hB1 := hB0.alloc hB0.size (.cells #[.int .u16 (x0 : Nat), .int .u16 (x1 : Nat), .int .u32 (x2 : Nat), .int .u32 (x3 : Nat), .int .u8 0, .int .u16 0, .int .u16 0, .int .u16 0, .slice none 0 0, .slice none 0 0] 47)
  have hr2 : w.heap.size < r := by have := hr1; simp at this; omega
  go_wp2_with fail
  generalize (plus (w.alloc (.cells #[.int .u16 0, .int .u16 0, .int .u32 0, .int .u32 0, .int .u8 0, .int .u16 0, .int .u16 0, .int .u16 0, .slice none 0 0, .slice none 0 0] 47)) bs5 d5).alloc _ = W1 at hX0 hZ0 hR5 hB1 ⊢
  generalize w.heap.size + 1 + bs5.length = g at *
  refine (byteG _ r (l.take 20) 12 xf hR5 (by rw [HL.out]; omega) (by rw [HL.out]; omega) (by rw [num_in _ _ _ _ (by omega)]; exact Hxf.out)).mono ?_
  rintro e w1 ⟨rfl, hR6, hg6⟩
  have hX6 := hX0.grown hg6 (by simp; omega)
  have hZ6 := hZ0.grown hg6 (by simp; omega)
  have hB6 := hB1.trans (below_of_grown hg6 hB1.size (fun k hk => by injection hk with hk; omega))
  clear hg6 hX0 hZ0 hR5 hB1 hR0 hR1 hR2 hR3 hR4 hB0
  go_wp2_with fail
  refine (byteG _ r (l.take 20) 13 x4 hR6 (by rw [HL.out]; omega) (by rw [HL.out]; omega) (by rw [num_in _ _ _ _ (by omega)]; exact Hx4.out)).mono ?_
  clear hR6
  rintro e v0 ⟨rfl, hR6, hg6⟩
  replace hX6 := hX6.grown hg6 (by simp; omega)
  replace hZ6 := hZ6.grown hg6 (by simp; omega)
  replace hB6 := hB6.trans (below_of_grown hg6 hB6.size (fun k hk => by injection hk with hk; omega))
  clear hg6
  have q : v0.cell? ⟨g, 4, none⟩ = some (.int .u8 0) := hX6.cell 4
  have f := hX6.frozen 4
  go_wp2_with fail
  clear q f
  replace hX6 := hX6.set_ 4 (.int .u8 (x4 : Nat))
  simp only [List.set_cons_zero, List.set_cons_succ] at hX6
  replace hR6 := hR6.far (p := ⟨g, 4, none⟩) hlt (.int .u8 (x4 : Nat))
  replace hZ6 := hZ6.far (p := ⟨g, 4, none⟩) (by simp; omega) (.int .u8 (x4 : Nat))
  replace hB6 := hB6.setCell (p := ⟨g, 4, none⟩) (by simp; omega) (.int .u8 (x4 : Nat))
  generalize v0.setCell ⟨g, 4, none⟩ (.int .u8 (x4 : Nat)) = W0 at hX6 hR6 hZ6 hB6 ⊢
  go_wp2_with fail
  refine (wordG _ r (l.take 20) 14 x5 hR6 (by rw [HL.out]; omega) (by rw [HL.out]; omega) (by rw [num_in _ _ _ _ (by omega)]; exact Hx5.out)).mono ?_
  clear hR6
  rintro e v1 ⟨rfl, hR6, hg6⟩
  replace hX6 := hX6.grown hg6 (by simp; omega)
  replace hZ6 := hZ6.grown hg6 (by simp; omega)
  replace hB6 := hB6.trans (below_of_grown hg6 hB6.size (fun k hk => by injection hk with hk; omega))
  clear hg6
  have q : v1.cell? ⟨g, 5, none⟩ = some (.int .u16 0) := hX6.cell 5
  have f := hX6.frozen 5
  go_wp2_with fail
  clear q f
  replace hX6 := hX6.set_ 5 (.int .u16 (x5 : Nat))
  simp only [List.set_cons_zero, List.set_cons_succ] at hX6
  replace hR6 := hR6.far (p := ⟨g, 5, none⟩) hlt (.int .u16 (x5 : Nat))
  replace hZ6 := hZ6.far (p := ⟨g, 5, none⟩) (by simp; omega) (.int .u16 (x5 : Nat))
  replace hB6 := hB6.setCell (p := ⟨g, 5, none⟩) (by simp; omega) (.int .u16 (x5 : Nat))
  generalize v1.setCell ⟨g, 5, none⟩ (.int .u16 (x5 : Nat)) = W1 at hX6 hR6 hZ6 hB6 ⊢
  go_wp2_with fail
  refine (wordG _ r (l.take 20) 16 x6 hR6 (by rw [HL.out]; omega) (by rw [HL.out]; omega) (by rw [num_in _ _ _ _ (by omega)]; exact Hx6.out)).mono ?_
  clear hR6
  rintro e v2 ⟨rfl, hR6, hg6⟩
  replace hX6 := hX6.grown hg6 (by simp; omega)
  replace hZ6 := hZ6.grown hg6 (by simp; omega)
  replace hB6 := hB6.trans (below_of_grown hg6 hB6.size (fun k hk => by injection hk with hk; omega))
  clear hg6
  have q : v2.cell? ⟨g, 6, none⟩ = some (.int .u16 0) := hX6.cell 6
  have f := hX6.frozen 6
  go_wp2_with fail
  clear q f
  replace hX6 := hX6.set_ 6 (.int .u16 (x6 : Nat))
  simp only [List.set_cons_zero, List.set_cons_succ] at hX6
  replace hR6 := hR6.far (p := ⟨g, 6, none⟩) hlt (.int .u16 (x6 : Nat))
  replace hZ6 := hZ6.far (p := ⟨g, 6, none⟩) (by simp; omega) (.int .u16 (x6 : Nat))
  replace hB6 := hB6.setCell (p := ⟨g, 6, none⟩) (by simp; omega) (.int .u16 (x6 : Nat))
  generalize v2.setCell ⟨g, 6, none⟩ (.int .u16 (x6 : Nat)) = W2 at hX6 hR6 hZ6 hB6 ⊢
  go_wp2_with fail
  refine (wordG _ r (l.take 20) 18 x7 hR6 (by rw [HL.out]; omega) (by rw [HL.out]; omega) (by rw [num_in _ _ _ _ (by omega)]; exact Hx7.out)).mono ?_
  clear hR6
  rintro e v3 ⟨rfl, hR6, hg6⟩
  replace hX6 := hX6.grown hg6 (by simp; omega)
  replace hZ6 := hZ6.grown hg6 (by simp; omega)
  replace hB6 := hB6.trans (below_of_grown hg6 hB6.size (fun k hk => by injection hk with hk; omega))
  clear hg6
  have q : v3.cell? ⟨g, 7, none⟩ = some (.int .u16 0) := hX6.cell 7
  have f := hX6.frozen 7
  go_wp2_with fail
  clear q f
  replace hX6 := hX6.set_ 7 (.int .u16 (x7 : Nat))
  simp only [List.set_cons_zero, List.set_cons_succ] at hX6
  replace hR6 := hR6.far (p := ⟨g, 7, none⟩) hlt (.int .u16 (x7 : Nat))
  replace hZ6 := hZ6.far (p := ⟨g, 7, none⟩) (by simp; omega) (.int .u16 (x7 : Nat))
  replace hB6 := hB6.setCell (p := ⟨g, 7, none⟩) (by simp; omega) (.int .u16 (x7 : Nat))
  generalize v3.setCell ⟨g, 7, none⟩ (.int .u16 (x7 : Nat)) = W3 at hX6 hR6 hZ6 hB6 ⊢
  refine (clone_any _ _ _ ((l.drop 20).take (sz - 20)) _ (((hr.cut (k := 20) (by omega)).take (k := sz - 20) (by omega)).later hB6) (by omega)).mono ?_
  rintro e wc ⟨A1, n1, c1, bsA1, dA1, rfl, rfl, ho0⟩
  have q : W3.cell? ⟨g, 8, none⟩ = some (.slice none 0 0) := hX6.cell 8
  have f := hX6.frozen 8
  have hgl0 := hX6.lt
  go_wp2_with fail
  clear q f
  replace ho0 := ho0.swap (W' := W3.setCell ⟨g, 8, none⟩ (.slice A1 n1 c1)) (d' := dA1) (Nat.le_refl _) (by simp)
  obtain ⟨B0, hB0⟩ : ∃ B0, B0 = W3.heap.size := ⟨_, rfl⟩
  rw [← hB0] at ho0 hgl0
  have hwB : w.heap.size < B0 := by omega
  clear hB0
  replace hX6 := (hX6.set_ 8 (.slice A1 n1 c1)).later (below_plus _ bsA1 dA1)
  simp only [List.set_cons_zero, List.set_cons_succ] at hX6
  replace hZ6 := (hZ6.far (p := ⟨g, 8, none⟩) (by simp; omega) (.slice A1 n1 c1)).later (below_plus _ bsA1 dA1)
  replace hB6 := belowP (hB6.setCell (p := ⟨g, 8, none⟩) (by simp; omega) (.slice A1 n1 c1)) bsA1 dA1
  clear hR6
  generalize plus (W3.setCell ⟨g, 8, none⟩ (.slice A1 n1 c1)) bsA1 dA1 = W4 at hX6 hZ6 hB6 ho0 ⊢
  refine (clone_any _ _ _ (l.drop sz) _ ((hr.cut (k := sz) (by omega)).later hB6) (by omega)).mono ?_
  rintro e wc ⟨A2, n2, c2, bsA2, dA2, rfl, rfl, ho1⟩
  have q : W4.cell? ⟨g, 9, none⟩ = some (.slice none 0 0) := hX6.cell 9
  have f := hX6.frozen 9
  have hgl1 := hX6.lt
  go_upto_region 17 with fail
  clear q f
  replace ho1 := (ho1.swap (W' := W4.setCell ⟨g, 9, none⟩ (.slice A2 n2 c2)) (d' := dA2) (Nat.le_refl _) (by simp)).mono (show w.heap.size + 1 ≤ W4.heap.size by omega)
  replace ho0 := (ho0.setCell (p := ⟨g, 9, none⟩) hgl0 (.slice A2 n2 c2)).plus_ bsA2 dA2
  replace hX6 := (hX6.set_ 9 (.slice A2 n2 c2)).later (below_plus _ bsA2 dA2)
  simp only [List.set_cons_zero, List.set_cons_succ] at hX6
  replace hZ6 := (hZ6.far (p := ⟨g, 9, none⟩) (by simp; omega) (.slice A2 n2 c2)).later (below_plus _ bsA2 dA2)
  replace hB6 := belowP (hB6.setCell (p := ⟨g, 9, none⟩) (by simp; omega) (.slice A2 n2 c2)) bsA2 dA2
  generalize plus (W4.setCell ⟨g, 9, none⟩ (.slice A2 n2 c2)) bsA2 dA2 = W5 at hX6 hZ6 hB6 ho0 ho1 ⊢
  go_wp2_with (first
    | (refine at_op (.load 47 (.tmp 5)) rfl ?_; refine wpList_ldA (t := 47) 47 (.tmp 5) rfl rfl [.int .u16 (x0 : Nat), .int .u16 (x1 : Nat), .int .u32 (x2 : Nat), .int .u32 (x3 : Nat), .int .u8 (x4 : Nat), .int .u16 (x5 : Nat), .int .u16 (x6 : Nat), .int .u16 (x7 : Nat), .slice A1 n1 c1, .slice A2 n2 c2] rfl hX6 rfl Try.underlying47 rfl (szSeg _ rfl) ?_)
    | (refine at_op (.store 47 (.tmp 2) (.tmp 65)) rfl ?_; refine wpList_stA (t := 47) 47 (.tmp 2) (.tmp 65) rfl rfl [.int .u16 (x0 : Nat), .int .u16 (x1 : Nat), .int .u32 (x2 : Nat), .int .u32 (x3 : Nat), .int .u8 (x4 : Nat), .int .u16 (x5 : Nat), .int .u16 (x6 : Nat), .int .u16 (x7 : Nat), .slice A1 n1 c1, .slice A2 n2 c2] [.int .u16 0, .int .u16 0, .int .u32 0, .int .u32 0, .int .u8 0, .int .u16 0, .int .u16 0, .int .u16 0, .slice none 0 0, .slice none 0 0] rfl (by simp [Value.oneCell']) rfl rfl hZ6 (szSeg _ rfl) ?_; intro w2 hb2 hg2))
  refine bodyPost_agg2 Try.results157 rfl rfl hb2.range Try.underlying47 rfl (szSeg _ rfl) rfl (RetSegF.mk (ho0.grown hg2 (fun k hk => by have := (ho0.blk k hk).1; simp; omega)) (ho1.grown hg2 (fun k hk => by have := (ho1.blk k hk).1; simp; omega)) (below_grown hB6 hg2 (Nat.le_refl _)) (by omega) (by omega))
end Go.Proofs.Ytfmkndemkpecpaa

/- Contracts of the reference's Parse of TCP segments. -/
namespace Go.Proofs.Ytfmkndemkpecpaa
open Go.RowKit
set_option linter.unusedVariables false
set_option linter.unusedSimpArgs false
attribute [local go_sem ↓] sliced_cut

attribute [local go_sem] cutA_zero

theorem refGetV (A : Option Addr) (n c : Nat) (l : List UInt8) (k s : Int) (k' s' x : Nat) (w : World) (h : Rb w A n c l) (hk : k = k') (hs : s = s') (hx : num ((l.drop k').take s') = x) (hm : n ≤ 1099511627776) (hn : k' + s' ≤ n) (h8 : s' ≤ 8) :
    Calls Try.prog 54 #[.slice A n c, .int .i64 k, .int .i64 s] w fun e w' => e = .returned (.int .u64 (x : Nat)) ∧ w = w' := by
  subst hk hs hx
  exact refGet_any A n c l k' s' w h hm hn h8
theorem szSegR (cs : List Value) (h : cs.length = 10) : (Try.prog.info? 56).map (·.size) = some cs.length := by rw [h]; kernel_rfl
set_option maxRecDepth 100000 in
theorem run_buildSegR0 (w : World) : (Instr.build 56 #[]).run Try.prog w = .ok (.agg #[.int .u16 0, .int .u16 0, .int .u32 0, .int .u32 0, .int .u8 0, .int .u16 0, .int .u16 0, .int .u16 0, .slice none 0 0, .slice none 0 0]) w := by kernel_rfl

theorem refTcpParse_short (A : Option Addr) (n c : Nat) (l : List UInt8) (w : World) (hr : Rb w A n c l) (hn : n < 20) : Calls Try.prog 56 #[.slice A n c] w (RetSeg w 0 0 0 0 0 0 0 0 [] [] (.int .i64 20)) := by
  have hZ : Bk (w.alloc (.cells #[.int .u16 0, .int .u16 0, .int .u32 0, .int .u32 0, .int .u8 0, .int .u16 0, .int .u16 0, .int .u16 0, .slice none 0 0, .slice none 0 0] 56)) w.heap.size 56 [.int .u16 0, .int .u16 0, .int .u32 0, .int .u32 0, .int .u8 0, .int .u16 0, .int .u16 0, .int .u16 0, .slice none 0 0, .slice none 0 0] := Bk.new w 56 #[.int .u16 0, .int .u16 0, .int .u32 0, .int .u32 0, .int .u8 0, .int .u16 0, .int .u16 0, .int .u16 0, .slice none 0 0, .slice none 0 0]
  go_enter Try.func56, Try.ntmps56
  go_wp2_with (first
    | (refine at_op (.build 56 #[]) rfl ?_; refine wpList_build 56 [] rfl rfl (.agg #[.int .u16 0, .int .u16 0, .int .u32 0, .int .u32 0, .int .u8 0, .int .u16 0, .int .u16 0, .int .u16 0, .slice none 0 0, .slice none 0 0]) ?_ ?_; exact run_buildSegR0 _)
    | (refine at_op (.store 56 (.tmp 2) (.tmp 9)) rfl ?_; refine wpList_stA (t := 56) 56 (.tmp 2) (.tmp 9) rfl rfl [.int .u16 0, .int .u16 0, .int .u32 0, .int .u32 0, .int .u8 0, .int .u16 0, .int .u16 0, .int .u16 0, .slice none 0 0, .slice none 0 0] [.int .u16 0, .int .u16 0, .int .u32 0, .int .u32 0, .int .u8 0, .int .u16 0, .int .u16 0, .int .u16 0, .slice none 0 0, .slice none 0 0] rfl (by simp [Value.oneCell']) rfl rfl hZ (szSegR _ rfl) ?_; intro w2 hb2 hg2))
  refine bodyPost_agg2 Try.results56 rfl rfl hb2.range Try.underlying56 rfl (szSegR _ rfl) rfl (RetSeg.zero ?_)
  exact below_grown ((Below.refl _ _).alloc (Nat.le_refl _) _) hg2 (Nat.le_refl _)

set_option maxHeartbeats 4000000 in
theorem refTcpParse_form1 (A : Option Addr) (n c : Nat) (l : List UInt8) (w : World) (hr : Rb w A n c l) (h20 : 20 ≤ n) (hn : n ≤ 1000000) (x0 : Nat) (x1 : Nat) (x2 : Nat) (x3 : Nat) (xf : Nat) (x4 : Nat) (x5 : Nat) (x6 : Nat) (x7 : Nat) (hx0 : num ((l.drop 0).take 2) = x0) (hx1 : num ((l.drop 2).take 2) = x1) (hx2 : num ((l.drop 4).take 4) = x2) (hx3 : num ((l.drop 8).take 4) = x3) (hxf : num ((l.drop 12).take 1) = xf) (hx4 : num ((l.drop 13).take 1) = x4) (hx5 : num ((l.drop 14).take 2) = x5) (hx6 : num ((l.drop 16).take 2) = x6) (hx7 : num ((l.drop 18).take 2) = x7) (hs : xf / 16 < 5) :
    Calls Try.prog 56 #[.slice A n c] w (RetSeg w 0 0 0 0 0 0 0 0 [] [] (.int .i64 21)) := by
  have hc := hr.cap
  have h20i : (20 : Int) ≤ (n : Int) := by omega
  have hf : xf < 256 := by rw [← hxf]; exact num_lt' l 12 1 256 (by decide)
  obtain ⟨b, off, rfl, hlt, hcell⟩ := hr.2.2.at_ (by rw [bcs_length, hr.1]; omega)
  have q12 := num_cell hcell 12 (by rw [hr.1]; omega)
  have q13 := num_cell hcell 13 (by rw [hr.1]; omega)
  rw [hxf] at q12
  rw [hx4] at q13
  have i12 : (12 : Int) < (n : Int) := by omega
  have i13 : (13 : Int) < (n : Int) := by omega
  have Hx0 := Lib.hid hx0
  have Hx1 := Lib.hid hx1
  have Hx2 := Lib.hid hx2
  have Hx3 := Lib.hid hx3
  have Hxf := Lib.hid hxf
  have Hx4 := Lib.hid hx4
  have Hx5 := Lib.hid hx5
  have Hx6 := Lib.hid hx6
  have Hx7 := Lib.hid hx7
  clear hx0 hx1 hx2 hx3 hxf hx4 hx5 hx6 hx7 hcell
  have t1 : decide (((xf : Int) / 16) * 4 < 20) = true := by simp; omega
  have hZ : Bk (w.alloc (.cells #[.int .u16 0, .int .u16 0, .int .u32 0, .int .u32 0, .int .u8 0, .int .u16 0, .int .u16 0, .int .u16 0, .slice none 0 0, .slice none 0 0] 56)) w.heap.size 56 [.int .u16 0, .int .u16 0, .int .u32 0, .int .u32 0, .int .u8 0, .int .u16 0, .int .u16 0, .int .u16 0, .slice none 0 0, .slice none 0 0] := Bk.new w 56 #[.int .u16 0, .int .u16 0, .int .u32 0, .int .u32 0, .int .u8 0, .int .u16 0, .int .u16 0, .int .u16 0, .slice none 0 0, .slice none 0 0]
  go_enter Try.func56, Try.ntmps56
  go_wp2_with (first
    | (refine at_op (.build 56 #[]) rfl ?_; refine wpList_build 56 [] rfl rfl (.agg #[.int .u16 0, .int .u16 0, .int .u32 0, .int .u32 0, .int .u8 0, .int .u16 0, .int .u16 0, .int .u16 0, .slice none 0 0, .slice none 0 0]) ?_ ?_; exact run_buildSegR0 _)
    | (refine at_op (.store 56 (.tmp 2) (.tmp 25)) rfl ?_; refine wpList_stA (t := 56) 56 (.tmp 2) (.tmp 25) rfl rfl [.int .u16 0, .int .u16 0, .int .u32 0, .int .u32 0, .int .u8 0, .int .u16 0, .int .u16 0, .int .u16 0, .slice none 0 0, .slice none 0 0] [.int .u16 0, .int .u16 0, .int .u32 0, .int .u32 0, .int .u8 0, .int .u16 0, .int .u16 0, .int .u16 0, .slice none 0 0, .slice none 0 0] rfl (by simp [Value.oneCell']) rfl rfl hZ (szSegR _ rfl) ?_; intro w2 hb2 hg2))
  refine bodyPost_agg2 Try.results56 rfl rfl hb2.range Try.underlying56 rfl (szSegR _ rfl) rfl (RetSeg.zero ?_)
  exact below_grown ((Below.refl _ _).alloc (Nat.le_refl _) _) hg2 (Nat.le_refl _)

set_option maxHeartbeats 4000000 in
theorem refTcpParse_form2 (A : Option Addr) (n c : Nat) (l : List UInt8) (w : World) (hr : Rb w A n c l) (h20 : 20 ≤ n) (hn : n ≤ 1000000) (x0 : Nat) (x1 : Nat) (x2 : Nat) (x3 : Nat) (xf : Nat) (x4 : Nat) (x5 : Nat) (x6 : Nat) (x7 : Nat) (hx0 : num ((l.drop 0).take 2) = x0) (hx1 : num ((l.drop 2).take 2) = x1) (hx2 : num ((l.drop 4).take 4) = x2) (hx3 : num ((l.drop 8).take 4) = x3) (hxf : num ((l.drop 12).take 1) = xf) (hx4 : num ((l.drop 13).take 1) = x4) (hx5 : num ((l.drop 14).take 2) = x5) (hx6 : num ((l.drop 16).take 2) = x6) (hx7 : num ((l.drop 18).take 2) = x7) (hs : 5 ≤ xf / 16) (hm : xf % 16 ≠ 0) :
    Calls Try.prog 56 #[.slice A n c] w (RetSeg w 0 0 0 0 0 0 0 0 [] [] (.int .i64 21)) := by
  have hc := hr.cap
  have h20i : (20 : Int) ≤ (n : Int) := by omega
  have hf : xf < 256 := by rw [← hxf]; exact num_lt' l 12 1 256 (by decide)
  obtain ⟨b, off, rfl, hlt, hcell⟩ := hr.2.2.at_ (by rw [bcs_length, hr.1]; omega)
  have q12 := num_cell hcell 12 (by rw [hr.1]; omega)
  have q13 := num_cell hcell 13 (by rw [hr.1]; omega)
  rw [hxf] at q12
  rw [hx4] at q13
  have i12 : (12 : Int) < (n : Int) := by omega
  have i13 : (13 : Int) < (n : Int) := by omega
  have Hx0 := Lib.hid hx0
  have Hx1 := Lib.hid hx1
  have Hx2 := Lib.hid hx2
  have Hx3 := Lib.hid hx3
  have Hxf := Lib.hid hxf
  have Hx4 := Lib.hid hx4
  have Hx5 := Lib.hid hx5
  have Hx6 := Lib.hid hx6
  have Hx7 := Lib.hid hx7
  clear hx0 hx1 hx2 hx3 hxf hx4 hx5 hx6 hx7 hcell
  have t1 : decide (((xf : Int) / 16) * 4 < 20) = false := by simp; omega
  have t2 : (((xf : Int) % 16) != 0) = true := by rw [bne_iff_ne]; omega
  have hZ : Bk (w.alloc (.cells #[.int .u16 0, .int .u16 0, .int .u32 0, .int .u32 0, .int .u8 0, .int .u16 0, .int .u16 0, .int .u16 0, .slice none 0 0, .slice none 0 0] 56)) w.heap.size 56 [.int .u16 0, .int .u16 0, .int .u32 0, .int .u32 0, .int .u8 0, .int .u16 0, .int .u16 0, .int .u16 0, .slice none 0 0, .slice none 0 0] := Bk.new w 56 #[.int .u16 0, .int .u16 0, .int .u32 0, .int .u32 0, .int .u8 0, .int .u16 0, .int .u16 0, .int .u16 0, .slice none 0 0, .slice none 0 0]
  go_enter Try.func56, Try.ntmps56
  go_wp2_with (first
    | (refine at_op (.build 56 #[]) rfl ?_; refine wpList_build 56 [] rfl rfl (.agg #[.int .u16 0, .int .u16 0, .int .u32 0, .int .u32 0, .int .u8 0, .int .u16 0, .int .u16 0, .int .u16 0, .slice none 0 0, .slice none 0 0]) ?_ ?_; exact run_buildSegR0 _)
    | (refine at_op (.store 56 (.tmp 2) (.tmp 25)) rfl ?_; refine wpList_stA (t := 56) 56 (.tmp 2) (.tmp 25) rfl rfl [.int .u16 0, .int .u16 0, .int .u32 0, .int .u32 0, .int .u8 0, .int .u16 0, .int .u16 0, .int .u16 0, .slice none 0 0, .slice none 0 0] [.int .u16 0, .int .u16 0, .int .u32 0, .int .u32 0, .int .u8 0, .int .u16 0, .int .u16 0, .int .u16 0, .slice none 0 0, .slice none 0 0] rfl (by simp [Value.oneCell']) rfl rfl hZ (szSegR _ rfl) ?_; intro w2 hb2 hg2))
  refine bodyPost_agg2 Try.results56 rfl rfl hb2.range Try.underlying56 rfl (szSegR _ rfl) rfl (RetSeg.zero ?_)
  exact below_grown ((Below.refl _ _).alloc (Nat.le_refl _) _) hg2 (Nat.le_refl _)

set_option maxHeartbeats 4000000 in
theorem refTcpParse_short2 (A : Option Addr) (n c : Nat) (l : List UInt8) (w : World) (hr : Rb w A n c l) (h20 : 20 ≤ n) (hn : n ≤ 1000000) (x0 : Nat) (x1 : Nat) (x2 : Nat) (x3 : Nat) (xf : Nat) (x4 : Nat) (x5 : Nat) (x6 : Nat) (x7 : Nat) (hx0 : num ((l.drop 0).take 2) = x0) (hx1 : num ((l.drop 2).take 2) = x1) (hx2 : num ((l.drop 4).take 4) = x2) (hx3 : num ((l.drop 8).take 4) = x3) (hxf : num ((l.drop 12).take 1) = xf) (hx4 : num ((l.drop 13).take 1) = x4) (hx5 : num ((l.drop 14).take 2) = x5) (hx6 : num ((l.drop 16).take 2) = x6) (hx7 : num ((l.drop 18).take 2) = x7) (hs : 5 ≤ xf / 16) (hm : xf % 16 = 0) (hz : n < 4 * (xf / 16)) :
    Calls Try.prog 56 #[.slice A n c] w (RetSeg w 0 0 0 0 0 0 0 0 [] [] (.int .i64 20)) := by
  have hc := hr.cap
  have h20i : (20 : Int) ≤ (n : Int) := by omega
  have hf : xf < 256 := by rw [← hxf]; exact num_lt' l 12 1 256 (by decide)
  obtain ⟨b, off, rfl, hlt, hcell⟩ := hr.2.2.at_ (by rw [bcs_length, hr.1]; omega)
  have q12 := num_cell hcell 12 (by rw [hr.1]; omega)
  have q13 := num_cell hcell 13 (by rw [hr.1]; omega)
  rw [hxf] at q12
  rw [hx4] at q13
  have i12 : (12 : Int) < (n : Int) := by omega
  have i13 : (13 : Int) < (n : Int) := by omega
  have Hx0 := Lib.hid hx0
  have Hx1 := Lib.hid hx1
  have Hx2 := Lib.hid hx2
  have Hx3 := Lib.hid hx3
  have Hxf := Lib.hid hxf
  have Hx4 := Lib.hid hx4
  have Hx5 := Lib.hid hx5
  have Hx6 := Lib.hid hx6
  have Hx7 := Lib.hid hx7
  clear hx0 hx1 hx2 hx3 hxf hx4 hx5 hx6 hx7 hcell
  have t1 : decide (((xf : Int) / 16) * 4 < 20) = false := by simp; omega
  have t2 : (((xf : Int) % 16) != 0) = false := by rw [bne_eq_false_iff_eq]; omega
  have t3 : decide ((n : Int) < ((xf : Int) / 16) * 4) = true := by simp; omega
  have hZ : Bk (w.alloc (.cells #[.int .u16 0, .int .u16 0, .int .u32 0, .int .u32 0, .int .u8 0, .int .u16 0, .int .u16 0, .int .u16 0, .slice none 0 0, .slice none 0 0] 56)) w.heap.size 56 [.int .u16 0, .int .u16 0, .int .u32 0, .int .u32 0, .int .u8 0, .int .u16 0, .int .u16 0, .int .u16 0, .slice none 0 0, .slice none 0 0] := Bk.new w 56 #[.int .u16 0, .int .u16 0, .int .u32 0, .int .u32 0, .int .u8 0, .int .u16 0, .int .u16 0, .int .u16 0, .slice none 0 0, .slice none 0 0]
  go_enter Try.func56, Try.ntmps56
  go_wp2_with (first
    | (refine at_op (.build 56 #[]) rfl ?_; refine wpList_build 56 [] rfl rfl (.agg #[.int .u16 0, .int .u16 0, .int .u32 0, .int .u32 0, .int .u8 0, .int .u16 0, .int .u16 0, .int .u16 0, .slice none 0 0, .slice none 0 0]) ?_ ?_; exact run_buildSegR0 _)
    | (refine at_op (.store 56 (.tmp 2) (.tmp 30)) rfl ?_; refine wpList_stA (t := 56) 56 (.tmp 2) (.tmp 30) rfl rfl [.int .u16 0, .int .u16 0, .int .u32 0, .int .u32 0, .int .u8 0, .int .u16 0, .int .u16 0, .int .u16 0, .slice none 0 0, .slice none 0 0] [.int .u16 0, .int .u16 0, .int .u32 0, .int .u32 0, .int .u8 0, .int .u16 0, .int .u16 0, .int .u16 0, .slice none 0 0, .slice none 0 0] rfl (by simp [Value.oneCell']) rfl rfl hZ (szSegR _ rfl) ?_; intro w2 hb2 hg2))
  refine bodyPost_agg2 Try.results56 rfl rfl hb2.range Try.underlying56 rfl (szSegR _ rfl) rfl (RetSeg.zero ?_)
  exact below_grown ((Below.refl _ _).alloc (Nat.le_refl _) _) hg2 (Nat.le_refl _)

set_option maxHeartbeats 4000000 in
theorem refTcpParse_okF (A : Option Addr) (n c : Nat) (l : List UInt8) (w : World) (hr : Rb w A n c l) (h20 : 20 ≤ n) (hn : n ≤ 1000000) (x0 : Nat) (x1 : Nat) (x2 : Nat) (x3 : Nat) (xf : Nat) (x4 : Nat) (x5 : Nat) (x6 : Nat) (x7 : Nat) (hx0 : num ((l.drop 0).take 2) = x0) (hx1 : num ((l.drop 2).take 2) = x1) (hx2 : num ((l.drop 4).take 4) = x2) (hx3 : num ((l.drop 8).take 4) = x3) (hxf : num ((l.drop 12).take 1) = xf) (hx4 : num ((l.drop 13).take 1) = x4) (hx5 : num ((l.drop 14).take 2) = x5) (hx6 : num ((l.drop 16).take 2) = x6) (hx7 : num ((l.drop 18).take 2) = x7) (hs : 5 ≤ xf / 16) (hm : xf % 16 = 0) (sz : Nat) (hsz : sz = 4 * (xf / 16)) (hz : sz ≤ n) :
    Calls Try.prog 56 #[.slice A n c] w (RetSegF w x0 x1 x2 x3 x4 x5 x6 x7 ((l.drop 20).take (sz - 20)) (l.drop sz) (.int .i64 0)) := by
  have hc := hr.cap
  have h20i : (20 : Int) ≤ (n : Int) := by omega
  have hf : xf < 256 := by rw [← hxf]; exact num_lt' l 12 1 256 (by decide)
  obtain ⟨b, off, rfl, hlt, hcell⟩ := hr.2.2.at_ (by rw [bcs_length, hr.1]; omega)
  have q12 := num_cell hcell 12 (by rw [hr.1]; omega)
  have q13 := num_cell hcell 13 (by rw [hr.1]; omega)
  rw [hxf] at q12
  rw [hx4] at q13
  have i12 : (12 : Int) < (n : Int) := by omega
  have i13 : (13 : Int) < (n : Int) := by omega
  have Hx0 := Lib.hid hx0
  have Hx1 := Lib.hid hx1
  have Hx2 := Lib.hid hx2
  have Hx3 := Lib.hid hx3
  have Hxf := Lib.hid hxf
  have Hx4 := Lib.hid hx4
  have Hx5 := Lib.hid hx5
  have Hx6 := Lib.hid hx6
  have Hx7 := Lib.hid hx7
  clear hx0 hx1 hx2 hx3 hxf hx4 hx5 hx6 hx7 hcell
  have kx0 : x0 < 65536 := by rw [← Hx0.out]; exact num_lt' l 0 2 65536 (by decide)
  have cx0 : IntKind.u16.wrap (x0 : Int) = (x0 : Int) := by rw [IntKind.wrap_u16]; omega
  have kx1 : x1 < 65536 := by rw [← Hx1.out]; exact num_lt' l 2 2 65536 (by decide)
  have cx1 : IntKind.u16.wrap (x1 : Int) = (x1 : Int) := by rw [IntKind.wrap_u16]; omega
  have kx2 : x2 < 4294967296 := by rw [← Hx2.out]; exact num_lt' l 4 4 4294967296 (by decide)
  have cx2 : IntKind.u32.wrap (x2 : Int) = (x2 : Int) := by rw [IntKind.wrap_u32']; omega
  have kx3 : x3 < 4294967296 := by rw [← Hx3.out]; exact num_lt' l 8 4 4294967296 (by decide)
  have cx3 : IntKind.u32.wrap (x3 : Int) = (x3 : Int) := by rw [IntKind.wrap_u32']; omega
  have kx5 : x5 < 65536 := by rw [← Hx5.out]; exact num_lt' l 14 2 65536 (by decide)
  have cx5 : IntKind.u16.wrap (x5 : Int) = (x5 : Int) := by rw [IntKind.wrap_u16]; omega
  have kx6 : x6 < 65536 := by rw [← Hx6.out]; exact num_lt' l 16 2 65536 (by decide)
  have cx6 : IntKind.u16.wrap (x6 : Int) = (x6 : Int) := by rw [IntKind.wrap_u16]; omega
  have kx7 : x7 < 65536 := by rw [← Hx7.out]; exact num_lt' l 18 2 65536 (by decide)
  have cx7 : IntKind.u16.wrap (x7 : Int) = (x7 : Int) := by rw [IntKind.wrap_u16]; omega
  have esz : ((xf : Int) / 16) * 4 = (sz : Int) := by omega
  have hs2 : 20 ≤ sz := by omega
  have t2 : (((xf : Int) % 16) != 0) = false := by rw [bne_eq_false_iff_eq]; omega
  have HSZ := Lib.hid hsz
  clear hsz hm
  have t1 : decide ((sz : Int) < 20) = false := by simp; omega
  have hZ : Bk (w.alloc (.cells #[.int .u16 0, .int .u16 0, .int .u32 0, .int .u32 0, .int .u8 0, .int .u16 0, .int .u16 0, .int .u16 0, .slice none 0 0, .slice none 0 0] 56)) w.heap.size 56 [.int .u16 0, .int .u16 0, .int .u32 0, .int .u32 0, .int .u8 0, .int .u16 0, .int .u16 0, .int .u16 0, .slice none 0 0, .slice none 0 0] := Bk.new w 56 #[.int .u16 0, .int .u16 0, .int .u32 0, .int .u32 0, .int .u8 0, .int .u16 0, .int .u16 0, .int .u16 0, .slice none 0 0, .slice none 0 0]
  go_enter Try.func56, Try.ntmps56
  go_wp2
  refine wp_relE 26 69 [0, 2, 3, 5, 6, 8, 9, 11, 12, 15, 17, 18, 20, 21, 23] rfl (by kernel_rfl) (by kernel_rfl) (fun i => match i with | 0 => MP.eq (.slice (some ⟨b, off, none⟩) n c) | 1 => MP.eq (.int .u64 (x0 : Nat)) | 2 => MP.eq (.int .u16 (x0 : Nat)) | 3 => MP.eq (.slice (some ⟨b, off, none⟩) n c) | 4 => MP.eq (.int .u64 (x1 : Nat)) | 5 => MP.eq (.int .u16 (x1 : Nat)) | 6 => MP.eq (.slice (some ⟨b, off, none⟩) n c) | 7 => MP.eq (.int .u64 (x2 : Nat)) | 8 => MP.eq (.int .u32 (x2 : Nat)) | 9 => MP.eq (.slice (some ⟨b, off, none⟩) n c) | 10 => MP.eq (.int .u64 (x3 : Nat)) | 11 => MP.eq (.int .u32 (x3 : Nat)) | 12 => MP.eq (.slice (some ⟨b, off, none⟩) n c) | 13 => MP.eq (.pointer (some ⟨b, off + 13, none⟩)) | 14 => MP.eq (.int .u8 (x4 : Nat)) | 15 => MP.eq (.slice (some ⟨b, off, none⟩) n c) | 16 => MP.eq (.int .u64 (x5 : Nat)) | 17 => MP.eq (.int .u16 (x5 : Nat)) | 18 => MP.eq (.slice (some ⟨b, off, none⟩) n c) | 19 => MP.eq (.int .u64 (x6 : Nat)) | 20 => MP.eq (.int .u16 (x6 : Nat)) | 21 => MP.eq (.slice (some ⟨b, off, none⟩) n c) | 22 => MP.eq (.int .u64 (x7 : Nat)) | 23 => MP.eq (.int .u16 (x7 : Nat)) | 24 => MP.eq (.agg #[.int .u16 (x0 : Nat), .int .u16 (x1 : Nat), .int .u32 (x2 : Nat), .int .u32 (x3 : Nat), .int .u8 (x4 : Nat), .int .u16 (x5 : Nat), .int .u16 (x6 : Nat), .int .u16 (x7 : Nat), .slice none 0 0, .slice none 0 0]) | 25 => MP.blk (w.heap.size + 1) 56 [.int .u16 0, .int .u16 0, .int .u32 0, .int .u32 0, .int .u8 0, .int .u16 0, .int .u16 0, .int .u16 0, .slice none 0 0, .slice none 0 0] | _ => MP.any) ?_ ?_
  · intro i hi o ho FA x hO hD
    match i, hi, ho, hO, hD with
    | 0, _, ho, hO, hD => 
      obtain rfl := Option.some.inj ho.symm
      clear ho
      have ev0 : FA.eval (.tmp 0) = .slice (some ⟨b, off, none⟩) n c := hO 0 (by kernel_rfl)
      have e0 : FA.tmps[0]?.getD undef = .slice (some ⟨b, off, none⟩) n c := by simpa [Act.eval] using ev0
      replace ev0 := Lib.hid ev0
      clear hO hD
      rw [if_pos (by decide)]
      refine ⟨.slice (some ⟨b, off, none⟩) n c, .inl ⟨by simp [Region.wanted], fun w => ?_⟩, rfl⟩
      go_simp
    | 1, _, ho, hO, hD => 
      obtain rfl := Option.some.inj ho.symm
      clear ho
      have ev31 : FA.eval (.tmp 31) = .slice (some ⟨b, off, none⟩) n c := hD 0 31 (by kernel_rfl)
      have e31 : FA.tmps[31]?.getD undef = .slice (some ⟨b, off, none⟩) n c := by simpa [Act.eval] using ev31
      replace ev31 := Lib.hid ev31
      clear hO hD
      rw [if_neg (by decide)]
      intro K hK
      go_simp
      refine (refGetV _ n c l _ _ 0 2 x0 _ ((hr.alloc _).plus_ _ _) rfl rfl Hx0.out (by omega) (by omega) (by omega)).mono ?_
      rintro e w1 ⟨rfl, rfl⟩
      exact hK.out _ _ (Ex.refl _) rfl
    | 2, _, ho, hO, hD => 
      obtain rfl := Option.some.inj ho.symm
      clear ho
      have ev32 : FA.eval (.tmp 32) = .int .u64 (x0 : Nat) := hD 1 32 (by kernel_rfl)
      have e32 : FA.tmps[32]?.getD undef = .int .u64 (x0 : Nat) := by simpa [Act.eval] using ev32
      replace ev32 := Lib.hid ev32
      clear hO hD
      rw [if_pos (by decide)]
      refine ⟨.int .u16 (x0 : Nat), .inl ⟨by simp [Region.wanted], fun w => ?_⟩, rfl⟩
      go_simp
    | 3, _, ho, hO, hD => 
      obtain rfl := Option.some.inj ho.symm
      clear ho
      have ev0 : FA.eval (.tmp 0) = .slice (some ⟨b, off, none⟩) n c := hO 0 (by kernel_rfl)
      have e0 : FA.tmps[0]?.getD undef = .slice (some ⟨b, off, none⟩) n c := by simpa [Act.eval] using ev0
      replace ev0 := Lib.hid ev0
      clear hO hD
      rw [if_pos (by decide)]
      refine ⟨.slice (some ⟨b, off, none⟩) n c, .inl ⟨by simp [Region.wanted], fun w => ?_⟩, rfl⟩
      go_simp
    | 4, _, ho, hO, hD => 
      obtain rfl := Option.some.inj ho.symm
      clear ho
      have ev34 : FA.eval (.tmp 34) = .slice (some ⟨b, off, none⟩) n c := hD 3 34 (by kernel_rfl)
      have e34 : FA.tmps[34]?.getD undef = .slice (some ⟨b, off, none⟩) n c := by simpa [Act.eval] using ev34
      replace ev34 := Lib.hid ev34
      clear hO hD
      rw [if_neg (by decide)]
      intro K hK
      go_simp
      refine (refGetV _ n c l _ _ 2 2 x1 _ ((hr.alloc _).plus_ _ _) rfl rfl Hx1.out (by omega) (by omega) (by omega)).mono ?_
      rintro e w1 ⟨rfl, rfl⟩
      exact hK.out _ _ (Ex.refl _) rfl
    | 5, _, ho, hO, hD => 
      obtain rfl := Option.some.inj ho.symm
      clear ho
      have ev35 : FA.eval (.tmp 35) = .int .u64 (x1 : Nat) := hD 4 35 (by kernel_rfl)
      have e35 : FA.tmps[35]?.getD undef = .int .u64 (x1 : Nat) := by simpa [Act.eval] using ev35
      replace ev35 := Lib.hid ev35
      clear hO hD
      rw [if_pos (by decide)]
      refine ⟨.int .u16 (x1 : Nat), .inl ⟨by simp [Region.wanted], fun w => ?_⟩, rfl⟩
      go_simp
    | 6, _, ho, hO, hD => 
      obtain rfl := Option.some.inj ho.symm
      clear ho
      have ev0 : FA.eval (.tmp 0) = .slice (some ⟨b, off, none⟩) n c := hO 0 (by kernel_rfl)
      have e0 : FA.tmps[0]?.getD undef = .slice (some ⟨b, off, none⟩) n c := by simpa [Act.eval] using ev0
      replace ev0 := Lib.hid ev0
      clear hO hD
      rw [if_pos (by decide)]
      refine ⟨.slice (some ⟨b, off, none⟩) n c, .inl ⟨by simp [Region.wanted], fun w => ?_⟩, rfl⟩
      go_simp
    | 7, _, ho, hO, hD => 
      obtain rfl := Option.some.inj ho.symm
      clear ho
      have ev37 : FA.eval (.tmp 37) = .slice (some ⟨b, off, none⟩) n c := hD 6 37 (by kernel_rfl)
      have e37 : FA.tmps[37]?.getD undef = .slice (some ⟨b, off, none⟩) n c := by simpa [Act.eval] using ev37
      replace ev37 := Lib.hid ev37
      clear hO hD
      rw [if_neg (by decide)]
      intro K hK
      go_simp
      refine (refGetV _ n c l _ _ 4 4 x2 _ ((hr.alloc _).plus_ _ _) rfl rfl Hx2.out (by omega) (by omega) (by omega)).mono ?_
      rintro e w1 ⟨rfl, rfl⟩
      exact hK.out _ _ (Ex.refl _) rfl
    | 8, _, ho, hO, hD => 
      obtain rfl := Option.some.inj ho.symm
      clear ho
      have ev38 : FA.eval (.tmp 38) = .int .u64 (x2 : Nat) := hD 7 38 (by kernel_rfl)
      have e38 : FA.tmps[38]?.getD undef = .int .u64 (x2 : Nat) := by simpa [Act.eval] using ev38
      replace ev38 := Lib.hid ev38
      clear hO hD
      rw [if_pos (by decide)]
      refine ⟨.int .u32 (x2 : Nat), .inl ⟨by simp [Region.wanted], fun w => ?_⟩, rfl⟩
      go_simp
    | 9, _, ho, hO, hD => 
      obtain rfl := Option.some.inj ho.symm
      clear ho
      have ev0 : FA.eval (.tmp 0) = .slice (some ⟨b, off, none⟩) n c := hO 0 (by kernel_rfl)
      have e0 : FA.tmps[0]?.getD undef = .slice (some ⟨b, off, none⟩) n c := by simpa [Act.eval] using ev0
      replace ev0 := Lib.hid ev0
      clear hO hD
      rw [if_pos (by decide)]
      refine ⟨.slice (some ⟨b, off, none⟩) n c, .inl ⟨by simp [Region.wanted], fun w => ?_⟩, rfl⟩
      go_simp
    | 10, _, ho, hO, hD => 
      obtain rfl := Option.some.inj ho.symm
      clear ho
      have ev40 : FA.eval (.tmp 40) = .slice (some ⟨b, off, none⟩) n c := hD 9 40 (by kernel_rfl)
      have e40 : FA.tmps[40]?.getD undef = .slice (some ⟨b, off, none⟩) n c := by simpa [Act.eval] using ev40
      replace ev40 := Lib.hid ev40
      clear hO hD
      rw [if_neg (by decide)]
      intro K hK
      go_simp
      refine (refGetV _ n c l _ _ 8 4 x3 _ ((hr.alloc _).plus_ _ _) rfl rfl Hx3.out (by omega) (by omega) (by omega)).mono ?_
      rintro e w1 ⟨rfl, rfl⟩
      exact hK.out _ _ (Ex.refl _) rfl
    | 11, _, ho, hO, hD => 
      obtain rfl := Option.some.inj ho.symm
      clear ho
      have ev41 : FA.eval (.tmp 41) = .int .u64 (x3 : Nat) := hD 10 41 (by kernel_rfl)
      have e41 : FA.tmps[41]?.getD undef = .int .u64 (x3 : Nat) := by simpa [Act.eval] using ev41
      replace ev41 := Lib.hid ev41
      clear hO hD
      rw [if_pos (by decide)]
      refine ⟨.int .u32 (x3 : Nat), .inl ⟨by simp [Region.wanted], fun w => ?_⟩, rfl⟩
      go_simp
    | 12, _, ho, hO, hD => 
      obtain rfl := Option.some.inj ho.symm
      clear ho
      have ev0 : FA.eval (.tmp 0) = .slice (some ⟨b, off, none⟩) n c := hO 0 (by kernel_rfl)
      have e0 : FA.tmps[0]?.getD undef = .slice (some ⟨b, off, none⟩) n c := by simpa [Act.eval] using ev0
      replace ev0 := Lib.hid ev0
      clear hO hD
      rw [if_pos (by decide)]
      refine ⟨.slice (some ⟨b, off, none⟩) n c, .inl ⟨by simp [Region.wanted], fun w => ?_⟩, rfl⟩
      go_simp
    | 13, _, ho, hO, hD => 
      obtain rfl := Option.some.inj ho.symm
      clear ho
      have ev43 : FA.eval (.tmp 43) = .slice (some ⟨b, off, none⟩) n c := hD 12 43 (by kernel_rfl)
      have e43 : FA.tmps[43]?.getD undef = .slice (some ⟨b, off, none⟩) n c := by simpa [Act.eval] using ev43
      replace ev43 := Lib.hid ev43
      clear hO hD
      rw [if_neg (by decide)]
      intro K hK
      go_simp
      exact hK.out _ _ (Ex.refl _) rfl
    | 14, _, ho, hO, hD => 
      obtain rfl := Option.some.inj ho.symm
      clear ho
      have ev44 : FA.eval (.tmp 44) = .pointer (some ⟨b, off + 13, none⟩) := hD 13 44 (by kernel_rfl)
      have e44 : FA.tmps[44]?.getD undef = .pointer (some ⟨b, off + 13, none⟩) := by simpa [Act.eval] using ev44
      replace ev44 := Lib.hid ev44
      clear hO hD
      rw [if_neg (by decide)]
      intro K hK
      go_simp
      exact hK.out _ _ (Ex.refl _) rfl
    | 15, _, ho, hO, hD => 
      obtain rfl := Option.some.inj ho.symm
      clear ho
      have ev0 : FA.eval (.tmp 0) = .slice (some ⟨b, off, none⟩) n c := hO 0 (by kernel_rfl)
      have e0 : FA.tmps[0]?.getD undef = .slice (some ⟨b, off, none⟩) n c := by simpa [Act.eval] using ev0
      replace ev0 := Lib.hid ev0
      clear hO hD
      rw [if_pos (by decide)]
      refine ⟨.slice (some ⟨b, off, none⟩) n c, .inl ⟨by simp [Region.wanted], fun w => ?_⟩, rfl⟩
      go_simp
    | 16, _, ho, hO, hD => 
      obtain rfl := Option.some.inj ho.symm
      clear ho
      have ev46 : FA.eval (.tmp 46) = .slice (some ⟨b, off, none⟩) n c := hD 15 46 (by kernel_rfl)
      have e46 : FA.tmps[46]?.getD undef = .slice (some ⟨b, off, none⟩) n c := by simpa [Act.eval] using ev46
      replace ev46 := Lib.hid ev46
      clear hO hD
      rw [if_neg (by decide)]
      intro K hK
      go_simp
      refine (refGetV _ n c l _ _ 14 2 x5 _ ((hr.alloc _).plus_ _ _) rfl rfl Hx5.out (by omega) (by omega) (by omega)).mono ?_
      rintro e w1 ⟨rfl, rfl⟩
      exact hK.out _ _ (Ex.refl _) rfl
    | 17, _, ho, hO, hD => 
      obtain rfl := Option.some.inj ho.symm
      clear ho
      have ev47 : FA.eval (.tmp 47) = .int .u64 (x5 : Nat) := hD 16 47 (by kernel_rfl)
      have e47 : FA.tmps[47]?.getD undef = .int .u64 (x5 : Nat) := by simpa [Act.eval] using ev47
      replace ev47 := Lib.hid ev47
      clear hO hD
      rw [if_pos (by decide)]
      refine ⟨.int .u16 (x5 : Nat), .inl ⟨by simp [Region.wanted], fun w => ?_⟩, rfl⟩
      go_simp
    | 18, _, ho, hO, hD => 
      obtain rfl := Option.some.inj ho.symm
      clear ho
      have ev0 : FA.eval (.tmp 0) = .slice (some ⟨b, off, none⟩) n c := hO 0 (by kernel_rfl)
      have e0 : FA.tmps[0]?.getD undef = .slice (some ⟨b, off, none⟩) n c := by simpa [Act.eval] using ev0
      replace ev0 := Lib.hid ev0
      clear hO hD
      rw [if_pos (by decide)]
      refine ⟨.slice (some ⟨b, off, none⟩) n c, .inl ⟨by simp [Region.wanted], fun w => ?_⟩, rfl⟩
      go_simp
    | 19, _, ho, hO, hD => 
      obtain rfl := Option.some.inj ho.symm
      clear ho
      have ev49 : FA.eval (.tmp 49) = .slice (some ⟨b, off, none⟩) n c := hD 18 49 (by kernel_rfl)
      have e49 : FA.tmps[49]?.getD undef = .slice (some ⟨b, off, none⟩) n c := by simpa [Act.eval] using ev49
      replace ev49 := Lib.hid ev49
      clear hO hD
      rw [if_neg (by decide)]
      intro K hK
      go_simp
      refine (refGetV _ n c l _ _ 16 2 x6 _ ((hr.alloc _).plus_ _ _) rfl rfl Hx6.out (by omega) (by omega) (by omega)).mono ?_
      rintro e w1 ⟨rfl, rfl⟩
      exact hK.out _ _ (Ex.refl _) rfl
    | 20, _, ho, hO, hD => 
      obtain rfl := Option.some.inj ho.symm
      clear ho
      have ev50 : FA.eval (.tmp 50) = .int .u64 (x6 : Nat) := hD 19 50 (by kernel_rfl)
      have e50 : FA.tmps[50]?.getD undef = .int .u64 (x6 : Nat) := by simpa [Act.eval] using ev50
      replace ev50 := Lib.hid ev50
      clear hO hD
      rw [if_pos (by decide)]
      refine ⟨.int .u16 (x6 : Nat), .inl ⟨by simp [Region.wanted], fun w => ?_⟩, rfl⟩
      go_simp
    | 21, _, ho, hO, hD => 
      obtain rfl := Option.some.inj ho.symm
      clear ho
      have ev0 : FA.eval (.tmp 0) = .slice (some ⟨b, off, none⟩) n c := hO 0 (by kernel_rfl)
      have e0 : FA.tmps[0]?.getD undef = .slice (some ⟨b, off, none⟩) n c := by simpa [Act.eval] using ev0
      replace ev0 := Lib.hid ev0
      clear hO hD
      rw [if_pos (by decide)]
      refine ⟨.slice (some ⟨b, off, none⟩) n c, .inl ⟨by simp [Region.wanted], fun w => ?_⟩, rfl⟩
      go_simp
    | 22, _, ho, hO, hD => 
      obtain rfl := Option.some.inj ho.symm
      clear ho
      have ev52 : FA.eval (.tmp 52) = .slice (some ⟨b, off, none⟩) n c := hD 21 52 (by kernel_rfl)
      have e52 : FA.tmps[52]?.getD undef = .slice (some ⟨b, off, none⟩) n c := by simpa [Act.eval] using ev52
      replace ev52 := Lib.hid ev52
      clear hO hD
      rw [if_neg (by decide)]
      intro K hK
      go_simp
      refine (refGetV _ n c l _ _ 18 2 x7 _ ((hr.alloc _).plus_ _ _) rfl rfl Hx7.out (by omega) (by omega) (by omega)).mono ?_
      rintro e w1 ⟨rfl, rfl⟩
      exact hK.out _ _ (Ex.refl _) rfl
    | 23, _, ho, hO, hD => 
      obtain rfl := Option.some.inj ho.symm
      clear ho
      have ev53 : FA.eval (.tmp 53) = .int .u64 (x7 : Nat) := hD 22 53 (by kernel_rfl)
      have e53 : FA.tmps[53]?.getD undef = .int .u64 (x7 : Nat) := by simpa [Act.eval] using ev53
      replace ev53 := Lib.hid ev53
      clear hO hD
      rw [if_pos (by decide)]
      refine ⟨.int .u16 (x7 : Nat), .inl ⟨by simp [Region.wanted], fun w => ?_⟩, rfl⟩
      go_simp
    | 24, _, ho, hO, hD => 
      obtain rfl := Option.some.inj ho.symm
      clear ho
      have ev33 : FA.eval (.tmp 33) = .int .u16 (x0 : Nat) := hD 2 33 (by kernel_rfl)
      have e33 : FA.tmps[33]?.getD undef = .int .u16 (x0 : Nat) := by simpa [Act.eval] using ev33
      replace ev33 := Lib.hid ev33
      have ev36 : FA.eval (.tmp 36) = .int .u16 (x1 : Nat) := hD 5 36 (by kernel_rfl)
      have e36 : FA.tmps[36]?.getD undef = .int .u16 (x1 : Nat) := by simpa [Act.eval] using ev36
      replace ev36 := Lib.hid ev36
      have ev39 : FA.eval (.tmp 39) = .int .u32 (x2 : Nat) := hD 8 39 (by kernel_rfl)
      have e39 : FA.tmps[39]?.getD undef = .int .u32 (x2 : Nat) := by simpa [Act.eval] using ev39
      replace ev39 := Lib.hid ev39
      have ev42 : FA.eval (.tmp 42) = .int .u32 (x3 : Nat) := hD 11 42 (by kernel_rfl)
      have e42 : FA.tmps[42]?.getD undef = .int .u32 (x3 : Nat) := by simpa [Act.eval] using ev42
      replace ev42 := Lib.hid ev42
      have ev45 : FA.eval (.tmp 45) = .int .u8 (x4 : Nat) := hD 14 45 (by kernel_rfl)
      have e45 : FA.tmps[45]?.getD undef = .int .u8 (x4 : Nat) := by simpa [Act.eval] using ev45
      replace ev45 := Lib.hid ev45
      have ev48 : FA.eval (.tmp 48) = .int .u16 (x5 : Nat) := hD 17 48 (by kernel_rfl)
      have e48 : FA.tmps[48]?.getD undef = .int .u16 (x5 : Nat) := by simpa [Act.eval] using ev48
      replace ev48 := Lib.hid ev48
      have ev51 : FA.eval (.tmp 51) = .int .u16 (x6 : Nat) := hD 20 51 (by kernel_rfl)
      have e51 : FA.tmps[51]?.getD undef = .int .u16 (x6 : Nat) := by simpa [Act.eval] using ev51
      replace ev51 := Lib.hid ev51
      have ev54 : FA.eval (.tmp 54) = .int .u16 (x7 : Nat) := hD 23 54 (by kernel_rfl)
      have e54 : FA.tmps[54]?.getD undef = .int .u16 (x7 : Nat) := by simpa [Act.eval] using ev54
      replace ev54 := Lib.hid ev54
      clear hO hD
      rw [if_neg (by decide)]
      intro K hK
      go_simp
      exact hK.out _ _ (Ex.refl _) rfl
    | 25, _, ho, hO, hD => 
      obtain rfl := Option.some.inj ho.symm
      clear ho
      clear hO hD
      rw [if_neg (by decide)]
      intro K hK
      go_simp
      refine hK.out _ _ (Ex.alloc _ _) ⟨_, rfl, ?_, ?_⟩
      · simp [size_plus]
      · refine Bk.newK _ _ _ ?_ rfl
        simp [size_plus]
    | (k + 26), hi, _, _, _ => exact absurd hi (by omega)
  intro vs x hp
  have p0 : vs 0 = .slice (some ⟨b, off, none⟩) n c := hp 0 (by omega)
  have p1 : vs 1 = .int .u64 (x0 : Nat) := hp 1 (by omega)
  have p2 : vs 2 = .int .u16 (x0 : Nat) := hp 2 (by omega)
  have p3 : vs 3 = .slice (some ⟨b, off, none⟩) n c := hp 3 (by omega)
  have p4 : vs 4 = .int .u64 (x1 : Nat) := hp 4 (by omega)
  have p5 : vs 5 = .int .u16 (x1 : Nat) := hp 5 (by omega)
  have p6 : vs 6 = .slice (some ⟨b, off, none⟩) n c := hp 6 (by omega)
  have p7 : vs 7 = .int .u64 (x2 : Nat) := hp 7 (by omega)
  have p8 : vs 8 = .int .u32 (x2 : Nat) := hp 8 (by omega)
  have p9 : vs 9 = .slice (some ⟨b, off, none⟩) n c := hp 9 (by omega)
  have p10 : vs 10 = .int .u64 (x3 : Nat) := hp 10 (by omega)
  have p11 : vs 11 = .int .u32 (x3 : Nat) := hp 11 (by omega)
  have p12 : vs 12 = .slice (some ⟨b, off, none⟩) n c := hp 12 (by omega)
  have p13 : vs 13 = .pointer (some ⟨b, off + 13, none⟩) := hp 13 (by omega)
  have p14 : vs 14 = .int .u8 (x4 : Nat) := hp 14 (by omega)
  have p15 : vs 15 = .slice (some ⟨b, off, none⟩) n c := hp 15 (by omega)
  have p16 : vs 16 = .int .u64 (x5 : Nat) := hp 16 (by omega)
  have p17 : vs 17 = .int .u16 (x5 : Nat) := hp 17 (by omega)
  have p18 : vs 18 = .slice (some ⟨b, off, none⟩) n c := hp 18 (by omega)
  have p19 : vs 19 = .int .u64 (x6 : Nat) := hp 19 (by omega)
  have p20 : vs 20 = .int .u16 (x6 : Nat) := hp 20 (by omega)
  have p21 : vs 21 = .slice (some ⟨b, off, none⟩) n c := hp 21 (by omega)
  have p22 : vs 22 = .int .u64 (x7 : Nat) := hp 22 (by omega)
  have p23 : vs 23 = .int .u16 (x7 : Nat) := hp 23 (by omega)
  have p24 : vs 24 = .agg #[.int .u16 (x0 : Nat), .int .u16 (x1 : Nat), .int .u32 (x2 : Nat), .int .u32 (x3 : Nat), .int .u8 (x4 : Nat), .int .u16 (x5 : Nat), .int .u16 (x6 : Nat), .int .u16 (x7 : Nat), .slice none 0 0, .slice none 0 0] := hp 24 (by omega)
  have p25 := hp 25 (by omega)
  clear hp
  simp only [List.take_succ_cons, List.take_zero, List.drop_succ_cons, List.drop_zero, putAll, Nat.zero_add, Nat.reduceAdd, Act.put, List.setIfInBounds_toArray, List.set_cons_zero, List.set_cons_succ, p0, p1, p2, p3, p4, p5, p6, p7, p8, p9, p10, p11, p12, p13, p14, p15, p16, p17, p18, p19, p20, p21, p22, p23, p24]
  clear p0 p1 p2 p3 p4 p5 p6 p7 p8 p9 p10 p11 p12 p13 p14 p15 p16 p17 p18 p19 p20 p21 p22 p23 p24
  generalize vs 25 = y25 at *
  clear vs
  obtain ⟨g, rfl, hgw, hb⟩ := p25
  go_upto_region 9 with (refine at_op (.store 56 (.tmp 5) (.tmp 55)) rfl ?_; refine wpList_stA (t := 56) 56 (.tmp 5) (.tmp 55) rfl rfl [.int .u16 (x0 : Nat), .int .u16 (x1 : Nat), .int .u32 (x2 : Nat), .int .u32 (x3 : Nat), .int .u8 (x4 : Nat), .int .u16 (x5 : Nat), .int .u16 (x6 : Nat), .int .u16 (x7 : Nat), .slice none 0 0, .slice none 0 0] [.int .u16 0, .int .u16 0, .int .u32 0, .int .u32 0, .int .u8 0, .int .u16 0, .int .u16 0, .int .u16 0, .slice none 0 0, .slice none 0 0] rfl (by simp [Value.oneCell']) rfl rfl hb (szSegR _ rfl) ?_; intro w3 hX hg3)
  refine NoPanic.normal ?_
  have hZ3 := (hZ.later (below_plus _ x.bs x.d)).grown hg3 (by simp; omega)
  have hB := below_grown (belowP ((Below.refl w.heap.size w).alloc (Nat.le_refl _) _) x.bs x.d) hg3 (by omega)
  clear hZ hg3 hb
  have q : w3.cell? ⟨g, 8, none⟩ = some (.slice none 0 0) := hX.cell 8
  have f := hX.frozen 8
  have hgl0 := hX.lt
  go_upto_region 10 with (at_builtin; refine wpList_app0 (l2 := ((l.drop 20).take (sz - 20))) bt rfl (.tmp 56) (.tmp 59) rfl rfl rfl rfl (((hr.cut (k := 20) (by omega)).take (k := sz - 20) (by omega)).later hB) (by omega) ?_; intro A1 n1 c1 bsA1 dA1 ho0)
  clear q f
  replace ho0 := ho0.swap (W' := w3.setCell ⟨g, 8, none⟩ (.slice A1 n1 c1)) (d' := dA1) (Nat.le_refl _) (by simp)
  obtain ⟨B0, hB0⟩ : ∃ B0, B0 = w3.heap.size := ⟨_, rfl⟩
  rw [← hB0] at ho0 hgl0
  have hwB : w.heap.size < B0 := by omega
  clear hB0
  replace hX := (hX.set_ 8 (.slice A1 n1 c1)).later (below_plus _ bsA1 dA1)
  simp only [List.set_cons_zero, List.set_cons_succ] at hX
  replace hZ3 := (hZ3.far (p := ⟨g, 8, none⟩) (by simp; omega) (.slice A1 n1 c1)).later (below_plus _ bsA1 dA1)
  replace hB := belowP (hB.setCell (p := ⟨g, 8, none⟩) (by simp; omega) (.slice A1 n1 c1)) bsA1 dA1
  generalize plus (w3.setCell ⟨g, 8, none⟩ (.slice A1 n1 c1)) bsA1 dA1 = w4 at hX hZ3 hB ho0 ⊢
  have q : w4.cell? ⟨g, 9, none⟩ = some (.slice none 0 0) := hX.cell 9
  have f := hX.frozen 9
  have hgl1 := hX.lt
  go_upto_region 11 with (at_builtin; refine wpList_app0 (l2 := (l.drop sz)) bt rfl (.tmp 62) (.tmp 65) rfl rfl rfl rfl ((hr.cut (k := sz) (by omega)).later hB) (by omega) ?_; intro A2 n2 c2 bsA2 dA2 ho1)
  clear q f
  replace ho1 := (ho1.swap (W' := w4.setCell ⟨g, 9, none⟩ (.slice A2 n2 c2)) (d' := dA2) (Nat.le_refl _) (by simp)).mono (show w.heap.size + 1 ≤ w4.heap.size by omega)
  replace ho0 := (ho0.setCell (p := ⟨g, 9, none⟩) hgl0 (.slice A2 n2 c2)).plus_ bsA2 dA2
  replace hX := (hX.set_ 9 (.slice A2 n2 c2)).later (below_plus _ bsA2 dA2)
  simp only [List.set_cons_zero, List.set_cons_succ] at hX
  replace hZ3 := (hZ3.far (p := ⟨g, 9, none⟩) (by simp; omega) (.slice A2 n2 c2)).later (below_plus _ bsA2 dA2)
  replace hB := belowP (hB.setCell (p := ⟨g, 9, none⟩) (by simp; omega) (.slice A2 n2 c2)) bsA2 dA2
  generalize plus (w4.setCell ⟨g, 9, none⟩ (.slice A2 n2 c2)) bsA2 dA2 = w5 at hX hZ3 hB ho0 ho1 ⊢
  go_wp2_with (first
    | (refine at_op (.load 56 (.tmp 5)) rfl ?_; refine wpList_ldA (t := 56) 56 (.tmp 5) rfl rfl [.int .u16 (x0 : Nat), .int .u16 (x1 : Nat), .int .u32 (x2 : Nat), .int .u32 (x3 : Nat), .int .u8 (x4 : Nat), .int .u16 (x5 : Nat), .int .u16 (x6 : Nat), .int .u16 (x7 : Nat), .slice A1 n1 c1, .slice A2 n2 c2] rfl hX rfl Try.underlying56 rfl (szSegR _ rfl) ?_)
    | (refine at_op (.store 56 (.tmp 2) (.tmp 68)) rfl ?_; refine wpList_stA (t := 56) 56 (.tmp 2) (.tmp 68) rfl rfl [.int .u16 (x0 : Nat), .int .u16 (x1 : Nat), .int .u32 (x2 : Nat), .int .u32 (x3 : Nat), .int .u8 (x4 : Nat), .int .u16 (x5 : Nat), .int .u16 (x6 : Nat), .int .u16 (x7 : Nat), .slice A1 n1 c1, .slice A2 n2 c2] [.int .u16 0, .int .u16 0, .int .u32 0, .int .u32 0, .int .u8 0, .int .u16 0, .int .u16 0, .int .u16 0, .slice none 0 0, .slice none 0 0] rfl (by simp [Value.oneCell']) rfl rfl hZ3 (szSegR _ rfl) ?_; intro w9 hb9 hg9))
  refine bodyPost_agg2 Try.results56 rfl rfl hb9.range Try.underlying56 rfl (szSegR _ rfl) rfl (RetSegF.mk (ho0.grown hg9 (fun k hk => by have := (ho0.blk k hk).1; simp; omega)) (ho1.grown hg9 (fun k hk => by have := (ho1.blk k hk).1; simp; omega)) (below_grown hB hg9 (Nat.le_refl _)) (by omega) (by omega))
end Go.Proofs.Ytfmkndemkpecpaa

/- Parse of any bytes as a message of ICMP, both sides (chapter 8). -/
namespace Go.Proofs.Ytfmkndemkpecpaa
open Go.RowKit
set_option linter.unusedVariables false
set_option linter.unusedSimpArgs false
attribute [local go_sem ↓] sliced_cut

attribute [local go_sem] cutA_zero

/-- a message, its row in a new block, and a second result -/
def RetMg (w : World) (x0 x1 x2 x3 : Nat) (l : List UInt8) (v : Value) (e : Ending) (w' : World) : Prop := ∃ A1 n1 c1 bs d, e = .returned (.tuple #[.agg (msgC x0 x1 x2 x3 A1 n1 c1).toArray, v]) ∧ w' = plus w bs d ∧ Rb (plus w bs d) A1 n1 c1 l ∧ ∀ a, A1 = some a → w.heap.size ≤ a.block
theorem RetMg.mk {w w' : World} {x0 x1 x2 x3 : Nat} {l : List UInt8} {v : Value} {A1 : Option Addr} {n1 c1 : Nat} (h : Rb w' A1 n1 c1 l) (hf : ∀ a, A1 = some a → w.heap.size ≤ a.block) (hb : Below w.heap.size w w') : RetMg w x0 x1 x2 x3 l v (.returned (.tuple #[.agg (msgC x0 x1 x2 x3 A1 n1 c1).toArray, v])) w' := by
  obtain ⟨bs, d, rfl⟩ := plus_of hb
  exact ⟨A1, n1, c1, bs, d, rfl, rfl, h, hf⟩
theorem Ob.freshM {w : World} {w0 base : Nat} {A : Option Addr} {n c : Nat} {l : List UInt8} (h : Ob w base A n c l) (hb : w0 ≤ base) : ∀ a, A = some a → w0 ≤ a.block := fun a ha => by
  subst ha
  rcases h.2.2 with ⟨hv, h0⟩ | ⟨g, cap, cur, hv, hg, hr⟩
  · injection hv with h1; cases h1
  · injection hv with h1; injection h1 with h1; subst h1; exact Nat.le_trans hb hg
theorem RetMg.mkO {w w' : World} {x0 x1 x2 x3 : Nat} {l : List UInt8} {v : Value} {A1 : Option Addr} {n1 c1 : Nat} (h : Ob w' w.heap.size A1 n1 c1 l) (hb : Below w.heap.size w w') : RetMg w x0 x1 x2 x3 l v (.returned (.tuple #[.agg (msgC x0 x1 x2 x3 A1 n1 c1).toArray, v])) w' := RetMg.mk h.rb (h.freshM (Nat.le_refl _)) hb
theorem icmpParseS (A : Option Addr) (n c : Nat) (l : List UInt8) (w : World) (hr : Rb w A n c l) (hn : n < 8) : Calls Try.prog 161 #[.slice A n c] w (RetMg w 0 0 0 0 [] (.int .i64 20)) := by
  go_enter Try.func161, Try.ntmps161
  go_wp2
  exact bodyPost_ret (v := .tuple #[.agg #[.int .u8 0, .int .u8 0, .int .u16 0, .int .u32 0, .slice none 0 0], .int .i64 20]) (by simp [results, Try.results161, go_sem]) rfl (RetMg.mk Rb.nil_ (fun a h => by cases h) ((Below.refl _ _).alloc (Nat.le_refl _) _))
set_option maxHeartbeats 2000000 in
theorem icmpParseX (A : Option Addr) (n c : Nat) (l : List UInt8) (w : World) (hr : Rb w A n c l) (h8 : 8 ≤ n) (hn : n ≤ 1000000) (x0 x1 x2 x3 : Nat) (hx0 : num ((l.drop 0).take 1) = x0) (hx1 : num ((l.drop 1).take 1) = x1) (hx2 : num ((l.drop 2).take 2) = x2) (hx3 : num ((l.drop 4).take 4) = x3) :
    Calls Try.prog 161 #[.slice A n c] w (RetMg w x0 x1 x2 x3 (l.drop 8) (.int .i64 0)) := by
  rw [List.drop_zero] at hx0
  have hc := hr.cap
  have h8i : (8 : Int) ≤ (n : Int) := by omega
  go_enter Try.func161, Try.ntmps161
  go_wp2_with fail
  refine (read_any _ _ _ (l.take 8) _ ((hr.take h8).alloc _) (by omega)).mono ?_
  rintro e w1 ⟨r, bs1, d1, rfl, rfl, hr1, hR1⟩
  have hl8 : (l.take 8).length = 8 := by rw [List.length_take, hr.1]; omega
  have HL := Lib.hid hl8
  clear hl8
  go_wp2_with fail
  refine (byteP _ _ _ r _ false hR1 hr1 (by rw [HL.out]; omega) (by rw [HL.out]; omega)).mono ?_
  rintro e w1 ⟨bs2, d2, rfl, rfl, hR2, -⟩
  go_wp2_with fail
  refine (byteP _ _ _ r _ false hR2 hr1 (by rw [List.length_drop, HL.out]; omega) (by rw [List.length_drop, HL.out]; omega)).mono ?_
  rintro e w1 ⟨bs3, d3, rfl, rfl, hR3, -⟩
  go_wp2_with fail
  refine (wordP _ _ _ r _ false hR3 hr1 (by simp only [List.length_drop, HL.out]; omega) (by simp only [List.length_drop, HL.out]; omega)).mono ?_
  rintro e w1 ⟨bs4, d4, rfl, rfl, hR4, -⟩
  go_wp2_with fail
  refine (longP _ _ _ r _ false hR4 hr1 (by simp only [List.length_drop, HL.out]; omega) (by simp only [List.length_drop, HL.out]; omega)).mono ?_
  rintro e w1 ⟨bs5, d5, rfl, rfl, -, -⟩
  go_wp2_with fail
  refine (clone_any _ _ _ (l.drop 8) _ (((hr.cut h8).alloc _).plus_ _ _ |>.alloc _) (by omega)).mono ?_
  rintro e w1 ⟨A1, n1, c1, bs6, d6, rfl, rfl, ho6⟩
  go_wp2
  refine bodyPost_ret (v := .tuple #[.agg (msgC (num (l.take 1)) (num ((l.drop 1).take 1)) (num ((l.drop 2).take 2)) (num ((l.drop 4).take 4)) A1 n1 c1).toArray, .int .i64 0])
    (by simp [msgC, results, Try.results161, go_sem, List.drop_take, List.take_take, ← List.drop_one]) rfl ?_
  rw [hx0, hx1, hx2, hx3]
  refine RetMg.mkO ?_ ?_
  · exact (ho6.swap (Nat.le_refl _) (by simp [size_plus])).mono (by simp [size_plus]; omega)
  · exact toPlus ((toPlus ((Below.refl _ _).alloc (Nat.le_refl _) _) (by simp) _ _).alloc (by simp [size_plus]; omega) _) (by simp [size_plus]; omega) _ _
def MP.ms (x0 x1 x2 x3 base : Nat) (l : List UInt8) : MP := ⟨fun v w => ∃ A1 n1 c1, v = .agg (msgC x0 x1 x2 x3 A1 n1 c1).toArray ∧ Rb w A1 n1 c1 l ∧ ∀ a, A1 = some a → base ≤ a.block, fun _ _ _ ⟨A, n, c, h1, h2, h3⟩ h => ⟨A, n, c, h1, h2.later h.below, h3⟩⟩
theorem refIcmpS (A : Option Addr) (n c : Nat) (l : List UInt8) (w : World) (hr : Rb w A n c l) (hn : n < 8) : Calls Try.prog 63 #[.slice A n c] w (RetMg w 0 0 0 0 [] (.bool false)) := by
  go_enter Try.func63, Try.ntmps63
  go_wp2
  exact bodyPost_ret (v := .tuple #[.agg #[.int .u8 0, .int .u8 0, .int .u16 0, .int .u32 0, .slice none 0 0], .bool false]) (by simp [results, Try.results63, go_sem]) rfl (RetMg.mk Rb.nil_ (fun a h => by cases h) ((Below.refl _ _).alloc (Nat.le_refl _) _))
set_option maxHeartbeats 4000000 in
set_option maxRecDepth 100000 in
theorem refIcmpX (A : Option Addr) (n c : Nat) (l : List UInt8) (w : World) (hr : Rb w A n c l) (h8 : 8 ≤ n) (hn : n ≤ 1000000) (x0 x1 x2 x3 : Nat) (hx0 : num ((l.drop 0).take 1) = x0) (hx1 : num ((l.drop 1).take 1) = x1) (hx2 : num ((l.drop 2).take 2) = x2) (hx3 : num ((l.drop 4).take 4) = x3) :
    Calls Try.prog 63 #[.slice A n c] w (RetMg w x0 x1 x2 x3 (l.drop 8) (.bool true)) := by
  have hc := hr.cap
  obtain ⟨b, off, rfl, hlt, hcell⟩ := hr.2.2.at_ (by rw [bcs_length, hr.1]; omega)
  have hl := hr.1
  have q0 : w.cell? ⟨b, off, none⟩ = some (.int .u8 (x0 : Nat)) := by
    rw [← Nat.add_zero off, hcell 0 _ (bcs_get _ _ (by omega)), ← hx0, List.drop_zero]
    rw [num_take_succ l 0 (by omega)]; simp [num]
  have q1 : w.cell? ⟨b, off + 1, none⟩ = some (.int .u8 (x1 : Nat)) := by
    rw [hcell 1 _ (bcs_get _ _ (by omega)), ← hx1]
    rw [num_take_succ (l.drop 1) 0 (by rw [List.length_drop]; omega)]; simp [num]
  have k2 : x2 < 65536 := by rw [← hx2]; exact num_lt' l 2 2 65536 (by decide)
  have k3 : x3 < 4294967296 := by rw [← hx3]; exact num_lt' l 4 4 4294967296 (by decide)
  have Hx2 := Lib.hid hx2
  have Hx3 := Lib.hid hx3
  clear hl hcell hx0 hx1 hx2 hx3
  have u2 : IntKind.u16.wrap (x2 : Int) = (x2 : Int) := by rw [IntKind.wrap_u16]; omega
  have u4 : IntKind.u32.wrap (x3 : Int) = (x3 : Int) := by rw [IntKind.wrap_u32']; omega
  have Hr8 := Lib.hid (hr.cut (k := 8) h8)
  have i0 : (0 : Int) < (n : Int) := by omega
  have j0 : 0 < n := by omega
  have i1 : (1 : Int) < (n : Int) := by omega
  have i8 : (8 : Int) ≤ (n : Int) := by omega
  have b0 : Bk (w.alloc (.cells (msgC 0 0 0 0 none 0 0).toArray 58)) w.heap.size 58 (msgC 0 0 0 0 none 0 0) := Bk.new w 58 (msgC 0 0 0 0 none 0 0).toArray
  have be : Below w.heap.size w (w.alloc (.cells (msgC 0 0 0 0 none 0 0).toArray 58)) := Below.allocS (Below.refl _ _) _
  obtain ⟨dr, r1, r2⟩ := rowMr
  go_enter Try.func63, Try.ntmps63
  go_upto_region 3 with (fail)
  go_wp2
  refine wp_relS 17 25 rfl (by kernel_rfl) (by kernel_rfl) ?_
  apply Steps.one (MP.eq _) 1 rfl
  · intro o ho FA x hO hD K hK
    obtain rfl := Option.some.inj ho.symm
    clear ho
    have e0 := hO 0 (by kernel_rfl)
    simp only [eval_tmp, List.getElem?_toArray, List.getElem?_cons_succ, List.getElem?_cons_zero, Option.getD_some] at e0
    have ev0 := Lib.hid ((eval_tmp FA 0).trans e0)
    clear hO hD
    go_simp
    exact hK.out _ _ (Ex.refl _) rfl
  apply Steps.one (MP.eq _) 2 rfl
  · intro o ho FA x hO hD K hK
    obtain rfl := Option.some.inj ho.symm
    clear ho
    have ev8 : FA.eval (.tmp 8) = _ := hD 0 8 (by kernel_rfl)
    have e8 := (eval_tmp FA 8).symm.trans ev8
    replace ev8 := Lib.hid ev8
    clear hO hD
    go_simp
    exact hK.out _ _ (Ex.refl _) rfl
  apply Steps.one (MP.eq _) 3 rfl
  · intro o ho FA x hO hD K hK
    obtain rfl := Option.some.inj ho.symm
    clear ho
    have ev9 : FA.eval (.tmp 9) = _ := hD 1 9 (by kernel_rfl)
    have e9 := (eval_tmp FA 9).symm.trans ev9
    replace ev9 := Lib.hid ev9
    clear hO hD
    go_simp
    exact hK.out _ _ (Ex.refl _) rfl
  apply Steps.one (MP.eq _) 4 rfl
  · intro o ho FA x hO hD K hK
    obtain rfl := Option.some.inj ho.symm
    clear ho
    have e0 := hO 0 (by kernel_rfl)
    simp only [eval_tmp, List.getElem?_toArray, List.getElem?_cons_succ, List.getElem?_cons_zero, Option.getD_some] at e0
    have ev0 := Lib.hid ((eval_tmp FA 0).trans e0)
    clear hO hD
    go_simp
    exact hK.out _ _ (Ex.refl _) rfl
  apply Steps.one (MP.eq _) 5 rfl
  · intro o ho FA x hO hD K hK
    obtain rfl := Option.some.inj ho.symm
    clear ho
    have ev11 : FA.eval (.tmp 11) = _ := hD 3 11 (by kernel_rfl)
    have e11 := (eval_tmp FA 11).symm.trans ev11
    replace ev11 := Lib.hid ev11
    clear hO hD
    go_simp
    exact hK.out _ _ (Ex.refl _) rfl
  apply Steps.one (MP.eq _) 6 rfl
  · intro o ho FA x hO hD K hK
    obtain rfl := Option.some.inj ho.symm
    clear ho
    have ev12 : FA.eval (.tmp 12) = _ := hD 4 12 (by kernel_rfl)
    have e12 := (eval_tmp FA 12).symm.trans ev12
    replace ev12 := Lib.hid ev12
    clear hO hD
    go_simp
    exact hK.out _ _ (Ex.refl _) rfl
  apply Steps.one (MP.eq _) 7 rfl
  · intro o ho FA x hO hD K hK
    obtain rfl := Option.some.inj ho.symm
    clear ho
    have e0 := hO 0 (by kernel_rfl)
    simp only [eval_tmp, List.getElem?_toArray, List.getElem?_cons_succ, List.getElem?_cons_zero, Option.getD_some] at e0
    have ev0 := Lib.hid ((eval_tmp FA 0).trans e0)
    clear hO hD
    go_simp
    exact hK.out _ _ (Ex.refl _) rfl
  apply Steps.one (MP.eq (.int .u64 (x2 : Nat))) 8 rfl
  · intro o ho FA x hO hD K hK
    obtain rfl := Option.some.inj ho.symm
    clear ho
    have ev14 : FA.eval (.tmp 14) = _ := hD 6 14 (by kernel_rfl)
    have e14 := (eval_tmp FA 14).symm.trans ev14
    replace ev14 := Lib.hid ev14
    clear hO hD
    go_simp
    refine (refGet_int _ n c l _ _ _ ((hr.alloc _).plus_ _ _) (by omega) (by omega) (by omega) (by omega) (by omega)).mono ?_
    rintro e w1 ⟨rfl, rfl⟩
    exact hK.out _ _ (Ex.refl _) (by rw [show ((l.drop ((2 : Int).toNat)).take ((2 : Int).toNat)) = (l.drop 2).take 2 from rfl, Hx2.out]; rfl)
  apply Steps.one (MP.eq (.int .u16 (x2 : Nat))) 9 rfl
  · intro o ho FA x hO hD K hK
    obtain rfl := Option.some.inj ho.symm
    clear ho
    have ev15 : FA.eval (.tmp 15) = _ := hD 7 15 (by kernel_rfl)
    have e15 := (eval_tmp FA 15).symm.trans ev15
    replace ev15 := Lib.hid ev15
    clear hO hD
    go_simp
    exact hK.out _ _ (Ex.refl _) rfl
  apply Steps.one (MP.eq _) 10 rfl
  · intro o ho FA x hO hD K hK
    obtain rfl := Option.some.inj ho.symm
    clear ho
    have e0 := hO 0 (by kernel_rfl)
    simp only [eval_tmp, List.getElem?_toArray, List.getElem?_cons_succ, List.getElem?_cons_zero, Option.getD_some] at e0
    have ev0 := Lib.hid ((eval_tmp FA 0).trans e0)
    clear hO hD
    go_simp
    exact hK.out _ _ (Ex.refl _) rfl
  apply Steps.one (MP.eq (.int .u64 (x3 : Nat))) 11 rfl
  · intro o ho FA x hO hD K hK
    obtain rfl := Option.some.inj ho.symm
    clear ho
    have ev17 : FA.eval (.tmp 17) = _ := hD 9 17 (by kernel_rfl)
    have e17 := (eval_tmp FA 17).symm.trans ev17
    replace ev17 := Lib.hid ev17
    clear hO hD
    go_simp
    refine (refGet_int _ n c l _ _ _ ((hr.alloc _).plus_ _ _) (by omega) (by omega) (by omega) (by omega) (by omega)).mono ?_
    rintro e w1 ⟨rfl, rfl⟩
    exact hK.out _ _ (Ex.refl _) (by rw [show ((l.drop ((4 : Int).toNat)).take ((4 : Int).toNat)) = (l.drop 4).take 4 from rfl, Hx3.out]; rfl)
  apply Steps.one (MP.eq (.int .u32 (x3 : Nat))) 12 rfl
  · intro o ho FA x hO hD K hK
    obtain rfl := Option.some.inj ho.symm
    clear ho
    have ev18 : FA.eval (.tmp 18) = _ := hD 10 18 (by kernel_rfl)
    have e18 := (eval_tmp FA 18).symm.trans ev18
    replace ev18 := Lib.hid ev18
    clear hO hD
    go_simp
    exact hK.out _ _ (Ex.refl _) rfl
  apply Steps.one (MP.fullN (w.heap.size + 1) []) 13 rfl
  · intro o ho FA x hO hD K hK
    obtain rfl := Option.some.inj ho.symm
    clear ho
    clear hO hD
    go_simp
    refine hK.out _ _ (Ex.alloc _ _) ⟨_, _, rfl, ?_, ?_⟩
    · refine Rb.litW _ [] ?_ rfl (by decide) rfl
      simp [size_plus]
    · intro a ha
      injection ha with ha
      subst ha
      simp
  apply Steps.one (MP.eq _) 14 rfl
  · intro o ho FA x hO hD K hK
    obtain rfl := Option.some.inj ho.symm
    clear ho
    have e0 := hO 0 (by kernel_rfl)
    simp only [eval_tmp, List.getElem?_toArray, List.getElem?_cons_succ, List.getElem?_cons_zero, Option.getD_some] at e0
    have ev0 := Lib.hid ((eval_tmp FA 0).trans e0)
    clear hO hD
    go_simp
    exact hK.out _ _ (Ex.refl _) rfl
  apply Steps.one (MP.eq (.slice (cutA (some ⟨b, off, none⟩) c 8 1) (n - 8) (c - 8))) 15 rfl
  · intro o ho FA x hO hD K hK
    obtain rfl := Option.some.inj ho.symm
    clear ho
    have ev21 : FA.eval (.tmp 21) = _ := hD 13 21 (by kernel_rfl)
    have e21 := (eval_tmp FA 21).symm.trans ev21
    replace ev21 := Lib.hid ev21
    clear hO hD
    go_simp
    exact hK.out _ _ (Ex.refl _) rfl
  apply Steps.one (MP.rbN (w.heap.size + 1) (l.drop 8)) 16 rfl
  · intro o ho FA x hO hD K hK
    obtain rfl := Option.some.inj ho.symm
    clear ho
    have f20 := hD 12 20 (by kernel_rfl)
    generalize eu20 : FA.eval (.tmp 20) = u20 at f20
    have e20 := (eval_tmp FA 20).symm.trans eu20
    have ev20 := Lib.hid eu20
    clear eu20
    have ev22 : FA.eval (.tmp 22) = _ := hD 14 22 (by kernel_rfl)
    have e22 := (eval_tmp FA 22).symm.trans ev22
    replace ev22 := Lib.hid ev22
    clear hO hD
    obtain ⟨A1, n1, rfl, hr1, hA1⟩ := f20
    obtain rfl : n1 = 0 := hr1.1.symm
    refine wanted_if rfl ?_
    refine rel_appN bt (.tmp 20) (.tmp 22) (w.heap.size + 1) rfl (by simpa [Act.eval] using e20) hr1 hA1 (by simp [size_plus]) ev22.out ((Hr8.out.alloc _).plus_ _ _) (by omega) ?_
    intro A2 n2 c2 w2 hex hr2 hA2
    exact hK.out _ _ hex ⟨_, _, _, rfl, hr2, hA2⟩
  apply Steps.one (MP.ms x0 x1 x2 x3 (w.heap.size + 1) (l.drop 8)) 17 rfl
  · intro o ho FA x hO hD K hK
    obtain rfl := Option.some.inj ho.symm
    clear ho
    have ev10 : FA.eval (.tmp 10) = _ := hD 2 10 (by kernel_rfl)
    have e10 := (eval_tmp FA 10).symm.trans ev10
    replace ev10 := Lib.hid ev10
    have ev13 : FA.eval (.tmp 13) = _ := hD 5 13 (by kernel_rfl)
    have e13 := (eval_tmp FA 13).symm.trans ev13
    replace ev13 := Lib.hid ev13
    have ev16 : FA.eval (.tmp 16) = _ := hD 8 16 (by kernel_rfl)
    have e16 := (eval_tmp FA 16).symm.trans ev16
    replace ev16 := Lib.hid ev16
    have ev19 : FA.eval (.tmp 19) = _ := hD 11 19 (by kernel_rfl)
    have e19 := (eval_tmp FA 19).symm.trans ev19
    replace ev19 := Lib.hid ev19
    have f23 := hD 15 23 (by kernel_rfl)
    generalize eu23 : FA.eval (.tmp 23) = u23 at f23
    have e23 := (eval_tmp FA 23).symm.trans eu23
    have ev23 := Lib.hid eu23
    clear eu23
    clear hO hD
    obtain ⟨A1, n1, c1, rfl, hr1, hA1⟩ := f23
    go_simp
    exact hK.out _ _ (Ex.refl _) ⟨_, _, _, rfl, hr1, hA1⟩
  refine Steps.fin_ (fun vs x hp => ?_)
  have p0 : vs 0 = _ := hp 0 (by omega)
  have p1 : vs 1 = _ := hp 1 (by omega)
  have p2 : vs 2 = _ := hp 2 (by omega)
  have p3 : vs 3 = _ := hp 3 (by omega)
  have p4 : vs 4 = _ := hp 4 (by omega)
  have p5 : vs 5 = _ := hp 5 (by omega)
  have p6 : vs 6 = _ := hp 6 (by omega)
  have p7 : vs 7 = _ := hp 7 (by omega)
  have p8 : vs 8 = _ := hp 8 (by omega)
  have p9 : vs 9 = _ := hp 9 (by omega)
  have p10 : vs 10 = _ := hp 10 (by omega)
  have p11 : vs 11 = _ := hp 11 (by omega)
  have p12 := hp 12 (by omega)
  have p13 : vs 13 = _ := hp 13 (by omega)
  have p14 : vs 14 = _ := hp 14 (by omega)
  have p15 := hp 15 (by omega)
  have p16 := hp 16 (by omega)
  clear hp
  simp only [List.take_succ_cons, List.take_zero, List.drop_succ_cons, List.drop_zero, putAll, Nat.zero_add, Nat.reduceAdd, Act.put, List.setIfInBounds_toArray, List.set_cons_zero, List.set_cons_succ, p0, p1, p2, p3, p4, p5, p6, p7, p8, p9, p10, p11, p13, p14]
  clear p0 p1 p2 p3 p4 p5 p6 p7 p8 p9 p10 p11 p13 p14
  generalize vs 12 = y12 at *
  generalize vs 15 = y15 at *
  generalize vs 16 = y16 at *
  clear vs
  obtain ⟨A1, n1, c1, rfl, hr1, hA1⟩ := p16
  go_wp2_with (refine at_op (.store 58 (.tmp 2) (.tmp 24)) rfl ?_; refine wpList_stA (t := 58) 58 (.tmp 2) (.tmp 24) rfl rfl (msgC x0 x1 x2 x3 A1 n1 c1) (msgC 0 0 0 0 none 0 0) rfl (msgC_one _ _ _ _ _ _ _) rfl rfl (b0.later (below_plus _ _ _)) (szMr _ _ _ _ _ _ _) ?_; intro w2 hb2 hg2)
  go_wp2
  refine bodyPost_agg2 Try.results63 rfl rfl hb2.range r1 r2 (szMr _ _ _ _ _ _ _) rfl (RetMg.mk ?_ ?_ (below_grown (belowP be _ _) hg2 (Nat.le_refl _)))
  · exact hr1.grownN hA1 hg2 (by omega)
  · intro a ha; have := hA1 a ha; omega
end Go.Proofs.Ytfmkndemkpecpaa

/- octet.Set, ref01.Set; addr.Right; headers of IPv4: Size, Right. -/
namespace Go.Proofs.Ytfmkndemkpecpaa
open Go.RowKit
set_option linter.unusedVariables false
set_option linter.unusedSimpArgs false
attribute [local go_sem ↓] sliced_cut

attribute [local go_sem] cutA_zero

/-- bytes r written over l from k on -/
def setB (l : List UInt8) (k : Nat) (r : List UInt8) : List UInt8 := l.take k ++ r ++ l.drop (k + r.length)
theorem setB_length (l : List UInt8) (k : Nat) (r : List UInt8) (h : k + r.length ≤ l.length) : (setB l k r).length = l.length := by
  simp [setB]; omega
theorem setB_cells (l : List UInt8) (k : Nat) (r : List UInt8) : splice (bcs l) k (bcs r) = bcs (setB l k r) := by
  simp [splice, setB, bcs_append, bcs_take, bcs_drop, bcs_length]
/-- own bytes, and an error -/
def RetOE (w : World) (l : List UInt8) (E : Int) (e : Ending) (w' : World) : Prop := ∃ A n c bs d, e = .returned (.tuple #[.slice A n c, .int .i64 E]) ∧ w' = plus w bs d ∧ Ob (plus w bs d) w.heap.size A n c l
theorem RetOE.mk {w w' : World} {l : List UInt8} {E : Int} {A : Option Addr} {n c : Nat} (h : Ob w' w.heap.size A n c l) (hb : Below w.heap.size w w') : RetOE w l E (.returned (.tuple #[.slice A n c, .int .i64 E])) w' := by
  obtain ⟨bs, d, rfl⟩ := plus_of hb
  exact ⟨A, n, c, bs, d, rfl, rfl, h⟩
theorem over_full (l : List UInt8) (n : Nat) (h : l.length = n) : splice (List.replicate n (.int .u8 0)) 0 (bcs l) = bcs l := by
  subst h
  simp [splice, bcs_length]
set_option maxHeartbeats 4000000 in
set_option maxRecDepth 100000 in
theorem octSet (A : Option Addr) (n c : Nat) (l : List UInt8) (k v size : Nat) (w : World) (h : Rb w A n c l) (hk : k + size ≤ n) (hs0 : 1 ≤ size) (hs : size ≤ 8) (hv : v < 18446744073709551616) (hm : n ≤ 549755813888) :
    Calls Try.prog 152 #[.slice A n c, .int .i64 (k : Int), .int .u64 (v : Int), .int .i64 (size : Int)] w (RetOE w (setB l k (dig v size)) 0) := by
  have d1 : decide (size < 1) = false := by simp; omega
  have d2 : decide (8 < size) = false := by simp; omega
  have d4 : decide (n < size) = false := by simp; omega
  have d5 : decide ((n : Int) - (size : Int) < (k : Int)) = false := by simp; omega
  have hl := h.1
  have hkn : k ≠ n := by omega
  go_enter Try.func152, Try.ntmps152
  go_wp2_with (first
    | (at_make; refine wpList_mk bt rfl (.tmp 36) rfl _ n rfl rfl (by omega) ?_; intro w1 hb1 hbe1 hs1)
    | (refine at_op (.call { callee := .builtin .copy, args := #[.tmp 38, .tmp 39], argTypes := #[22, 22] }) rfl ?_; refine wpList_cpy 40 rfl bt rfl (.tmp 38) (.tmp 39) rfl rfl rfl w.heap.size 0 _ hb1 (.inr rfl) l (h.later hbe1) (by omega) (by simp) w.heap.size w hbe1 (Nat.le_refl _) ?_; intro w2 hb2 hbe2))
  rw [over_full l n hl] at hb2
  refine wp_rel 6 49 rfl (by kernel_rfl) (by kernel_rfl) (fun i => match i with | 0 => MP.eq (.slice (some ⟨w.heap.size, 0, none⟩) n n) | 1 => MP.eq (.int .i64 (k : Int)) | 2 => MP.eq (.slice (cutA (some ⟨w.heap.size, 0, none⟩) n k 1) (n - k) (n - k)) | 3 => MP.eq (.int .u64 (v : Int)) | 4 => MP.eq (.int .i64 (size : Int)) | 5 => MP.rb (dig v size) | _ => MP.any) ?_ ?_
  · intro i hi o ho FA x hO hD K hK
    match i, hi, ho, hO, hD, hK with
    | 0, _, ho, hO, hD, hK => 
      obtain rfl := Option.some.inj ho.symm
      clear ho
      have ev10 : FA.eval (.tmp 10) = .slice (some ⟨w.heap.size, 0, none⟩) n n := hO 10 (by kernel_rfl)
      have e10 : FA.tmps[10]?.getD undef = .slice (some ⟨w.heap.size, 0, none⟩) n n := by simpa [Act.eval] using ev10
      replace ev10 := Lib.hid ev10
      clear hO hD
      go_simp
      exact hK.out _ _ (Ex.refl _) rfl
    | 1, _, ho, hO, hD, hK => 
      obtain rfl := Option.some.inj ho.symm
      clear ho
      have ev1 : FA.eval (.tmp 1) = .int .i64 (k : Int) := hO 1 (by kernel_rfl)
      have e1 : FA.tmps[1]?.getD undef = .int .i64 (k : Int) := by simpa [Act.eval] using ev1
      replace ev1 := Lib.hid ev1
      clear hO hD
      go_simp
      exact hK.out _ _ (Ex.refl _) rfl
    | 2, _, ho, hO, hD, hK => 
      obtain rfl := Option.some.inj ho.symm
      clear ho
      have ev41 : FA.eval (.tmp 41) = .slice (some ⟨w.heap.size, 0, none⟩) n n := hD 0 41 (by kernel_rfl)
      have e41 : FA.tmps[41]?.getD undef = .slice (some ⟨w.heap.size, 0, none⟩) n n := by simpa [Act.eval] using ev41
      replace ev41 := Lib.hid ev41
      have ev42 : FA.eval (.tmp 42) = .int .i64 (k : Int) := hD 1 42 (by kernel_rfl)
      have e42 : FA.tmps[42]?.getD undef = .int .i64 (k : Int) := by simpa [Act.eval] using ev42
      replace ev42 := Lib.hid ev42
      clear hO hD
      have hk2 : k ≤ n := by omega
      go_simp
      exact hK.out _ _ (Ex.refl _) rfl
    | 3, _, ho, hO, hD, hK => 
      obtain rfl := Option.some.inj ho.symm
      clear ho
      have ev2 : FA.eval (.tmp 2) = .int .u64 (v : Int) := hO 2 (by kernel_rfl)
      have e2 : FA.tmps[2]?.getD undef = .int .u64 (v : Int) := by simpa [Act.eval] using ev2
      replace ev2 := Lib.hid ev2
      clear hO hD
      go_simp
      exact hK.out _ _ (Ex.refl _) rfl
    | 4, _, ho, hO, hD, hK => 
      obtain rfl := Option.some.inj ho.symm
      clear ho
      have ev3 : FA.eval (.tmp 3) = .int .i64 (size : Int) := hO 3 (by kernel_rfl)
      have e3 : FA.tmps[3]?.getD undef = .int .i64 (size : Int) := by simpa [Act.eval] using ev3
      replace ev3 := Lib.hid ev3
      clear hO hD
      go_simp
      exact hK.out _ _ (Ex.refl _) rfl
    | 5, _, ho, hO, hD, hK => 
      obtain rfl := Option.some.inj ho.symm
      clear ho
      have ev44 : FA.eval (.tmp 44) = .int .u64 (v : Int) := hD 3 44 (by kernel_rfl)
      have e44 : FA.tmps[44]?.getD undef = .int .u64 (v : Int) := by simpa [Act.eval] using ev44
      replace ev44 := Lib.hid ev44
      have ev45 : FA.eval (.tmp 45) = .int .i64 (size : Int) := hD 4 45 (by kernel_rfl)
      have e45 : FA.tmps[45]?.getD undef = .int .i64 (size : Int) := by simpa [Act.eval] using ev45
      replace ev45 := Lib.hid ev45
      clear hO hD
      go_simp
      refine (put_any none 0 0 [] v size _ Rb.nil_ (by omega) hv hs0 hs).mono ?_
      rintro e w3 ⟨A3, n3, c3, bs3, d3, rfl, rfl, ho3⟩
      exact hK.out _ _ (Ex.plus_ _ _ _) ⟨_, _, _, rfl, ho3.rb⟩
    | (k + 6), hi, _, _, _, _ => exact absurd hi (by omega)
  intro vs x hp
  have p0 : vs 0 = .slice (some ⟨w.heap.size, 0, none⟩) n n := hp 0 (by omega)
  have p1 : vs 1 = .int .i64 (k : Int) := hp 1 (by omega)
  have p2 : vs 2 = .slice (cutA (some ⟨w.heap.size, 0, none⟩) n k 1) (n - k) (n - k) := hp 2 (by omega)
  have p3 : vs 3 = .int .u64 (v : Int) := hp 3 (by omega)
  have p4 : vs 4 = .int .i64 (size : Int) := hp 4 (by omega)
  have p5 := hp 5 (by omega)
  clear hp
  simp only [List.take_succ_cons, List.take_zero, List.drop_succ_cons, List.drop_zero, putAll, Nat.zero_add, Nat.reduceAdd, Act.put, List.setIfInBounds_toArray, List.set_cons_zero, List.set_cons_succ, p0, p1, p2, p3, p4]
  clear p0 p1 p2 p3 p4
  generalize vs 5 = y5 at *
  clear vs
  obtain ⟨A3, n3, c3, rfl, h3⟩ := p5
  obtain rfl : n3 = size := by rw [← h3.1, dig_length]
  have hb3 := hb2.later (below_plus _ x.bs x.d)
  have hbe3 := belowP hbe2 x.bs x.d
  generalize plus w2 x.bs x.d = w3 at *
  go_wp2_with (refine at_op (.call { callee := .builtin .copy, args := #[.tmp 43, .tmp 46], argTypes := #[22, 22] }) rfl ?_; refine wpList_cpy 47 rfl bt rfl (.tmp 43) (.tmp 46) rfl rfl rfl w.heap.size k _ hb3 (.inr (by rw [cutA_some _ _ _ _ (by omega)]; simp)) (dig v n3) h3 (by omega) (by rw [bcs_length]; omega) w.heap.size w hbe3 (Nat.le_refl _) ?_; intro w4 hb4 hbe4)
  go_ret2
  rw [setB_cells] at hb4
  exact RetOE.mk (Ob.of_bk hb4 (Nat.le_refl _) (by rw [setB_length _ _ _ (by rw [dig_length]; omega)]; exact hl) (by simp [maxLen]; omega)) hbe4
end Go.Proofs.Ytfmkndemkpecpaa

/- addr.Right; headers of IPv4: Size, Right. -/
namespace Go.Proofs.Ytfmkndemkpecpaa
open Go.RowKit
set_option linter.unusedVariables false
set_option linter.unusedSimpArgs false
attribute [local go_sem ↓] sliced_cut

attribute [local go_sem] cutA_zero

def h4C (ts : Nat) (ln : Int) (id : Nat) (st mo : Bool) (fo : Int) (tl pr sm : Nat) (s6 : Bool) (sh sl : Nat) (d6 : Bool) (dh dl : Nat) (A : Option Addr) (n k : Nat) : List Value := [.int .u8 (ts : Int), .int .i64 ln, .int .u16 (id : Int), .bool st, .bool mo, .int .i64 fo, .int .u8 (tl : Int), .int .u8 (pr : Int), .int .u16 (sm : Int), .bool s6, .int .u64 (sh : Int), .int .u64 (sl : Int), .bool d6, .int .u64 (dh : Int), .int .u64 (dl : Int), .slice A n k]
theorem h4C_one (ts : Nat) (ln : Int) (id : Nat) (st mo : Bool) (fo : Int) (tl pr sm : Nat) (s6 : Bool) (sh sl : Nat) (d6 : Bool) (dh dl : Nat) (A : Option Addr) (n k : Nat) : ∀ u ∈ h4C ts ln id st mo fo tl pr sm s6 sh sl d6 dh dl A n k, u.oneCell' = true := by
  intro u hu
  simp only [h4C, List.mem_cons, List.not_mem_nil, or_false] at hu
  rcases hu with rfl | rfl | rfl | rfl | rfl | rfl | rfl | rfl | rfl | rfl | rfl | rfl | rfl | rfl | rfl | rfl <;> rfl
theorem szH4 (ts : Nat) (ln : Int) (id : Nat) (st mo : Bool) (fo : Int) (tl pr sm : Nat) (s6 : Bool) (sh sl : Nat) (d6 : Bool) (dh dl : Nat) (A : Option Addr) (n k : Nat) : (Try.prog.info? 140).map (·.size) = some (h4C ts ln id st mo fo tl pr sm s6 sh sl d6 dh dl A n k).length := by kernel_rfl
theorem rowH4 : ∃ d, Try.prog.underlying 140 = some d ∧ d.isRow = true := ⟨_, Try.underlying140, rfl⟩
theorem szR4 (ts : Nat) (ln : Int) (id : Nat) (st mo : Bool) (fo : Int) (tl pr sm : Nat) (s6 : Bool) (sh sl : Nat) (d6 : Bool) (dh dl : Nat) (A : Option Addr) (n k : Nat) : (Try.prog.info? 184).map (·.size) = some (h4C ts ln id st mo fo tl pr sm s6 sh sl d6 dh dl A n k).length := by kernel_rfl
theorem rowR4 : ∃ d, Try.prog.underlying 184 = some d ∧ d.isRow = true := ⟨_, Try.underlying184, rfl⟩
/-- may an address of version 4 be? -/
def ad4 (six : Bool) (h l : Nat) : Bool := !six && (decide (h = 0) && decide (l < 4294967296))
set_option maxRecDepth 100000 in
theorem adrRightF (h l : Nat) (w : World) (h1 : h < 18446744073709551616) (h2 : l < 18446744073709551616) : Calls Try.prog 176 #[.agg #[.bool false, .int .u64 (h : Int), .int .u64 (l : Int)]] w (RetV w (.bool (ad4 false h l))) := by
  by_cases c1 : h = 0
  · subst c1
    by_cases c2 : l < 4294967296
    · have t1 : decide (l < 4294967296) = true := by simp; omega
      have hz : Hid (ad4 false 0 l = true) := Lib.hid (by simp [ad4]; omega)
      go_enter Try.func176, Try.ntmps176
      go_wp2
      go_ret
      exact RetV.is_ (by rw [hz.out]; simp; try omega) (Below.allocS (Below.refl _ _) _)
    · have t1 : decide (l < 4294967296) = false := by simp; omega
      have hz : Hid (ad4 false 0 l = false) := Lib.hid (by simp [ad4]; omega)
      go_enter Try.func176, Try.ntmps176
      go_wp2
      go_ret
      exact RetV.is_ (by rw [hz.out]; simp; try omega) (Below.allocS (Below.refl _ _) _)
  · have t1 : ((h : Int) == 0) = false := by rw [beq_eq_false_iff_ne]; omega
    have hz : Hid (ad4 false h l = false) := Lib.hid (by simp [ad4, c1])
    clear c1
    go_enter Try.func176, Try.ntmps176
    go_wp2
    go_ret
    exact RetV.is_ (by rw [hz.out]; simp; try omega) (Below.allocS (Below.refl _ _) _)
theorem valid4 (six : Bool) (h l : Nat) (w : World) (h1 : h < 18446744073709551616) (h2 : l < 18446744073709551616) : Calls Try.prog 150 #[.agg (adC six h l).toArray] w (RetV w (.bool (ad4 six h l))) := by
  have HA := Lib.hid (fun w => adrRightF h l w h1 h2)
  unfold adC
  cases six
  · generalize ad4 false h l = q at *
    go_enter Try.func150, Try.ntmps150
    go_wp2_with (go_at_call 176; refine (HA.out _).mono ?_; rintro e w1 ⟨bs1, d1, rfl, rfl⟩)
    go_ret
    exact RetV.is_ rfl (belowP (Below.allocS (Below.refl _ _) _) _ _)
  · go_enter Try.func150, Try.ntmps150
    go_wp2
    go_ret
    exact RetV.is_ rfl (Below.allocS (Below.refl _ _) _)
set_option maxRecDepth 100000 in
theorem size4 (ts : Nat) (ln : Int) (id : Nat) (st mo : Bool) (fo : Int) (tl pr sm : Nat) (s6 : Bool) (sh sl : Nat) (d6 : Bool) (dh dl : Nat) (A : Option Addr) (n k : Nat) (w : World) (hn : n ≤ 1000000) : Calls Try.prog 107 #[.agg (h4C ts ln id st mo fo tl pr sm s6 sh sl d6 dh dl A n k).toArray] w (RetV w (.int .i64 ((20 + n : Nat) : Int))) := by
  unfold h4C
  go_enter Try.func107, Try.ntmps107
  go_wp2
  go_ret
  exact RetV.is_ (by simp) (Below.allocS (Below.refl _ _) _)
def r4 (n : Nat) (ln fo : Int) (s6 : Bool) (sh sl : Nat) (d6 : Bool) (dh dl : Nat) : Bool := decide (n ≤ 40) && (decide (n % 4 = 0) && (decide (20 + (n : Int) ≤ ln) && (decide (ln ≤ 65535) && (decide (0 ≤ fo) && (decide (fo ≤ 8191) && (ad4 s6 sh sl && ad4 d6 dh dl))))))
set_option maxHeartbeats 4000000 in
set_option maxRecDepth 100000 in
theorem right4 (ts : Nat) (ln : Int) (id : Nat) (st mo : Bool) (fo : Int) (tl pr sm : Nat) (s6 : Bool) (sh sl : Nat) (d6 : Bool) (dh dl : Nat) (A : Option Addr) (n k : Nat) (w : World) (hn : n ≤ 1000000) (hi : -9223372036854775808 ≤ ln ∧ ln ≤ 9223372036854775807) (hf : -9223372036854775808 ≤ fo ∧ fo ≤ 9223372036854775807) (k1 : sh < 18446744073709551616) (k2 : sl < 18446744073709551616) (k3 : dh < 18446744073709551616) (k4 : dl < 18446744073709551616) : Calls Try.prog 108 #[.agg (h4C ts ln id st mo fo tl pr sm s6 sh sl d6 dh dl A n k).toArray] w (RetV w (.bool (r4 n ln fo s6 sh sl d6 dh dl))) := by
  obtain ⟨du, u1, u2⟩ := rowH4
  obtain ⟨dv, v1, v2⟩ := rowAd
  have HS := Lib.hid (fun w => size4 ts ln id st mo fo tl pr sm s6 sh sl d6 dh dl A n k w hn)
  have HV1 := Lib.hid (fun w => valid4 s6 sh sl w k1 k2)
  have HV2 := Lib.hid (fun w => valid4 d6 dh dl w k3 k4)
  obtain ⟨z, hz0⟩ : ∃ z : Nat, z = 20 + n := ⟨_, rfl⟩
  rw [← hz0] at HS
  have hb : Bk (w.alloc (.cells (h4C ts ln id st mo fo tl pr sm s6 sh sl d6 dh dl A n k).toArray 140)) w.heap.size 140 (h4C ts ln id st mo fo tl pr sm s6 sh sl d6 dh dl A n k) := Bk.new w 140 (h4C ts ln id st mo fo tl pr sm s6 sh sl d6 dh dl A n k).toArray
  have q1 : (w.alloc (.cells (h4C ts ln id st mo fo tl pr sm s6 sh sl d6 dh dl A n k).toArray 140)).cell? ⟨w.heap.size, 1, none⟩ = some (.int .i64 ln) := hb.cell 1
  have q5 : (w.alloc (.cells (h4C ts ln id st mo fo tl pr sm s6 sh sl d6 dh dl A n k).toArray 140)).cell? ⟨w.heap.size, 5, none⟩ = some (.int .i64 fo) := hb.cell 5
  have q15 : (w.alloc (.cells (h4C ts ln id st mo fo tl pr sm s6 sh sl d6 dh dl A n k).toArray 140)).cell? ⟨w.heap.size, 15, none⟩ = some (.slice A n k) := hb.cell 15
  go_enter Try.func108, Try.ntmps108
  by_cases c0 : n ≤ 40
  · skip
    have t00 := Lib.hid (show decide (n ≤ 40) = true from by simp only [decide_eq_true_eq, decide_eq_false_iff_not]; omega)
    have t01 := Lib.hid (show decide (40 < n) = false from by simp only [decide_eq_true_eq, decide_eq_false_iff_not]; omega)
    have t02 := Lib.hid (show decide ((n : Int) ≤ 40) = true from by simp only [decide_eq_true_eq, decide_eq_false_iff_not]; omega)
    have t03 := Lib.hid (show decide (40 < (n : Int)) = false from by simp only [decide_eq_true_eq, decide_eq_false_iff_not]; omega)
    by_cases c1 : n % 4 = 0
    · skip
      have t10 := Lib.hid (show ((n : Int) % 4 == 0) = true from by rw [beq_iff_eq]; omega)
      by_cases c2 : 20 + (n : Int) ≤ ln
      · skip
        have t20 := Lib.hid (show decide (20 + (n : Int) ≤ ln) = true from by simp only [decide_eq_true_eq, decide_eq_false_iff_not]; omega)
        have t21 := Lib.hid (show decide (ln < 20 + (n : Int)) = false from by simp only [decide_eq_true_eq, decide_eq_false_iff_not]; omega)
        have t22 := Lib.hid (show decide ((z : Int) ≤ ln) = true from by simp only [decide_eq_true_eq, decide_eq_false_iff_not]; omega)
        by_cases c3 : ln ≤ 65535
        · skip
          have t30 := Lib.hid (show decide (ln ≤ 65535) = true from by simp only [decide_eq_true_eq, decide_eq_false_iff_not]; omega)
          have t31 := Lib.hid (show decide (65535 < ln) = false from by simp only [decide_eq_true_eq, decide_eq_false_iff_not]; omega)
          by_cases c4 : 0 ≤ fo
          · skip
            have t40 := Lib.hid (show decide (0 ≤ fo) = true from by simp only [decide_eq_true_eq, decide_eq_false_iff_not]; omega)
            have t41 := Lib.hid (show decide (fo < 0) = false from by simp only [decide_eq_true_eq, decide_eq_false_iff_not]; omega)
            by_cases c5 : fo ≤ 8191
            · skip
              have t50 := Lib.hid (show decide (fo ≤ 8191) = true from by simp only [decide_eq_true_eq, decide_eq_false_iff_not]; omega)
              have t51 := Lib.hid (show decide (8191 < fo) = false from by simp only [decide_eq_true_eq, decide_eq_false_iff_not]; omega)
              have hz : Hid (r4 n ln fo s6 sh sl d6 dh dl = (ad4 s6 sh sl && ad4 d6 dh dl)) := Lib.hid (by unfold r4; simp only [c0, c1, c2, c3, c4, c5, decide_true, decide_false, Bool.true_and, Bool.false_and, Bool.and_false])
              clear c0 c1 c2 c3 c4 c5
              replace t00 := t00.out
              replace t01 := t01.out
              replace t02 := t02.out
              replace t03 := t03.out
              replace t10 := t10.out
              replace t20 := t20.out
              replace t21 := t21.out
              replace t22 := t22.out
              replace t30 := t30.out
              replace t31 := t31.out
              replace t40 := t40.out
              replace t41 := t41.out
              replace t50 := t50.out
              replace t51 := t51.out
              cases hq : ad4 s6 sh sl
              · rw [hq] at HV1 hz
                go_wp2
                refine wp_plus (by kernel_rfl) (by kernel_rfl) ?_
                repeat (first
                  | (go_big_quiet_want; refine at_opQ (.load 140 (.tmp 1)) rfl ?_; refine quiet_ldA (t := 140) 140 (.tmp 1) rfl (h4C ts ln id st mo fo tl pr sm s6 sh sl d6 dh dl A n k) rfl (fun w' hw' => by obtain ⟨x, rfl⟩ := hw'; exact hb.later (below_plus _ _ _)) (whole_ _) u1 u2 (szH4 _ _ _ _ _ _ _ _ _ _ _ _ _ _ _ _ _ _) ?_; simp only [Act.put, List.setIfInBounds_toArray, List.set_cons_zero, List.set_cons_succ]; go_big_quiet_on)
                  | (go_big_quiet_want; refine at_opQ (.load 26 (.tmp 37)) rfl ?_; refine quiet_ldA (t := 140) 26 (.tmp 37) rfl (adC s6 sh sl) rfl (fun w' hw' => by obtain ⟨x, rfl⟩ := hw'; exact hb.later (below_plus _ _ _)) (rfl) v1 v2 (szAd _ _ _) ?_; simp only [Act.put, List.setIfInBounds_toArray, List.set_cons_zero, List.set_cons_succ]; go_big_quiet_on)
                  | (go_big_quiet_want; refine at_opQ (.load 26 (.tmp 42)) rfl ?_; refine quiet_ldA (t := 140) 26 (.tmp 42) rfl (adC d6 dh dl) rfl (fun w' hw' => by obtain ⟨x, rfl⟩ := hw'; exact hb.later (below_plus _ _ _)) (rfl) v1 v2 (szAd _ _ _) ?_; simp only [Act.put, List.setIfInBounds_toArray, List.set_cons_zero, List.set_cons_succ]; go_big_quiet_on)
                  | go_big_quiet_step (first
                    | (go_at_call 107; exact callP (HS.out _))
                    | (go_at_call 150; first | with_reducible exact callP (HV1.out _) | with_reducible exact callP (HV2.out _))))
                refine wpQuiet_nil ?_
                rintro _ ⟨x, rfl⟩
                go_wp2
                go_ret
                exact RetV.is_ (by rw [hz.out]; simp) (belowP (Below.allocS (Below.refl _ _) _) _ _)
              · rw [hq] at HV1 hz
                go_wp2
                refine wp_plus (by kernel_rfl) (by kernel_rfl) ?_
                repeat (first
                  | (go_big_quiet_want; refine at_opQ (.load 140 (.tmp 1)) rfl ?_; refine quiet_ldA (t := 140) 140 (.tmp 1) rfl (h4C ts ln id st mo fo tl pr sm s6 sh sl d6 dh dl A n k) rfl (fun w' hw' => by obtain ⟨x, rfl⟩ := hw'; exact hb.later (below_plus _ _ _)) (whole_ _) u1 u2 (szH4 _ _ _ _ _ _ _ _ _ _ _ _ _ _ _ _ _ _) ?_; simp only [Act.put, List.setIfInBounds_toArray, List.set_cons_zero, List.set_cons_succ]; go_big_quiet_on)
                  | (go_big_quiet_want; refine at_opQ (.load 26 (.tmp 37)) rfl ?_; refine quiet_ldA (t := 140) 26 (.tmp 37) rfl (adC s6 sh sl) rfl (fun w' hw' => by obtain ⟨x, rfl⟩ := hw'; exact hb.later (below_plus _ _ _)) (rfl) v1 v2 (szAd _ _ _) ?_; simp only [Act.put, List.setIfInBounds_toArray, List.set_cons_zero, List.set_cons_succ]; go_big_quiet_on)
                  | (go_big_quiet_want; refine at_opQ (.load 26 (.tmp 42)) rfl ?_; refine quiet_ldA (t := 140) 26 (.tmp 42) rfl (adC d6 dh dl) rfl (fun w' hw' => by obtain ⟨x, rfl⟩ := hw'; exact hb.later (below_plus _ _ _)) (rfl) v1 v2 (szAd _ _ _) ?_; simp only [Act.put, List.setIfInBounds_toArray, List.set_cons_zero, List.set_cons_succ]; go_big_quiet_on)
                  | go_big_quiet_step (first
                    | (go_at_call 107; exact callP (HS.out _))
                    | (go_at_call 150; first | with_reducible exact callP (HV1.out _) | with_reducible exact callP (HV2.out _))))
                refine wpQuiet_nil ?_
                rintro _ ⟨x, rfl⟩
                go_wp2
                go_ret
                exact RetV.is_ (by rw [hz.out]; simp) (belowP (Below.allocS (Below.refl _ _) _) _ _)
            · skip
              have t50 := Lib.hid (show decide (fo ≤ 8191) = false from by simp only [decide_eq_true_eq, decide_eq_false_iff_not]; omega)
              have t51 := Lib.hid (show decide (8191 < fo) = true from by simp only [decide_eq_true_eq, decide_eq_false_iff_not]; omega)
              have hz : Hid (r4 n ln fo s6 sh sl d6 dh dl = (false)) := Lib.hid (by unfold r4; simp only [c0, c1, c2, c3, c4, c5, decide_true, decide_false, Bool.true_and, Bool.false_and, Bool.and_false])
              clear c0 c1 c2 c3 c4 c5
              replace t00 := t00.out
              replace t01 := t01.out
              replace t02 := t02.out
              replace t03 := t03.out
              replace t10 := t10.out
              replace t20 := t20.out
              replace t21 := t21.out
              replace t22 := t22.out
              replace t30 := t30.out
              replace t31 := t31.out
              replace t40 := t40.out
              replace t41 := t41.out
              replace t50 := t50.out
              replace t51 := t51.out
              go_wp2
              refine wp_plus (by kernel_rfl) (by kernel_rfl) ?_
              repeat (first
                | (go_big_quiet_want; refine at_opQ (.load 140 (.tmp 1)) rfl ?_; refine quiet_ldA (t := 140) 140 (.tmp 1) rfl (h4C ts ln id st mo fo tl pr sm s6 sh sl d6 dh dl A n k) rfl (fun w' hw' => by obtain ⟨x, rfl⟩ := hw'; exact hb.later (below_plus _ _ _)) (whole_ _) u1 u2 (szH4 _ _ _ _ _ _ _ _ _ _ _ _ _ _ _ _ _ _) ?_; simp only [Act.put, List.setIfInBounds_toArray, List.set_cons_zero, List.set_cons_succ]; go_big_quiet_on)
                | (go_big_quiet_want; refine at_opQ (.load 26 (.tmp 37)) rfl ?_; refine quiet_ldA (t := 140) 26 (.tmp 37) rfl (adC s6 sh sl) rfl (fun w' hw' => by obtain ⟨x, rfl⟩ := hw'; exact hb.later (below_plus _ _ _)) (rfl) v1 v2 (szAd _ _ _) ?_; simp only [Act.put, List.setIfInBounds_toArray, List.set_cons_zero, List.set_cons_succ]; go_big_quiet_on)
                | (go_big_quiet_want; refine at_opQ (.load 26 (.tmp 42)) rfl ?_; refine quiet_ldA (t := 140) 26 (.tmp 42) rfl (adC d6 dh dl) rfl (fun w' hw' => by obtain ⟨x, rfl⟩ := hw'; exact hb.later (below_plus _ _ _)) (rfl) v1 v2 (szAd _ _ _) ?_; simp only [Act.put, List.setIfInBounds_toArray, List.set_cons_zero, List.set_cons_succ]; go_big_quiet_on)
                | go_big_quiet_step (first
                  | (go_at_call 107; exact callP (HS.out _))
                  | (go_at_call 150; first | with_reducible exact callP (HV1.out _) | with_reducible exact callP (HV2.out _))))
              refine wpQuiet_nil ?_
              rintro _ ⟨x, rfl⟩
              go_wp2
              go_ret
              exact RetV.is_ (by rw [hz.out]; simp) (belowP (Below.allocS (Below.refl _ _) _) _ _)
          · skip
            have t40 := Lib.hid (show decide (0 ≤ fo) = false from by simp only [decide_eq_true_eq, decide_eq_false_iff_not]; omega)
            have t41 := Lib.hid (show decide (fo < 0) = true from by simp only [decide_eq_true_eq, decide_eq_false_iff_not]; omega)
            have hz : Hid (r4 n ln fo s6 sh sl d6 dh dl = (false)) := Lib.hid (by unfold r4; simp only [c0, c1, c2, c3, c4, decide_true, decide_false, Bool.true_and, Bool.false_and, Bool.and_false])
            clear c0 c1 c2 c3 c4
            replace t00 := t00.out
            replace t01 := t01.out
            replace t02 := t02.out
            replace t03 := t03.out
            replace t10 := t10.out
            replace t20 := t20.out
            replace t21 := t21.out
            replace t22 := t22.out
            replace t30 := t30.out
            replace t31 := t31.out
            replace t40 := t40.out
            replace t41 := t41.out
            go_wp2
            refine wp_plus (by kernel_rfl) (by kernel_rfl) ?_
            repeat (first
              | (go_big_quiet_want; refine at_opQ (.load 140 (.tmp 1)) rfl ?_; refine quiet_ldA (t := 140) 140 (.tmp 1) rfl (h4C ts ln id st mo fo tl pr sm s6 sh sl d6 dh dl A n k) rfl (fun w' hw' => by obtain ⟨x, rfl⟩ := hw'; exact hb.later (below_plus _ _ _)) (whole_ _) u1 u2 (szH4 _ _ _ _ _ _ _ _ _ _ _ _ _ _ _ _ _ _) ?_; simp only [Act.put, List.setIfInBounds_toArray, List.set_cons_zero, List.set_cons_succ]; go_big_quiet_on)
              | (go_big_quiet_want; refine at_opQ (.load 26 (.tmp 37)) rfl ?_; refine quiet_ldA (t := 140) 26 (.tmp 37) rfl (adC s6 sh sl) rfl (fun w' hw' => by obtain ⟨x, rfl⟩ := hw'; exact hb.later (below_plus _ _ _)) (rfl) v1 v2 (szAd _ _ _) ?_; simp only [Act.put, List.setIfInBounds_toArray, List.set_cons_zero, List.set_cons_succ]; go_big_quiet_on)
              | (go_big_quiet_want; refine at_opQ (.load 26 (.tmp 42)) rfl ?_; refine quiet_ldA (t := 140) 26 (.tmp 42) rfl (adC d6 dh dl) rfl (fun w' hw' => by obtain ⟨x, rfl⟩ := hw'; exact hb.later (below_plus _ _ _)) (rfl) v1 v2 (szAd _ _ _) ?_; simp only [Act.put, List.setIfInBounds_toArray, List.set_cons_zero, List.set_cons_succ]; go_big_quiet_on)
              | go_big_quiet_step (first
                | (go_at_call 107; exact callP (HS.out _))
                | (go_at_call 150; first | with_reducible exact callP (HV1.out _) | with_reducible exact callP (HV2.out _))))
            refine wpQuiet_nil ?_
            rintro _ ⟨x, rfl⟩
            go_wp2
            go_ret
            exact RetV.is_ (by rw [hz.out]; simp) (belowP (Below.allocS (Below.refl _ _) _) _ _)
        · skip
          have t30 := Lib.hid (show decide (ln ≤ 65535) = false from by simp only [decide_eq_true_eq, decide_eq_false_iff_not]; omega)
          have t31 := Lib.hid (show decide (65535 < ln) = true from by simp only [decide_eq_true_eq, decide_eq_false_iff_not]; omega)
          have hz : Hid (r4 n ln fo s6 sh sl d6 dh dl = (false)) := Lib.hid (by unfold r4; simp only [c0, c1, c2, c3, decide_true, decide_false, Bool.true_and, Bool.false_and, Bool.and_false])
          clear c0 c1 c2 c3
          replace t00 := t00.out
          replace t01 := t01.out
          replace t02 := t02.out
          replace t03 := t03.out
          replace t10 := t10.out
          replace t20 := t20.out
          replace t21 := t21.out
          replace t22 := t22.out
          replace t30 := t30.out
          replace t31 := t31.out
          go_wp2
          refine wp_plus (by kernel_rfl) (by kernel_rfl) ?_
          repeat (first
            | (go_big_quiet_want; refine at_opQ (.load 140 (.tmp 1)) rfl ?_; refine quiet_ldA (t := 140) 140 (.tmp 1) rfl (h4C ts ln id st mo fo tl pr sm s6 sh sl d6 dh dl A n k) rfl (fun w' hw' => by obtain ⟨x, rfl⟩ := hw'; exact hb.later (below_plus _ _ _)) (whole_ _) u1 u2 (szH4 _ _ _ _ _ _ _ _ _ _ _ _ _ _ _ _ _ _) ?_; simp only [Act.put, List.setIfInBounds_toArray, List.set_cons_zero, List.set_cons_succ]; go_big_quiet_on)
            | (go_big_quiet_want; refine at_opQ (.load 26 (.tmp 37)) rfl ?_; refine quiet_ldA (t := 140) 26 (.tmp 37) rfl (adC s6 sh sl) rfl (fun w' hw' => by obtain ⟨x, rfl⟩ := hw'; exact hb.later (below_plus _ _ _)) (rfl) v1 v2 (szAd _ _ _) ?_; simp only [Act.put, List.setIfInBounds_toArray, List.set_cons_zero, List.set_cons_succ]; go_big_quiet_on)
            | (go_big_quiet_want; refine at_opQ (.load 26 (.tmp 42)) rfl ?_; refine quiet_ldA (t := 140) 26 (.tmp 42) rfl (adC d6 dh dl) rfl (fun w' hw' => by obtain ⟨x, rfl⟩ := hw'; exact hb.later (below_plus _ _ _)) (rfl) v1 v2 (szAd _ _ _) ?_; simp only [Act.put, List.setIfInBounds_toArray, List.set_cons_zero, List.set_cons_succ]; go_big_quiet_on)
            | go_big_quiet_step (first
              | (go_at_call 107; exact callP (HS.out _))
              | (go_at_call 150; first | with_reducible exact callP (HV1.out _) | with_reducible exact callP (HV2.out _))))
          refine wpQuiet_nil ?_
          rintro _ ⟨x, rfl⟩
          go_wp2
          go_ret
          exact RetV.is_ (by rw [hz.out]; simp) (belowP (Below.allocS (Below.refl _ _) _) _ _)
      · skip
        have t20 := Lib.hid (show decide (20 + (n : Int) ≤ ln) = false from by simp only [decide_eq_true_eq, decide_eq_false_iff_not]; omega)
        have t21 := Lib.hid (show decide (ln < 20 + (n : Int)) = true from by simp only [decide_eq_true_eq, decide_eq_false_iff_not]; omega)
        have t22 := Lib.hid (show decide ((z : Int) ≤ ln) = false from by simp only [decide_eq_true_eq, decide_eq_false_iff_not]; omega)
        have hz : Hid (r4 n ln fo s6 sh sl d6 dh dl = (false)) := Lib.hid (by unfold r4; simp only [c0, c1, c2, decide_true, decide_false, Bool.true_and, Bool.false_and, Bool.and_false])
        clear c0 c1 c2
        replace t00 := t00.out
        replace t01 := t01.out
        replace t02 := t02.out
        replace t03 := t03.out
        replace t10 := t10.out
        replace t20 := t20.out
        replace t21 := t21.out
        replace t22 := t22.out
        go_wp2
        refine wp_plus (by kernel_rfl) (by kernel_rfl) ?_
        repeat (first
          | (go_big_quiet_want; refine at_opQ (.load 140 (.tmp 1)) rfl ?_; refine quiet_ldA (t := 140) 140 (.tmp 1) rfl (h4C ts ln id st mo fo tl pr sm s6 sh sl d6 dh dl A n k) rfl (fun w' hw' => by obtain ⟨x, rfl⟩ := hw'; exact hb.later (below_plus _ _ _)) (whole_ _) u1 u2 (szH4 _ _ _ _ _ _ _ _ _ _ _ _ _ _ _ _ _ _) ?_; simp only [Act.put, List.setIfInBounds_toArray, List.set_cons_zero, List.set_cons_succ]; go_big_quiet_on)
          | (go_big_quiet_want; refine at_opQ (.load 26 (.tmp 37)) rfl ?_; refine quiet_ldA (t := 140) 26 (.tmp 37) rfl (adC s6 sh sl) rfl (fun w' hw' => by obtain ⟨x, rfl⟩ := hw'; exact hb.later (below_plus _ _ _)) (rfl) v1 v2 (szAd _ _ _) ?_; simp only [Act.put, List.setIfInBounds_toArray, List.set_cons_zero, List.set_cons_succ]; go_big_quiet_on)
          | (go_big_quiet_want; refine at_opQ (.load 26 (.tmp 42)) rfl ?_; refine quiet_ldA (t := 140) 26 (.tmp 42) rfl (adC d6 dh dl) rfl (fun w' hw' => by obtain ⟨x, rfl⟩ := hw'; exact hb.later (below_plus _ _ _)) (rfl) v1 v2 (szAd _ _ _) ?_; simp only [Act.put, List.setIfInBounds_toArray, List.set_cons_zero, List.set_cons_succ]; go_big_quiet_on)
          | go_big_quiet_step (first
            | (go_at_call 107; exact callP (HS.out _))
            | (go_at_call 150; first | with_reducible exact callP (HV1.out _) | with_reducible exact callP (HV2.out _))))
        refine wpQuiet_nil ?_
        rintro _ ⟨x, rfl⟩
        go_wp2
        go_ret
        exact RetV.is_ (by rw [hz.out]; simp) (belowP (Below.allocS (Below.refl _ _) _) _ _)
    · skip
      have t10 := Lib.hid (show ((n : Int) % 4 == 0) = false from by rw [beq_eq_false_iff_ne]; omega)
      have hz : Hid (r4 n ln fo s6 sh sl d6 dh dl = (false)) := Lib.hid (by unfold r4; simp only [c0, c1, decide_true, decide_false, Bool.true_and, Bool.false_and, Bool.and_false])
      clear c0 c1
      replace t00 := t00.out
      replace t01 := t01.out
      replace t02 := t02.out
      replace t03 := t03.out
      replace t10 := t10.out
      go_wp2
      refine wp_plus (by kernel_rfl) (by kernel_rfl) ?_
      repeat (first
        | (go_big_quiet_want; refine at_opQ (.load 140 (.tmp 1)) rfl ?_; refine quiet_ldA (t := 140) 140 (.tmp 1) rfl (h4C ts ln id st mo fo tl pr sm s6 sh sl d6 dh dl A n k) rfl (fun w' hw' => by obtain ⟨x, rfl⟩ := hw'; exact hb.later (below_plus _ _ _)) (whole_ _) u1 u2 (szH4 _ _ _ _ _ _ _ _ _ _ _ _ _ _ _ _ _ _) ?_; simp only [Act.put, List.setIfInBounds_toArray, List.set_cons_zero, List.set_cons_succ]; go_big_quiet_on)
        | (go_big_quiet_want; refine at_opQ (.load 26 (.tmp 37)) rfl ?_; refine quiet_ldA (t := 140) 26 (.tmp 37) rfl (adC s6 sh sl) rfl (fun w' hw' => by obtain ⟨x, rfl⟩ := hw'; exact hb.later (below_plus _ _ _)) (rfl) v1 v2 (szAd _ _ _) ?_; simp only [Act.put, List.setIfInBounds_toArray, List.set_cons_zero, List.set_cons_succ]; go_big_quiet_on)
        | (go_big_quiet_want; refine at_opQ (.load 26 (.tmp 42)) rfl ?_; refine quiet_ldA (t := 140) 26 (.tmp 42) rfl (adC d6 dh dl) rfl (fun w' hw' => by obtain ⟨x, rfl⟩ := hw'; exact hb.later (below_plus _ _ _)) (rfl) v1 v2 (szAd _ _ _) ?_; simp only [Act.put, List.setIfInBounds_toArray, List.set_cons_zero, List.set_cons_succ]; go_big_quiet_on)
        | go_big_quiet_step (first
          | (go_at_call 107; exact callP (HS.out _))
          | (go_at_call 150; first | with_reducible exact callP (HV1.out _) | with_reducible exact callP (HV2.out _))))
      refine wpQuiet_nil ?_
      rintro _ ⟨x, rfl⟩
      go_wp2
      go_ret
      exact RetV.is_ (by rw [hz.out]; simp) (belowP (Below.allocS (Below.refl _ _) _) _ _)
  · skip
    have t00 := Lib.hid (show decide (n ≤ 40) = false from by simp only [decide_eq_true_eq, decide_eq_false_iff_not]; omega)
    have t01 := Lib.hid (show decide (40 < n) = true from by simp only [decide_eq_true_eq, decide_eq_false_iff_not]; omega)
    have t02 := Lib.hid (show decide ((n : Int) ≤ 40) = false from by simp only [decide_eq_true_eq, decide_eq_false_iff_not]; omega)
    have t03 := Lib.hid (show decide (40 < (n : Int)) = true from by simp only [decide_eq_true_eq, decide_eq_false_iff_not]; omega)
    have hz : Hid (r4 n ln fo s6 sh sl d6 dh dl = (false)) := Lib.hid (by unfold r4; simp only [c0, decide_true, decide_false, Bool.true_and, Bool.false_and, Bool.and_false])
    clear c0
    replace t00 := t00.out
    replace t01 := t01.out
    replace t02 := t02.out
    replace t03 := t03.out
    go_wp2
    refine wp_plus (by kernel_rfl) (by kernel_rfl) ?_
    repeat (first
      | (go_big_quiet_want; refine at_opQ (.load 140 (.tmp 1)) rfl ?_; refine quiet_ldA (t := 140) 140 (.tmp 1) rfl (h4C ts ln id st mo fo tl pr sm s6 sh sl d6 dh dl A n k) rfl (fun w' hw' => by obtain ⟨x, rfl⟩ := hw'; exact hb.later (below_plus _ _ _)) (whole_ _) u1 u2 (szH4 _ _ _ _ _ _ _ _ _ _ _ _ _ _ _ _ _ _) ?_; simp only [Act.put, List.setIfInBounds_toArray, List.set_cons_zero, List.set_cons_succ]; go_big_quiet_on)
      | (go_big_quiet_want; refine at_opQ (.load 26 (.tmp 37)) rfl ?_; refine quiet_ldA (t := 140) 26 (.tmp 37) rfl (adC s6 sh sl) rfl (fun w' hw' => by obtain ⟨x, rfl⟩ := hw'; exact hb.later (below_plus _ _ _)) (rfl) v1 v2 (szAd _ _ _) ?_; simp only [Act.put, List.setIfInBounds_toArray, List.set_cons_zero, List.set_cons_succ]; go_big_quiet_on)
      | (go_big_quiet_want; refine at_opQ (.load 26 (.tmp 42)) rfl ?_; refine quiet_ldA (t := 140) 26 (.tmp 42) rfl (adC d6 dh dl) rfl (fun w' hw' => by obtain ⟨x, rfl⟩ := hw'; exact hb.later (below_plus _ _ _)) (rfl) v1 v2 (szAd _ _ _) ?_; simp only [Act.put, List.setIfInBounds_toArray, List.set_cons_zero, List.set_cons_succ]; go_big_quiet_on)
      | go_big_quiet_step (first
        | (go_at_call 107; exact callP (HS.out _))
        | (go_at_call 150; first | with_reducible exact callP (HV1.out _) | with_reducible exact callP (HV2.out _))))
    refine wpQuiet_nil ?_
    rintro _ ⟨x, rfl⟩
    go_wp2
    go_ret
    exact RetV.is_ (by rw [hz.out]; simp) (belowP (Below.allocS (Below.refl _ _) _) _ _)
end Go.Proofs.Ytfmkndemkpecpaa

/- Headers of IPv4: Bytes. -/
namespace Go.Proofs.Ytfmkndemkpecpaa
open Go.RowKit
set_option linter.unusedVariables false
set_option linter.unusedSimpArgs false
attribute [local go_sem ↓] sliced_cut

attribute [local go_sem] cutA_zero

/-- flags and offset -/
def pl4 (st mo : Bool) (fo : Nat) : Nat := fo + (if st then 16384 else 0) + (if mo then 8192 else 0)
def ip4B (ts ln id pl tl pr s sl dl : Nat) (o : List UInt8) : List UInt8 := (dig (69 + o.length / 4) 1 ++ dig ts 1 ++ dig ln 2 ++ dig id 2 ++ dig pl 2 ++ dig tl 1 ++ dig pr 1) ++ (dig s 2 ++ (dig sl 4 ++ dig dl 4 ++ o))
theorem ip4B_length (ts ln id pl tl pr s sl dl : Nat) (o : List UInt8) : (ip4B ts ln id pl tl pr s sl dl o).length = 20 + o.length := by simp [ip4B, dig_length]; omega
/-- the checksum -/
def ip4K (ts ln id pl tl pr sl dl : Nat) (o : List UInt8) : Nat := 65535 - fd (tot false (ip4B ts ln id pl tl pr 0 sl dl o))
theorem setB_mid (a b c x : List UInt8) (k : Nat) (hk : a.length = k) (hb : b.length = x.length) : setB (a ++ (b ++ c)) k x = a ++ (x ++ c) := by
  subst hk
  unfold setB
  rw [List.take_left' rfl, ← hb, ← List.append_assoc a b c, List.drop_left' (by simp), List.append_assoc]
theorem setB_ip4 (ts ln id pl tl pr s sl dl : Nat) (o : List UInt8) : setB (ip4B ts ln id pl tl pr 0 sl dl o) 10 (dig s 2) = ip4B ts ln id pl tl pr s sl dl o := by
  unfold ip4B
  exact setB_mid _ _ _ _ 10 (by simp [dig_length]) (by simp [dig_length])
theorem or14 (x : Nat) (h : x < 8192) : bits .or .u64 (x : Int) 16384 = ((x + 16384 : Nat) : Int) := by
  have e := u64_or_nat x 16384 (by omega) (by omega)
  rw [Nat.or_comm, nat_join 14 16384 x (by decide) (by omega), Nat.add_comm] at e
  exact e
theorem or13 (x : Nat) (h : x < 8192) : bits .or .u64 (x : Int) 8192 = ((x + 8192 : Nat) : Int) := by
  have e := u64_or_nat x 8192 (by omega) (by omega)
  rw [Nat.or_comm, nat_join 13 8192 x (by decide) (by omega), Nat.add_comm] at e
  exact e
theorem or1413 (x : Nat) (h : x < 8192) : bits .or .u64 ((x + 16384 : Nat) : Int) 8192 = ((x + 16384 + 8192 : Nat) : Int) := by
  have e := u64_or_nat (x + 16384) 8192 (by omega) (by omega)
  have e2 : (x + 16384) ||| 8192 = x + 16384 + 8192 := by
    rw [Nat.add_comm x 16384, ← nat_join 14 16384 x (by decide) (by omega), Nat.or_assoc, Nat.or_comm x 8192, nat_join 13 8192 x (by decide) (by omega), nat_join 14 16384 (8192 + x) (by decide) (by omega), nat_join 14 16384 x (by decide) (by omega)]
    omega
  rw [e2] at e
  exact e
theorem or64 : ∀ q : Fin 16, bits .or .i64 64 (q.val : Int) = ((64 + q.val : Nat) : Int) := by decide +kernel
theorem r4_yes (n ln fo sl dl : Nat) (c1 : n ≤ 40) (c2 : n % 4 = 0) (c3 : 20 + n ≤ ln) (c4 : ln ≤ 65535) (c5 : fo ≤ 8191) (b5 : sl < 4294967296) (b6 : dl < 4294967296) : r4 n (ln : Int) (fo : Int) false 0 sl false 0 dl = true := by
  simp [r4, ad4]
  omega
set_option maxHeartbeats 4000000 in
set_option maxRecDepth 100000 in
theorem ip4Bytes_nn (ts ln id : Nat) (fo tl pr sm sl dl : Nat) (A : Option Addr) (n k : Nat) (o : List UInt8) (w : World) (hr : Rb w A n k o) (b1 : ts < 256) (b2 : id < 65536) (b3 : tl < 256) (b4 : pr < 256) (b5 : sl < 4294967296) (b6 : dl < 4294967296) (c1 : n ≤ 40) (c2 : n % 4 = 0) (c3 : 20 + n ≤ ln) (c4 : ln ≤ 65535) (c5 : fo ≤ 8191) : Calls Try.prog 109 #[.agg (h4C ts (ln : Int) id false false (fo : Int) tl pr sm false 0 sl false 0 dl A n k).toArray] w (RetB w (ip4B ts ln id (pl4 false false fo) tl pr (ip4K ts ln id (pl4 false false fo) tl pr sl dl o) sl dl o)) := by
  obtain ⟨du, u1, u2⟩ := rowH4
  obtain ⟨dv, v1, v2⟩ := rowAd
  have HR := Lib.hid (fun w => right4 ts (ln : Int) id false false (fo : Int) tl pr sm false 0 sl false 0 dl A n k w (by omega) (by omega) (by omega) (by omega) (by omega) (by omega) (by omega))
  rw [r4_yes n ln fo sl dl c1 c2 c3 c4 c5 b5 b6] at HR
  have HS := Lib.hid (fun w => size4 ts (ln : Int) id false false (fo : Int) tl pr sm false 0 sl false 0 dl A n k w (by omega))
  obtain ⟨z, hz0⟩ : ∃ z : Nat, z = 20 + n := ⟨_, rfl⟩
  rw [← hz0] at HS
  obtain ⟨q, hq⟩ : ∃ q : Nat, q = 5 + n / 4 := ⟨_, rfl⟩
  have g1 : (z : Int).tdiv 4 = (q : Int) := by rw [Int.tdiv_eq_ediv_of_nonneg (by omega)]; omega
  have g2 : IntKind.i64.wrap (q : Int) = (q : Int) := IntWalk.i64_in _ (by omega)
  have g3 := or64 ⟨q, by omega⟩
  obtain ⟨x0, hx0⟩ : ∃ x : Nat, x = 64 + q := ⟨_, rfl⟩
  replace g3 : bits .or .i64 64 (q : Int) = (x0 : Int) := by rw [hx0]; exact g3
  have g4 : IntKind.u64.wrap (x0 : Int) = (x0 : Int) := IntWalk.u64_in _ (by omega)
  have g5 : IntKind.u64.wrap (ts : Int) = (ts : Int) := IntWalk.u64_in _ (by omega)
  have g6 : IntKind.u64.wrap (ln : Int) = (ln : Int) := IntWalk.u64_in _ (by omega)
  have g7 : IntKind.u64.wrap (id : Int) = (id : Int) := IntWalk.u64_in _ (by omega)
  have g8 : IntKind.u64.wrap (tl : Int) = (tl : Int) := IntWalk.u64_in _ (by omega)
  have g9 : IntKind.u64.wrap (pr : Int) = (pr : Int) := IntWalk.u64_in _ (by omega)
  obtain ⟨p, hp⟩ : ∃ p : Nat, p = fo := ⟨_, rfl⟩
  have fp : IntKind.u64.wrap (fo : Int) = (p : Int) := by rw [IntWalk.u64_in _ (by omega)]; omega
  have hpl : pl4 false false fo = p := by simp [pl4]; omega
  have hp6 : p < 65536 := by omega
  have hol := hr.1
  have hx1 : x0 = 69 + o.length / 4 := by omega
  have hb : Bk (w.alloc (.cells (h4C ts (ln : Int) id false false (fo : Int) tl pr sm false 0 sl false 0 dl A n k).toArray 140)) w.heap.size 140 (h4C ts (ln : Int) id false false (fo : Int) tl pr sm false 0 sl false 0 dl A n k) := Bk.new w 140 (h4C ts (ln : Int) id false false (fo : Int) tl pr sm false 0 sl false 0 dl A n k).toArray
  have be : Below w.heap.size w (w.alloc (.cells (h4C ts (ln : Int) id false false (fo : Int) tl pr sm false 0 sl false 0 dl A n k).toArray 140)) := Below.allocS (Below.refl _ _) _
  rw [hpl]
  replace hx1 := Lib.hid hx1
  replace hol := Lib.hid hol
  have hx9 : x0 < 256 := by omega
  clear hpl hx0 hz0 hq hp
  go_enter Try.func109, Try.ntmps109
  go_upto_region 1 with (fail)
  generalize w.alloc (.cells (h4C ts (ln : Int) id false false (fo : Int) tl pr sm false 0 sl false 0 dl A n k).toArray 140) = W at *
  have hrW := hr.later be
  have y0 : W.cell? ⟨w.heap.size, 0, none⟩ = some (.int .u8 (ts : Int)) := hb.cell 0
  have y1 : W.cell? ⟨w.heap.size, 1, none⟩ = some (.int .i64 (ln : Int)) := hb.cell 1
  have y2 : W.cell? ⟨w.heap.size, 2, none⟩ = some (.int .u16 (id : Int)) := hb.cell 2
  have y3 : W.cell? ⟨w.heap.size, 3, none⟩ = some (.bool false) := hb.cell 3
  have y4 : W.cell? ⟨w.heap.size, 4, none⟩ = some (.bool false) := hb.cell 4
  have y5 : W.cell? ⟨w.heap.size, 5, none⟩ = some (.int .i64 (fo : Int)) := hb.cell 5
  have y6 : W.cell? ⟨w.heap.size, 6, none⟩ = some (.int .u8 (tl : Int)) := hb.cell 6
  have y7 : W.cell? ⟨w.heap.size, 7, none⟩ = some (.int .u8 (pr : Int)) := hb.cell 7
  have y15 : W.cell? ⟨w.heap.size, 15, none⟩ = some (.slice A n k) := hb.cell 15
  have zb := hb.lt
  go_wp2_with (refine at_op (.load 140 (.tmp 1)) rfl ?_; refine wpList_ldA (t := 140) 140 (.tmp 1) rfl rfl (h4C ts (ln : Int) id false false (fo : Int) tl pr sm false 0 sl false 0 dl A n k) rfl (by with_reducible repeat (first | exact hb | refine Bk.later ?_ (below_plus _ _ _) | refine Bk.alloc ?_ _)) (whole_ _) u1 u2 (szH4 _ _ _ _ _ _ _ _ _ _ _ _ _ _ _ _ _ _) ?_)
  refine (HR.out _).mono ?_
  rintro e w1 ⟨bsr, mr, rfl, rfl⟩
  go_wp2_with (refine at_op (.load 140 (.tmp 1)) rfl ?_; refine wpList_ldA (t := 140) 140 (.tmp 1) rfl rfl (h4C ts (ln : Int) id false false (fo : Int) tl pr sm false 0 sl false 0 dl A n k) rfl (by with_reducible repeat (first | exact hb | refine Bk.later ?_ (below_plus _ _ _) | refine Bk.alloc ?_ _)) (whole_ _) u1 u2 (szH4 _ _ _ _ _ _ _ _ _ _ _ _ _ _ _ _ _ _) ?_)
  refine (HS.out _).mono ?_
  rintro e w1 ⟨bs0, m0, rfl, rfl⟩
  go_wp2_with fail
  refine (put_full _ _ _ [] x0 1 _ Rb.nil_ (by omega) (by omega) (by omega) (by omega)).mono ?_
  rintro e w1 ⟨A1, n1, bs1, m1, rfl, rfl, ho1⟩
  have l1 : n1 ≤ 100 := by rw [← ho1.1]; simp [dig_length]
  go_wp2_with fail
  refine (put_full _ _ _ _ ts 1 _ ho1.rb (by omega) (by omega) (by omega) (by omega)).mono ?_
  rintro e w1 ⟨A2, n2, bs2, m2, rfl, rfl, ho2⟩
  have l2 : n2 ≤ 100 := by rw [← ho2.1]; simp [dig_length]
  go_wp2_with fail
  refine (put_full _ _ _ _ ln 2 _ ho2.rb (by omega) (by omega) (by omega) (by omega)).mono ?_
  rintro e w1 ⟨A3, n3, bs3, m3, rfl, rfl, ho3⟩
  have l3 : n3 ≤ 100 := by rw [← ho3.1]; simp [dig_length]
  go_wp2_with fail
  refine (put_full _ _ _ _ id 2 _ ho3.rb (by omega) (by omega) (by omega) (by omega)).mono ?_
  rintro e w1 ⟨A4, n4, bs4, m4, rfl, rfl, ho4⟩
  have l4 : n4 ≤ 100 := by rw [← ho4.1]; simp [dig_length]
  go_wp2_with fail
  refine (put_full _ _ _ _ p 2 _ ho4.rb (by omega) (by omega) (by omega) (by omega)).mono ?_
  rintro e w1 ⟨A5, n5, bs5, m5, rfl, rfl, ho5⟩
  have l5 : n5 ≤ 100 := by rw [← ho5.1]; simp [dig_length]
  go_wp2_with fail
  refine (put_full _ _ _ _ tl 1 _ ho5.rb (by omega) (by omega) (by omega) (by omega)).mono ?_
  rintro e w1 ⟨A6, n6, bs6, m6, rfl, rfl, ho6⟩
  have l6 : n6 ≤ 100 := by rw [← ho6.1]; simp [dig_length]
  go_wp2_with fail
  refine (put_full _ _ _ _ pr 1 _ ho6.rb (by omega) (by omega) (by omega) (by omega)).mono ?_
  rintro e w1 ⟨A7, n7, bs7, m7, rfl, rfl, ho7⟩
  have l7 : n7 ≤ 100 := by rw [← ho7.1]; simp [dig_length]
  go_wp2_with fail
  refine (put_full _ _ _ _ 0 2 _ ho7.rb (by omega) (by omega) (by omega) (by omega)).mono ?_
  rintro e w1 ⟨A8, n8, bs8, m8, rfl, rfl, ho8⟩
  have l8 : n8 ≤ 100 := by rw [← ho8.1]; simp [dig_length]
  go_wp2_with (refine at_op (.load 26 (.tmp 56)) rfl ?_; refine wpList_ldA (t := 140) (cs := h4C ts (ln : Int) id false false (fo : Int) tl pr sm false 0 sl false 0 dl A n k) 26 (.tmp 56) rfl rfl (adC false 0 sl) rfl (by with_reducible repeat (first | exact hb | refine Bk.later ?_ (below_plus _ _ _) | refine Bk.alloc ?_ _)) rfl v1 v2 (szAd _ _ _) ?_)
  refine (adrBytes_any false 0 sl _ (by omega) (by omega)).mono ?_
  rintro e w1 ⟨A9, n9, bs9, m9, rfl, rfl, ho9⟩
  have l9 : n9 ≤ 100 := by rw [← ho9.1]; have := adrB_length false 0 sl; omega
  go_wp2_with (first
    | (at_builtin; refine wpList_appP _ bt rfl (.tmp 55) (.tmp 58) rfl (by exact belowP (below_plus _ bs8 m8) bs9 m9) rfl (ho8.plus_ bs9 m9) rfl (ho9.rb) (by omega) ?_; intro Aa na ka bsa ma hoa hga)
    | (refine at_op (.load 26 (.tmp 61)) rfl ?_; refine wpList_ldA (t := 140) (cs := h4C ts (ln : Int) id false false (fo : Int) tl pr sm false 0 sl false 0 dl A n k) 26 (.tmp 61) rfl rfl (adC false 0 dl) rfl (by with_reducible repeat (first | exact hb | refine Bk.later ?_ (below_plus _ _ _) | refine Bk.alloc ?_ _)) rfl v1 v2 (szAd _ _ _) ?_))
  have la : na ≤ 300 := by rw [← hoa.1]; have := adrB_length false 0 sl; simp [dig_length]; omega
  refine (adrBytes_any false 0 dl _ (by omega) (by omega)).mono ?_
  rintro e w1 ⟨Ab, nb, bsb, mb, rfl, rfl, hob⟩
  have lb : nb ≤ 100 := by rw [← hob.1]; have := adrB_length false 0 dl; omega
  go_wp2_with (first
    | (at_builtin; refine wpList_appP _ bt rfl (.tmp 60) (.tmp 63) rfl (by exact belowP (below_plus _ bsa ma) bsb mb) rfl (hoa.plus_ bsb mb) rfl (hob.rb) (by omega) ?_; intro Ac nc kc bsc mc hoc hgc; have lc : nc ≤ 500 := (by rw [← hoc.1]; have h1 := adrB_length false 0 sl; have h2 := adrB_length false 0 dl; simp [dig_length]; omega))
    | (at_builtin; refine wpList_appP (l2 := o) _ bt rfl (.tmp 65) (.tmp 67) rfl (by exact below_plus _ bsc mc) rfl (hoc) rfl (by with_reducible repeat (first | exact hrW | refine Rb.plus_ ?_ _ _)) (by omega) ?_; intro Ad nd kd bsd md hod hgd))
  have hL : [] ++ dig x0 1 ++ dig ts 1 ++ dig ln 2 ++ dig id 2 ++ dig p 2 ++ dig tl 1 ++ dig pr 1 ++ dig 0 2 ++ adrB false 0 sl ++ adrB false 0 dl ++ o = ip4B ts ln id p tl pr 0 sl dl o := by rw [hx1.out]; simp [ip4B, adrB]
  rw [hL] at hod
  have hset := Lib.hid (fun s => setB_ip4 ts ln id p tl pr s sl dl o)
  have hlen := ip4B_length ts ln id p tl pr 0 sl dl o
  have hK : Hid (ip4K ts ln id p tl pr sl dl o = 65535 - fd (tot false (ip4B ts ln id p tl pr 0 sl dl o))) := Lib.hid rfl
  clear hL
  generalize ip4B ts ln id p tl pr 0 sl dl o = L0 at *
  rw [hol.out] at hlen
  have HO := Lib.hid (fun w A1 c1 (h : RdL w A1 1 [L0]) => sumOf A1 1 c1 _ w h (by omega) (by simp; omega))
  have hs1 : 65535 - fd (tot false L0) ≤ 65535 := Nat.sub_le _ _
  have hfl : ([L0] : List (List UInt8)).flatten = L0 := by simp
  rw [hfl] at HO
  generalize 65535 - fd (tot false L0) = s at *
  have hnd1 : 10 + 2 ≤ nd := by have := hod.1; omega
  have hnd2 : nd ≤ 549755813888 := by have := hod.1; omega
  have hs2 : s < 18446744073709551616 := by omega
  have gs : IntKind.u64.wrap (s : Int) = (s : Int) := IntWalk.u64_in _ (by omega)
  refine (HO.out _ _ _ (RdL.litW [.slice Ad nd kd] [L0] (by simp [size_plus]) (.cons ⟨_, _, _, rfl, hod.rb⟩ .nil))).mono ?_
  rintro e w1 ⟨rfl, rfl⟩
  go_wp2_with fail
  refine (octSet Ad nd kd L0 10 s 2 _ (hod.rb.alloc _) hnd1 (by decide) (by decide) hs2 hnd2).mono ?_
  rintro e w1 ⟨Ae, ne, ke, bse, me, rfl, rfl, hoe⟩
  go_wp2
  go_ret
  rw [hset.out] at hoe
  rw [hK.out]
  refine RetB.mk (hoe.mono ?_) ?_
  · simp [size_plus]; omega
  · with_reducible repeat (first | exact be | refine belowP ?_ _ _ | refine Below.allocS ?_ _)
set_option maxHeartbeats 4000000 in
set_option maxRecDepth 100000 in
theorem ip4Bytes_ny (ts ln id : Nat) (fo tl pr sm sl dl : Nat) (A : Option Addr) (n k : Nat) (o : List UInt8) (w : World) (hr : Rb w A n k o) (b1 : ts < 256) (b2 : id < 65536) (b3 : tl < 256) (b4 : pr < 256) (b5 : sl < 4294967296) (b6 : dl < 4294967296) (c1 : n ≤ 40) (c2 : n % 4 = 0) (c3 : 20 + n ≤ ln) (c4 : ln ≤ 65535) (c5 : fo ≤ 8191) : Calls Try.prog 109 #[.agg (h4C ts (ln : Int) id false true (fo : Int) tl pr sm false 0 sl false 0 dl A n k).toArray] w (RetB w (ip4B ts ln id (pl4 false true fo) tl pr (ip4K ts ln id (pl4 false true fo) tl pr sl dl o) sl dl o)) := by
  obtain ⟨du, u1, u2⟩ := rowH4
  obtain ⟨dv, v1, v2⟩ := rowAd
  have HR := Lib.hid (fun w => right4 ts (ln : Int) id false true (fo : Int) tl pr sm false 0 sl false 0 dl A n k w (by omega) (by omega) (by omega) (by omega) (by omega) (by omega) (by omega))
  rw [r4_yes n ln fo sl dl c1 c2 c3 c4 c5 b5 b6] at HR
  have HS := Lib.hid (fun w => size4 ts (ln : Int) id false true (fo : Int) tl pr sm false 0 sl false 0 dl A n k w (by omega))
  obtain ⟨z, hz0⟩ : ∃ z : Nat, z = 20 + n := ⟨_, rfl⟩
  rw [← hz0] at HS
  obtain ⟨q, hq⟩ : ∃ q : Nat, q = 5 + n / 4 := ⟨_, rfl⟩
  have g1 : (z : Int).tdiv 4 = (q : Int) := by rw [Int.tdiv_eq_ediv_of_nonneg (by omega)]; omega
  have g2 : IntKind.i64.wrap (q : Int) = (q : Int) := IntWalk.i64_in _ (by omega)
  have g3 := or64 ⟨q, by omega⟩
  obtain ⟨x0, hx0⟩ : ∃ x : Nat, x = 64 + q := ⟨_, rfl⟩
  replace g3 : bits .or .i64 64 (q : Int) = (x0 : Int) := by rw [hx0]; exact g3
  have g4 : IntKind.u64.wrap (x0 : Int) = (x0 : Int) := IntWalk.u64_in _ (by omega)
  have g5 : IntKind.u64.wrap (ts : Int) = (ts : Int) := IntWalk.u64_in _ (by omega)
  have g6 : IntKind.u64.wrap (ln : Int) = (ln : Int) := IntWalk.u64_in _ (by omega)
  have g7 : IntKind.u64.wrap (id : Int) = (id : Int) := IntWalk.u64_in _ (by omega)
  have g8 : IntKind.u64.wrap (tl : Int) = (tl : Int) := IntWalk.u64_in _ (by omega)
  have g9 : IntKind.u64.wrap (pr : Int) = (pr : Int) := IntWalk.u64_in _ (by omega)
  have f1 := or13 fo (by omega)
  have fp : IntKind.u64.wrap (fo : Int) = (fo : Int) := IntWalk.u64_in _ (by omega)
  obtain ⟨p, hp⟩ : ∃ p : Nat, p = fo + 8192 := ⟨_, rfl⟩
  rw [← hp] at f1
  have hpl : pl4 false true fo = p := by simp [pl4]; omega
  have hp6 : p < 65536 := by omega
  have hol := hr.1
  have hx1 : x0 = 69 + o.length / 4 := by omega
  have hb : Bk (w.alloc (.cells (h4C ts (ln : Int) id false true (fo : Int) tl pr sm false 0 sl false 0 dl A n k).toArray 140)) w.heap.size 140 (h4C ts (ln : Int) id false true (fo : Int) tl pr sm false 0 sl false 0 dl A n k) := Bk.new w 140 (h4C ts (ln : Int) id false true (fo : Int) tl pr sm false 0 sl false 0 dl A n k).toArray
  have be : Below w.heap.size w (w.alloc (.cells (h4C ts (ln : Int) id false true (fo : Int) tl pr sm false 0 sl false 0 dl A n k).toArray 140)) := Below.allocS (Below.refl _ _) _
  rw [hpl]
  replace hx1 := Lib.hid hx1
  replace hol := Lib.hid hol
  have hx9 : x0 < 256 := by omega
  clear hpl hx0 hz0 hq hp
  go_enter Try.func109, Try.ntmps109
  go_upto_region 1 with (fail)
  generalize w.alloc (.cells (h4C ts (ln : Int) id false true (fo : Int) tl pr sm false 0 sl false 0 dl A n k).toArray 140) = W at *
  have hrW := hr.later be
  have y0 : W.cell? ⟨w.heap.size, 0, none⟩ = some (.int .u8 (ts : Int)) := hb.cell 0
  have y1 : W.cell? ⟨w.heap.size, 1, none⟩ = some (.int .i64 (ln : Int)) := hb.cell 1
  have y2 : W.cell? ⟨w.heap.size, 2, none⟩ = some (.int .u16 (id : Int)) := hb.cell 2
  have y3 : W.cell? ⟨w.heap.size, 3, none⟩ = some (.bool false) := hb.cell 3
  have y4 : W.cell? ⟨w.heap.size, 4, none⟩ = some (.bool true) := hb.cell 4
  have y5 : W.cell? ⟨w.heap.size, 5, none⟩ = some (.int .i64 (fo : Int)) := hb.cell 5
  have y6 : W.cell? ⟨w.heap.size, 6, none⟩ = some (.int .u8 (tl : Int)) := hb.cell 6
  have y7 : W.cell? ⟨w.heap.size, 7, none⟩ = some (.int .u8 (pr : Int)) := hb.cell 7
  have y15 : W.cell? ⟨w.heap.size, 15, none⟩ = some (.slice A n k) := hb.cell 15
  have zb := hb.lt
  go_wp2_with (refine at_op (.load 140 (.tmp 1)) rfl ?_; refine wpList_ldA (t := 140) 140 (.tmp 1) rfl rfl (h4C ts (ln : Int) id false true (fo : Int) tl pr sm false 0 sl false 0 dl A n k) rfl (by with_reducible repeat (first | exact hb | refine Bk.later ?_ (below_plus _ _ _) | refine Bk.alloc ?_ _)) (whole_ _) u1 u2 (szH4 _ _ _ _ _ _ _ _ _ _ _ _ _ _ _ _ _ _) ?_)
  refine (HR.out _).mono ?_
  rintro e w1 ⟨bsr, mr, rfl, rfl⟩
  go_wp2_with (refine at_op (.load 140 (.tmp 1)) rfl ?_; refine wpList_ldA (t := 140) 140 (.tmp 1) rfl rfl (h4C ts (ln : Int) id false true (fo : Int) tl pr sm false 0 sl false 0 dl A n k) rfl (by with_reducible repeat (first | exact hb | refine Bk.later ?_ (below_plus _ _ _) | refine Bk.alloc ?_ _)) (whole_ _) u1 u2 (szH4 _ _ _ _ _ _ _ _ _ _ _ _ _ _ _ _ _ _) ?_)
  refine (HS.out _).mono ?_
  rintro e w1 ⟨bs0, m0, rfl, rfl⟩
  go_wp2_with fail
  refine (put_full _ _ _ [] x0 1 _ Rb.nil_ (by omega) (by omega) (by omega) (by omega)).mono ?_
  rintro e w1 ⟨A1, n1, bs1, m1, rfl, rfl, ho1⟩
  have l1 : n1 ≤ 100 := by rw [← ho1.1]; simp [dig_length]
  go_wp2_with fail
  refine (put_full _ _ _ _ ts 1 _ ho1.rb (by omega) (by omega) (by omega) (by omega)).mono ?_
  rintro e w1 ⟨A2, n2, bs2, m2, rfl, rfl, ho2⟩
  have l2 : n2 ≤ 100 := by rw [← ho2.1]; simp [dig_length]
  go_wp2_with fail
  refine (put_full _ _ _ _ ln 2 _ ho2.rb (by omega) (by omega) (by omega) (by omega)).mono ?_
  rintro e w1 ⟨A3, n3, bs3, m3, rfl, rfl, ho3⟩
  have l3 : n3 ≤ 100 := by rw [← ho3.1]; simp [dig_length]
  go_wp2_with fail
  refine (put_full _ _ _ _ id 2 _ ho3.rb (by omega) (by omega) (by omega) (by omega)).mono ?_
  rintro e w1 ⟨A4, n4, bs4, m4, rfl, rfl, ho4⟩
  have l4 : n4 ≤ 100 := by rw [← ho4.1]; simp [dig_length]
  go_wp2_with fail
  refine (put_full _ _ _ _ p 2 _ ho4.rb (by omega) (by omega) (by omega) (by omega)).mono ?_
  rintro e w1 ⟨A5, n5, bs5, m5, rfl, rfl, ho5⟩
  have l5 : n5 ≤ 100 := by rw [← ho5.1]; simp [dig_length]
  go_wp2_with fail
  refine (put_full _ _ _ _ tl 1 _ ho5.rb (by omega) (by omega) (by omega) (by omega)).mono ?_
  rintro e w1 ⟨A6, n6, bs6, m6, rfl, rfl, ho6⟩
  have l6 : n6 ≤ 100 := by rw [← ho6.1]; simp [dig_length]
  go_wp2_with fail
  refine (put_full _ _ _ _ pr 1 _ ho6.rb (by omega) (by omega) (by omega) (by omega)).mono ?_
  rintro e w1 ⟨A7, n7, bs7, m7, rfl, rfl, ho7⟩
  have l7 : n7 ≤ 100 := by rw [← ho7.1]; simp [dig_length]
  go_wp2_with fail
  refine (put_full _ _ _ _ 0 2 _ ho7.rb (by omega) (by omega) (by omega) (by omega)).mono ?_
  rintro e w1 ⟨A8, n8, bs8, m8, rfl, rfl, ho8⟩
  have l8 : n8 ≤ 100 := by rw [← ho8.1]; simp [dig_length]
  go_wp2_with (refine at_op (.load 26 (.tmp 56)) rfl ?_; refine wpList_ldA (t := 140) (cs := h4C ts (ln : Int) id false true (fo : Int) tl pr sm false 0 sl false 0 dl A n k) 26 (.tmp 56) rfl rfl (adC false 0 sl) rfl (by with_reducible repeat (first | exact hb | refine Bk.later ?_ (below_plus _ _ _) | refine Bk.alloc ?_ _)) rfl v1 v2 (szAd _ _ _) ?_)
  refine (adrBytes_any false 0 sl _ (by omega) (by omega)).mono ?_
  rintro e w1 ⟨A9, n9, bs9, m9, rfl, rfl, ho9⟩
  have l9 : n9 ≤ 100 := by rw [← ho9.1]; have := adrB_length false 0 sl; omega
  go_wp2_with (first
    | (at_builtin; refine wpList_appP _ bt rfl (.tmp 55) (.tmp 58) rfl (by exact belowP (below_plus _ bs8 m8) bs9 m9) rfl (ho8.plus_ bs9 m9) rfl (ho9.rb) (by omega) ?_; intro Aa na ka bsa ma hoa hga)
    | (refine at_op (.load 26 (.tmp 61)) rfl ?_; refine wpList_ldA (t := 140) (cs := h4C ts (ln : Int) id false true (fo : Int) tl pr sm false 0 sl false 0 dl A n k) 26 (.tmp 61) rfl rfl (adC false 0 dl) rfl (by with_reducible repeat (first | exact hb | refine Bk.later ?_ (below_plus _ _ _) | refine Bk.alloc ?_ _)) rfl v1 v2 (szAd _ _ _) ?_))
  have la : na ≤ 300 := by rw [← hoa.1]; have := adrB_length false 0 sl; simp [dig_length]; omega
  refine (adrBytes_any false 0 dl _ (by omega) (by omega)).mono ?_
  rintro e w1 ⟨Ab, nb, bsb, mb, rfl, rfl, hob⟩
  have lb : nb ≤ 100 := by rw [← hob.1]; have := adrB_length false 0 dl; omega
  go_wp2_with (first
    | (at_builtin; refine wpList_appP _ bt rfl (.tmp 60) (.tmp 63) rfl (by exact belowP (below_plus _ bsa ma) bsb mb) rfl (hoa.plus_ bsb mb) rfl (hob.rb) (by omega) ?_; intro Ac nc kc bsc mc hoc hgc; have lc : nc ≤ 500 := (by rw [← hoc.1]; have h1 := adrB_length false 0 sl; have h2 := adrB_length false 0 dl; simp [dig_length]; omega))
    | (at_builtin; refine wpList_appP (l2 := o) _ bt rfl (.tmp 65) (.tmp 67) rfl (by exact below_plus _ bsc mc) rfl (hoc) rfl (by with_reducible repeat (first | exact hrW | refine Rb.plus_ ?_ _ _)) (by omega) ?_; intro Ad nd kd bsd md hod hgd))
  have hL : [] ++ dig x0 1 ++ dig ts 1 ++ dig ln 2 ++ dig id 2 ++ dig p 2 ++ dig tl 1 ++ dig pr 1 ++ dig 0 2 ++ adrB false 0 sl ++ adrB false 0 dl ++ o = ip4B ts ln id p tl pr 0 sl dl o := by rw [hx1.out]; simp [ip4B, adrB]
  rw [hL] at hod
  have hset := Lib.hid (fun s => setB_ip4 ts ln id p tl pr s sl dl o)
  have hlen := ip4B_length ts ln id p tl pr 0 sl dl o
  have hK : Hid (ip4K ts ln id p tl pr sl dl o = 65535 - fd (tot false (ip4B ts ln id p tl pr 0 sl dl o))) := Lib.hid rfl
  clear hL
  generalize ip4B ts ln id p tl pr 0 sl dl o = L0 at *
  rw [hol.out] at hlen
  have HO := Lib.hid (fun w A1 c1 (h : RdL w A1 1 [L0]) => sumOf A1 1 c1 _ w h (by omega) (by simp; omega))
  have hs1 : 65535 - fd (tot false L0) ≤ 65535 := Nat.sub_le _ _
  have hfl : ([L0] : List (List UInt8)).flatten = L0 := by simp
  rw [hfl] at HO
  generalize 65535 - fd (tot false L0) = s at *
  have hnd1 : 10 + 2 ≤ nd := by have := hod.1; omega
  have hnd2 : nd ≤ 549755813888 := by have := hod.1; omega
  have hs2 : s < 18446744073709551616 := by omega
  have gs : IntKind.u64.wrap (s : Int) = (s : Int) := IntWalk.u64_in _ (by omega)
  refine (HO.out _ _ _ (RdL.litW [.slice Ad nd kd] [L0] (by simp [size_plus]) (.cons ⟨_, _, _, rfl, hod.rb⟩ .nil))).mono ?_
  rintro e w1 ⟨rfl, rfl⟩
  go_wp2_with fail
  refine (octSet Ad nd kd L0 10 s 2 _ (hod.rb.alloc _) hnd1 (by decide) (by decide) hs2 hnd2).mono ?_
  rintro e w1 ⟨Ae, ne, ke, bse, me, rfl, rfl, hoe⟩
  go_wp2
  go_ret
  rw [hset.out] at hoe
  rw [hK.out]
  refine RetB.mk (hoe.mono ?_) ?_
  · simp [size_plus]; omega
  · with_reducible repeat (first | exact be | refine belowP ?_ _ _ | refine Below.allocS ?_ _)
set_option maxHeartbeats 4000000 in
set_option maxRecDepth 100000 in
theorem ip4Bytes_yn (ts ln id : Nat) (fo tl pr sm sl dl : Nat) (A : Option Addr) (n k : Nat) (o : List UInt8) (w : World) (hr : Rb w A n k o) (b1 : ts < 256) (b2 : id < 65536) (b3 : tl < 256) (b4 : pr < 256) (b5 : sl < 4294967296) (b6 : dl < 4294967296) (c1 : n ≤ 40) (c2 : n % 4 = 0) (c3 : 20 + n ≤ ln) (c4 : ln ≤ 65535) (c5 : fo ≤ 8191) : Calls Try.prog 109 #[.agg (h4C ts (ln : Int) id true false (fo : Int) tl pr sm false 0 sl false 0 dl A n k).toArray] w (RetB w (ip4B ts ln id (pl4 true false fo) tl pr (ip4K ts ln id (pl4 true false fo) tl pr sl dl o) sl dl o)) := by
  obtain ⟨du, u1, u2⟩ := rowH4
  obtain ⟨dv, v1, v2⟩ := rowAd
  have HR := Lib.hid (fun w => right4 ts (ln : Int) id true false (fo : Int) tl pr sm false 0 sl false 0 dl A n k w (by omega) (by omega) (by omega) (by omega) (by omega) (by omega) (by omega))
  rw [r4_yes n ln fo sl dl c1 c2 c3 c4 c5 b5 b6] at HR
  have HS := Lib.hid (fun w => size4 ts (ln : Int) id true false (fo : Int) tl pr sm false 0 sl false 0 dl A n k w (by omega))
  obtain ⟨z, hz0⟩ : ∃ z : Nat, z = 20 + n := ⟨_, rfl⟩
  rw [← hz0] at HS
  obtain ⟨q, hq⟩ : ∃ q : Nat, q = 5 + n / 4 := ⟨_, rfl⟩
  have g1 : (z : Int).tdiv 4 = (q : Int) := by rw [Int.tdiv_eq_ediv_of_nonneg (by omega)]; omega
  have g2 : IntKind.i64.wrap (q : Int) = (q : Int) := IntWalk.i64_in _ (by omega)
  have g3 := or64 ⟨q, by omega⟩
  obtain ⟨x0, hx0⟩ : ∃ x : Nat, x = 64 + q := ⟨_, rfl⟩
  replace g3 : bits .or .i64 64 (q : Int) = (x0 : Int) := by rw [hx0]; exact g3
  have g4 : IntKind.u64.wrap (x0 : Int) = (x0 : Int) := IntWalk.u64_in _ (by omega)
  have g5 : IntKind.u64.wrap (ts : Int) = (ts : Int) := IntWalk.u64_in _ (by omega)
  have g6 : IntKind.u64.wrap (ln : Int) = (ln : Int) := IntWalk.u64_in _ (by omega)
  have g7 : IntKind.u64.wrap (id : Int) = (id : Int) := IntWalk.u64_in _ (by omega)
  have g8 : IntKind.u64.wrap (tl : Int) = (tl : Int) := IntWalk.u64_in _ (by omega)
  have g9 : IntKind.u64.wrap (pr : Int) = (pr : Int) := IntWalk.u64_in _ (by omega)
  have f1 := or14 fo (by omega)
  have fp : IntKind.u64.wrap (fo : Int) = (fo : Int) := IntWalk.u64_in _ (by omega)
  obtain ⟨p, hp⟩ : ∃ p : Nat, p = fo + 16384 := ⟨_, rfl⟩
  rw [← hp] at f1
  have hpl : pl4 true false fo = p := by simp [pl4]; omega
  have hp6 : p < 65536 := by omega
  have hol := hr.1
  have hx1 : x0 = 69 + o.length / 4 := by omega
  have hb : Bk (w.alloc (.cells (h4C ts (ln : Int) id true false (fo : Int) tl pr sm false 0 sl false 0 dl A n k).toArray 140)) w.heap.size 140 (h4C ts (ln : Int) id true false (fo : Int) tl pr sm false 0 sl false 0 dl A n k) := Bk.new w 140 (h4C ts (ln : Int) id true false (fo : Int) tl pr sm false 0 sl false 0 dl A n k).toArray
  have be : Below w.heap.size w (w.alloc (.cells (h4C ts (ln : Int) id true false (fo : Int) tl pr sm false 0 sl false 0 dl A n k).toArray 140)) := Below.allocS (Below.refl _ _) _
  rw [hpl]
  replace hx1 := Lib.hid hx1
  replace hol := Lib.hid hol
  have hx9 : x0 < 256 := by omega
  clear hpl hx0 hz0 hq hp
  go_enter Try.func109, Try.ntmps109
  go_upto_region 1 with (fail)
  generalize w.alloc (.cells (h4C ts (ln : Int) id true false (fo : Int) tl pr sm false 0 sl false 0 dl A n k).toArray 140) = W at *
  have hrW := hr.later be
  have y0 : W.cell? ⟨w.heap.size, 0, none⟩ = some (.int .u8 (ts : Int)) := hb.cell 0
  have y1 : W.cell? ⟨w.heap.size, 1, none⟩ = some (.int .i64 (ln : Int)) := hb.cell 1
  have y2 : W.cell? ⟨w.heap.size, 2, none⟩ = some (.int .u16 (id : Int)) := hb.cell 2
  have y3 : W.cell? ⟨w.heap.size, 3, none⟩ = some (.bool true) := hb.cell 3
  have y4 : W.cell? ⟨w.heap.size, 4, none⟩ = some (.bool false) := hb.cell 4
  have y5 : W.cell? ⟨w.heap.size, 5, none⟩ = some (.int .i64 (fo : Int)) := hb.cell 5
  have y6 : W.cell? ⟨w.heap.size, 6, none⟩ = some (.int .u8 (tl : Int)) := hb.cell 6
  have y7 : W.cell? ⟨w.heap.size, 7, none⟩ = some (.int .u8 (pr : Int)) := hb.cell 7
  have y15 : W.cell? ⟨w.heap.size, 15, none⟩ = some (.slice A n k) := hb.cell 15
  have zb := hb.lt
  go_wp2_with (refine at_op (.load 140 (.tmp 1)) rfl ?_; refine wpList_ldA (t := 140) 140 (.tmp 1) rfl rfl (h4C ts (ln : Int) id true false (fo : Int) tl pr sm false 0 sl false 0 dl A n k) rfl (by with_reducible repeat (first | exact hb | refine Bk.later ?_ (below_plus _ _ _) | refine Bk.alloc ?_ _)) (whole_ _) u1 u2 (szH4 _ _ _ _ _ _ _ _ _ _ _ _ _ _ _ _ _ _) ?_)
  refine (HR.out _).mono ?_
  rintro e w1 ⟨bsr, mr, rfl, rfl⟩
  go_wp2_with (refine at_op (.load 140 (.tmp 1)) rfl ?_; refine wpList_ldA (t := 140) 140 (.tmp 1) rfl rfl (h4C ts (ln : Int) id true false (fo : Int) tl pr sm false 0 sl false 0 dl A n k) rfl (by with_reducible repeat (first | exact hb | refine Bk.later ?_ (below_plus _ _ _) | refine Bk.alloc ?_ _)) (whole_ _) u1 u2 (szH4 _ _ _ _ _ _ _ _ _ _ _ _ _ _ _ _ _ _) ?_)
  refine (HS.out _).mono ?_
  rintro e w1 ⟨bs0, m0, rfl, rfl⟩
  go_wp2_with fail
  refine (put_full _ _ _ [] x0 1 _ Rb.nil_ (by omega) (by omega) (by omega) (by omega)).mono ?_
  rintro e w1 ⟨A1, n1, bs1, m1, rfl, rfl, ho1⟩
  have l1 : n1 ≤ 100 := by rw [← ho1.1]; simp [dig_length]
  go_wp2_with fail
  refine (put_full _ _ _ _ ts 1 _ ho1.rb (by omega) (by omega) (by omega) (by omega)).mono ?_
  rintro e w1 ⟨A2, n2, bs2, m2, rfl, rfl, ho2⟩
  have l2 : n2 ≤ 100 := by rw [← ho2.1]; simp [dig_length]
  go_wp2_with fail
  refine (put_full _ _ _ _ ln 2 _ ho2.rb (by omega) (by omega) (by omega) (by omega)).mono ?_
  rintro e w1 ⟨A3, n3, bs3, m3, rfl, rfl, ho3⟩
  have l3 : n3 ≤ 100 := by rw [← ho3.1]; simp [dig_length]
  go_wp2_with fail
  refine (put_full _ _ _ _ id 2 _ ho3.rb (by omega) (by omega) (by omega) (by omega)).mono ?_
  rintro e w1 ⟨A4, n4, bs4, m4, rfl, rfl, ho4⟩
  have l4 : n4 ≤ 100 := by rw [← ho4.1]; simp [dig_length]
  go_wp2_with fail
  refine (put_full _ _ _ _ p 2 _ ho4.rb (by omega) (by omega) (by omega) (by omega)).mono ?_
  rintro e w1 ⟨A5, n5, bs5, m5, rfl, rfl, ho5⟩
  have l5 : n5 ≤ 100 := by rw [← ho5.1]; simp [dig_length]
  go_wp2_with fail
  refine (put_full _ _ _ _ tl 1 _ ho5.rb (by omega) (by omega) (by omega) (by omega)).mono ?_
  rintro e w1 ⟨A6, n6, bs6, m6, rfl, rfl, ho6⟩
  have l6 : n6 ≤ 100 := by rw [← ho6.1]; simp [dig_length]
  go_wp2_with fail
  refine (put_full _ _ _ _ pr 1 _ ho6.rb (by omega) (by omega) (by omega) (by omega)).mono ?_
  rintro e w1 ⟨A7, n7, bs7, m7, rfl, rfl, ho7⟩
  have l7 : n7 ≤ 100 := by rw [← ho7.1]; simp [dig_length]
  go_wp2_with fail
  refine (put_full _ _ _ _ 0 2 _ ho7.rb (by omega) (by omega) (by omega) (by omega)).mono ?_
  rintro e w1 ⟨A8, n8, bs8, m8, rfl, rfl, ho8⟩
  have l8 : n8 ≤ 100 := by rw [← ho8.1]; simp [dig_length]
  go_wp2_with (refine at_op (.load 26 (.tmp 56)) rfl ?_; refine wpList_ldA (t := 140) (cs := h4C ts (ln : Int) id true false (fo : Int) tl pr sm false 0 sl false 0 dl A n k) 26 (.tmp 56) rfl rfl (adC false 0 sl) rfl (by with_reducible repeat (first | exact hb | refine Bk.later ?_ (below_plus _ _ _) | refine Bk.alloc ?_ _)) rfl v1 v2 (szAd _ _ _) ?_)
  refine (adrBytes_any false 0 sl _ (by omega) (by omega)).mono ?_
  rintro e w1 ⟨A9, n9, bs9, m9, rfl, rfl, ho9⟩
  have l9 : n9 ≤ 100 := by rw [← ho9.1]; have := adrB_length false 0 sl; omega
  go_wp2_with (first
    | (at_builtin; refine wpList_appP _ bt rfl (.tmp 55) (.tmp 58) rfl (by exact belowP (below_plus _ bs8 m8) bs9 m9) rfl (ho8.plus_ bs9 m9) rfl (ho9.rb) (by omega) ?_; intro Aa na ka bsa ma hoa hga)
    | (refine at_op (.load 26 (.tmp 61)) rfl ?_; refine wpList_ldA (t := 140) (cs := h4C ts (ln : Int) id true false (fo : Int) tl pr sm false 0 sl false 0 dl A n k) 26 (.tmp 61) rfl rfl (adC false 0 dl) rfl (by with_reducible repeat (first | exact hb | refine Bk.later ?_ (below_plus _ _ _) | refine Bk.alloc ?_ _)) rfl v1 v2 (szAd _ _ _) ?_))
  have la : na ≤ 300 := by rw [← hoa.1]; have := adrB_length false 0 sl; simp [dig_length]; omega
  refine (adrBytes_any false 0 dl _ (by omega) (by omega)).mono ?_
  rintro e w1 ⟨Ab, nb, bsb, mb, rfl, rfl, hob⟩
  have lb : nb ≤ 100 := by rw [← hob.1]; have := adrB_length false 0 dl; omega
  go_wp2_with (first
    | (at_builtin; refine wpList_appP _ bt rfl (.tmp 60) (.tmp 63) rfl (by exact belowP (below_plus _ bsa ma) bsb mb) rfl (hoa.plus_ bsb mb) rfl (hob.rb) (by omega) ?_; intro Ac nc kc bsc mc hoc hgc; have lc : nc ≤ 500 := (by rw [← hoc.1]; have h1 := adrB_length false 0 sl; have h2 := adrB_length false 0 dl; simp [dig_length]; omega))
    | (at_builtin; refine wpList_appP (l2 := o) _ bt rfl (.tmp 65) (.tmp 67) rfl (by exact below_plus _ bsc mc) rfl (hoc) rfl (by with_reducible repeat (first | exact hrW | refine Rb.plus_ ?_ _ _)) (by omega) ?_; intro Ad nd kd bsd md hod hgd))
  have hL : [] ++ dig x0 1 ++ dig ts 1 ++ dig ln 2 ++ dig id 2 ++ dig p 2 ++ dig tl 1 ++ dig pr 1 ++ dig 0 2 ++ adrB false 0 sl ++ adrB false 0 dl ++ o = ip4B ts ln id p tl pr 0 sl dl o := by rw [hx1.out]; simp [ip4B, adrB]
  rw [hL] at hod
  have hset := Lib.hid (fun s => setB_ip4 ts ln id p tl pr s sl dl o)
  have hlen := ip4B_length ts ln id p tl pr 0 sl dl o
  have hK : Hid (ip4K ts ln id p tl pr sl dl o = 65535 - fd (tot false (ip4B ts ln id p tl pr 0 sl dl o))) := Lib.hid rfl
  clear hL
  generalize ip4B ts ln id p tl pr 0 sl dl o = L0 at *
  rw [hol.out] at hlen
  have HO := Lib.hid (fun w A1 c1 (h : RdL w A1 1 [L0]) => sumOf A1 1 c1 _ w h (by omega) (by simp; omega))
  have hs1 : 65535 - fd (tot false L0) ≤ 65535 := Nat.sub_le _ _
  have hfl : ([L0] : List (List UInt8)).flatten = L0 := by simp
  rw [hfl] at HO
  generalize 65535 - fd (tot false L0) = s at *
  have hnd1 : 10 + 2 ≤ nd := by have := hod.1; omega
  have hnd2 : nd ≤ 549755813888 := by have := hod.1; omega
  have hs2 : s < 18446744073709551616 := by omega
  have gs : IntKind.u64.wrap (s : Int) = (s : Int) := IntWalk.u64_in _ (by omega)
  refine (HO.out _ _ _ (RdL.litW [.slice Ad nd kd] [L0] (by simp [size_plus]) (.cons ⟨_, _, _, rfl, hod.rb⟩ .nil))).mono ?_
  rintro e w1 ⟨rfl, rfl⟩
  go_wp2_with fail
  refine (octSet Ad nd kd L0 10 s 2 _ (hod.rb.alloc _) hnd1 (by decide) (by decide) hs2 hnd2).mono ?_
  rintro e w1 ⟨Ae, ne, ke, bse, me, rfl, rfl, hoe⟩
  go_wp2
  go_ret
  rw [hset.out] at hoe
  rw [hK.out]
  refine RetB.mk (hoe.mono ?_) ?_
  · simp [size_plus]; omega
  · with_reducible repeat (first | exact be | refine belowP ?_ _ _ | refine Below.allocS ?_ _)
set_option maxHeartbeats 4000000 in
set_option maxRecDepth 100000 in
theorem ip4Bytes_yy (ts ln id : Nat) (fo tl pr sm sl dl : Nat) (A : Option Addr) (n k : Nat) (o : List UInt8) (w : World) (hr : Rb w A n k o) (b1 : ts < 256) (b2 : id < 65536) (b3 : tl < 256) (b4 : pr < 256) (b5 : sl < 4294967296) (b6 : dl < 4294967296) (c1 : n ≤ 40) (c2 : n % 4 = 0) (c3 : 20 + n ≤ ln) (c4 : ln ≤ 65535) (c5 : fo ≤ 8191) : Calls Try.prog 109 #[.agg (h4C ts (ln : Int) id true true (fo : Int) tl pr sm false 0 sl false 0 dl A n k).toArray] w (RetB w (ip4B ts ln id (pl4 true true fo) tl pr (ip4K ts ln id (pl4 true true fo) tl pr sl dl o) sl dl o)) := by
  obtain ⟨du, u1, u2⟩ := rowH4
  obtain ⟨dv, v1, v2⟩ := rowAd
  have HR := Lib.hid (fun w => right4 ts (ln : Int) id true true (fo : Int) tl pr sm false 0 sl false 0 dl A n k w (by omega) (by omega) (by omega) (by omega) (by omega) (by omega) (by omega))
  rw [r4_yes n ln fo sl dl c1 c2 c3 c4 c5 b5 b6] at HR
  have HS := Lib.hid (fun w => size4 ts (ln : Int) id true true (fo : Int) tl pr sm false 0 sl false 0 dl A n k w (by omega))
  obtain ⟨z, hz0⟩ : ∃ z : Nat, z = 20 + n := ⟨_, rfl⟩
  rw [← hz0] at HS
  obtain ⟨q, hq⟩ : ∃ q : Nat, q = 5 + n / 4 := ⟨_, rfl⟩
  have g1 : (z : Int).tdiv 4 = (q : Int) := by rw [Int.tdiv_eq_ediv_of_nonneg (by omega)]; omega
  have g2 : IntKind.i64.wrap (q : Int) = (q : Int) := IntWalk.i64_in _ (by omega)
  have g3 := or64 ⟨q, by omega⟩
  obtain ⟨x0, hx0⟩ : ∃ x : Nat, x = 64 + q := ⟨_, rfl⟩
  replace g3 : bits .or .i64 64 (q : Int) = (x0 : Int) := by rw [hx0]; exact g3
  have g4 : IntKind.u64.wrap (x0 : Int) = (x0 : Int) := IntWalk.u64_in _ (by omega)
  have g5 : IntKind.u64.wrap (ts : Int) = (ts : Int) := IntWalk.u64_in _ (by omega)
  have g6 : IntKind.u64.wrap (ln : Int) = (ln : Int) := IntWalk.u64_in _ (by omega)
  have g7 : IntKind.u64.wrap (id : Int) = (id : Int) := IntWalk.u64_in _ (by omega)
  have g8 : IntKind.u64.wrap (tl : Int) = (tl : Int) := IntWalk.u64_in _ (by omega)
  have g9 : IntKind.u64.wrap (pr : Int) = (pr : Int) := IntWalk.u64_in _ (by omega)
  have f1 := or14 fo (by omega)
  have f2 := or1413 fo (by omega)
  have fp : IntKind.u64.wrap (fo : Int) = (fo : Int) := IntWalk.u64_in _ (by omega)
  obtain ⟨p1, hp1⟩ : ∃ p : Nat, p = fo + 16384 := ⟨_, rfl⟩
  rw [← hp1] at f1 f2
  obtain ⟨p, hp⟩ : ∃ p : Nat, p = p1 + 8192 := ⟨_, rfl⟩
  rw [← hp] at f2
  have hpl : pl4 true true fo = p := by simp [pl4]; omega
  have hp6 : p < 65536 := by omega
  have hol := hr.1
  have hx1 : x0 = 69 + o.length / 4 := by omega
  have hb : Bk (w.alloc (.cells (h4C ts (ln : Int) id true true (fo : Int) tl pr sm false 0 sl false 0 dl A n k).toArray 140)) w.heap.size 140 (h4C ts (ln : Int) id true true (fo : Int) tl pr sm false 0 sl false 0 dl A n k) := Bk.new w 140 (h4C ts (ln : Int) id true true (fo : Int) tl pr sm false 0 sl false 0 dl A n k).toArray
  have be : Below w.heap.size w (w.alloc (.cells (h4C ts (ln : Int) id true true (fo : Int) tl pr sm false 0 sl false 0 dl A n k).toArray 140)) := Below.allocS (Below.refl _ _) _
  rw [hpl]
  replace hx1 := Lib.hid hx1
  replace hol := Lib.hid hol
  have hx9 : x0 < 256 := by omega
  clear hpl hx0 hz0 hq hp hp1
  go_enter Try.func109, Try.ntmps109
  go_upto_region 1 with (fail)
  generalize w.alloc (.cells (h4C ts (ln : Int) id true true (fo : Int) tl pr sm false 0 sl false 0 dl A n k).toArray 140) = W at *
  have hrW := hr.later be
  have y0 : W.cell? ⟨w.heap.size, 0, none⟩ = some (.int .u8 (ts : Int)) := hb.cell 0
  have y1 : W.cell? ⟨w.heap.size, 1, none⟩ = some (.int .i64 (ln : Int)) := hb.cell 1
  have y2 : W.cell? ⟨w.heap.size, 2, none⟩ = some (.int .u16 (id : Int)) := hb.cell 2
  have y3 : W.cell? ⟨w.heap.size, 3, none⟩ = some (.bool true) := hb.cell 3
  have y4 : W.cell? ⟨w.heap.size, 4, none⟩ = some (.bool true) := hb.cell 4
  have y5 : W.cell? ⟨w.heap.size, 5, none⟩ = some (.int .i64 (fo : Int)) := hb.cell 5
  have y6 : W.cell? ⟨w.heap.size, 6, none⟩ = some (.int .u8 (tl : Int)) := hb.cell 6
  have y7 : W.cell? ⟨w.heap.size, 7, none⟩ = some (.int .u8 (pr : Int)) := hb.cell 7
  have y15 : W.cell? ⟨w.heap.size, 15, none⟩ = some (.slice A n k) := hb.cell 15
  have zb := hb.lt
  go_wp2_with (refine at_op (.load 140 (.tmp 1)) rfl ?_; refine wpList_ldA (t := 140) 140 (.tmp 1) rfl rfl (h4C ts (ln : Int) id true true (fo : Int) tl pr sm false 0 sl false 0 dl A n k) rfl (by with_reducible repeat (first | exact hb | refine Bk.later ?_ (below_plus _ _ _) | refine Bk.alloc ?_ _)) (whole_ _) u1 u2 (szH4 _ _ _ _ _ _ _ _ _ _ _ _ _ _ _ _ _ _) ?_)
  refine (HR.out _).mono ?_
  rintro e w1 ⟨bsr, mr, rfl, rfl⟩
  go_wp2_with (refine at_op (.load 140 (.tmp 1)) rfl ?_; refine wpList_ldA (t := 140) 140 (.tmp 1) rfl rfl (h4C ts (ln : Int) id true true (fo : Int) tl pr sm false 0 sl false 0 dl A n k) rfl (by with_reducible repeat (first | exact hb | refine Bk.later ?_ (below_plus _ _ _) | refine Bk.alloc ?_ _)) (whole_ _) u1 u2 (szH4 _ _ _ _ _ _ _ _ _ _ _ _ _ _ _ _ _ _) ?_)
  refine (HS.out _).mono ?_
  rintro e w1 ⟨bs0, m0, rfl, rfl⟩
  go_wp2_with fail
  refine (put_full _ _ _ [] x0 1 _ Rb.nil_ (by omega) (by omega) (by omega) (by omega)).mono ?_
  rintro e w1 ⟨A1, n1, bs1, m1, rfl, rfl, ho1⟩
  have l1 : n1 ≤ 100 := by rw [← ho1.1]; simp [dig_length]
  go_wp2_with fail
  refine (put_full _ _ _ _ ts 1 _ ho1.rb (by omega) (by omega) (by omega) (by omega)).mono ?_
  rintro e w1 ⟨A2, n2, bs2, m2, rfl, rfl, ho2⟩
  have l2 : n2 ≤ 100 := by rw [← ho2.1]; simp [dig_length]
  go_wp2_with fail
  refine (put_full _ _ _ _ ln 2 _ ho2.rb (by omega) (by omega) (by omega) (by omega)).mono ?_
  rintro e w1 ⟨A3, n3, bs3, m3, rfl, rfl, ho3⟩
  have l3 : n3 ≤ 100 := by rw [← ho3.1]; simp [dig_length]
  go_wp2_with fail
  refine (put_full _ _ _ _ id 2 _ ho3.rb (by omega) (by omega) (by omega) (by omega)).mono ?_
  rintro e w1 ⟨A4, n4, bs4, m4, rfl, rfl, ho4⟩
  have l4 : n4 ≤ 100 := by rw [← ho4.1]; simp [dig_length]
  go_wp2_with fail
  refine (put_full _ _ _ _ p 2 _ ho4.rb (by omega) (by omega) (by omega) (by omega)).mono ?_
  rintro e w1 ⟨A5, n5, bs5, m5, rfl, rfl, ho5⟩
  have l5 : n5 ≤ 100 := by rw [← ho5.1]; simp [dig_length]
  go_wp2_with fail
  refine (put_full _ _ _ _ tl 1 _ ho5.rb (by omega) (by omega) (by omega) (by omega)).mono ?_
  rintro e w1 ⟨A6, n6, bs6, m6, rfl, rfl, ho6⟩
  have l6 : n6 ≤ 100 := by rw [← ho6.1]; simp [dig_length]
  go_wp2_with fail
  refine (put_full _ _ _ _ pr 1 _ ho6.rb (by omega) (by omega) (by omega) (by omega)).mono ?_
  rintro e w1 ⟨A7, n7, bs7, m7, rfl, rfl, ho7⟩
  have l7 : n7 ≤ 100 := by rw [← ho7.1]; simp [dig_length]
  go_wp2_with fail
  refine (put_full _ _ _ _ 0 2 _ ho7.rb (by omega) (by omega) (by omega) (by omega)).mono ?_
  rintro e w1 ⟨A8, n8, bs8, m8, rfl, rfl, ho8⟩
  have l8 : n8 ≤ 100 := by rw [← ho8.1]; simp [dig_length]
  go_wp2_with (refine at_op (.load 26 (.tmp 56)) rfl ?_; refine wpList_ldA (t := 140) (cs := h4C ts (ln : Int) id true true (fo : Int) tl pr sm false 0 sl false 0 dl A n k) 26 (.tmp 56) rfl rfl (adC false 0 sl) rfl (by with_reducible repeat (first | exact hb | refine Bk.later ?_ (below_plus _ _ _) | refine Bk.alloc ?_ _)) rfl v1 v2 (szAd _ _ _) ?_)
  refine (adrBytes_any false 0 sl _ (by omega) (by omega)).mono ?_
  rintro e w1 ⟨A9, n9, bs9, m9, rfl, rfl, ho9⟩
  have l9 : n9 ≤ 100 := by rw [← ho9.1]; have := adrB_length false 0 sl; omega
  go_wp2_with (first
    | (at_builtin; refine wpList_appP _ bt rfl (.tmp 55) (.tmp 58) rfl (by exact belowP (below_plus _ bs8 m8) bs9 m9) rfl (ho8.plus_ bs9 m9) rfl (ho9.rb) (by omega) ?_; intro Aa na ka bsa ma hoa hga)
    | (refine at_op (.load 26 (.tmp 61)) rfl ?_; refine wpList_ldA (t := 140) (cs := h4C ts (ln : Int) id true true (fo : Int) tl pr sm false 0 sl false 0 dl A n k) 26 (.tmp 61) rfl rfl (adC false 0 dl) rfl (by with_reducible repeat (first | exact hb | refine Bk.later ?_ (below_plus _ _ _) | refine Bk.alloc ?_ _)) rfl v1 v2 (szAd _ _ _) ?_))
  have la : na ≤ 300 := by rw [← hoa.1]; have := adrB_length false 0 sl; simp [dig_length]; omega
  refine (adrBytes_any false 0 dl _ (by omega) (by omega)).mono ?_
  rintro e w1 ⟨Ab, nb, bsb, mb, rfl, rfl, hob⟩
  have lb : nb ≤ 100 := by rw [← hob.1]; have := adrB_length false 0 dl; omega
  go_wp2_with (first
    | (at_builtin; refine wpList_appP _ bt rfl (.tmp 60) (.tmp 63) rfl (by exact belowP (below_plus _ bsa ma) bsb mb) rfl (hoa.plus_ bsb mb) rfl (hob.rb) (by omega) ?_; intro Ac nc kc bsc mc hoc hgc; have lc : nc ≤ 500 := (by rw [← hoc.1]; have h1 := adrB_length false 0 sl; have h2 := adrB_length false 0 dl; simp [dig_length]; omega))
    | (at_builtin; refine wpList_appP (l2 := o) _ bt rfl (.tmp 65) (.tmp 67) rfl (by exact below_plus _ bsc mc) rfl (hoc) rfl (by with_reducible repeat (first | exact hrW | refine Rb.plus_ ?_ _ _)) (by omega) ?_; intro Ad nd kd bsd md hod hgd))
  have hL : [] ++ dig x0 1 ++ dig ts 1 ++ dig ln 2 ++ dig id 2 ++ dig p 2 ++ dig tl 1 ++ dig pr 1 ++ dig 0 2 ++ adrB false 0 sl ++ adrB false 0 dl ++ o = ip4B ts ln id p tl pr 0 sl dl o := by rw [hx1.out]; simp [ip4B, adrB]
  rw [hL] at hod
  have hset := Lib.hid (fun s => setB_ip4 ts ln id p tl pr s sl dl o)
  have hlen := ip4B_length ts ln id p tl pr 0 sl dl o
  have hK : Hid (ip4K ts ln id p tl pr sl dl o = 65535 - fd (tot false (ip4B ts ln id p tl pr 0 sl dl o))) := Lib.hid rfl
  clear hL
  generalize ip4B ts ln id p tl pr 0 sl dl o = L0 at *
  rw [hol.out] at hlen
  have HO := Lib.hid (fun w A1 c1 (h : RdL w A1 1 [L0]) => sumOf A1 1 c1 _ w h (by omega) (by simp; omega))
  have hs1 : 65535 - fd (tot false L0) ≤ 65535 := Nat.sub_le _ _
  have hfl : ([L0] : List (List UInt8)).flatten = L0 := by simp
  rw [hfl] at HO
  generalize 65535 - fd (tot false L0) = s at *
  have hnd1 : 10 + 2 ≤ nd := by have := hod.1; omega
  have hnd2 : nd ≤ 549755813888 := by have := hod.1; omega
  have hs2 : s < 18446744073709551616 := by omega
  have gs : IntKind.u64.wrap (s : Int) = (s : Int) := IntWalk.u64_in _ (by omega)
  refine (HO.out _ _ _ (RdL.litW [.slice Ad nd kd] [L0] (by simp [size_plus]) (.cons ⟨_, _, _, rfl, hod.rb⟩ .nil))).mono ?_
  rintro e w1 ⟨rfl, rfl⟩
  go_wp2_with fail
  refine (octSet Ad nd kd L0 10 s 2 _ (hod.rb.alloc _) hnd1 (by decide) (by decide) hs2 hnd2).mono ?_
  rintro e w1 ⟨Ae, ne, ke, bse, me, rfl, rfl, hoe⟩
  go_wp2
  go_ret
  rw [hset.out] at hoe
  rw [hK.out]
  refine RetB.mk (hoe.mono ?_) ?_
  · simp [size_plus]; omega
  · with_reducible repeat (first | exact be | refine belowP ?_ _ _ | refine Below.allocS ?_ _)
theorem ip4Bytes_yes (ts ln id : Nat) (st mo : Bool) (fo tl pr sm sl dl : Nat) (A : Option Addr) (n k : Nat) (o : List UInt8) (w : World) (hr : Rb w A n k o) (b1 : ts < 256) (b2 : id < 65536) (b3 : tl < 256) (b4 : pr < 256) (b5 : sl < 4294967296) (b6 : dl < 4294967296) (c1 : n ≤ 40) (c2 : n % 4 = 0) (c3 : 20 + n ≤ ln) (c4 : ln ≤ 65535) (c5 : fo ≤ 8191) : Calls Try.prog 109 #[.agg (h4C ts (ln : Int) id st mo (fo : Int) tl pr sm false 0 sl false 0 dl A n k).toArray] w (RetB w (ip4B ts ln id (pl4 st mo fo) tl pr (ip4K ts ln id (pl4 st mo fo) tl pr sl dl o) sl dl o)) := by
  cases st
  · cases mo
    · exact ip4Bytes_nn ts ln id fo tl pr sm sl dl A n k o w hr b1 b2 b3 b4 b5 b6 c1 c2 c3 c4 c5
    · exact ip4Bytes_ny ts ln id fo tl pr sm sl dl A n k o w hr b1 b2 b3 b4 b5 b6 c1 c2 c3 c4 c5
  · cases mo
    · exact ip4Bytes_yn ts ln id fo tl pr sm sl dl A n k o w hr b1 b2 b3 b4 b5 b6 c1 c2 c3 c4 c5
    · exact ip4Bytes_yy ts ln id fo tl pr sm sl dl A n k o w hr b1 b2 b3 b4 b5 b6 c1 c2 c3 c4 c5
end Go.Proofs.Ytfmkndemkpecpaa

