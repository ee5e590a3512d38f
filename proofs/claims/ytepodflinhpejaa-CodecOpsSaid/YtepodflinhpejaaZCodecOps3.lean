/- Texts of the law CodecOps, part 3. -/
import Derived.Test.YtepodflinhpejaaZCodecOps2
/- Rows of bytes as one operation of a region that draws its order. -/
namespace Go.Proofs.Ytepodflinhpejaa
open Go.RowKit
set_option linter.unusedVariables false

/-- rows of bytes -/
def MP.rdl (L : List (List UInt8)) : MP := ⟨fun v w => ∃ A m c, v = .slice A m c ∧ RdL w A m L, fun _ _ _ ⟨A, m, c, h1, cs, h2, h3, h4, h5⟩ h => ⟨A, m, c, h1, cs, h2, h3, (h4.below h.below).more h.below.size, fun i u hu => by
  obtain ⟨A', n, c, e, l, hl, hr⟩ := h5 i u hu
  exact ⟨A', n, c, e, l, hl, hr.later h.below⟩⟩⟩
inductive Rows_ (w : World) : List Value → List (List UInt8) → Prop
  | nil : Rows_ w [] []
  | cons {v : Value} {l : List UInt8} {vs : List Value} {L : List (List UInt8)} (h : ∃ A n c, v = .slice A n c ∧ Rb w A n c l) (r : Rows_ w vs L) : Rows_ w (v :: vs) (l :: L)
theorem Rows_.len {w : World} {vs : List Value} {L : List (List UInt8)} (h : Rows_ w vs L) : vs.length = L.length := by
  induction h with
  | nil => rfl
  | cons _ _ ih => simp [ih]
theorem Rows_.get {w : World} {vs : List Value} {L : List (List UInt8)} (h : Rows_ w vs L) : ∀ (i : Nat) (u : Value), vs[i]? = some u → ∃ (A' : Option Addr) (n c : Nat), u = Value.slice A' n c ∧ ∃ l, L[i]? = some l ∧ Rb w A' n c l := by
  induction h with
  | nil => intro i u hu; simp at hu
  | cons h _ ih =>
    intro i u hu
    cases i with
    | zero =>
      simp only [List.getElem?_cons_zero, Option.some.injEq] at hu
      subst hu
      obtain ⟨A, n, c, h1, h2⟩ := h
      exact ⟨A, n, c, h1, _, rfl, h2⟩
    | succ i => exact ih i u (by simpa using hu)
theorem RdL.litW {w : World} {k m : Nat} {t : TypeId} (cs : List Value) (L : List (List UInt8)) (hk : k = w.heap.size) (h : Rows_ w cs L) (hm : m = cs.length := by rfl) : RdL (w.alloc (.cells cs.toArray t)) (some ⟨k, 0, none⟩) m L := by
  subst hk hm
  refine ⟨cs, rfl, h.len.symm, .inr ⟨w.heap.size, 0, rfl, by simp, fun i u hu => ?_⟩, fun i u hu => ?_⟩
  · have := (Bk.new w t cs.toArray).cell i
    rw [Nat.zero_add, this]
    simpa using hu
  · obtain ⟨A', n, c, e, l, hl, hr⟩ := h.get i u hu
    exact ⟨A', n, c, e, l, hl, hr.alloc _⟩
end Go.Proofs.Ytepodflinhpejaa

/- counterfoilref23.Op (chapter 23). -/
namespace Go.Proofs.Ytepodflinhpejaa
open Go.RowKit
set_option linter.unusedVariables false
set_option linter.unusedSimpArgs false
attribute [local go_sem ↓] sliced_cut

attribute [local go_sem] cutA_zero

set_option maxHeartbeats 4000000 in
set_option maxRecDepth 100000 in
theorem refOp_any (k v b e : Nat) (six : Bool) (ah al pt pr wy : Nat) (ms : List (Int × Int)) (A : Option Addr) (n c : Nat) (w : World) (k1 : k < 256) (k2 : v < 256) (k3 : b < 256) (k4 : e < 256) (k5 : wy < 256) (h1 : ah < 18446744073709551616) (h2 : al < 18446744073709551616) (h3 : pt < 65536) (h4 : pr < 256) (hr : Rs 2 w A n c (prs .i64 ms)) (hn64 : n ≤ 64)
    (hms : ms.all (fun p => shB p.1 && shB p.2) = true) : Calls Try.prog 15 #[.agg (opC k v b e six ah al pt pr wy A n c).toArray] w (RetRb w (opB k v b e six ah al pt pr wy ms)) := by
  obtain ⟨da, a1, a2⟩ : ∃ d, Try.prog.underlying 24 = some d ∧ d.isRow = true := ⟨_, Try.underlying24, rfl⟩
  have HPL := Lib.hid (fun w => place_any six ah al w h1 h2)
  have HMB := Lib.hid (fun w (h : Rs 2 w A n c (prs .i64 ms)) => refMembers_any ms A n c w h hn64 hms)
  have hr0 := hr
  have hml : ms.length = n := by have := hr.1; rw [prs_length] at this; omega
  have HT : Hid (([[UInt8.ofNat (k), UInt8.ofNat (v), UInt8.ofNat (b), UInt8.ofNat (e)], (placeB six ah al), (dig (pt) 2), [UInt8.ofNat (pr), UInt8.ofNat (wy)], (membersB ms)]).flatten.length ≤ 549755813888) := Lib.hid (by
    have := adrB_length six ah al
    simp [dig_length, placeB_len, membersB, pairsB_len]
    omega)
  have HE : Hid (([[UInt8.ofNat (k), UInt8.ofNat (v), UInt8.ofNat (b), UInt8.ofNat (e)], (placeB six ah al), (dig (pt) 2), [UInt8.ofNat (pr), UInt8.ofNat (wy)], (membersB ms)]).flatten = opB k v b e six ah al pt pr wy ms) := Lib.hid (by
    have d1 : ∀ x : Nat, dig x 1 = [UInt8.ofNat x] := fun x => by
      simp [dig]
      try (apply ofNat_eq; omega)
    simp [opB, d1])
  clear hml
  have hw0 : IntKind.u8.wrap (k : Int) = (k : Int) := IntWalk.u8_in _ (by omega)
  have hw1 : IntKind.u8.wrap (v : Int) = (v : Int) := IntWalk.u8_in _ (by omega)
  have hw2 : IntKind.u8.wrap (b : Int) = (b : Int) := IntWalk.u8_in _ (by omega)
  have hw3 : IntKind.u8.wrap (e : Int) = (e : Int) := IntWalk.u8_in _ (by omega)
  have hw4 : IntKind.u64.wrap (pt : Int) = (pt : Int) := IntWalk.u64_in _ (by omega)
  have hw5 : IntKind.u8.wrap (wy : Int) = (wy : Int) := IntWalk.u8_in _ (by omega)
  obtain ⟨dv1, v1, v2⟩ := rowRo
  have b1 : Bk (w.alloc (.cells (opC k v b e six ah al pt pr wy A n c).toArray 28)) w.heap.size 28 (opC k v b e six ah al pt pr wy A n c) := Bk.new w 28 (opC k v b e six ah al pt pr wy A n c).toArray
  have be : Below w.heap.size w (w.alloc (.cells (opC k v b e six ah al pt pr wy A n c).toArray 28)) := Below.allocS (Below.refl _ _) _
  have zV : w.heap.size + 1 ≤ (w.alloc (.cells (opC k v b e six ah al pt pr wy A n c).toArray 28)).heap.size := by simp
  go_enter Try.func15, Try.ntmps15
  go_upto_region 1 with (fail)
  generalize w.alloc (.cells (opC k v b e six ah al pt pr wy A n c).toArray 28) = V at *
  have HC : Hid (∀ W, Below V.heap.size V W → Rs 2 W A n c (prs .i64 ms)) := Lib.hid (fun W h => hr0.later (be.trans (h.mono (by omega))))
  go_wp2
  refine wp_relS 32 34 rfl (by kernel_rfl) (by kernel_rfl) ?_
  apply Steps.one (MP.eq _) 1 rfl
  · intro o ho FA x hO hD K hK
    obtain rfl := Option.some.inj ho.symm
    clear ho
    have e1 := hO 1 (by kernel_rfl)
    simp only [eval_tmp, List.getElem?_toArray, List.getElem?_cons_succ, List.getElem?_cons_zero, Option.getD_some] at e1
    have ev1 := Lib.hid ((eval_tmp FA 1).trans e1)
    clear hO hD
    go_simp
    exact hK.out _ _ (Ex.refl _) rfl
  apply Steps.one (MP.eq _) 2 rfl
  · intro o ho FA x hO hD K hK
    obtain rfl := Option.some.inj ho.symm
    clear ho
    have ev3 : FA.eval (.tmp 3) = _ := hD 0 3 (by kernel_rfl)
    have e3 := (eval_tmp FA 3).symm.trans ev3
    replace ev3 := Lib.hid ev3
    clear hO hD
    refine wanted_if rfl ?_
    refine wp_ld1 3 (.tmp 3) rfl ev3.out (b1.later (below_plus _ _ _)) rfl Try.underlying3 rfl ?_
    exact hK.out _ _ (Ex.refl _) rfl
  apply Steps.one (MP.eq _) 3 rfl
  · intro o ho FA x hO hD K hK
    obtain rfl := Option.some.inj ho.symm
    clear ho
    have ev4 : FA.eval (.tmp 4) = _ := hD 1 4 (by kernel_rfl)
    have e4 := (eval_tmp FA 4).symm.trans ev4
    replace ev4 := Lib.hid ev4
    clear hO hD
    go_simp
    exact hK.out _ _ (Ex.refl _) rfl
  apply Steps.one (MP.eq _) 4 rfl
  · intro o ho FA x hO hD K hK
    obtain rfl := Option.some.inj ho.symm
    clear ho
    have e1 := hO 1 (by kernel_rfl)
    simp only [eval_tmp, List.getElem?_toArray, List.getElem?_cons_succ, List.getElem?_cons_zero, Option.getD_some] at e1
    have ev1 := Lib.hid ((eval_tmp FA 1).trans e1)
    clear hO hD
    go_simp
    exact hK.out _ _ (Ex.refl _) rfl
  apply Steps.one (MP.eq _) 5 rfl
  · intro o ho FA x hO hD K hK
    obtain rfl := Option.some.inj ho.symm
    clear ho
    have ev6 : FA.eval (.tmp 6) = _ := hD 3 6 (by kernel_rfl)
    have e6 := (eval_tmp FA 6).symm.trans ev6
    replace ev6 := Lib.hid ev6
    clear hO hD
    refine wanted_if rfl ?_
    refine wp_ld1 3 (.tmp 6) rfl ev6.out (b1.later (below_plus _ _ _)) rfl Try.underlying3 rfl ?_
    exact hK.out _ _ (Ex.refl _) rfl
  apply Steps.one (MP.eq _) 6 rfl
  · intro o ho FA x hO hD K hK
    obtain rfl := Option.some.inj ho.symm
    clear ho
    have ev7 : FA.eval (.tmp 7) = _ := hD 4 7 (by kernel_rfl)
    have e7 := (eval_tmp FA 7).symm.trans ev7
    replace ev7 := Lib.hid ev7
    clear hO hD
    go_simp
    exact hK.out _ _ (Ex.refl _) rfl
  apply Steps.one (MP.eq _) 7 rfl
  · intro o ho FA x hO hD K hK
    obtain rfl := Option.some.inj ho.symm
    clear ho
    have e1 := hO 1 (by kernel_rfl)
    simp only [eval_tmp, List.getElem?_toArray, List.getElem?_cons_succ, List.getElem?_cons_zero, Option.getD_some] at e1
    have ev1 := Lib.hid ((eval_tmp FA 1).trans e1)
    clear hO hD
    go_simp
    exact hK.out _ _ (Ex.refl _) rfl
  apply Steps.one (MP.eq _) 8 rfl
  · intro o ho FA x hO hD K hK
    obtain rfl := Option.some.inj ho.symm
    clear ho
    have ev9 : FA.eval (.tmp 9) = _ := hD 6 9 (by kernel_rfl)
    have e9 := (eval_tmp FA 9).symm.trans ev9
    replace ev9 := Lib.hid ev9
    clear hO hD
    refine wanted_if rfl ?_
    refine wp_ld1 3 (.tmp 9) rfl ev9.out (b1.later (below_plus _ _ _)) rfl Try.underlying3 rfl ?_
    exact hK.out _ _ (Ex.refl _) rfl
  apply Steps.one (MP.eq _) 9 rfl
  · intro o ho FA x hO hD K hK
    obtain rfl := Option.some.inj ho.symm
    clear ho
    have ev10 : FA.eval (.tmp 10) = _ := hD 7 10 (by kernel_rfl)
    have e10 := (eval_tmp FA 10).symm.trans ev10
    replace ev10 := Lib.hid ev10
    clear hO hD
    go_simp
    exact hK.out _ _ (Ex.refl _) rfl
  apply Steps.one (MP.eq _) 10 rfl
  · intro o ho FA x hO hD K hK
    obtain rfl := Option.some.inj ho.symm
    clear ho
    have e1 := hO 1 (by kernel_rfl)
    simp only [eval_tmp, List.getElem?_toArray, List.getElem?_cons_succ, List.getElem?_cons_zero, Option.getD_some] at e1
    have ev1 := Lib.hid ((eval_tmp FA 1).trans e1)
    clear hO hD
    go_simp
    exact hK.out _ _ (Ex.refl _) rfl
  apply Steps.one (MP.eq _) 11 rfl
  · intro o ho FA x hO hD K hK
    obtain rfl := Option.some.inj ho.symm
    clear ho
    have ev12 : FA.eval (.tmp 12) = _ := hD 9 12 (by kernel_rfl)
    have e12 := (eval_tmp FA 12).symm.trans ev12
    replace ev12 := Lib.hid ev12
    clear hO hD
    refine wanted_if rfl ?_
    refine wp_ld1 3 (.tmp 12) rfl ev12.out (b1.later (below_plus _ _ _)) rfl Try.underlying3 rfl ?_
    exact hK.out _ _ (Ex.refl _) rfl
  apply Steps.one (MP.eq _) 12 rfl
  · intro o ho FA x hO hD K hK
    obtain rfl := Option.some.inj ho.symm
    clear ho
    have ev13 : FA.eval (.tmp 13) = _ := hD 10 13 (by kernel_rfl)
    have e13 := (eval_tmp FA 13).symm.trans ev13
    replace ev13 := Lib.hid ev13
    clear hO hD
    go_simp
    exact hK.out _ _ (Ex.refl _) rfl
  apply Steps.one (MP.rb [UInt8.ofNat (k), UInt8.ofNat (v), UInt8.ofNat (b), UInt8.ofNat (e)]) 13 rfl
  · intro o ho FA x hO hD K hK
    obtain rfl := Option.some.inj ho.symm
    clear ho
    have ev5 : FA.eval (.tmp 5) = _ := hD 2 5 (by kernel_rfl)
    have e5 := (eval_tmp FA 5).symm.trans ev5
    replace ev5 := Lib.hid ev5
    have ev8 : FA.eval (.tmp 8) = _ := hD 5 8 (by kernel_rfl)
    have e8 := (eval_tmp FA 8).symm.trans ev8
    replace ev8 := Lib.hid ev8
    have ev11 : FA.eval (.tmp 11) = _ := hD 8 11 (by kernel_rfl)
    have e11 := (eval_tmp FA 11).symm.trans ev11
    replace ev11 := Lib.hid ev11
    have ev14 : FA.eval (.tmp 14) = _ := hD 11 14 (by kernel_rfl)
    have e14 := (eval_tmp FA 14).symm.trans ev14
    replace ev14 := Lib.hid ev14
    clear hO hD
    go_simp
    refine hK.out _ _ (Ex.alloc _ _) ⟨_, _, _, rfl, ?_⟩
    refine Rb.litW _ [UInt8.ofNat (k), UInt8.ofNat (v), UInt8.ofNat (b), UInt8.ofNat (e)] ?_ rfl (by decide) ?_
    · simp [size_plus]
    · simp [bcs]; try omega
  apply Steps.one (MP.eq _) 14 rfl
  · intro o ho FA x hO hD K hK
    obtain rfl := Option.some.inj ho.symm
    clear ho
    have e1 := hO 1 (by kernel_rfl)
    simp only [eval_tmp, List.getElem?_toArray, List.getElem?_cons_succ, List.getElem?_cons_zero, Option.getD_some] at e1
    have ev1 := Lib.hid ((eval_tmp FA 1).trans e1)
    clear hO hD
    go_simp
    exact hK.out _ _ (Ex.refl _) rfl
  apply Steps.one (MP.eq (.agg (adC six ah al).toArray)) 15 rfl
  · intro o ho FA x hO hD K hK
    obtain rfl := Option.some.inj ho.symm
    clear ho
    have ev16 : FA.eval (.tmp 16) = _ := hD 13 16 (by kernel_rfl)
    have e16 := (eval_tmp FA 16).symm.trans ev16
    replace ev16 := Lib.hid ev16
    clear hO hD
    refine wanted_if rfl ?_
    refine wp_ldA 24 (.tmp 16) rfl (adC six ah al) ev16.out (b1.later (below_plus _ _ _)) rfl a1 a2 (szAd _ _ _) ?_
    exact hK.out _ _ (Ex.refl _) rfl
  apply Steps.one (MP.rb (placeB six ah al)) 16 rfl
  · intro o ho FA x hO hD K hK
    obtain rfl := Option.some.inj ho.symm
    clear ho
    have ev17 : FA.eval (.tmp 17) = _ := hD 14 17 (by kernel_rfl)
    have e17 := (eval_tmp FA 17).symm.trans ev17
    replace ev17 := Lib.hid ev17
    clear hO hD
    go_simp
    refine (HPL.out _).mono ?_
    rintro e w1 ⟨A2, n2, c2, bs2, d2, rfl, rfl, hx2⟩
    exact hK.out _ _ (Ex.plus_ _ _ _) ⟨_, _, _, rfl, hx2⟩
  apply Steps.one (MP.eq _) 17 rfl
  · intro o ho FA x hO hD K hK
    obtain rfl := Option.some.inj ho.symm
    clear ho
    have e1 := hO 1 (by kernel_rfl)
    simp only [eval_tmp, List.getElem?_toArray, List.getElem?_cons_succ, List.getElem?_cons_zero, Option.getD_some] at e1
    have ev1 := Lib.hid ((eval_tmp FA 1).trans e1)
    clear hO hD
    go_simp
    exact hK.out _ _ (Ex.refl _) rfl
  apply Steps.one (MP.eq _) 18 rfl
  · intro o ho FA x hO hD K hK
    obtain rfl := Option.some.inj ho.symm
    clear ho
    have ev19 : FA.eval (.tmp 19) = _ := hD 16 19 (by kernel_rfl)
    have e19 := (eval_tmp FA 19).symm.trans ev19
    replace ev19 := Lib.hid ev19
    clear hO hD
    refine wanted_if rfl ?_
    refine wp_ld1 25 (.tmp 19) rfl ev19.out (b1.later (below_plus _ _ _)) rfl Try.underlying25 rfl ?_
    exact hK.out _ _ (Ex.refl _) rfl
  apply Steps.one (MP.eq _) 19 rfl
  · intro o ho FA x hO hD K hK
    obtain rfl := Option.some.inj ho.symm
    clear ho
    have ev20 : FA.eval (.tmp 20) = _ := hD 17 20 (by kernel_rfl)
    have e20 := (eval_tmp FA 20).symm.trans ev20
    replace ev20 := Lib.hid ev20
    clear hO hD
    go_simp
    exact hK.out _ _ (Ex.refl _) rfl
  apply Steps.one (MP.rb (dig (pt) 2)) 20 rfl
  · intro o ho FA x hO hD K hK
    obtain rfl := Option.some.inj ho.symm
    clear ho
    have ev21 : FA.eval (.tmp 21) = _ := hD 18 21 (by kernel_rfl)
    have e21 := (eval_tmp FA 21).symm.trans ev21
    replace ev21 := Lib.hid ev21
    clear hO hD
    go_simp
    refine (refBytes_any (pt) 2 _ (by omega) (by omega)).mono ?_
    rintro e w1 ⟨A2, n2, c2, bs2, d2, rfl, rfl, ho2⟩
    exact hK.out _ _ (Ex.plus_ _ _ _) ⟨_, _, _, rfl, ho2.rb⟩
  apply Steps.one (MP.eq _) 21 rfl
  · intro o ho FA x hO hD K hK
    obtain rfl := Option.some.inj ho.symm
    clear ho
    have e1 := hO 1 (by kernel_rfl)
    simp only [eval_tmp, List.getElem?_toArray, List.getElem?_cons_succ, List.getElem?_cons_zero, Option.getD_some] at e1
    have ev1 := Lib.hid ((eval_tmp FA 1).trans e1)
    clear hO hD
    go_simp
    exact hK.out _ _ (Ex.refl _) rfl
  apply Steps.one (MP.eq _) 22 rfl
  · intro o ho FA x hO hD K hK
    obtain rfl := Option.some.inj ho.symm
    clear ho
    have ev23 : FA.eval (.tmp 23) = _ := hD 20 23 (by kernel_rfl)
    have e23 := (eval_tmp FA 23).symm.trans ev23
    replace ev23 := Lib.hid ev23
    clear hO hD
    refine wanted_if rfl ?_
    refine wp_ld1 5 (.tmp 23) rfl ev23.out (b1.later (below_plus _ _ _)) rfl Try.underlying5 rfl ?_
    exact hK.out _ _ (Ex.refl _) rfl
  apply Steps.one (MP.eq _) 23 rfl
  · intro o ho FA x hO hD K hK
    obtain rfl := Option.some.inj ho.symm
    clear ho
    have e1 := hO 1 (by kernel_rfl)
    simp only [eval_tmp, List.getElem?_toArray, List.getElem?_cons_succ, List.getElem?_cons_zero, Option.getD_some] at e1
    have ev1 := Lib.hid ((eval_tmp FA 1).trans e1)
    clear hO hD
    go_simp
    exact hK.out _ _ (Ex.refl _) rfl
  apply Steps.one (MP.eq _) 24 rfl
  · intro o ho FA x hO hD K hK
    obtain rfl := Option.some.inj ho.symm
    clear ho
    have ev25 : FA.eval (.tmp 25) = _ := hD 22 25 (by kernel_rfl)
    have e25 := (eval_tmp FA 25).symm.trans ev25
    replace ev25 := Lib.hid ev25
    clear hO hD
    refine wanted_if rfl ?_
    refine wp_ld1 3 (.tmp 25) rfl ev25.out (b1.later (below_plus _ _ _)) rfl Try.underlying3 rfl ?_
    exact hK.out _ _ (Ex.refl _) rfl
  apply Steps.one (MP.eq _) 25 rfl
  · intro o ho FA x hO hD K hK
    obtain rfl := Option.some.inj ho.symm
    clear ho
    have ev26 : FA.eval (.tmp 26) = _ := hD 23 26 (by kernel_rfl)
    have e26 := (eval_tmp FA 26).symm.trans ev26
    replace ev26 := Lib.hid ev26
    clear hO hD
    go_simp
    exact hK.out _ _ (Ex.refl _) rfl
  apply Steps.one (MP.rb [UInt8.ofNat (pr), UInt8.ofNat (wy)]) 26 rfl
  · intro o ho FA x hO hD K hK
    obtain rfl := Option.some.inj ho.symm
    clear ho
    have ev24 : FA.eval (.tmp 24) = _ := hD 21 24 (by kernel_rfl)
    have e24 := (eval_tmp FA 24).symm.trans ev24
    replace ev24 := Lib.hid ev24
    have ev27 : FA.eval (.tmp 27) = _ := hD 24 27 (by kernel_rfl)
    have e27 := (eval_tmp FA 27).symm.trans ev27
    replace ev27 := Lib.hid ev27
    clear hO hD
    go_simp
    refine hK.out _ _ (Ex.alloc _ _) ⟨_, _, _, rfl, ?_⟩
    refine Rb.litW _ [UInt8.ofNat (pr), UInt8.ofNat (wy)] ?_ rfl (by decide) ?_
    · simp [size_plus]
    · simp [bcs]; try omega
  apply Steps.one (MP.eq _) 27 rfl
  · intro o ho FA x hO hD K hK
    obtain rfl := Option.some.inj ho.symm
    clear ho
    have e1 := hO 1 (by kernel_rfl)
    simp only [eval_tmp, List.getElem?_toArray, List.getElem?_cons_succ, List.getElem?_cons_zero, Option.getD_some] at e1
    have ev1 := Lib.hid ((eval_tmp FA 1).trans e1)
    clear hO hD
    go_simp
    exact hK.out _ _ (Ex.refl _) rfl
  apply Steps.one (MP.eq _) 28 rfl
  · intro o ho FA x hO hD K hK
    obtain rfl := Option.some.inj ho.symm
    clear ho
    have ev29 : FA.eval (.tmp 29) = _ := hD 26 29 (by kernel_rfl)
    have e29 := (eval_tmp FA 29).symm.trans ev29
    replace ev29 := Lib.hid ev29
    clear hO hD
    refine wanted_if rfl ?_
    refine wp_ld1 26 (.tmp 29) rfl ev29.out (b1.later (below_plus _ _ _)) rfl Try.underlying26 rfl ?_
    exact hK.out _ _ (Ex.refl _) rfl
  apply Steps.one (MP.rb (membersB ms)) 29 rfl
  · intro o ho FA x hO hD K hK
    obtain rfl := Option.some.inj ho.symm
    clear ho
    have ev30 : FA.eval (.tmp 30) = _ := hD 27 30 (by kernel_rfl)
    have e30 := (eval_tmp FA 30).symm.trans ev30
    replace ev30 := Lib.hid ev30
    clear hO hD
    go_simp
    refine (HMB.out _ (HC.out _ (below_plus _ _ _))).mono ?_
    rintro e w1 ⟨A2, n2, c2, bs2, d2, rfl, rfl, hx2⟩
    exact hK.out _ _ (Ex.plus_ _ _ _) ⟨_, _, _, rfl, hx2⟩
  apply Steps.one (MP.rdl [[UInt8.ofNat (k), UInt8.ofNat (v), UInt8.ofNat (b), UInt8.ofNat (e)], (placeB six ah al), (dig (pt) 2), [UInt8.ofNat (pr), UInt8.ofNat (wy)], (membersB ms)]) 30 rfl
  · intro o ho FA x hO hD K hK
    obtain rfl := Option.some.inj ho.symm
    clear ho
    have f15 := hD 12 15 (by kernel_rfl)
    generalize eu15 : FA.eval (.tmp 15) = u15 at f15
    have e15 := (eval_tmp FA 15).symm.trans eu15
    have ev15 := Lib.hid eu15
    clear eu15
    have f18 := hD 15 18 (by kernel_rfl)
    generalize eu18 : FA.eval (.tmp 18) = u18 at f18
    have e18 := (eval_tmp FA 18).symm.trans eu18
    have ev18 := Lib.hid eu18
    clear eu18
    have f22 := hD 19 22 (by kernel_rfl)
    generalize eu22 : FA.eval (.tmp 22) = u22 at f22
    have e22 := (eval_tmp FA 22).symm.trans eu22
    have ev22 := Lib.hid eu22
    clear eu22
    have f28 := hD 25 28 (by kernel_rfl)
    generalize eu28 : FA.eval (.tmp 28) = u28 at f28
    have e28 := (eval_tmp FA 28).symm.trans eu28
    have ev28 := Lib.hid eu28
    clear eu28
    have f31 := hD 28 31 (by kernel_rfl)
    generalize eu31 : FA.eval (.tmp 31) = u31 at f31
    have e31 := (eval_tmp FA 31).symm.trans eu31
    have ev31 := Lib.hid eu31
    clear eu31
    clear hO hD
    obtain ⟨A15, n15, c15, rfl, h15⟩ := f15
    obtain ⟨A18, n18, c18, rfl, h18⟩ := f18
    obtain ⟨A22, n22, c22, rfl, h22⟩ := f22
    obtain ⟨A28, n28, c28, rfl, h28⟩ := f28
    obtain ⟨A31, n31, c31, rfl, h31⟩ := f31
    go_simp
    refine hK.out _ _ (Ex.alloc _ _) ⟨_, _, _, rfl, ?_⟩
    refine RdL.litW _ _ ?_ ?_
    · simp [size_plus]
    · exact .cons ⟨_, _, _, rfl, h15⟩ (.cons ⟨_, _, _, rfl, h18⟩ (.cons ⟨_, _, _, rfl, h22⟩ (.cons ⟨_, _, _, rfl, h28⟩ (.cons ⟨_, _, _, rfl, h31⟩ (.nil)))))
  apply Steps.one (MP.ob w.heap.size ([[UInt8.ofNat (k), UInt8.ofNat (v), UInt8.ofNat (b), UInt8.ofNat (e)], (placeB six ah al), (dig (pt) 2), [UInt8.ofNat (pr), UInt8.ofNat (wy)], (membersB ms)]).flatten) 31 rfl
  · intro o ho FA x hO hD K hK
    obtain rfl := Option.some.inj ho.symm
    clear ho
    have f32 := hD 29 32 (by kernel_rfl)
    generalize eu32 : FA.eval (.tmp 32) = u32 at f32
    have e32 := (eval_tmp FA 32).symm.trans eu32
    have ev32 := Lib.hid eu32
    clear eu32
    clear hO hD
    obtain ⟨A1, m1, c1, rfl, hl1⟩ := f32
    have hm1 : m1 ≤ 100 := by obtain ⟨_, _, h2, _⟩ := hl1; simp only [List.length_cons, List.length_nil] at h2; omega
    go_simp
    refine (refJoin_any A1 m1 c1 _ _ hl1 (by omega) HT.out).mono ?_
    rintro e w1 ⟨A2, n2, c2, bs2, d2, rfl, rfl, ho2⟩
    exact hK.out _ _ (Ex.plus_ _ _ _) ⟨_, _, _, rfl, ho2.mono (by simp [size_plus]; omega)⟩
  apply Steps.one (MP.ob w.heap.size ([[UInt8.ofNat (k), UInt8.ofNat (v), UInt8.ofNat (b), UInt8.ofNat (e)], (placeB six ah al), (dig (pt) 2), [UInt8.ofNat (pr), UInt8.ofNat (wy)], (membersB ms)]).flatten) 32 rfl
  · intro o ho FA x hO hD K hK
    obtain rfl := Option.some.inj ho.symm
    clear ho
    have f33 := hD 30 33 (by kernel_rfl)
    generalize eu33 : FA.eval (.tmp 33) = u33 at f33
    have e33 := (eval_tmp FA 33).symm.trans eu33
    have ev33 := Lib.hid eu33
    clear eu33
    clear hO hD
    go_simp
    exact hK.out _ _ (Ex.refl _) f33
  refine Steps.fin_ (fun vs x hp => ?_)
  have p0 : vs 0 = _ := hp 0 (by omega)
  have p1 : vs 1 = _ := hp 1 (by omega)
  have p2 : vs 2 = _ := hp 2 (by omega)
  have p3 : vs 3 = _ := hp 3 (by omega)
  have p4 : vs 4 = _ := hp 4 (by omega)
  have p5 : vs 5 = _ := hp 5 (by omega)
  have p6 : vs 6 = _ := hp 6 (by omega)
  have p7 : vs 7 = _ := hp 7 (by omega)
  have p8 : vs 8 = _ := hp 8 (by omega)
  have p9 : vs 9 = _ := hp 9 (by omega)
  have p10 : vs 10 = _ := hp 10 (by omega)
  have p11 : vs 11 = _ := hp 11 (by omega)
  have p12 := hp 12 (by omega)
  have p13 : vs 13 = _ := hp 13 (by omega)
  have p14 : vs 14 = _ := hp 14 (by omega)
  have p15 := hp 15 (by omega)
  have p16 : vs 16 = _ := hp 16 (by omega)
  have p17 : vs 17 = _ := hp 17 (by omega)
  have p18 : vs 18 = _ := hp 18 (by omega)
  have p19 := hp 19 (by omega)
  have p20 : vs 20 = _ := hp 20 (by omega)
  have p21 : vs 21 = _ := hp 21 (by omega)
  have p22 : vs 22 = _ := hp 22 (by omega)
  have p23 : vs 23 = _ := hp 23 (by omega)
  have p24 : vs 24 = _ := hp 24 (by omega)
  have p25 := hp 25 (by omega)
  have p26 : vs 26 = _ := hp 26 (by omega)
  have p27 : vs 27 = _ := hp 27 (by omega)
  have p28 := hp 28 (by omega)
  have p29 := hp 29 (by omega)
  have p30 := hp 30 (by omega)
  have p31 := hp 31 (by omega)
  clear hp
  simp only [List.take_succ_cons, List.take_zero, List.drop_succ_cons, List.drop_zero, putAll, Nat.zero_add, Nat.reduceAdd, Act.put, List.setIfInBounds_toArray, List.set_cons_zero, List.set_cons_succ, p0, p1, p2, p3, p4, p5, p6, p7, p8, p9, p10, p11, p13, p14, p16, p17, p18, p20, p21, p22, p23, p24, p26, p27]
  clear p0 p1 p2 p3 p4 p5 p6 p7 p8 p9 p10 p11 p13 p14 p16 p17 p18 p20 p21 p22 p23 p24 p26 p27
  generalize vs 12 = y12 at *
  generalize vs 15 = y15 at *
  generalize vs 19 = y19 at *
  generalize vs 25 = y25 at *
  generalize vs 28 = y28 at *
  generalize vs 29 = y29 at *
  generalize vs 30 = y30 at *
  generalize vs 31 = y31 at *
  clear vs
  obtain ⟨A9, n9, c9, rfl, h9⟩ := p31
  go_wp2
  go_ret
  rw [HE.out] at h9
  exact RetRb.mk h9.rb (belowP be x.bs x.d)
end Go.Proofs.Ytepodflinhpejaa

/- A slice of structs of two ints that came in. -/
namespace Go.Proofs.Ytepodflinhpejaa
open Go.RowKit Go.ChangeShapes Go.WideShapes Go.Deep
set_option linter.unusedVariables false
set_option linter.unusedSimpArgs false

/-- the pairs that two families make -/
theorem prs_fn (F : Nat → Int × Int) : ∀ (n i : Nat) (u : Value), (prs .i64 ((List.range n).map F))[i]? = some u → i < n * 2 ∧ (i % 2 = 0 ∧ u = .int .i64 (F (i / 2)).1 ∨ i % 2 = 1 ∧ u = .int .i64 (F (i / 2)).2) := by
  intro n i u hu
  have hi : i < (prs .i64 ((List.range n).map F)).length := (List.getElem?_eq_some_iff.1 hu).1
  rw [prs_length, List.length_map, List.length_range] at hi
  have hk : i / 2 < ((List.range n).map F).length := by rw [List.length_map, List.length_range]; omega
  have h := prs_at .i64 ((List.range n).map F) (i / 2) hk
  simp only [List.getElem_map, List.getElem_range] at h
  refine ⟨hi, ?_⟩
  rcases Nat.mod_two_eq_zero_or_one i with h0 | h0
  · rw [show 2 * (i / 2) = i by omega] at h
    exact .inl ⟨h0, (Option.some.inj (hu.symm.trans h.1))⟩
  · rw [show 2 * (i / 2) + 1 = i by omega] at h
    exact .inr ⟨h0, (Option.some.inj (hu.symm.trans h.2))⟩
end Go.Proofs.Ytepodflinhpejaa

/- Addresses that came in; lists of a known length. -/
namespace Go.Proofs.Ytepodflinhpejaa
open Go.RowKit Go.ChangeShapes Go.WideShapes
set_option linter.unusedVariables false

theorem listN9 {α : Type} {l : List α} (h : l.length = 9) : ∃ a0 a1 a2 a3 a4 a5 a6 a7 a8, l = [a0, a1, a2, a3, a4, a5, a6, a7, a8] := by
  match l, h with
  | [a0, a1, a2, a3, a4, a5, a6, a7, a8], _ => exact ⟨a0, a1, a2, a3, a4, a5, a6, a7, a8, rfl⟩
theorem listN11 {α : Type} {l : List α} (h : l.length = 11) : ∃ a0 a1 a2 a3 a4 a5 a6 a7 a8 a9 a10, l = [a0, a1, a2, a3, a4, a5, a6, a7, a8, a9, a10] := by
  match l, h with
  | [a0, a1, a2, a3, a4, a5, a6, a7, a8, a9, a10], _ => exact ⟨a0, a1, a2, a3, a4, a5, a6, a7, a8, a9, a10, rfl⟩
theorem list3 {α : Type} {l : List α} (h : l.length = 3) : ∃ a b c, l = [a, b, c] := by
  match l, h with
  | [a, b, c], _ => exact ⟨a, b, c, rfl⟩
set_option maxRecDepth 100000 in
theorem open_adr_cells {H : Type} {enc : TypeId × Value → H} {W : World} {m : Nat} {cs : List Value} {y : DataW H × List MemPlace}
    (hf : DataW.trod enc Try.prog W 0 (fun _ => true) true m 24 cs = some y) : ∃ six, ∃ ah al : Nat, cs = [.bool six, .int .u64 ah, .int .u64 al] ∧ ah < 18446744073709551616 ∧ al < 18446744073709551616 := by
  obtain ⟨xs, n, _, _, hl, hlen, hg⟩ := DataW.trod_struct Try.underlying24 hf
  have hC0 : Try.prog.cellsOf 4 = 1 := by kernel_rfl
  have hC1 : Try.prog.cellsOf 22 = 1 := by kernel_rfl
  have hCR : Try.prog.cellsOf 24 = 3 := by kernel_rfl
  rw [hCR] at hl
  obtain ⟨c0, c1, c2, rfl⟩ := list3 hl
  have hx : xs.length = 3 := by rw [hlen]; rfl
  obtain ⟨x0, x1, x2, rfl⟩ := list3 hx
  have h0 := hg 0 _ rfl
  have h1 := hg 1 _ rfl
  have h2 := hg 2 _ rfl
  simp only [List.getElem_toArray, List.getElem_cons_zero, List.getElem_cons_succ, hC0, hC1, List.drop_zero, List.drop_succ_cons, List.take_succ_cons, List.take_zero, List.getElem?_cons_zero, List.getElem?_cons_succ] at h0 h1 h2
  obtain ⟨b, hb, _⟩ := DataW.trod_bool Try.underlying4 h0
  obtain ⟨z1, hz1, _, hw1⟩ := DataW.trod_int Try.underlying22 h1
  obtain ⟨z2, hz2, _, hw2⟩ := DataW.trod_int Try.underlying22 h2
  have b1 := bounds_u64 hw1
  have b2 := bounds_u64 hw2
  simp only [List.cons.injEq, and_true] at hb hz1 hz2
  subst hb hz1 hz2
  exact ⟨b, z1.toNat, z2.toNat, by simp; omega, by omega, by omega⟩
end Go.Proofs.Ytepodflinhpejaa

/- Operations (counterfoilref22.Op) that came in: one, and slices of them. -/
namespace Go.Proofs.Ytepodflinhpejaa
open Go.RowKit Go.ChangeShapes Go.WideShapes Go.Deep
set_option linter.unusedVariables false
set_option linter.unusedSimpArgs false

theorem open_prs_cell {H : Type} {enc : TypeId × Value → H} {P : Program} {W : World} {t e : TypeId} {mm : Nat} {f0 f1 : Field} {v : Value} {y : DataW H × List MemPlace}
    (ht : P.underlying t = some (.slice e)) (he : P.underlying e = some (.struct #[f0, f1])) (ce : P.cellsOf e = 2) (o0 : f0.offset = 0) (o1 : f1.offset = 1) (c0 : P.cellsOf f0.type = 1) (c1 : P.cellsOf f1.type = 1)
    (k0 : P.underlying f0.type = some (.int .i64)) (k1 : P.underlying f1.type = some (.int .i64))
    (hf : DataW.trod enc P W 0 (fun _ => true) true mm t [v] = some y) :
    ∃ A c, ∃ L : List (Int × Int), v = .slice A L.length c ∧ L.length ≤ c ∧ c ≤ maxLen ∧ Rd W W.heap.size A (prs .i64 L) ∧ ∀ q ∈ L, (Lit.int .i64 q.1).wf = true ∧ (Lit.int .i64 q.2).wf = true := by
  rcases open_slice_pairs ht he ce o0 o1 c0 c1 hf with ⟨hcs, _⟩ | ⟨a, l', c', m, n, V0, V1, D0, D1, P0, P1, hcs, _, hl, hm, hmm, _, hx⟩
  · simp at hcs
    exact ⟨none, 0, [], hcs, by simp, by simp, .inl rfl, fun q hq => by simp at hq⟩
  · simp at hcs
    have hlm : l' ≤ m := by rw [hmm]; split <;> omega
    have each : ∀ i, i < l' → ∃ q : Int × Int, W.cell? (a.add (i * 2)) = some (.int .i64 q.1) ∧ W.cell? (a.add (i * 2 + 1)) = some (.int .i64 q.2) ∧ (Lit.int .i64 q.1).wf = true ∧ (Lit.int .i64 q.2).wf = true := by
      intro i hi
      obtain ⟨h0, h1, t0, t1⟩ := hx i (by omega)
      obtain ⟨n0, e0, _, w0⟩ := DataW.trod_int k0 t0
      obtain ⟨n1, e1, _, w1⟩ := DataW.trod_int k1 t1
      injection e0 with e0
      injection e1 with e1
      exact ⟨(n0, n1), by rw [← e0]; exact h0, by rw [← e1]; exact h1, w0, w1⟩
    obtain ⟨F, hF⟩ := choose_lt each
    refine ⟨some a, c', (List.range l').map F, by simpa using hcs, by simpa using hl, hm, ?_, ?_⟩
    · rcases Nat.eq_zero_or_pos l' with h0 | h0
      · exact .inl (by simp [h0, prs])
      · have hc0 := (hF 0 h0).1
        obtain ⟨b, off, spot⟩ := a
        have hspot : spot = none := by simpa [Addr.add] using World.cell?_spot hc0
        subst hspot
        refine .inr ⟨b, off, rfl, lt_of_cell hc0, fun i u hu => ?_⟩
        obtain ⟨hi, h⟩ := prs_fn F l' i u hu
        have hF' := hF (i / 2) (by omega)
        rw [add_plain, add_plain] at hF'
        rcases h with ⟨hm2, rfl⟩ | ⟨hm2, rfl⟩
        · rw [show off + i = off + i / 2 * 2 by omega]; exact hF'.1
        · rw [show off + i = off + (i / 2 * 2 + 1) by omega]; exact hF'.2.1
    · intro q hq
      obtain ⟨i, hi, rfl⟩ := List.mem_map.1 hq
      exact ⟨(hF i (List.mem_range.1 hi)).2.2.1, (hF i (List.mem_range.1 hi)).2.2.2⟩
/-- an operation that came in: its letters, and where its members lie -/
structure OpX where
  k : Int
  v : Int
  b : Int
  e : Int
  six : Bool
  ah : Nat
  al : Nat
  pt : Nat
  pr : Nat
  wy : Int
  ms : List (Int × Int)
  A : Option Addr
  n : Nat
  c : Nat
instance : Inhabited OpX := ⟨⟨0, 0, 0, 0, false, 0, 0, 0, 0, 0, [], none, 0, 0⟩⟩
def OpX.cs (x : OpX) : List Value := opC x.k x.v x.b x.e x.six x.ah x.al x.pt x.pr x.wy x.A x.n x.c
def OpX.ok (W : World) (x : OpX) : Prop := ((-9223372036854775808 ≤ x.k ∧ x.k ≤ 9223372036854775807) ∧ (-9223372036854775808 ≤ x.v ∧ x.v ≤ 9223372036854775807) ∧ (-9223372036854775808 ≤ x.b ∧ x.b ≤ 9223372036854775807) ∧ (-9223372036854775808 ≤ x.e ∧ x.e ≤ 9223372036854775807) ∧ (-9223372036854775808 ≤ x.wy ∧ x.wy ≤ 9223372036854775807)) ∧ x.ah < 18446744073709551616 ∧ x.al < 18446744073709551616 ∧ x.pt < 65536 ∧ x.pr < 256 ∧ Rs 2 W x.A x.n x.c (prs .i64 x.ms) ∧ x.c ≤ maxLen ∧ ∀ q ∈ x.ms, (Lit.int .i64 q.1).wf = true ∧ (Lit.int .i64 q.2).wf = true
set_option maxRecDepth 100000 in
theorem open_opx {H : Type} {enc : TypeId × Value → H} {W : World} {m : Nat} {cs : List Value} {y : DataW H × List MemPlace}
    (hf : DataW.trod enc Try.prog W 0 (fun _ => true) true m 28 cs = some y) : ∃ x : OpX, cs = x.cs ∧ x.ok W := by
  obtain ⟨xs, nn, _, _, hl, hlen, hg⟩ := DataW.trod_struct Try.underlying28 hf
  have hCadr : Try.prog.cellsOf 24 = 3 := by kernel_rfl
  have hCint : Try.prog.cellsOf 3 = 1 := by kernel_rfl
  have hCu16 : Try.prog.cellsOf 25 = 1 := by kernel_rfl
  have hCu8 : Try.prog.cellsOf 5 = 1 := by kernel_rfl
  have hCsl : Try.prog.cellsOf 26 = 1 := by kernel_rfl
  have hCR : Try.prog.cellsOf 28 = 11 := by kernel_rfl
  rw [hCR] at hl
  obtain ⟨c0, c1, c2, c3, c4, c5, c6, c7, c8, c9, c10, rfl⟩ := listN11 hl
  have hx : xs.length = 9 := by rw [hlen]; rfl
  obtain ⟨x0, x1, x2, x3, x4, x5, x6, x7, x8, rfl⟩ := listN9 hx
  have h0 := hg 0 _ rfl
  have h1 := hg 1 _ rfl
  have h2 := hg 2 _ rfl
  have h3 := hg 3 _ rfl
  have h4 := hg 4 _ rfl
  have h5 := hg 5 _ rfl
  have h6 := hg 6 _ rfl
  have h7 := hg 7 _ rfl
  have h8 := hg 8 _ rfl
  simp only [List.getElem_toArray, List.getElem_cons_zero, List.getElem_cons_succ, hCadr, hCint, hCu16, hCu8, hCsl, List.drop_zero, List.drop_succ_cons, List.take_succ_cons, List.take_zero, List.getElem?_cons_zero, List.getElem?_cons_succ] at h0 h1 h2 h3 h4 h5 h6 h7 h8
  obtain ⟨k, e0, -, w0⟩ := DataW.trod_int Try.underlying3 h0
  have b0 := bounds_i64 w0
  obtain ⟨v, e1, -, w1⟩ := DataW.trod_int Try.underlying3 h1
  have b1 := bounds_i64 w1
  obtain ⟨b, e2, -, w2⟩ := DataW.trod_int Try.underlying3 h2
  have b2 := bounds_i64 w2
  obtain ⟨e, e3, -, w3⟩ := DataW.trod_int Try.underlying3 h3
  have b3 := bounds_i64 w3
  obtain ⟨a6, ah, al, e4, p4, q4⟩ := open_adr_cells h4
  obtain ⟨zpt, e5, -, w5⟩ := DataW.trod_int Try.underlying25 h5
  have b5 := bounds_u16 w5
  obtain ⟨zpr, e6, -, w6⟩ := DataW.trod_int Try.underlying5 h6
  have b6 := bounds_u8 w6
  obtain ⟨wy, e7, -, w7⟩ := DataW.trod_int Try.underlying3 h7
  have b7 := bounds_i64 w7
  obtain ⟨A, c, ms, rfl, hlm, hcm, hrd, hwf⟩ := open_prs_cell Try.underlying26 Try.underlying106 (by kernel_rfl) rfl rfl (by kernel_rfl) (by kernel_rfl) Try.underlying3 Try.underlying3 h8
  simp only [List.cons.injEq, and_true] at e0 e1 e2 e3 e4 e5 e6 e7
  subst e0
  subst e1
  subst e2
  subst e3
  obtain ⟨rfl, rfl, rfl⟩ := e4
  subst e5
  subst e6
  subst e7
  refine ⟨⟨k, v, b, e, a6, ah, al, zpt.toNat, zpr.toNat, wy, ms, A, ms.length, c⟩, ?_, ?_⟩
  rotate_left
  · show ((-9223372036854775808 ≤ k ∧ k ≤ 9223372036854775807) ∧ (-9223372036854775808 ≤ v ∧ v ≤ 9223372036854775807) ∧ (-9223372036854775808 ≤ b ∧ b ≤ 9223372036854775807) ∧ (-9223372036854775808 ≤ e ∧ e ≤ 9223372036854775807) ∧ (-9223372036854775808 ≤ wy ∧ wy ≤ 9223372036854775807)) ∧ ah < 18446744073709551616 ∧ al < 18446744073709551616 ∧ zpt.toNat < 65536 ∧ zpr.toNat < 256 ∧ Rs 2 W A ms.length c (prs .i64 ms) ∧ c ≤ maxLen ∧ _
    exact ⟨⟨by omega, by omega, by omega, by omega, by omega⟩, p4, q4, by omega, by omega, ⟨by simp only [prs_length], hlm, hrd⟩, hcm, hwf⟩
  simp only [OpX.cs, opC]
  rw [Int.toNat_of_nonneg (show 0 ≤ zpt by omega), Int.toNat_of_nonneg (show 0 ≤ zpr by omega)]
set_option maxRecDepth 100000 in
theorem open_op {H : Type} {enc : TypeId × Value → H} {W : World} {base : Nat} {v : Value} {dt : DataW H} {p : List MemPlace} (hv : Value.okWide Try.prog W .any base 28 v) (h : DataW.Trod enc Try.prog W 0 (fun _ => true) true 28 v dt p) : ∃ x : OpX, v = .agg x.cs.toArray ∧ x.ok W := by
  obtain ⟨arr, rfl, hsz⟩ := okWide_struct Try.underlying28 hv
  obtain ⟨fuel, hf⟩ := h
  obtain ⟨x, hx, ho⟩ := open_opx hf
  refine ⟨x, ?_, ho⟩
  congr 1
  apply Array.toList_inj.1
  simpa [Value.cells] using hx
end Go.Proofs.Ytepodflinhpejaa

/- CodecOps' walk (chapter 23). -/
namespace Go.Proofs.Ytepodflinhpejaa
open Go.RowKit
set_option linter.unusedVariables false
set_option linter.unusedSimpArgs false
attribute [local go_sem ↓] sliced_cut

attribute [local go_sem] cutA_zero

def MP.op (F : Option Addr → Nat → Nat → List Value) (n : Nat) (cs : List Value) : MP := ⟨fun v w => ∃ A c, v = .agg (F A n c).toArray ∧ Rs 2 w A n c cs, fun _ _ _ ⟨A, c, h1, h2⟩ h => ⟨A, c, h1, h2.later h.below⟩⟩
theorem po_same {L : List UInt8} {o1 o2 : OpR} {k1 k2 : Bool} (h1 : k1 = true ∧ popS L = some o1 ∨ k1 = false ∧ popS L = none ∧ o1 = ⟨0, 0, 0, 0, false, 0, 0, 0, 0, 0, []⟩) (h2 : k2 = true ∧ popS L = some o2 ∨ k2 = false ∧ popS L = none ∧ o2 = ⟨0, 0, 0, 0, false, 0, 0, 0, 0, 0, []⟩) : o2 = o1 ∧ k2 = k1 := by
  rcases h1 with ⟨rfl, h1⟩ | ⟨rfl, h1, rfl⟩ <;> rcases h2 with ⟨rfl, h2⟩ | ⟨rfl, h2, rfl⟩
  · rw [h1] at h2; injection h2 with h2; exact ⟨h2.symm, rfl⟩
  · rw [h1] at h2; cases h2
  · rw [h1] at h2; cases h2
  · exact ⟨rfl, rfl⟩
theorem wpList_bs {P : Program} {w : World} {ops : Array Oper} {rest : List Oper} {o : Oper} {a : Act} {Q : Exit → Act → World → Prop} (ty : TypeId) (n : Nat) (ps : List (Nat × Operand)) (ho : o.op = .buildSlice ty n ps.toArray) (hgd : o.guard = none) (v : Value) (w' : World)
    (hv : (Instr.buildSlice ty n (ps.map fun p => (p.1, a.eval p.2)).toArray).run P w = .ok v w') (h : wpList P ops Q rest (a.put o.dst v) w') : wpList P ops Q (o :: rest) a w := by
  refine wpList_plain hgd fun _ hK => ?_
  unfold Oper.wp execOp
  simp only [ho, Sem.run_bind, List.map_toArray, hv, Result.andThen_ok, Sem.run_pure]
  exact hK _ _ h
set_option maxRecDepth 100000 in
theorem run_bsRo (k v b e : Int) (six : Bool) (ah al pt pr : Nat) (wy : Int) (A : Option Addr) (n c : Nat) (w : World) : (Instr.buildSlice 31 1 #[(0, .agg (opC k v b e six ah al pt pr wy A n c).toArray)]).run Try.prog w = .ok (.slice (some ⟨w.heap.size, 0, none⟩) 1 1) (w.alloc (.cells (opC k v b e six ah al pt pr wy A n c).toArray 28)) := by kernel_rfl
theorem po_is {L : List UInt8} {o1 o : OpR} {k1 : Bool} (h1 : k1 = true ∧ popS L = some o1 ∨ k1 = false ∧ popS L = none ∧ o1 = ⟨0, 0, 0, 0, false, 0, 0, 0, 0, 0, []⟩) (h : popS L = some o) : o1 = o ∧ k1 = true := by
  rcases h1 with ⟨rfl, h1⟩ | ⟨rfl, h1, rfl⟩
  · rw [h1] at h; injection h with h; exact ⟨h, rfl⟩
  · rw [h1] at h; cases h
theorem right_nats {k v b e : Int} {six : Bool} {ah al : Nat} {wy : Int} {ms : List (Int × Int)} (h : rightB k v b e six ah al wy ms = true) : ∃ kn vn bn en wn : Nat, k = kn ∧ v = vn ∧ b = bn ∧ e = en ∧ wy = wn ∧ kn < 256 ∧ vn < 256 ∧ bn < 256 ∧ en < 256 ∧ wn < 256 ∧ ms.length ≤ 64 ∧ adG six ah al = true ∧ ms.all (fun p => shB p.1 && shB p.2) = true := by
  simp only [rightB, Bool.and_eq_true, decide_eq_true_eq] at h
  obtain ⟨⟨⟨⟨⟨h1, h2⟩, h3⟩, h4⟩, h5⟩, h6, h7, h8⟩ := h
  have f : ∀ z : Int, shB z = true → 0 ≤ z ∧ z < 256 := fun z hz => by simpa [shB] using hz
  have := f k h1; have := f v h2; have := f b h3; have := f e h4; have := f wy h5
  exact ⟨k.toNat, v.toNat, b.toNat, e.toNat, wy.toNat, by omega, by omega, by omega, by omega, by omega, by omega, by omega, by omega, by omega, by omega, h7, h6, h8⟩
theorem opB_len (k v b e : Nat) (six : Bool) (ah al pt pr wy : Nat) (ms : List (Int × Int)) (h : ms.length ≤ 64) : (opB k v b e six ah al pt pr wy ms).length ≤ 300 := by
  have h1 : (adrB six ah al).length ≤ 16 := by rw [adrB_size]; cases six <;> decide
  have h2 : (membersB ms).length = 1 + 2 * ms.length := by
    unfold membersB pairsB
    rw [List.length_append, dig_length]
    have := pairsB_len ms
    unfold pairsB at this
    rw [this]
  unfold opB
  simp only [List.length_append, dig_length, placeB_len]
  omega
set_option maxHeartbeats 4000000 in
set_option maxRecDepth 100000 in
theorem codecOps_walk (k v b e : Int) (six : Bool) (ah al pt pr : Nat) (wy : Int) (ms : List (Int × Int)) (A : Option Addr) (n c : Nat) (B : Option Addr) (m cb : Nat) (L : List UInt8) (w : World)
    (a1 : ah < 18446744073709551616) (a2 : al < 18446744073709551616) (a3 : pt < 65536) (a4 : pr < 256) (hr : Rs 2 w A n c (prs .i64 ms)) (hn : n ≤ 9223372036854775807) (hb : Rb w B m cb L) (hm : m ≤ 9223372036854775807) : Calls Try.prog 3 #[.agg (opC k v b e six ah al pt pr wy A n c).toArray, .slice B m cb] w (RetV w (.bool true)) := by
  obtain ⟨dv1, vr1, vr2⟩ := rowRo
  obtain ⟨dw1, wr1, wr2⟩ := rowOpC
  have b0 : Bk (w.alloc (.cells (opC k v b e six ah al pt pr wy A n c).toArray 28)) w.heap.size 28 (opC k v b e six ah al pt pr wy A n c) := Bk.new w 28 (opC k v b e six ah al pt pr wy A n c).toArray
  have be : Below w.heap.size w (w.alloc (.cells (opC k v b e six ah al pt pr wy A n c).toArray 28)) := Below.allocS (Below.refl _ _) _
  replace hr := (hr.alloc (.cells (opC k v b e six ah al pt pr wy A n c).toArray 28))
  replace hb := (hb.alloc (.cells (opC k v b e six ah al pt pr wy A n c).toArray 28))
  have zV : w.heap.size + 1 ≤ (w.alloc (.cells (opC k v b e six ah al pt pr wy A n c).toArray 28)).heap.size := by simp
  go_enter Try.func3, Try.ntmps3
  go_upto_region 1 with (fail)
  generalize w.alloc (.cells (opC k v b e six ah al pt pr wy A n c).toArray 28) = V at *
  go_upto_region 1 with (fail)
  refine wp_region_lit ?_
  refine wpList_ldA (t := 28) 28 (.tmp 2) rfl rfl (opC k v b e six ah al pt pr wy A n c) rfl (b0) (whole_ _) vr1 vr2 (szRo _ _ _ _ _ _ _ _ _ _ _ _ _) ?_
  simp only [Act.put, List.setIfInBounds_toArray, List.set_cons_zero, List.set_cons_succ]
  refine wpList_bs 31 1 [(0, .tmp 12)] rfl rfl (.slice (some ⟨V.heap.size, 0, none⟩) 1 1) (V.alloc (.cells (opC k v b e six ah al pt pr wy A n c).toArray 28)) ?_ ?_
  · exact run_bsRo k v b e six ah al pt pr wy A n c V
  refine wpList_plain rfl (fun K hK => ?_)
  go_simp
  refine (light1 k v b e six ah al pt pr wy A n c V.heap.size (V.alloc (.cells (opC k v b e six ah al pt pr wy A n c).toArray 28)) (Bk.new V 28 (opC k v b e six ah al pt pr wy A n c).toArray) hn).mono ?_
  rintro e w1 ⟨rfl, rfl⟩
  with_reducible refine hK _ _ ?_
  clear hK K
  have bV : Below w.heap.size w (V.alloc (.cells (opC k v b e six ah al pt pr wy A n c).toArray 28)) := be.alloc be.size _
  replace b0 := b0.alloc (.cells (opC k v b e six ah al pt pr wy A n c).toArray 28)
  replace hr := hr.alloc (.cells (opC k v b e six ah al pt pr wy A n c).toArray 28)
  replace hb := hb.alloc (.cells (opC k v b e six ah al pt pr wy A n c).toArray 28)
  replace be := bV
  clear bV
  generalize V.alloc (.cells (opC k v b e six ah al pt pr wy A n c).toArray 28) = V0 at *
  have zV0 := b0.lt
  by_cases h100 : n ≤ 100
  · have hlt : decide (n ≤ 100) = true := decide_eq_true h100
    rw [hlt]
    by_cases h500 : 500 < m
    · have i5 : (500 : Int) < (m : Int) := by omega
      clear hlt
      go_wp2_with (go_at_call 7; refine (awake23 _).mono ?_; rintro e w1 ⟨bs3, d3, rfl, rfl⟩)
      go_ret
      exact RetV.mk (belowP be bs3 d3)
    have i5 : ¬ (500 : Int) < (m : Int) := by omega
    clear hlt
    go_upto_region 3 with (fail)
    refine wp_region_lit ?_
    refine wpList_plain rfl (fun K hK => ?_); go_simp; with_reducible refine hK _ _ ?_; clear hK K
    refine wpList_plain rfl (fun K hK => ?_)
    go_simp
    refine (parseOp_any B m cb L V0 hb (by omega)).mono ?_
    rintro e w1 ⟨o1, ok1, A1, n1, c1, bs1, d1, rfl, rfl, hf1, hx1, hp1⟩
    with_reducible refine hK _ _ ?_
    clear hK K
    obtain ⟨k1, v1, b1, e1, s1, ah1, al1, pt1, pr1, wy1, ms1⟩ := o1
    simp only [OpR.cells, OpR.fine] at *
    replace b0 := b0.later (below_plus V0 bs1 d1)
    replace hr := hr.later (below_plus V0 bs1 d1)
    replace hb := hb.later (below_plus V0 bs1 d1)
    replace be := belowP be bs1 d1
    generalize plus V0 bs1 d1 = V1 at *
    iterate 4 (refine wpList_plain rfl (fun K hK => ?_); go_simp; with_reducible refine hK _ _ ?_; clear hK K)
    refine wpList_stA (t := 35) 35 (.tmp 5) (.tmp 25) rfl rfl (opC k1 v1 b1 e1 s1 ah1 al1 pt1 pr1 wy1 A1 n1 c1) (opC 0 0 0 0 false 0 0 0 0 0 none 0 0) rfl (opC_one _ _ _ _ _ _ _ _ _ _ _ _ _) rfl rfl (Bk.new _ _ _) (szOp _ _ _ _ _ _ _ _ _ _ _ _ _) ?_
    intro V2 h2 g2
    refine wpList_plain rfl (fun K hK => ?_); go_simp; with_reducible refine hK _ _ ?_; clear hK K
    have b5 : Bk V2 V1.heap.size 35 (opC k1 v1 b1 e1 s1 ah1 al1 pt1 pr1 wy1 A1 n1 c1) := h2
    have g50 : w.heap.size < V1.heap.size := b0.lt
    have bx : Below V1.heap.size V1 V2 := below_grown (Below.allocS (Below.refl _ _) _) g2 (Nat.le_refl _)
    replace b0 := b0.later bx
    replace hr := hr.later bx
    replace hx1 := hx1.later bx
    replace hb := hb.later bx
    replace be := be.trans (bx.mono be.size)
    clear h2 g2 bx
    generalize V1.heap.size = g5 at *
    go_upto_region 4 with (fail)
    refine wp_region_lit ?_
    refine wpList_plain rfl (fun K hK => ?_); go_simp; with_reducible refine hK _ _ ?_; clear hK K
    refine wpList_plain rfl (fun K hK => ?_)
    go_simp
    refine (refParseOp_any B m cb L V2 hb (by omega)).mono ?_
    rintro e w1 ⟨o2, ok2, A2, n2, c2, bs3, d3, rfl, rfl, hf2, hx2, hp2⟩
    with_reducible refine hK _ _ ?_
    clear hK K
    obtain ⟨rfl, rfl⟩ := po_same hp1 hp2
    simp only [OpR.cells] at *
    replace b0 := b0.later (below_plus V2 bs3 d3)
    replace b5 := b5.later (below_plus V2 bs3 d3)
    replace hr := hr.later (below_plus V2 bs3 d3)
    replace hx1 := hx1.later (below_plus V2 bs3 d3)
    replace hb := hb.later (below_plus V2 bs3 d3)
    replace be := belowP be bs3 d3
    generalize plus V2 bs3 d3 = V3 at *
    iterate 4 (refine wpList_plain rfl (fun K hK => ?_); go_simp; with_reducible refine hK _ _ ?_; clear hK K)
    refine wpList_stA (t := 28) 28 (.tmp 7) (.tmp 30) rfl rfl (opC k1 v1 b1 e1 s1 ah1 al1 pt1 pr1 wy1 A2 n2 c2) (opC 0 0 0 0 false 0 0 0 0 0 none 0 0) rfl (opC_one _ _ _ _ _ _ _ _ _ _ _ _ _) rfl rfl (Bk.new _ _ _) (szRo _ _ _ _ _ _ _ _ _ _ _ _ _) ?_
    intro V4 h4 g4
    refine wpList_plain rfl (fun K hK => ?_); go_simp; with_reducible refine hK _ _ ?_; clear hK K
    have b7 : Bk V4 V3.heap.size 28 (opC k1 v1 b1 e1 s1 ah1 al1 pt1 pr1 wy1 A2 n2 c2) := h4
    have bx : Below V3.heap.size V3 V4 := below_grown (Below.allocS (Below.refl _ _) _) g4 (Nat.le_refl _)
    replace b0 := b0.later bx
    replace b5 := b5.later bx
    replace hr := hr.later bx
    replace hx1 := hx1.later bx
    replace hx2 := hx2.later bx
    replace hb := hb.later bx
    replace be := be.trans (bx.mono be.size)
    clear h4 g4 bx
    generalize V3.heap.size = g7 at *
    go_upto_region 5 with (fail)
    have hn1 : n2 = n1 := by have e1 := hx1.1; have e2 := hx2.1; omega
    subst hn1
    have hnL : n2 ≤ 100 := by have e1 := hx1.1; rw [prs_length] at e1; have := hf1.2.2.2.2.2.2.2.2.2; omega
    obtain ⟨rb, hrb⟩ : ∃ rb, rightB k v b e six ah al wy ms = rb := ⟨_, rfl⟩
    have HT1 := Lib.hid (fun W (h : Rs 2 W A2 n2 c2 (prs .i64 ms1)) => to23_any k1 v1 b1 e1 s1 ah1 al1 pt1 pr1 wy1 ms1 A2 n2 c2 W h (by omega))
    have HT0 := Lib.hid (fun W (h : Rs 2 W A n c (prs .i64 ms)) => to23_any k v b e six ah al pt pr wy ms A n c W h (by omega))
    have HSM := Lib.hid (fun W B7 d7 (h : Rs 2 W A1 n2 c1 (prs .i64 ms1)) (h' : Rs 2 W B7 n2 d7 (prs .i64 ms1)) => same_any k1 v1 b1 e1 s1 ah1 al1 pt1 pr1 wy1 ms1 A1 B7 n2 c1 d7 W h h' (by omega))
    have HR1 := Lib.hid (fun W B7 d7 (h : Rs 2 W B7 n d7 (prs .i64 ms)) => right_any k v b e six ah al pt pr wy ms B7 n d7 W a2 h (by omega))
    have HR2 := Lib.hid (fun W (h : Rs 2 W A n c (prs .i64 ms)) => refRight_any k v b e six ah al pt pr wy ms A n c W a2 h (by omega))
    rw [hrb] at HR1 HR2
    have HC := Lib.hid (fun (W : World) (h : Below V4.heap.size V4 W) => show Rs 2 W A1 n2 c1 (prs .i64 ms1) ∧ Rs 2 W A2 n2 c2 (prs .i64 ms1) ∧ Rs 2 W A n c (prs .i64 ms) from ⟨hx1.later h, hx2.later h, hr.later h⟩)
    have hRB := Lib.hid hrb
    clear hrb hp1 hp2 hf1 hf2 hnL
    cases ok2
    · simp only [Bool.false_eq_true, if_false]
      refine wp_relS 27 95 rfl (by kernel_rfl) (by kernel_rfl) ?_
      apply Steps.one (MP.eq _) 1 rfl
      · intro o ho FA x hO hD K hK
        obtain rfl := Option.some.inj ho.symm
        clear ho
        have e5 := hO 5 (by kernel_rfl)
        simp only [eval_tmp, List.getElem?_toArray, List.getElem?_cons_succ, List.getElem?_cons_zero, Option.getD_some] at e5
        have ev5 := Lib.hid ((eval_tmp FA 5).trans e5)
        clear hO hD
        refine wanted_if rfl ?_
        refine wp_ldA 35 (.tmp 5) rfl (opC k1 v1 b1 e1 s1 ah1 al1 pt1 pr1 wy1 A1 n2 c1) ev5.out (b5.later (below_plus _ _ _)) (whole_ _) wr1 wr2 (szOp _ _ _ _ _ _ _ _ _ _ _ _ _) ?_
        exact hK.out _ _ (Ex.refl _) rfl
      apply Steps.one (MP.eq _) 2 rfl
      · intro o ho FA x hO hD K hK
        obtain rfl := Option.some.inj ho.symm
        clear ho
        have e7 := hO 7 (by kernel_rfl)
        simp only [eval_tmp, List.getElem?_toArray, List.getElem?_cons_succ, List.getElem?_cons_zero, Option.getD_some] at e7
        have ev7 := Lib.hid ((eval_tmp FA 7).trans e7)
        clear hO hD
        refine wanted_if rfl ?_
        refine wp_ldA 28 (.tmp 7) rfl (opC k1 v1 b1 e1 s1 ah1 al1 pt1 pr1 wy1 A2 n2 c2) ev7.out (b7.later (below_plus _ _ _)) (whole_ _) vr1 vr2 (szRo _ _ _ _ _ _ _ _ _ _ _ _ _) ?_
        exact hK.out _ _ (Ex.refl _) rfl
      apply Steps.one (MP.op (fun B n d => opC k1 v1 b1 e1 s1 ah1 al1 pt1 pr1 wy1 B n d) n2 (prs .i64 ms1)) 3 rfl
      · intro o ho FA x hO hD K hK
        obtain rfl := Option.some.inj ho.symm
        clear ho
        have ev33 : FA.eval (.tmp 33) = _ := hD 1 33 (by kernel_rfl)
        have e33 := (eval_tmp FA 33).symm.trans ev33
        replace ev33 := Lib.hid ev33
        clear hO hD
        go_simp
        refine (HT1.out _ (HC.out _ (below_plus _ _ _)).2.1).mono ?_
        rintro e w1 ⟨B7, d7, bs7, d8, rfl, rfl, h7⟩
        exact hK.out _ _ (Ex.plus_ _ _ _) ⟨_, _, rfl, h7⟩
      apply Steps.one (MP.eq (.bool true)) 4 rfl
      · intro o ho FA x hO hD K hK
        obtain rfl := Option.some.inj ho.symm
        clear ho
        have ev32 : FA.eval (.tmp 32) = _ := hD 0 32 (by kernel_rfl)
        have e32 := (eval_tmp FA 32).symm.trans ev32
        replace ev32 := Lib.hid ev32
        have f34 := hD 2 34 (by kernel_rfl)
        generalize eu34 : FA.eval (.tmp 34) = u34 at f34
        have e34 := (eval_tmp FA 34).symm.trans eu34
        have ev34 := Lib.hid eu34
        clear eu34
        clear hO hD
        obtain ⟨B7, d7, rfl, h7⟩ := f34
        go_simp
        refine (HSM.out _ _ _ (HC.out _ (below_plus _ _ _)).1 h7).mono ?_
        rintro e w1 ⟨bs9, d9, rfl, rfl⟩
        exact hK.out _ _ (Ex.plus_ _ _ _) rfl
      apply Steps.one (MP.eq _) 5 rfl
      · intro o ho FA x hO hD K hK
        obtain rfl := Option.some.inj ho.symm
        clear ho
        have ev35 : FA.eval (.tmp 35) = _ := hD 3 35 (by kernel_rfl)
        have e35 := (eval_tmp FA 35).symm.trans ev35
        replace ev35 := Lib.hid ev35
        clear hO hD
        go_simp
        exact hK.out _ _ (Ex.refl _) rfl
      apply Steps.one (MP.eq _) 6 rfl
      · intro o ho FA x hO hD K hK
        obtain rfl := Option.some.inj ho.symm
        clear ho
        have ev36 : FA.eval (.tmp 36) = _ := hD 4 36 (by kernel_rfl)
        have e36 := (eval_tmp FA 36).symm.trans ev36
        replace ev36 := Lib.hid ev36
        clear hO hD
        go_simp
        exact hK.out _ _ (Ex.refl _) rfl
      apply Steps.one (MP.eq _) 7 rfl
      · intro o ho FA x hO hD K hK
        obtain rfl := Option.some.inj ho.symm
        clear ho
        have e6 := hO 6 (by kernel_rfl)
        simp only [eval_tmp, List.getElem?_toArray, List.getElem?_cons_succ, List.getElem?_cons_zero, Option.getD_some] at e6
        have ev6 := Lib.hid ((eval_tmp FA 6).trans e6)
        have ev37 : FA.eval (.tmp 37) = _ := hD 5 37 (by kernel_rfl)
        have e37 := (eval_tmp FA 37).symm.trans ev37
        replace ev37 := Lib.hid ev37
        first | have ge37 := slot_of e37 | have ge37 := slot_un e37
        clear hO hD
        first | (go_simp; exact hK.out _ _ (Ex.refl _) rfl) | (rcases ge37 with ge37 | ge37 <;> (go_simp; exact hK.out _ _ (Ex.refl _) rfl))
      apply Steps.one (MP.eq _) 8 rfl
      · intro o ho FA x hO hD K hK
        obtain rfl := Option.some.inj ho.symm
        clear ho
        have ev38 : FA.eval (.tmp 38) = _ := hD 6 38 (by kernel_rfl)
        have e38 := (eval_tmp FA 38).symm.trans ev38
        replace ev38 := Lib.hid ev38
        have ev37 : FA.eval (.tmp 37) = _ := hD 5 37 (by kernel_rfl)
        have e37 := (eval_tmp FA 37).symm.trans ev37
        replace ev37 := Lib.hid ev37
        first | have ge37 := slot_of e37 | have ge37 := slot_un e37
        clear hO hD
        first | (go_simp; exact hK.out _ _ (Ex.refl _) rfl) | (rcases ge37 with ge37 | ge37 <;> (go_simp; exact hK.out _ _ (Ex.refl _) rfl))
      apply Steps.one (MP.eq _) 9 rfl
      · intro o ho FA x hO hD K hK
        obtain rfl := Option.some.inj ho.symm
        clear ho
        have e8 := hO 8 (by kernel_rfl)
        simp only [eval_tmp, List.getElem?_toArray, List.getElem?_cons_succ, List.getElem?_cons_zero, Option.getD_some] at e8
        have ev8 := Lib.hid ((eval_tmp FA 8).trans e8)
        have ev37 : FA.eval (.tmp 37) = _ := hD 5 37 (by kernel_rfl)
        have e37 := (eval_tmp FA 37).symm.trans ev37
        replace ev37 := Lib.hid ev37
        first | have ge37 := slot_of e37 | have ge37 := slot_un e37
        clear hO hD
        first | (go_simp; exact hK.out _ _ (Ex.refl _) rfl) | (rcases ge37 with ge37 | ge37 <;> (go_simp; exact hK.out _ _ (Ex.refl _) rfl))
      apply Steps.one (MP.eq _) 10 rfl
      · intro o ho FA x hO hD K hK
        obtain rfl := Option.some.inj ho.symm
        clear ho
        have ev39 : FA.eval (.tmp 39) = _ := hD 7 39 (by kernel_rfl)
        have e39 := (eval_tmp FA 39).symm.trans ev39
        replace ev39 := Lib.hid ev39
        have ev40 : FA.eval (.tmp 40) = _ := hD 8 40 (by kernel_rfl)
        have e40 := (eval_tmp FA 40).symm.trans ev40
        replace ev40 := Lib.hid ev40
        have ev37 : FA.eval (.tmp 37) = _ := hD 5 37 (by kernel_rfl)
        have e37 := (eval_tmp FA 37).symm.trans ev37
        replace ev37 := Lib.hid ev37
        first | have ge37 := slot_of e37 | have ge37 := slot_un e37
        clear hO hD
        first | (go_simp; exact hK.out _ _ (Ex.refl _) rfl) | (rcases ge37 with ge37 | ge37 <;> (go_simp; exact hK.out _ _ (Ex.refl _) rfl))
      apply Steps.one (MP.eq _) 11 rfl
      · intro o ho FA x hO hD K hK
        obtain rfl := Option.some.inj ho.symm
        clear ho
        have ev37 : FA.eval (.tmp 37) = _ := hD 5 37 (by kernel_rfl)
        have e37 := (eval_tmp FA 37).symm.trans ev37
        replace ev37 := Lib.hid ev37
        have ev41 : FA.eval (.tmp 41) = _ := hD 9 41 (by kernel_rfl)
        have e41 := (eval_tmp FA 41).symm.trans ev41
        replace ev41 := Lib.hid ev41
        clear hO hD
        go_simp
        exact hK.out _ _ (Ex.refl _) rfl
      apply Steps.one (MP.eq _) 12 rfl
      · intro o ho FA x hO hD K hK
        obtain rfl := Option.some.inj ho.symm
        clear ho
        have ev42 : FA.eval (.tmp 42) = _ := hD 10 42 (by kernel_rfl)
        have e42 := (eval_tmp FA 42).symm.trans ev42
        replace ev42 := Lib.hid ev42
        clear hO hD
        go_simp
        exact hK.out _ _ (Ex.refl _) rfl
      apply Steps.one (MP.eq _) 13 rfl
      · intro o ho FA x hO hD K hK
        obtain rfl := Option.some.inj ho.symm
        clear ho
        have e8 := hO 8 (by kernel_rfl)
        simp only [eval_tmp, List.getElem?_toArray, List.getElem?_cons_succ, List.getElem?_cons_zero, Option.getD_some] at e8
        have ev8 := Lib.hid ((eval_tmp FA 8).trans e8)
        have ev43 : FA.eval (.tmp 43) = _ := hD 11 43 (by kernel_rfl)
        have e43 := (eval_tmp FA 43).symm.trans ev43
        replace ev43 := Lib.hid ev43
        first | have ge43 := slot_of e43 | have ge43 := slot_un e43
        clear hO hD
        first | (go_simp; exact hK.out _ _ (Ex.refl _) rfl) | (rcases ge43 with ge43 | ge43 <;> (go_simp; exact hK.out _ _ (Ex.refl _) rfl))
      apply Steps.one (MP.eq _) 14 rfl
      · intro o ho FA x hO hD K hK
        obtain rfl := Option.some.inj ho.symm
        clear ho
        have ev44 : FA.eval (.tmp 44) = _ := hD 12 44 (by kernel_rfl)
        have e44 := (eval_tmp FA 44).symm.trans ev44
        replace ev44 := Lib.hid ev44
        have ev43 : FA.eval (.tmp 43) = _ := hD 11 43 (by kernel_rfl)
        have e43 := (eval_tmp FA 43).symm.trans ev43
        replace ev43 := Lib.hid ev43
        first | have ge43 := slot_of e43 | have ge43 := slot_un e43
        clear hO hD
        first | (go_simp; exact hK.out _ _ (Ex.refl _) rfl) | (rcases ge43 with ge43 | ge43 <;> (go_simp; exact hK.out _ _ (Ex.refl _) rfl))
      apply Steps.one (MP.eq _) 15 rfl
      · intro o ho FA x hO hD K hK
        obtain rfl := Option.some.inj ho.symm
        clear ho
        have ev45 : FA.eval (.tmp 45) = _ := hD 13 45 (by kernel_rfl)
        have e45 := (eval_tmp FA 45).symm.trans ev45
        replace ev45 := Lib.hid ev45
        have ev43 : FA.eval (.tmp 43) = _ := hD 11 43 (by kernel_rfl)
        have e43 := (eval_tmp FA 43).symm.trans ev43
        replace ev43 := Lib.hid ev43
        first | have ge43 := slot_of e43 | have ge43 := slot_un e43
        clear hO hD
        first | (go_simp; exact hK.out _ _ (Ex.refl _) rfl) | (rcases ge43 with ge43 | ge43 <;> (go_simp; exact hK.out _ _ (Ex.refl _) rfl))
      apply Steps.one (MP.eq _) 16 rfl
      · intro o ho FA x hO hD K hK
        obtain rfl := Option.some.inj ho.symm
        clear ho
        have e6 := hO 6 (by kernel_rfl)
        simp only [eval_tmp, List.getElem?_toArray, List.getElem?_cons_succ, List.getElem?_cons_zero, Option.getD_some] at e6
        have ev6 := Lib.hid ((eval_tmp FA 6).trans e6)
        have ev46 : FA.eval (.tmp 46) = _ := hD 14 46 (by kernel_rfl)
        have e46 := (eval_tmp FA 46).symm.trans ev46
        replace ev46 := Lib.hid ev46
        first | have ge46 := slot_of e46 | have ge46 := slot_un e46
        clear hO hD
        first | (go_simp; exact hK.out _ _ (Ex.refl _) rfl) | (rcases ge46 with ge46 | ge46 <;> (go_simp; exact hK.out _ _ (Ex.refl _) rfl))
      apply Steps.one (MP.eq _) 17 rfl
      · intro o ho FA x hO hD K hK
        obtain rfl := Option.some.inj ho.symm
        clear ho
        have ev47 : FA.eval (.tmp 47) = _ := hD 15 47 (by kernel_rfl)
        have e47 := (eval_tmp FA 47).symm.trans ev47
        replace ev47 := Lib.hid ev47
        have ev46 : FA.eval (.tmp 46) = _ := hD 14 46 (by kernel_rfl)
        have e46 := (eval_tmp FA 46).symm.trans ev46
        replace ev46 := Lib.hid ev46
        first | have ge46 := slot_of e46 | have ge46 := slot_un e46
        clear hO hD
        first | (go_simp; exact hK.out _ _ (Ex.refl _) rfl) | (rcases ge46 with ge46 | ge46 <;> (go_simp; exact hK.out _ _ (Ex.refl _) rfl))
      apply Steps.one (MP.eq _) 18 rfl
      · intro o ho FA x hO hD K hK
        obtain rfl := Option.some.inj ho.symm
        clear ho
        have ev46 : FA.eval (.tmp 46) = _ := hD 14 46 (by kernel_rfl)
        have e46 := (eval_tmp FA 46).symm.trans ev46
        replace ev46 := Lib.hid ev46
        have ev48 : FA.eval (.tmp 48) = _ := hD 16 48 (by kernel_rfl)
        have e48 := (eval_tmp FA 48).symm.trans ev48
        replace ev48 := Lib.hid ev48
        have ev43 : FA.eval (.tmp 43) = _ := hD 11 43 (by kernel_rfl)
        have e43 := (eval_tmp FA 43).symm.trans ev43
        replace ev43 := Lib.hid ev43
        first | have ge43 := slot_of e43 | have ge43 := slot_un e43
        clear hO hD
        first | (go_simp; exact hK.out _ _ (Ex.refl _) rfl) | (rcases ge43 with ge43 | ge43 <;> (go_simp; exact hK.out _ _ (Ex.refl _) rfl))
      apply Steps.one (MP.eq _) 19 rfl
      · intro o ho FA x hO hD K hK
        obtain rfl := Option.some.inj ho.symm
        clear ho
        have ev43 : FA.eval (.tmp 43) = _ := hD 11 43 (by kernel_rfl)
        have e43 := (eval_tmp FA 43).symm.trans ev43
        replace ev43 := Lib.hid ev43
        have ev49 : FA.eval (.tmp 49) = _ := hD 17 49 (by kernel_rfl)
        have e49 := (eval_tmp FA 49).symm.trans ev49
        replace ev49 := Lib.hid ev49
        clear hO hD
        go_simp
        exact hK.out _ _ (Ex.refl _) rfl
      apply Steps.one (MP.eq _) 20 rfl
      · intro o ho FA x hO hD K hK
        obtain rfl := Option.some.inj ho.symm
        clear ho
        have ev50 : FA.eval (.tmp 50) = _ := hD 18 50 (by kernel_rfl)
        have e50 := (eval_tmp FA 50).symm.trans ev50
        replace ev50 := Lib.hid ev50
        clear hO hD
        go_simp
        exact hK.out _ _ (Ex.refl _) rfl
      apply Steps.one (MP.eq _) 21 rfl
      · intro o ho FA x hO hD K hK
        obtain rfl := Option.some.inj ho.symm
        clear ho
        have e2 := hO 2 (by kernel_rfl)
        simp only [eval_tmp, List.getElem?_toArray, List.getElem?_cons_succ, List.getElem?_cons_zero, Option.getD_some] at e2
        have ev2 := Lib.hid ((eval_tmp FA 2).trans e2)
        have ev51 : FA.eval (.tmp 51) = _ := hD 19 51 (by kernel_rfl)
        have e51 := (eval_tmp FA 51).symm.trans ev51
        replace ev51 := Lib.hid ev51
        first | have ge51 := slot_of e51 | have ge51 := slot_un e51
        clear hO hD
        first | (refine wanted_ifG ?_ ?_; (· go_simp); refine wp_ldA 28 (.tmp 2) rfl (opC k v b e six ah al pt pr wy A n c) ev2.out (b0.later (below_plus _ _ _)) (whole_ _) vr1 vr2 (szRo _ _ _ _ _ _ _ _ _ _ _ _ _) ?_; exact hK.out _ _ (Ex.refl _) rfl) | (go_simp; exact hK.out _ _ (Ex.refl _) rfl) | (rcases ge51 with ge51 | ge51 <;> (go_simp; exact hK.out _ _ (Ex.refl _) rfl))
      apply Steps.one (MP.op (fun B n d => opC k v b e six ah al pt pr wy B n d) n (prs .i64 ms)) 22 rfl
      · intro o ho FA x hO hD K hK
        obtain rfl := Option.some.inj ho.symm
        clear ho
        have ev52 : FA.eval (.tmp 52) = _ := hD 20 52 (by kernel_rfl)
        have e52 := (eval_tmp FA 52).symm.trans ev52
        replace ev52 := Lib.hid ev52
        have ev51 : FA.eval (.tmp 51) = _ := hD 19 51 (by kernel_rfl)
        have e51 := (eval_tmp FA 51).symm.trans ev51
        replace ev51 := Lib.hid ev51
        first | have ge51 := slot_of e51 | have ge51 := slot_un e51
        clear hO hD
        refine wanted_ifG (by go_simp) ?_
        go_simp
        refine (HT0.out _ (HC.out _ (below_plus _ _ _)).2.2).mono ?_
        rintro e w1 ⟨B7, d7, bs7, d8, rfl, rfl, h7⟩
        exact hK.out _ _ (Ex.plus_ _ _ _) ⟨_, _, rfl, h7⟩
      apply Steps.one (MP.eq (.bool rb)) 23 rfl
      · intro o ho FA x hO hD K hK
        obtain rfl := Option.some.inj ho.symm
        clear ho
        have f53 := hD 21 53 (by kernel_rfl)
        generalize eu53 : FA.eval (.tmp 53) = u53 at f53
        have e53 := (eval_tmp FA 53).symm.trans eu53
        have ev53 := Lib.hid eu53
        clear eu53
        have ev51 : FA.eval (.tmp 51) = _ := hD 19 51 (by kernel_rfl)
        have e51 := (eval_tmp FA 51).symm.trans ev51
        replace ev51 := Lib.hid ev51
        first | have ge51 := slot_of e51 | have ge51 := slot_un e51
        clear hO hD
        refine wanted_ifG (by go_simp) ?_
        obtain ⟨B7, d7, rfl, h7⟩ := f53
        go_simp
        refine (HR1.out _ _ _ h7).mono ?_
        rintro e w1 ⟨bs9, d9, rfl, rfl⟩
        exact hK.out _ _ (Ex.plus_ _ _ _) rfl
      apply Steps.one (MP.eq _) 24 rfl
      · intro o ho FA x hO hD K hK
        obtain rfl := Option.some.inj ho.symm
        clear ho
        have e2 := hO 2 (by kernel_rfl)
        simp only [eval_tmp, List.getElem?_toArray, List.getElem?_cons_succ, List.getElem?_cons_zero, Option.getD_some] at e2
        have ev2 := Lib.hid ((eval_tmp FA 2).trans e2)
        have ev51 : FA.eval (.tmp 51) = _ := hD 19 51 (by kernel_rfl)
        have e51 := (eval_tmp FA 51).symm.trans ev51
        replace ev51 := Lib.hid ev51
        first | have ge51 := slot_of e51 | have ge51 := slot_un e51
        clear hO hD
        first | (refine wanted_ifG ?_ ?_; (· go_simp); refine wp_ldA 28 (.tmp 2) rfl (opC k v b e six ah al pt pr wy A n c) ev2.out (b0.later (below_plus _ _ _)) (whole_ _) vr1 vr2 (szRo _ _ _ _ _ _ _ _ _ _ _ _ _) ?_; exact hK.out _ _ (Ex.refl _) rfl) | (go_simp; exact hK.out _ _ (Ex.refl _) rfl) | (rcases ge51 with ge51 | ge51 <;> (go_simp; exact hK.out _ _ (Ex.refl _) rfl))
      apply Steps.one (MP.eq (.bool rb)) 25 rfl
      · intro o ho FA x hO hD K hK
        obtain rfl := Option.some.inj ho.symm
        clear ho
        have ev55 : FA.eval (.tmp 55) = _ := hD 23 55 (by kernel_rfl)
        have e55 := (eval_tmp FA 55).symm.trans ev55
        replace ev55 := Lib.hid ev55
        have ev51 : FA.eval (.tmp 51) = _ := hD 19 51 (by kernel_rfl)
        have e51 := (eval_tmp FA 51).symm.trans ev51
        replace ev51 := Lib.hid ev51
        first | have ge51 := slot_of e51 | have ge51 := slot_un e51
        clear hO hD
        refine wanted_ifG (by go_simp) ?_
        go_simp
        refine (HR2.out _ (HC.out _ (below_plus _ _ _)).2.2).mono ?_
        rintro e w1 ⟨bs9, d9, rfl, rfl⟩
        exact hK.out _ _ (Ex.plus_ _ _ _) rfl
      apply Steps.one (MP.eq _) 26 rfl
      · intro o ho FA x hO hD K hK
        obtain rfl := Option.some.inj ho.symm
        clear ho
        have ev54 : FA.eval (.tmp 54) = _ := hD 22 54 (by kernel_rfl)
        have e54 := (eval_tmp FA 54).symm.trans ev54
        replace ev54 := Lib.hid ev54
        have ev56 : FA.eval (.tmp 56) = _ := hD 24 56 (by kernel_rfl)
        have e56 := (eval_tmp FA 56).symm.trans ev56
        replace ev56 := Lib.hid ev56
        have ev51 : FA.eval (.tmp 51) = _ := hD 19 51 (by kernel_rfl)
        have e51 := (eval_tmp FA 51).symm.trans ev51
        replace ev51 := Lib.hid ev51
        first | have ge51 := slot_of e51 | have ge51 := slot_un e51
        clear hO hD
        first | (go_simp; exact hK.out _ _ (Ex.refl _) rfl) | (rcases ge51 with ge51 | ge51 <;> (go_simp; exact hK.out _ _ (Ex.refl _) rfl))
      apply Steps.one (MP.eq _) 27 rfl
      · intro o ho FA x hO hD K hK
        obtain rfl := Option.some.inj ho.symm
        clear ho
        have ev51 : FA.eval (.tmp 51) = _ := hD 19 51 (by kernel_rfl)
        have e51 := (eval_tmp FA 51).symm.trans ev51
        replace ev51 := Lib.hid ev51
        have ev57 : FA.eval (.tmp 57) = _ := hD 25 57 (by kernel_rfl)
        have e57 := (eval_tmp FA 57).symm.trans ev57
        replace ev57 := Lib.hid ev57
        clear hO hD
        go_simp
        exact hK.out _ _ (Ex.refl _) rfl
      refine Steps.fin_ (fun vs x hp => ?_)
      have p0 : vs 0 = _ := hp 0 (by omega)
      have p1 : vs 1 = _ := hp 1 (by omega)
      have p2 := hp 2 (by omega)
      have p3 : vs 3 = _ := hp 3 (by omega)
      have p4 : vs 4 = _ := hp 4 (by omega)
      have p5 : vs 5 = _ := hp 5 (by omega)
      have p6 : vs 6 = _ := hp 6 (by omega)
      have p7 : vs 7 = _ := hp 7 (by omega)
      have p8 : vs 8 = _ := hp 8 (by omega)
      have p9 : vs 9 = _ := hp 9 (by omega)
      have p10 : vs 10 = _ := hp 10 (by omega)
      have p11 : vs 11 = _ := hp 11 (by omega)
      have p12 : vs 12 = _ := hp 12 (by omega)
      have p13 : vs 13 = _ := hp 13 (by omega)
      have p14 : vs 14 = _ := hp 14 (by omega)
      have p15 : vs 15 = _ := hp 15 (by omega)
      have p16 : vs 16 = _ := hp 16 (by omega)
      have p17 : vs 17 = _ := hp 17 (by omega)
      have p18 : vs 18 = _ := hp 18 (by omega)
      have p19 : vs 19 = _ := hp 19 (by omega)
      have p20 : vs 20 = _ := hp 20 (by omega)
      have p21 := hp 21 (by omega)
      have p22 : vs 22 = _ := hp 22 (by omega)
      have p23 : vs 23 = _ := hp 23 (by omega)
      have p24 : vs 24 = _ := hp 24 (by omega)
      have p25 : vs 25 = _ := hp 25 (by omega)
      have p26 : vs 26 = _ := hp 26 (by omega)
      clear hp
      simp only [List.take_succ_cons, List.take_zero, List.drop_succ_cons, List.drop_zero, putAll, Nat.zero_add, Nat.reduceAdd, Act.put, List.setIfInBounds_toArray, List.set_cons_zero, List.set_cons_succ, p0, p1, p3, p4, p5, p6, p7, p8, p9, p10, p11, p12, p13, p14, p15, p16, p17, p18, p19, p20, p22, p23, p24, p25, p26]
      clear p0 p1 p3 p4 p5 p6 p7 p8 p9 p10 p11 p12 p13 p14 p15 p16 p17 p18 p19 p20 p22 p23 p24 p25 p26
      generalize vs 2 = y2 at *
      generalize vs 21 = y21 at *
      clear vs
      have b4 := below_plus V4 x.bs x.d
      replace b0 := b0.later b4
      replace hr := hr.later b4
      replace be := belowP be x.bs x.d
      clear b4 HC HSM HT1 HR1 b5 b7 hx1 hx2
      generalize plus V4 x.bs x.d = V5 at *
      cases rb
      · go_upto_region 7 with (fail)
        refine wp_region_lit ?_
        refine wpList_ldA (t := 28) 28 (.tmp 2) rfl rfl (opC k v b e six ah al pt pr wy A n c) rfl (b0) (whole_ _) vr1 vr2 (szRo _ _ _ _ _ _ _ _ _ _ _ _ _) ?_
        refine wpList_plain rfl (fun K hK => ?_)
        go_simp
        refine (HT0.out _ hr).mono ?_
        rintro e w1 ⟨B7, d7, bs7, d8, rfl, rfl, h7⟩
        with_reducible refine hK _ _ ?_
        clear hK K
        have b4 := below_plus V5 bs7 d8
        replace b0 := b0.later b4
        replace hr := hr.later b4
        replace be := belowP be bs7 d8
        clear b4
        generalize plus V5 bs7 d8 = V6 at *
        refine wpList_plain rfl (fun K hK => ?_)
        go_simp
        refine (codecOp_no k v b e six ah al pt pr wy ms B7 n d7 V6 a2 h7 (by omega) hRB.out).mono ?_
        rintro e w1 ⟨bs8, d8, rfl, rfl⟩
        with_reducible refine hK _ _ ?_
        clear hK K
        have b4 := below_plus V6 bs8 d8
        replace b0 := b0.later b4
        replace hr := hr.later b4
        replace be := belowP be bs8 d8
        clear b4
        generalize plus V6 bs8 d8 = V7 at *
        refine wpList_plain rfl (fun K hK => ?_); go_simp; with_reducible refine hK _ _ ?_; clear hK K
        go_upto_region 8 with (fail)
        refine wp_region_lit ?_
        refine wpList_ldA (t := 28) 28 (.tmp 2) rfl rfl (opC k v b e six ah al pt pr wy A n c) rfl (b0) (whole_ _) vr1 vr2 (szRo _ _ _ _ _ _ _ _ _ _ _ _ _) ?_
        refine wpList_plain rfl (fun K hK => ?_)
        go_simp
        refine (HR2.out _ hr).mono ?_
        rintro e w1 ⟨bs9, d9, rfl, rfl⟩
        with_reducible refine hK _ _ ?_
        clear hK K
        have b4 := below_plus V7 bs9 d9
        replace b0 := b0.later b4
        replace hr := hr.later b4
        replace be := belowP be bs9 d9
        clear b4
        generalize plus V7 bs9 d9 = V8 at *
        refine wpList_plain rfl (fun K hK => ?_); go_simp; with_reducible refine hK _ _ ?_; clear hK K
        go_wp2_with (go_at_call 7; refine (awake23 _).mono ?_; rintro e w1 ⟨bs3, d3, rfl, rfl⟩)
        go_ret
        exact RetV.mk (belowP be bs3 d3)
      · obtain ⟨kn, vn, bn, en, wn, rfl, rfl, rfl, rfl, rfl, k1', k2', k3', k4', k5', h64, had, hms⟩ := right_nats hRB.out
        have hn64 : n ≤ 64 := by have e1 := hr.1; rw [prs_length] at e1; omega
        have HPOP := Lib.hid (pop_op kn vn bn en six ah al pt pr wn ms k1' k2' k3' k4' k5' a1 a2 a3 a4 had h64 hms)
        have HRO := Lib.hid (fun W (h : Rs 2 W A n c (prs .i64 ms)) => refOp_any kn vn bn en six ah al pt pr wn ms A n c W k1' k2' k3' k4' k5' a1 a2 a3 a4 h hn64 hms)
        have HLO := opB_len kn vn bn en six ah al pt pr wn ms h64
        have HCO := Lib.hid (fun W B7 d7 (h : Rs 2 W B7 n d7 (prs .i64 ms)) => codecOp_any kn vn bn en six ah al pt pr wn ms B7 n d7 W k1' k2' k3' k4' k5' a1 a2 a3 a4 h (by omega) hn64 hms hRB.out)
        have HSM2 := Lib.hid (fun W A3 c3 B7 d7 (h : Rs 2 W A3 n c3 (prs .i64 ms)) (h' : Rs 2 W B7 n d7 (prs .i64 ms)) => same_any kn vn bn en six ah al pt pr wn ms A3 B7 n c3 d7 W h h' (by omega))
        generalize opB kn vn bn en six ah al pt pr wn ms = Lo at *
        go_upto_region 7 with (fail)
        refine wp_region_lit ?_
        refine wpList_ldA (t := 28) 28 (.tmp 2) rfl rfl (opC kn vn bn en six ah al pt pr wn A n c) rfl (b0) (whole_ _) vr1 vr2 (szRo _ _ _ _ _ _ _ _ _ _ _ _ _) ?_
        refine wpList_plain rfl (fun K hK => ?_)
        go_simp
        refine (HT0.out _ hr).mono ?_
        rintro e w1 ⟨B7, d7, bs7, d8, rfl, rfl, h7⟩
        with_reducible refine hK _ _ ?_
        clear hK K
        have b4 := below_plus V5 bs7 d8
        replace b0 := b0.later b4
        replace hr := hr.later b4
        replace be := belowP be bs7 d8
        clear b4
        generalize plus V5 bs7 d8 = V6 at *
        refine wpList_plain rfl (fun K hK => ?_)
        go_simp
        refine (HCO.out V6 B7 d7 h7).mono ?_
        rintro e w1 ⟨A9, n9, c9, bs8, d8, rfl, rfl, h9⟩
        with_reducible refine hK _ _ ?_
        clear hK K
        have b4 := below_plus V6 bs8 d8
        replace b0 := b0.later b4
        replace hr := hr.later b4
        replace be := belowP be bs8 d8
        clear b4
        generalize plus V6 bs8 d8 = V7 at *
        refine wpList_plain rfl (fun K hK => ?_); go_simp; with_reducible refine hK _ _ ?_; clear hK K
        go_upto_region 8 with (fail)
        refine wp_region_lit ?_
        refine wpList_ldA (t := 28) 28 (.tmp 2) rfl rfl (opC kn vn bn en six ah al pt pr wn A n c) rfl (b0) (whole_ _) vr1 vr2 (szRo _ _ _ _ _ _ _ _ _ _ _ _ _) ?_
        refine wpList_plain rfl (fun K hK => ?_)
        go_simp
        refine (HR2.out _ hr).mono ?_
        rintro e w1 ⟨bs9, d9, rfl, rfl⟩
        with_reducible refine hK _ _ ?_
        clear hK K
        have b4 := below_plus V7 bs9 d9
        replace b0 := b0.later b4
        replace hr := hr.later b4
        replace h9 := h9.later b4
        replace be := belowP be bs9 d9
        clear b4
        generalize plus V7 bs9 d9 = V8 at *
        refine wpList_plain rfl (fun K hK => ?_); go_simp; with_reducible refine hK _ _ ?_; clear hK K
        go_upto_region 10 with (fail)
        have hn9 : n9 ≤ 300 := by have e9 := h9.1; omega
        refine wp_region_lit ?_
        refine wpList_plain rfl (fun K hK => ?_); go_simp; with_reducible refine hK _ _ ?_; clear hK K
        refine wpList_plain rfl (fun K hK => ?_)
        go_simp
        refine (parseOp_any A9 n9 c9 _ V8 h9 (by omega)).mono ?_
        rintro e w1 ⟨o3, ok3, A3, n3, c3, bs3, d3, rfl, rfl, hf3, hx3, hp3⟩
        with_reducible refine hK _ _ ?_
        clear hK K
        obtain ⟨rfl, rfl⟩ := po_is hp3 HPOP.out
        simp only [OpR.cells, if_true] at *
        have b4 := below_plus V8 bs3 d3
        replace b0 := b0.later b4
        replace hr := hr.later b4
        replace h9 := h9.later b4
        replace be := belowP be bs3 d3
        clear b4
        generalize plus V8 bs3 d3 = V9 at *
        iterate 4 (refine wpList_plain rfl (fun K hK => ?_); go_simp; with_reducible refine hK _ _ ?_; clear hK K)
        refine wpList_stA (t := 35) 35 (.tmp 10) (.tmp 74) rfl rfl (opC kn vn bn en six ah al pt pr wn A3 n3 c3) (opC 0 0 0 0 false 0 0 0 0 0 none 0 0) rfl (opC_one _ _ _ _ _ _ _ _ _ _ _ _ _) rfl rfl (Bk.new _ _ _) (szOp _ _ _ _ _ _ _ _ _ _ _ _ _) ?_
        intro V10 h10 g10
        refine wpList_plain rfl (fun K hK => ?_); go_simp; with_reducible refine hK _ _ ?_; clear hK K
        obtain rfl : n = n3 := by have e1 := hx3.1; have e2 := hr.1; omega
        have b10 : Bk V10 V9.heap.size 35 (opC kn vn bn en six ah al pt pr wn A3 n c3) := h10
        have bx : Below V9.heap.size V9 V10 := below_grown (Below.allocS (Below.refl _ _) _) g10 (Nat.le_refl _)
        replace b0 := b0.later bx
        replace hr := hr.later bx
        replace h9 := h9.later bx
        replace hx3 := hx3.later bx
        replace be := be.trans (bx.mono be.size)
        clear bx h10 g10
        generalize V9.heap.size = g10 at *
        have HC := Lib.hid (fun (W : World) (h : Below V10.heap.size V10 W) => show Rs 2 W A3 n c3 (prs .i64 ms) ∧ Rs 2 W A n c (prs .i64 ms) from ⟨hx3.later h, hr.later h⟩)
        go_upto_region 11 with (fail)
        refine wp_relS 20 95 rfl (by kernel_rfl) (by kernel_rfl) ?_
        apply Steps.one (MP.eq _) 1 rfl
        · intro o ho FA x hO hD K hK
          obtain rfl := Option.some.inj ho.symm
          clear ho
          have e9 := hO 9 (by kernel_rfl)
          simp only [eval_tmp, List.getElem?_toArray, List.getElem?_cons_succ, List.getElem?_cons_zero, Option.getD_some] at e9
          have ev9 := Lib.hid ((eval_tmp FA 9).trans e9)
          clear hO hD
          go_simp
          exact hK.out _ _ (Ex.refl _) rfl
        apply Steps.one (MP.eq _) 2 rfl
        · intro o ho FA x hO hD K hK
          obtain rfl := Option.some.inj ho.symm
          clear ho
          have ev76 : FA.eval (.tmp 76) = _ := hD 0 76 (by kernel_rfl)
          have e76 := (eval_tmp FA 76).symm.trans ev76
          replace ev76 := Lib.hid ev76
          clear hO hD
          have es := run_str bt Try.underlying9 (h9.plus_ x.bs x.d)
          go_simp
          exact hK.out _ _ (Ex.refl _) rfl
        apply Steps.one (MP.eq _) 3 rfl
        · intro o ho FA x hO hD K hK
          obtain rfl := Option.some.inj ho.symm
          clear ho
          have e2 := hO 2 (by kernel_rfl)
          simp only [eval_tmp, List.getElem?_toArray, List.getElem?_cons_succ, List.getElem?_cons_zero, Option.getD_some] at e2
          have ev2 := Lib.hid ((eval_tmp FA 2).trans e2)
          clear hO hD
          refine wanted_if rfl ?_
          refine wp_ldA 28 (.tmp 2) rfl (opC kn vn bn en six ah al pt pr wn A n c) ev2.out (b0.later (below_plus _ _ _)) (whole_ _) vr1 vr2 (szRo _ _ _ _ _ _ _ _ _ _ _ _ _) ?_
          exact hK.out _ _ (Ex.refl _) rfl
        apply Steps.one (MP.rb Lo) 4 rfl
        · intro o ho FA x hO hD K hK
          obtain rfl := Option.some.inj ho.symm
          clear ho
          have ev78 : FA.eval (.tmp 78) = _ := hD 2 78 (by kernel_rfl)
          have e78 := (eval_tmp FA 78).symm.trans ev78
          replace ev78 := Lib.hid ev78
          clear hO hD
          go_simp
          refine (HRO.out _ (HC.out _ (below_plus _ _ _)).2).mono ?_
          rintro e w1 ⟨A8, n8, c8, bs8, d8, rfl, rfl, h8⟩
          exact hK.out _ _ (Ex.plus_ _ _ _) ⟨_, _, _, rfl, h8⟩
        apply Steps.one (MP.eq _) 5 rfl
        · intro o ho FA x hO hD K hK
          obtain rfl := Option.some.inj ho.symm
          clear ho
          have f79 := hD 3 79 (by kernel_rfl)
          generalize eu79 : FA.eval (.tmp 79) = u79 at f79
          have e79 := (eval_tmp FA 79).symm.trans eu79
          have ev79 := Lib.hid eu79
          clear eu79
          clear hO hD
          obtain ⟨A1, n1, c1, rfl, hr1⟩ := f79
          have es := run_str bt Try.underlying9 hr1
          go_simp
          exact hK.out _ _ (Ex.refl _) rfl
        apply Steps.one (MP.eq _) 6 rfl
        · intro o ho FA x hO hD K hK
          obtain rfl := Option.some.inj ho.symm
          clear ho
          have ev77 : FA.eval (.tmp 77) = _ := hD 1 77 (by kernel_rfl)
          have e77 := (eval_tmp FA 77).symm.trans ev77
          replace ev77 := Lib.hid ev77
          have ev80 : FA.eval (.tmp 80) = _ := hD 4 80 (by kernel_rfl)
          have e80 := (eval_tmp FA 80).symm.trans ev80
          replace ev80 := Lib.hid ev80
          clear hO hD
          go_simp
          exact hK.out _ _ (Ex.refl _) rfl
        apply Steps.one (MP.eq _) 7 rfl
        · intro o ho FA x hO hD K hK
          obtain rfl := Option.some.inj ho.symm
          clear ho
          have ev81 : FA.eval (.tmp 81) = _ := hD 5 81 (by kernel_rfl)
          have e81 := (eval_tmp FA 81).symm.trans ev81
          replace ev81 := Lib.hid ev81
          clear hO hD
          go_simp
          exact hK.out _ _ (Ex.refl _) rfl
        apply Steps.one (MP.eq _) 8 rfl
        · intro o ho FA x hO hD K hK
          obtain rfl := Option.some.inj ho.symm
          clear ho
          have e10 := hO 10 (by kernel_rfl)
          simp only [eval_tmp, List.getElem?_toArray, List.getElem?_cons_succ, List.getElem?_cons_zero, Option.getD_some] at e10
          have ev10 := Lib.hid ((eval_tmp FA 10).trans e10)
          have ev82 : FA.eval (.tmp 82) = _ := hD 6 82 (by kernel_rfl)
          have e82 := (eval_tmp FA 82).symm.trans ev82
          replace ev82 := Lib.hid ev82
          first | have ge82 := slot_of e82 | have ge82 := slot_un e82
          clear hO hD
          first | (refine wanted_ifG ?_ ?_; (· go_simp); refine wp_ldA 35 (.tmp 10) rfl (opC kn vn bn en six ah al pt pr wn A3 n c3) ev10.out (b10.later (below_plus _ _ _)) (whole_ _) wr1 wr2 (szOp _ _ _ _ _ _ _ _ _ _ _ _ _) ?_; exact hK.out _ _ (Ex.refl _) rfl) | (go_simp; exact hK.out _ _ (Ex.refl _) rfl) | (rcases ge82 with ge82 | ge82 <;> (go_simp; exact hK.out _ _ (Ex.refl _) rfl))
        apply Steps.one (MP.eq _) 9 rfl
        · intro o ho FA x hO hD K hK
          obtain rfl := Option.some.inj ho.symm
          clear ho
          have e2 := hO 2 (by kernel_rfl)
          simp only [eval_tmp, List.getElem?_toArray, List.getElem?_cons_succ, List.getElem?_cons_zero, Option.getD_some] at e2
          have ev2 := Lib.hid ((eval_tmp FA 2).trans e2)
          have ev82 : FA.eval (.tmp 82) = _ := hD 6 82 (by kernel_rfl)
          have e82 := (eval_tmp FA 82).symm.trans ev82
          replace ev82 := Lib.hid ev82
          first | have ge82 := slot_of e82 | have ge82 := slot_un e82
          clear hO hD
          first | (refine wanted_ifG ?_ ?_; (· go_simp); refine wp_ldA 28 (.tmp 2) rfl (opC kn vn bn en six ah al pt pr wn A n c) ev2.out (b0.later (below_plus _ _ _)) (whole_ _) vr1 vr2 (szRo _ _ _ _ _ _ _ _ _ _ _ _ _) ?_; exact hK.out _ _ (Ex.refl _) rfl) | (go_simp; exact hK.out _ _ (Ex.refl _) rfl) | (rcases ge82 with ge82 | ge82 <;> (go_simp; exact hK.out _ _ (Ex.refl _) rfl))
        apply Steps.one (MP.op (fun B n d => opC kn vn bn en six ah al pt pr wn B n d) n (prs .i64 ms)) 10 rfl
        · intro o ho FA x hO hD K hK
          obtain rfl := Option.some.inj ho.symm
          clear ho
          have ev84 : FA.eval (.tmp 84) = _ := hD 8 84 (by kernel_rfl)
          have e84 := (eval_tmp FA 84).symm.trans ev84
          replace ev84 := Lib.hid ev84
          have ev82 : FA.eval (.tmp 82) = _ := hD 6 82 (by kernel_rfl)
          have e82 := (eval_tmp FA 82).symm.trans ev82
          replace ev82 := Lib.hid ev82
          first | have ge82 := slot_of e82 | have ge82 := slot_un e82
          clear hO hD
          refine wanted_ifG (by go_simp) ?_
          go_simp
          refine (HT0.out _ (HC.out _ (below_plus _ _ _)).2).mono ?_
          rintro e w1 ⟨B7, d7, bs7, d8, rfl, rfl, h7⟩
          exact hK.out _ _ (Ex.plus_ _ _ _) ⟨_, _, rfl, h7⟩
        apply Steps.one (MP.eq (.bool true)) 11 rfl
        · intro o ho FA x hO hD K hK
          obtain rfl := Option.some.inj ho.symm
          clear ho
          have ev83 : FA.eval (.tmp 83) = _ := hD 7 83 (by kernel_rfl)
          have e83 := (eval_tmp FA 83).symm.trans ev83
          replace ev83 := Lib.hid ev83
          have f85 := hD 9 85 (by kernel_rfl)
          generalize eu85 : FA.eval (.tmp 85) = u85 at f85
          have e85 := (eval_tmp FA 85).symm.trans eu85
          have ev85 := Lib.hid eu85
          clear eu85
          have ev82 : FA.eval (.tmp 82) = _ := hD 6 82 (by kernel_rfl)
          have e82 := (eval_tmp FA 82).symm.trans ev82
          replace ev82 := Lib.hid ev82
          first | have ge82 := slot_of e82 | have ge82 := slot_un e82
          clear hO hD
          refine wanted_ifG (by go_simp) ?_
          obtain ⟨B7, d7, rfl, h7⟩ := f85
          go_simp
          refine (HSM2.out _ _ _ _ _ (HC.out _ (below_plus _ _ _)).1 h7).mono ?_
          rintro e w1 ⟨bs9, d9, rfl, rfl⟩
          exact hK.out _ _ (Ex.plus_ _ _ _) rfl
        apply Steps.one (MP.eq _) 12 rfl
        · intro o ho FA x hO hD K hK
          obtain rfl := Option.some.inj ho.symm
          clear ho
          have ev82 : FA.eval (.tmp 82) = _ := hD 6 82 (by kernel_rfl)
          have e82 := (eval_tmp FA 82).symm.trans ev82
          replace ev82 := Lib.hid ev82
          have ev86 : FA.eval (.tmp 86) = _ := hD 10 86 (by kernel_rfl)
          have e86 := (eval_tmp FA 86).symm.trans ev86
          replace ev86 := Lib.hid ev86
          clear hO hD
          go_simp
          exact hK.out _ _ (Ex.refl _) rfl
        apply Steps.one (MP.eq _) 13 rfl
        · intro o ho FA x hO hD K hK
          obtain rfl := Option.some.inj ho.symm
          clear ho
          have ev87 : FA.eval (.tmp 87) = _ := hD 11 87 (by kernel_rfl)
          have e87 := (eval_tmp FA 87).symm.trans ev87
          replace ev87 := Lib.hid ev87
          clear hO hD
          go_simp
          exact hK.out _ _ (Ex.refl _) rfl
        apply Steps.one (MP.eq _) 14 rfl
        · intro o ho FA x hO hD K hK
          obtain rfl := Option.some.inj ho.symm
          clear ho
          have e11 := hO 11 (by kernel_rfl)
          simp only [eval_tmp, List.getElem?_toArray, List.getElem?_cons_succ, List.getElem?_cons_zero, Option.getD_some] at e11
          have ev11 := Lib.hid ((eval_tmp FA 11).trans e11)
          have ev88 : FA.eval (.tmp 88) = _ := hD 12 88 (by kernel_rfl)
          have e88 := (eval_tmp FA 88).symm.trans ev88
          replace ev88 := Lib.hid ev88
          first | have ge88 := slot_of e88 | have ge88 := slot_un e88
          clear hO hD
          first | (go_simp; exact hK.out _ _ (Ex.refl _) rfl) | (rcases ge88 with ge88 | ge88 <;> (go_simp; exact hK.out _ _ (Ex.refl _) rfl))
        apply Steps.one (MP.eq _) 15 rfl
        · intro o ho FA x hO hD K hK
          obtain rfl := Option.some.inj ho.symm
          clear ho
          have ev89 : FA.eval (.tmp 89) = _ := hD 13 89 (by kernel_rfl)
          have e89 := (eval_tmp FA 89).symm.trans ev89
          replace ev89 := Lib.hid ev89
          have ev88 : FA.eval (.tmp 88) = _ := hD 12 88 (by kernel_rfl)
          have e88 := (eval_tmp FA 88).symm.trans ev88
          replace ev88 := Lib.hid ev88
          first | have ge88 := slot_of e88 | have ge88 := slot_un e88
          clear hO hD
          first | (go_simp; exact hK.out _ _ (Ex.refl _) rfl) | (rcases ge88 with ge88 | ge88 <;> (go_simp; exact hK.out _ _ (Ex.refl _) rfl))
        apply Steps.one (MP.eq _) 16 rfl
        · intro o ho FA x hO hD K hK
          obtain rfl := Option.some.inj ho.symm
          clear ho
          have ev88 : FA.eval (.tmp 88) = _ := hD 12 88 (by kernel_rfl)
          have e88 := (eval_tmp FA 88).symm.trans ev88
          replace ev88 := Lib.hid ev88
          have ev90 : FA.eval (.tmp 90) = _ := hD 14 90 (by kernel_rfl)
          have e90 := (eval_tmp FA 90).symm.trans ev90
          replace ev90 := Lib.hid ev90
          clear hO hD
          go_simp
          exact hK.out _ _ (Ex.refl _) rfl
        apply Steps.one (MP.eq _) 17 rfl
        · intro o ho FA x hO hD K hK
          obtain rfl := Option.some.inj ho.symm
          clear ho
          have ev91 : FA.eval (.tmp 91) = _ := hD 15 91 (by kernel_rfl)
          have e91 := (eval_tmp FA 91).symm.trans ev91
          replace ev91 := Lib.hid ev91
          clear hO hD
          go_simp
          exact hK.out _ _ (Ex.refl _) rfl
        apply Steps.one (MP.eq (.bool true)) 18 rfl
        · intro o ho FA x hO hD K hK
          obtain rfl := Option.some.inj ho.symm
          clear ho
          have ev92 : FA.eval (.tmp 92) = _ := hD 16 92 (by kernel_rfl)
          have e92 := (eval_tmp FA 92).symm.trans ev92
          replace ev92 := Lib.hid ev92
          first | have ge92 := slot_of e92 | have ge92 := slot_un e92
          clear hO hD
          refine wanted_ifG (by go_simp) ?_
          go_simp
          refine (awake23 _).mono ?_
          rintro e w1 ⟨bs9, d9, rfl, rfl⟩
          exact hK.out _ _ (Ex.plus_ _ _ _) rfl
        apply Steps.one (MP.eq _) 19 rfl
        · intro o ho FA x hO hD K hK
          obtain rfl := Option.some.inj ho.symm
          clear ho
          have ev92 : FA.eval (.tmp 92) = _ := hD 16 92 (by kernel_rfl)
          have e92 := (eval_tmp FA 92).symm.trans ev92
          replace ev92 := Lib.hid ev92
          have ev93 : FA.eval (.tmp 93) = _ := hD 17 93 (by kernel_rfl)
          have e93 := (eval_tmp FA 93).symm.trans ev93
          replace ev93 := Lib.hid ev93
          clear hO hD
          go_simp
          exact hK.out _ _ (Ex.refl _) rfl
        apply Steps.one (MP.eq _) 20 rfl
        · intro o ho FA x hO hD K hK
          obtain rfl := Option.some.inj ho.symm
          clear ho
          have ev94 : FA.eval (.tmp 94) = _ := hD 18 94 (by kernel_rfl)
          have e94 := (eval_tmp FA 94).symm.trans ev94
          replace ev94 := Lib.hid ev94
          clear hO hD
          go_simp
          exact hK.out _ _ (Ex.refl _) rfl
        refine Steps.fin_ (fun vs x hp => ?_)
        have p0 : vs 0 = _ := hp 0 (by omega)
        have p1 : vs 1 = _ := hp 1 (by omega)
        have p2 : vs 2 = _ := hp 2 (by omega)
        have p3 := hp 3 (by omega)
        have p4 : vs 4 = _ := hp 4 (by omega)
        have p5 : vs 5 = _ := hp 5 (by omega)
        have p6 : vs 6 = _ := hp 6 (by omega)
        have p7 : vs 7 = _ := hp 7 (by omega)
        have p8 : vs 8 = _ := hp 8 (by omega)
        have p9 := hp 9 (by omega)
        have p10 : vs 10 = _ := hp 10 (by omega)
        have p11 : vs 11 = _ := hp 11 (by omega)
        have p12 : vs 12 = _ := hp 12 (by omega)
        have p13 : vs 13 = _ := hp 13 (by omega)
        have p14 : vs 14 = _ := hp 14 (by omega)
        have p15 : vs 15 = _ := hp 15 (by omega)
        have p16 : vs 16 = _ := hp 16 (by omega)
        have p17 : vs 17 = _ := hp 17 (by omega)
        have p18 : vs 18 = _ := hp 18 (by omega)
        have p19 : vs 19 = _ := hp 19 (by omega)
        clear hp
        simp only [List.take_succ_cons, List.take_zero, List.drop_succ_cons, List.drop_zero, putAll, Nat.zero_add, Nat.reduceAdd, Act.put, List.setIfInBounds_toArray, List.set_cons_zero, List.set_cons_succ, p0, p1, p2, p4, p5, p6, p7, p8, p10, p11, p12, p13, p14, p15, p16, p17, p18, p19]
        clear p0 p1 p2 p4 p5 p6 p7 p8 p10 p11 p12 p13 p14 p15 p16 p17 p18 p19
        generalize vs 3 = y3 at *
        generalize vs 9 = y9 at *
        clear vs
        go_wp2
        go_ret
        exact RetV.mk (belowP be _ _)
    · simp only [if_true]
      refine wp_relS 27 95 rfl (by kernel_rfl) (by kernel_rfl) ?_
      apply Steps.one (MP.eq _) 1 rfl
      · intro o ho FA x hO hD K hK
        obtain rfl := Option.some.inj ho.symm
        clear ho
        have e5 := hO 5 (by kernel_rfl)
        simp only [eval_tmp, List.getElem?_toArray, List.getElem?_cons_succ, List.getElem?_cons_zero, Option.getD_some] at e5
        have ev5 := Lib.hid ((eval_tmp FA 5).trans e5)
        clear hO hD
        refine wanted_if rfl ?_
        refine wp_ldA 35 (.tmp 5) rfl (opC k1 v1 b1 e1 s1 ah1 al1 pt1 pr1 wy1 A1 n2 c1) ev5.out (b5.later (below_plus _ _ _)) (whole_ _) wr1 wr2 (szOp _ _ _ _ _ _ _ _ _ _ _ _ _) ?_
        exact hK.out _ _ (Ex.refl _) rfl
      apply Steps.one (MP.eq _) 2 rfl
      · intro o ho FA x hO hD K hK
        obtain rfl := Option.some.inj ho.symm
        clear ho
        have e7 := hO 7 (by kernel_rfl)
        simp only [eval_tmp, List.getElem?_toArray, List.getElem?_cons_succ, List.getElem?_cons_zero, Option.getD_some] at e7
        have ev7 := Lib.hid ((eval_tmp FA 7).trans e7)
        clear hO hD
        refine wanted_if rfl ?_
        refine wp_ldA 28 (.tmp 7) rfl (opC k1 v1 b1 e1 s1 ah1 al1 pt1 pr1 wy1 A2 n2 c2) ev7.out (b7.later (below_plus _ _ _)) (whole_ _) vr1 vr2 (szRo _ _ _ _ _ _ _ _ _ _ _ _ _) ?_
        exact hK.out _ _ (Ex.refl _) rfl
      apply Steps.one (MP.op (fun B n d => opC k1 v1 b1 e1 s1 ah1 al1 pt1 pr1 wy1 B n d) n2 (prs .i64 ms1)) 3 rfl
      · intro o ho FA x hO hD K hK
        obtain rfl := Option.some.inj ho.symm
        clear ho
        have ev33 : FA.eval (.tmp 33) = _ := hD 1 33 (by kernel_rfl)
        have e33 := (eval_tmp FA 33).symm.trans ev33
        replace ev33 := Lib.hid ev33
        clear hO hD
        go_simp
        refine (HT1.out _ (HC.out _ (below_plus _ _ _)).2.1).mono ?_
        rintro e w1 ⟨B7, d7, bs7, d8, rfl, rfl, h7⟩
        exact hK.out _ _ (Ex.plus_ _ _ _) ⟨_, _, rfl, h7⟩
      apply Steps.one (MP.eq (.bool true)) 4 rfl
      · intro o ho FA x hO hD K hK
        obtain rfl := Option.some.inj ho.symm
        clear ho
        have ev32 : FA.eval (.tmp 32) = _ := hD 0 32 (by kernel_rfl)
        have e32 := (eval_tmp FA 32).symm.trans ev32
        replace ev32 := Lib.hid ev32
        have f34 := hD 2 34 (by kernel_rfl)
        generalize eu34 : FA.eval (.tmp 34) = u34 at f34
        have e34 := (eval_tmp FA 34).symm.trans eu34
        have ev34 := Lib.hid eu34
        clear eu34
        clear hO hD
        obtain ⟨B7, d7, rfl, h7⟩ := f34
        go_simp
        refine (HSM.out _ _ _ (HC.out _ (below_plus _ _ _)).1 h7).mono ?_
        rintro e w1 ⟨bs9, d9, rfl, rfl⟩
        exact hK.out _ _ (Ex.plus_ _ _ _) rfl
      apply Steps.one (MP.eq _) 5 rfl
      · intro o ho FA x hO hD K hK
        obtain rfl := Option.some.inj ho.symm
        clear ho
        have ev35 : FA.eval (.tmp 35) = _ := hD 3 35 (by kernel_rfl)
        have e35 := (eval_tmp FA 35).symm.trans ev35
        replace ev35 := Lib.hid ev35
        clear hO hD
        go_simp
        exact hK.out _ _ (Ex.refl _) rfl
      apply Steps.one (MP.eq _) 6 rfl
      · intro o ho FA x hO hD K hK
        obtain rfl := Option.some.inj ho.symm
        clear ho
        have ev36 : FA.eval (.tmp 36) = _ := hD 4 36 (by kernel_rfl)
        have e36 := (eval_tmp FA 36).symm.trans ev36
        replace ev36 := Lib.hid ev36
        clear hO hD
        go_simp
        exact hK.out _ _ (Ex.refl _) rfl
      apply Steps.one (MP.eq _) 7 rfl
      · intro o ho FA x hO hD K hK
        obtain rfl := Option.some.inj ho.symm
        clear ho
        have e6 := hO 6 (by kernel_rfl)
        simp only [eval_tmp, List.getElem?_toArray, List.getElem?_cons_succ, List.getElem?_cons_zero, Option.getD_some] at e6
        have ev6 := Lib.hid ((eval_tmp FA 6).trans e6)
        have ev37 : FA.eval (.tmp 37) = _ := hD 5 37 (by kernel_rfl)
        have e37 := (eval_tmp FA 37).symm.trans ev37
        replace ev37 := Lib.hid ev37
        first | have ge37 := slot_of e37 | have ge37 := slot_un e37
        clear hO hD
        first | (go_simp; exact hK.out _ _ (Ex.refl _) rfl) | (rcases ge37 with ge37 | ge37 <;> (go_simp; exact hK.out _ _ (Ex.refl _) rfl))
      apply Steps.one (MP.eq _) 8 rfl
      · intro o ho FA x hO hD K hK
        obtain rfl := Option.some.inj ho.symm
        clear ho
        have ev38 : FA.eval (.tmp 38) = _ := hD 6 38 (by kernel_rfl)
        have e38 := (eval_tmp FA 38).symm.trans ev38
        replace ev38 := Lib.hid ev38
        have ev37 : FA.eval (.tmp 37) = _ := hD 5 37 (by kernel_rfl)
        have e37 := (eval_tmp FA 37).symm.trans ev37
        replace ev37 := Lib.hid ev37
        first | have ge37 := slot_of e37 | have ge37 := slot_un e37
        clear hO hD
        first | (go_simp; exact hK.out _ _ (Ex.refl _) rfl) | (rcases ge37 with ge37 | ge37 <;> (go_simp; exact hK.out _ _ (Ex.refl _) rfl))
      apply Steps.one (MP.eq _) 9 rfl
      · intro o ho FA x hO hD K hK
        obtain rfl := Option.some.inj ho.symm
        clear ho
        have e8 := hO 8 (by kernel_rfl)
        simp only [eval_tmp, List.getElem?_toArray, List.getElem?_cons_succ, List.getElem?_cons_zero, Option.getD_some] at e8
        have ev8 := Lib.hid ((eval_tmp FA 8).trans e8)
        have ev37 : FA.eval (.tmp 37) = _ := hD 5 37 (by kernel_rfl)
        have e37 := (eval_tmp FA 37).symm.trans ev37
        replace ev37 := Lib.hid ev37
        first | have ge37 := slot_of e37 | have ge37 := slot_un e37
        clear hO hD
        first | (go_simp; exact hK.out _ _ (Ex.refl _) rfl) | (rcases ge37 with ge37 | ge37 <;> (go_simp; exact hK.out _ _ (Ex.refl _) rfl))
      apply Steps.one (MP.eq _) 10 rfl
      · intro o ho FA x hO hD K hK
        obtain rfl := Option.some.inj ho.symm
        clear ho
        have ev39 : FA.eval (.tmp 39) = _ := hD 7 39 (by kernel_rfl)
        have e39 := (eval_tmp FA 39).symm.trans ev39
        replace ev39 := Lib.hid ev39
        have ev40 : FA.eval (.tmp 40) = _ := hD 8 40 (by kernel_rfl)
        have e40 := (eval_tmp FA 40).symm.trans ev40
        replace ev40 := Lib.hid ev40
        have ev37 : FA.eval (.tmp 37) = _ := hD 5 37 (by kernel_rfl)
        have e37 := (eval_tmp FA 37).symm.trans ev37
        replace ev37 := Lib.hid ev37
        first | have ge37 := slot_of e37 | have ge37 := slot_un e37
        clear hO hD
        first | (go_simp; exact hK.out _ _ (Ex.refl _) rfl) | (rcases ge37 with ge37 | ge37 <;> (go_simp; exact hK.out _ _ (Ex.refl _) rfl))
      apply Steps.one (MP.eq _) 11 rfl
      · intro o ho FA x hO hD K hK
        obtain rfl := Option.some.inj ho.symm
        clear ho
        have ev37 : FA.eval (.tmp 37) = _ := hD 5 37 (by kernel_rfl)
        have e37 := (eval_tmp FA 37).symm.trans ev37
        replace ev37 := Lib.hid ev37
        have ev41 : FA.eval (.tmp 41) = _ := hD 9 41 (by kernel_rfl)
        have e41 := (eval_tmp FA 41).symm.trans ev41
        replace ev41 := Lib.hid ev41
        clear hO hD
        go_simp
        exact hK.out _ _ (Ex.refl _) rfl
      apply Steps.one (MP.eq _) 12 rfl
      · intro o ho FA x hO hD K hK
        obtain rfl := Option.some.inj ho.symm
        clear ho
        have ev42 : FA.eval (.tmp 42) = _ := hD 10 42 (by kernel_rfl)
        have e42 := (eval_tmp FA 42).symm.trans ev42
        replace ev42 := Lib.hid ev42
        clear hO hD
        go_simp
        exact hK.out _ _ (Ex.refl _) rfl
      apply Steps.one (MP.eq _) 13 rfl
      · intro o ho FA x hO hD K hK
        obtain rfl := Option.some.inj ho.symm
        clear ho
        have e8 := hO 8 (by kernel_rfl)
        simp only [eval_tmp, List.getElem?_toArray, List.getElem?_cons_succ, List.getElem?_cons_zero, Option.getD_some] at e8
        have ev8 := Lib.hid ((eval_tmp FA 8).trans e8)
        have ev43 : FA.eval (.tmp 43) = _ := hD 11 43 (by kernel_rfl)
        have e43 := (eval_tmp FA 43).symm.trans ev43
        replace ev43 := Lib.hid ev43
        first | have ge43 := slot_of e43 | have ge43 := slot_un e43
        clear hO hD
        first | (go_simp; exact hK.out _ _ (Ex.refl _) rfl) | (rcases ge43 with ge43 | ge43 <;> (go_simp; exact hK.out _ _ (Ex.refl _) rfl))
      apply Steps.one (MP.eq _) 14 rfl
      · intro o ho FA x hO hD K hK
        obtain rfl := Option.some.inj ho.symm
        clear ho
        have ev44 : FA.eval (.tmp 44) = _ := hD 12 44 (by kernel_rfl)
        have e44 := (eval_tmp FA 44).symm.trans ev44
        replace ev44 := Lib.hid ev44
        have ev43 : FA.eval (.tmp 43) = _ := hD 11 43 (by kernel_rfl)
        have e43 := (eval_tmp FA 43).symm.trans ev43
        replace ev43 := Lib.hid ev43
        first | have ge43 := slot_of e43 | have ge43 := slot_un e43
        clear hO hD
        first | (go_simp; exact hK.out _ _ (Ex.refl _) rfl) | (rcases ge43 with ge43 | ge43 <;> (go_simp; exact hK.out _ _ (Ex.refl _) rfl))
      apply Steps.one (MP.eq _) 15 rfl
      · intro o ho FA x hO hD K hK
        obtain rfl := Option.some.inj ho.symm
        clear ho
        have ev45 : FA.eval (.tmp 45) = _ := hD 13 45 (by kernel_rfl)
        have e45 := (eval_tmp FA 45).symm.trans ev45
        replace ev45 := Lib.hid ev45
        have ev43 : FA.eval (.tmp 43) = _ := hD 11 43 (by kernel_rfl)
        have e43 := (eval_tmp FA 43).symm.trans ev43
        replace ev43 := Lib.hid ev43
        first | have ge43 := slot_of e43 | have ge43 := slot_un e43
        clear hO hD
        first | (go_simp; exact hK.out _ _ (Ex.refl _) rfl) | (rcases ge43 with ge43 | ge43 <;> (go_simp; exact hK.out _ _ (Ex.refl _) rfl))
      apply Steps.one (MP.eq _) 16 rfl
      · intro o ho FA x hO hD K hK
        obtain rfl := Option.some.inj ho.symm
        clear ho
        have e6 := hO 6 (by kernel_rfl)
        simp only [eval_tmp, List.getElem?_toArray, List.getElem?_cons_succ, List.getElem?_cons_zero, Option.getD_some] at e6
        have ev6 := Lib.hid ((eval_tmp FA 6).trans e6)
        have ev46 : FA.eval (.tmp 46) = _ := hD 14 46 (by kernel_rfl)
        have e46 := (eval_tmp FA 46).symm.trans ev46
        replace ev46 := Lib.hid ev46
        first | have ge46 := slot_of e46 | have ge46 := slot_un e46
        clear hO hD
        first | (go_simp; exact hK.out _ _ (Ex.refl _) rfl) | (rcases ge46 with ge46 | ge46 <;> (go_simp; exact hK.out _ _ (Ex.refl _) rfl))
      apply Steps.one (MP.eq _) 17 rfl
      · intro o ho FA x hO hD K hK
        obtain rfl := Option.some.inj ho.symm
        clear ho
        have ev47 : FA.eval (.tmp 47) = _ := hD 15 47 (by kernel_rfl)
        have e47 := (eval_tmp FA 47).symm.trans ev47
        replace ev47 := Lib.hid ev47
        have ev46 : FA.eval (.tmp 46) = _ := hD 14 46 (by kernel_rfl)
        have e46 := (eval_tmp FA 46).symm.trans ev46
        replace ev46 := Lib.hid ev46
        first | have ge46 := slot_of e46 | have ge46 := slot_un e46
        clear hO hD
        first | (go_simp; exact hK.out _ _ (Ex.refl _) rfl) | (rcases ge46 with ge46 | ge46 <;> (go_simp; exact hK.out _ _ (Ex.refl _) rfl))
      apply Steps.one (MP.eq _) 18 rfl
      · intro o ho FA x hO hD K hK
        obtain rfl := Option.some.inj ho.symm
        clear ho
        have ev46 : FA.eval (.tmp 46) = _ := hD 14 46 (by kernel_rfl)
        have e46 := (eval_tmp FA 46).symm.trans ev46
        replace ev46 := Lib.hid ev46
        have ev48 : FA.eval (.tmp 48) = _ := hD 16 48 (by kernel_rfl)
        have e48 := (eval_tmp FA 48).symm.trans ev48
        replace ev48 := Lib.hid ev48
        have ev43 : FA.eval (.tmp 43) = _ := hD 11 43 (by kernel_rfl)
        have e43 := (eval_tmp FA 43).symm.trans ev43
        replace ev43 := Lib.hid ev43
        first | have ge43 := slot_of e43 | have ge43 := slot_un e43
        clear hO hD
        first | (go_simp; exact hK.out _ _ (Ex.refl _) rfl) | (rcases ge43 with ge43 | ge43 <;> (go_simp; exact hK.out _ _ (Ex.refl _) rfl))
      apply Steps.one (MP.eq _) 19 rfl
      · intro o ho FA x hO hD K hK
        obtain rfl := Option.some.inj ho.symm
        clear ho
        have ev43 : FA.eval (.tmp 43) = _ := hD 11 43 (by kernel_rfl)
        have e43 := (eval_tmp FA 43).symm.trans ev43
        replace ev43 := Lib.hid ev43
        have ev49 : FA.eval (.tmp 49) = _ := hD 17 49 (by kernel_rfl)
        have e49 := (eval_tmp FA 49).symm.trans ev49
        replace ev49 := Lib.hid ev49
        clear hO hD
        go_simp
        exact hK.out _ _ (Ex.refl _) rfl
      apply Steps.one (MP.eq _) 20 rfl
      · intro o ho FA x hO hD K hK
        obtain rfl := Option.some.inj ho.symm
        clear ho
        have ev50 : FA.eval (.tmp 50) = _ := hD 18 50 (by kernel_rfl)
        have e50 := (eval_tmp FA 50).symm.trans ev50
        replace ev50 := Lib.hid ev50
        clear hO hD
        go_simp
        exact hK.out _ _ (Ex.refl _) rfl
      apply Steps.one (MP.eq _) 21 rfl
      · intro o ho FA x hO hD K hK
        obtain rfl := Option.some.inj ho.symm
        clear ho
        have e2 := hO 2 (by kernel_rfl)
        simp only [eval_tmp, List.getElem?_toArray, List.getElem?_cons_succ, List.getElem?_cons_zero, Option.getD_some] at e2
        have ev2 := Lib.hid ((eval_tmp FA 2).trans e2)
        have ev51 : FA.eval (.tmp 51) = _ := hD 19 51 (by kernel_rfl)
        have e51 := (eval_tmp FA 51).symm.trans ev51
        replace ev51 := Lib.hid ev51
        first | have ge51 := slot_of e51 | have ge51 := slot_un e51
        clear hO hD
        first | (refine wanted_ifG ?_ ?_; (· go_simp); refine wp_ldA 28 (.tmp 2) rfl (opC k v b e six ah al pt pr wy A n c) ev2.out (b0.later (below_plus _ _ _)) (whole_ _) vr1 vr2 (szRo _ _ _ _ _ _ _ _ _ _ _ _ _) ?_; exact hK.out _ _ (Ex.refl _) rfl) | (go_simp; exact hK.out _ _ (Ex.refl _) rfl) | (rcases ge51 with ge51 | ge51 <;> (go_simp; exact hK.out _ _ (Ex.refl _) rfl))
      apply Steps.one (MP.op (fun B n d => opC k v b e six ah al pt pr wy B n d) n (prs .i64 ms)) 22 rfl
      · intro o ho FA x hO hD K hK
        obtain rfl := Option.some.inj ho.symm
        clear ho
        have ev52 : FA.eval (.tmp 52) = _ := hD 20 52 (by kernel_rfl)
        have e52 := (eval_tmp FA 52).symm.trans ev52
        replace ev52 := Lib.hid ev52
        have ev51 : FA.eval (.tmp 51) = _ := hD 19 51 (by kernel_rfl)
        have e51 := (eval_tmp FA 51).symm.trans ev51
        replace ev51 := Lib.hid ev51
        first | have ge51 := slot_of e51 | have ge51 := slot_un e51
        clear hO hD
        refine wanted_ifG (by go_simp) ?_
        go_simp
        refine (HT0.out _ (HC.out _ (below_plus _ _ _)).2.2).mono ?_
        rintro e w1 ⟨B7, d7, bs7, d8, rfl, rfl, h7⟩
        exact hK.out _ _ (Ex.plus_ _ _ _) ⟨_, _, rfl, h7⟩
      apply Steps.one (MP.eq (.bool rb)) 23 rfl
      · intro o ho FA x hO hD K hK
        obtain rfl := Option.some.inj ho.symm
        clear ho
        have f53 := hD 21 53 (by kernel_rfl)
        generalize eu53 : FA.eval (.tmp 53) = u53 at f53
        have e53 := (eval_tmp FA 53).symm.trans eu53
        have ev53 := Lib.hid eu53
        clear eu53
        have ev51 : FA.eval (.tmp 51) = _ := hD 19 51 (by kernel_rfl)
        have e51 := (eval_tmp FA 51).symm.trans ev51
        replace ev51 := Lib.hid ev51
        first | have ge51 := slot_of e51 | have ge51 := slot_un e51
        clear hO hD
        refine wanted_ifG (by go_simp) ?_
        obtain ⟨B7, d7, rfl, h7⟩ := f53
        go_simp
        refine (HR1.out _ _ _ h7).mono ?_
        rintro e w1 ⟨bs9, d9, rfl, rfl⟩
        exact hK.out _ _ (Ex.plus_ _ _ _) rfl
      apply Steps.one (MP.eq _) 24 rfl
      · intro o ho FA x hO hD K hK
        obtain rfl := Option.some.inj ho.symm
        clear ho
        have e2 := hO 2 (by kernel_rfl)
        simp only [eval_tmp, List.getElem?_toArray, List.getElem?_cons_succ, List.getElem?_cons_zero, Option.getD_some] at e2
        have ev2 := Lib.hid ((eval_tmp FA 2).trans e2)
        have ev51 : FA.eval (.tmp 51) = _ := hD 19 51 (by kernel_rfl)
        have e51 := (eval_tmp FA 51).symm.trans ev51
        replace ev51 := Lib.hid ev51
        first | have ge51 := slot_of e51 | have ge51 := slot_un e51
        clear hO hD
        first | (refine wanted_ifG ?_ ?_; (· go_simp); refine wp_ldA 28 (.tmp 2) rfl (opC k v b e six ah al pt pr wy A n c) ev2.out (b0.later (below_plus _ _ _)) (whole_ _) vr1 vr2 (szRo _ _ _ _ _ _ _ _ _ _ _ _ _) ?_; exact hK.out _ _ (Ex.refl _) rfl) | (go_simp; exact hK.out _ _ (Ex.refl _) rfl) | (rcases ge51 with ge51 | ge51 <;> (go_simp; exact hK.out _ _ (Ex.refl _) rfl))
      apply Steps.one (MP.eq (.bool rb)) 25 rfl
      · intro o ho FA x hO hD K hK
        obtain rfl := Option.some.inj ho.symm
        clear ho
        have ev55 : FA.eval (.tmp 55) = _ := hD 23 55 (by kernel_rfl)
        have e55 := (eval_tmp FA 55).symm.trans ev55
        replace ev55 := Lib.hid ev55
        have ev51 : FA.eval (.tmp 51) = _ := hD 19 51 (by kernel_rfl)
        have e51 := (eval_tmp FA 51).symm.trans ev51
        replace ev51 := Lib.hid ev51
        first | have ge51 := slot_of e51 | have ge51 := slot_un e51
        clear hO hD
        refine wanted_ifG (by go_simp) ?_
        go_simp
        refine (HR2.out _ (HC.out _ (below_plus _ _ _)).2.2).mono ?_
        rintro e w1 ⟨bs9, d9, rfl, rfl⟩
        exact hK.out _ _ (Ex.plus_ _ _ _) rfl
      apply Steps.one (MP.eq _) 26 rfl
      · intro o ho FA x hO hD K hK
        obtain rfl := Option.some.inj ho.symm
        clear ho
        have ev54 : FA.eval (.tmp 54) = _ := hD 22 54 (by kernel_rfl)
        have e54 := (eval_tmp FA 54).symm.trans ev54
        replace ev54 := Lib.hid ev54
        have ev56 : FA.eval (.tmp 56) = _ := hD 24 56 (by kernel_rfl)
        have e56 := (eval_tmp FA 56).symm.trans ev56
        replace ev56 := Lib.hid ev56
        have ev51 : FA.eval (.tmp 51) = _ := hD 19 51 (by kernel_rfl)
        have e51 := (eval_tmp FA 51).symm.trans ev51
        replace ev51 := Lib.hid ev51
        first | have ge51 := slot_of e51 | have ge51 := slot_un e51
        clear hO hD
        first | (go_simp; exact hK.out _ _ (Ex.refl _) rfl) | (rcases ge51 with ge51 | ge51 <;> (go_simp; exact hK.out _ _ (Ex.refl _) rfl))
      apply Steps.one (MP.eq _) 27 rfl
      · intro o ho FA x hO hD K hK
        obtain rfl := Option.some.inj ho.symm
        clear ho
        have ev51 : FA.eval (.tmp 51) = _ := hD 19 51 (by kernel_rfl)
        have e51 := (eval_tmp FA 51).symm.trans ev51
        replace ev51 := Lib.hid ev51
        have ev57 : FA.eval (.tmp 57) = _ := hD 25 57 (by kernel_rfl)
        have e57 := (eval_tmp FA 57).symm.trans ev57
        replace ev57 := Lib.hid ev57
        clear hO hD
        go_simp
        exact hK.out _ _ (Ex.refl _) rfl
      refine Steps.fin_ (fun vs x hp => ?_)
      have p0 : vs 0 = _ := hp 0 (by omega)
      have p1 : vs 1 = _ := hp 1 (by omega)
      have p2 := hp 2 (by omega)
      have p3 : vs 3 = _ := hp 3 (by omega)
      have p4 : vs 4 = _ := hp 4 (by omega)
      have p5 : vs 5 = _ := hp 5 (by omega)
      have p6 : vs 6 = _ := hp 6 (by omega)
      have p7 : vs 7 = _ := hp 7 (by omega)
      have p8 : vs 8 = _ := hp 8 (by omega)
      have p9 : vs 9 = _ := hp 9 (by omega)
      have p10 : vs 10 = _ := hp 10 (by omega)
      have p11 : vs 11 = _ := hp 11 (by omega)
      have p12 : vs 12 = _ := hp 12 (by omega)
      have p13 : vs 13 = _ := hp 13 (by omega)
      have p14 : vs 14 = _ := hp 14 (by omega)
      have p15 : vs 15 = _ := hp 15 (by omega)
      have p16 : vs 16 = _ := hp 16 (by omega)
      have p17 : vs 17 = _ := hp 17 (by omega)
      have p18 : vs 18 = _ := hp 18 (by omega)
      have p19 : vs 19 = _ := hp 19 (by omega)
      have p20 : vs 20 = _ := hp 20 (by omega)
      have p21 := hp 21 (by omega)
      have p22 : vs 22 = _ := hp 22 (by omega)
      have p23 : vs 23 = _ := hp 23 (by omega)
      have p24 : vs 24 = _ := hp 24 (by omega)
      have p25 : vs 25 = _ := hp 25 (by omega)
      have p26 : vs 26 = _ := hp 26 (by omega)
      clear hp
      simp only [List.take_succ_cons, List.take_zero, List.drop_succ_cons, List.drop_zero, putAll, Nat.zero_add, Nat.reduceAdd, Act.put, List.setIfInBounds_toArray, List.set_cons_zero, List.set_cons_succ, p0, p1, p3, p4, p5, p6, p7, p8, p9, p10, p11, p12, p13, p14, p15, p16, p17, p18, p19, p20, p22, p23, p24, p25, p26]
      clear p0 p1 p3 p4 p5 p6 p7 p8 p9 p10 p11 p12 p13 p14 p15 p16 p17 p18 p19 p20 p22 p23 p24 p25 p26
      generalize vs 2 = y2 at *
      generalize vs 21 = y21 at *
      clear vs
      have b4 := below_plus V4 x.bs x.d
      replace b0 := b0.later b4
      replace hr := hr.later b4
      replace be := belowP be x.bs x.d
      clear b4 HC HSM HT1 HR1 b5 b7 hx1 hx2
      generalize plus V4 x.bs x.d = V5 at *
      cases rb
      · go_upto_region 7 with (fail)
        refine wp_region_lit ?_
        refine wpList_ldA (t := 28) 28 (.tmp 2) rfl rfl (opC k v b e six ah al pt pr wy A n c) rfl (b0) (whole_ _) vr1 vr2 (szRo _ _ _ _ _ _ _ _ _ _ _ _ _) ?_
        refine wpList_plain rfl (fun K hK => ?_)
        go_simp
        refine (HT0.out _ hr).mono ?_
        rintro e w1 ⟨B7, d7, bs7, d8, rfl, rfl, h7⟩
        with_reducible refine hK _ _ ?_
        clear hK K
        have b4 := below_plus V5 bs7 d8
        replace b0 := b0.later b4
        replace hr := hr.later b4
        replace be := belowP be bs7 d8
        clear b4
        generalize plus V5 bs7 d8 = V6 at *
        refine wpList_plain rfl (fun K hK => ?_)
        go_simp
        refine (codecOp_no k v b e six ah al pt pr wy ms B7 n d7 V6 a2 h7 (by omega) hRB.out).mono ?_
        rintro e w1 ⟨bs8, d8, rfl, rfl⟩
        with_reducible refine hK _ _ ?_
        clear hK K
        have b4 := below_plus V6 bs8 d8
        replace b0 := b0.later b4
        replace hr := hr.later b4
        replace be := belowP be bs8 d8
        clear b4
        generalize plus V6 bs8 d8 = V7 at *
        refine wpList_plain rfl (fun K hK => ?_); go_simp; with_reducible refine hK _ _ ?_; clear hK K
        go_upto_region 8 with (fail)
        refine wp_region_lit ?_
        refine wpList_ldA (t := 28) 28 (.tmp 2) rfl rfl (opC k v b e six ah al pt pr wy A n c) rfl (b0) (whole_ _) vr1 vr2 (szRo _ _ _ _ _ _ _ _ _ _ _ _ _) ?_
        refine wpList_plain rfl (fun K hK => ?_)
        go_simp
        refine (HR2.out _ hr).mono ?_
        rintro e w1 ⟨bs9, d9, rfl, rfl⟩
        with_reducible refine hK _ _ ?_
        clear hK K
        have b4 := below_plus V7 bs9 d9
        replace b0 := b0.later b4
        replace hr := hr.later b4
        replace be := belowP be bs9 d9
        clear b4
        generalize plus V7 bs9 d9 = V8 at *
        refine wpList_plain rfl (fun K hK => ?_); go_simp; with_reducible refine hK _ _ ?_; clear hK K
        go_wp2_with (go_at_call 7; refine (awake23 _).mono ?_; rintro e w1 ⟨bs3, d3, rfl, rfl⟩)
        go_ret
        exact RetV.mk (belowP be bs3 d3)
      · obtain ⟨kn, vn, bn, en, wn, rfl, rfl, rfl, rfl, rfl, k1', k2', k3', k4', k5', h64, had, hms⟩ := right_nats hRB.out
        have hn64 : n ≤ 64 := by have e1 := hr.1; rw [prs_length] at e1; omega
        have HPOP := Lib.hid (pop_op kn vn bn en six ah al pt pr wn ms k1' k2' k3' k4' k5' a1 a2 a3 a4 had h64 hms)
        have HRO := Lib.hid (fun W (h : Rs 2 W A n c (prs .i64 ms)) => refOp_any kn vn bn en six ah al pt pr wn ms A n c W k1' k2' k3' k4' k5' a1 a2 a3 a4 h hn64 hms)
        have HLO := opB_len kn vn bn en six ah al pt pr wn ms h64
        have HCO := Lib.hid (fun W B7 d7 (h : Rs 2 W B7 n d7 (prs .i64 ms)) => codecOp_any kn vn bn en six ah al pt pr wn ms B7 n d7 W k1' k2' k3' k4' k5' a1 a2 a3 a4 h (by omega) hn64 hms hRB.out)
        have HSM2 := Lib.hid (fun W A3 c3 B7 d7 (h : Rs 2 W A3 n c3 (prs .i64 ms)) (h' : Rs 2 W B7 n d7 (prs .i64 ms)) => same_any kn vn bn en six ah al pt pr wn ms A3 B7 n c3 d7 W h h' (by omega))
        generalize opB kn vn bn en six ah al pt pr wn ms = Lo at *
        go_upto_region 7 with (fail)
        refine wp_region_lit ?_
        refine wpList_ldA (t := 28) 28 (.tmp 2) rfl rfl (opC kn vn bn en six ah al pt pr wn A n c) rfl (b0) (whole_ _) vr1 vr2 (szRo _ _ _ _ _ _ _ _ _ _ _ _ _) ?_
        refine wpList_plain rfl (fun K hK => ?_)
        go_simp
        refine (HT0.out _ hr).mono ?_
        rintro e w1 ⟨B7, d7, bs7, d8, rfl, rfl, h7⟩
        with_reducible refine hK _ _ ?_
        clear hK K
        have b4 := below_plus V5 bs7 d8
        replace b0 := b0.later b4
        replace hr := hr.later b4
        replace be := belowP be bs7 d8
        clear b4
        generalize plus V5 bs7 d8 = V6 at *
        refine wpList_plain rfl (fun K hK => ?_)
        go_simp
        refine (HCO.out V6 B7 d7 h7).mono ?_
        rintro e w1 ⟨A9, n9, c9, bs8, d8, rfl, rfl, h9⟩
        with_reducible refine hK _ _ ?_
        clear hK K
        have b4 := below_plus V6 bs8 d8
        replace b0 := b0.later b4
        replace hr := hr.later b4
        replace be := belowP be bs8 d8
        clear b4
        generalize plus V6 bs8 d8 = V7 at *
        refine wpList_plain rfl (fun K hK => ?_); go_simp; with_reducible refine hK _ _ ?_; clear hK K
        go_upto_region 8 with (fail)
        refine wp_region_lit ?_
        refine wpList_ldA (t := 28) 28 (.tmp 2) rfl rfl (opC kn vn bn en six ah al pt pr wn A n c) rfl (b0) (whole_ _) vr1 vr2 (szRo _ _ _ _ _ _ _ _ _ _ _ _ _) ?_
        refine wpList_plain rfl (fun K hK => ?_)
        go_simp
        refine (HR2.out _ hr).mono ?_
        rintro e w1 ⟨bs9, d9, rfl, rfl⟩
        with_reducible refine hK _ _ ?_
        clear hK K
        have b4 := below_plus V7 bs9 d9
        replace b0 := b0.later b4
        replace hr := hr.later b4
        replace h9 := h9.later b4
        replace be := belowP be bs9 d9
        clear b4
        generalize plus V7 bs9 d9 = V8 at *
        refine wpList_plain rfl (fun K hK => ?_); go_simp; with_reducible refine hK _ _ ?_; clear hK K
        go_upto_region 10 with (fail)
        have hn9 : n9 ≤ 300 := by have e9 := h9.1; omega
        refine wp_region_lit ?_
        refine wpList_plain rfl (fun K hK => ?_); go_simp; with_reducible refine hK _ _ ?_; clear hK K
        refine wpList_plain rfl (fun K hK => ?_)
        go_simp
        refine (parseOp_any A9 n9 c9 _ V8 h9 (by omega)).mono ?_
        rintro e w1 ⟨o3, ok3, A3, n3, c3, bs3, d3, rfl, rfl, hf3, hx3, hp3⟩
        with_reducible refine hK _ _ ?_
        clear hK K
        obtain ⟨rfl, rfl⟩ := po_is hp3 HPOP.out
        simp only [OpR.cells, if_true] at *
        have b4 := below_plus V8 bs3 d3
        replace b0 := b0.later b4
        replace hr := hr.later b4
        replace h9 := h9.later b4
        replace be := belowP be bs3 d3
        clear b4
        generalize plus V8 bs3 d3 = V9 at *
        iterate 4 (refine wpList_plain rfl (fun K hK => ?_); go_simp; with_reducible refine hK _ _ ?_; clear hK K)
        refine wpList_stA (t := 35) 35 (.tmp 10) (.tmp 74) rfl rfl (opC kn vn bn en six ah al pt pr wn A3 n3 c3) (opC 0 0 0 0 false 0 0 0 0 0 none 0 0) rfl (opC_one _ _ _ _ _ _ _ _ _ _ _ _ _) rfl rfl (Bk.new _ _ _) (szOp _ _ _ _ _ _ _ _ _ _ _ _ _) ?_
        intro V10 h10 g10
        refine wpList_plain rfl (fun K hK => ?_); go_simp; with_reducible refine hK _ _ ?_; clear hK K
        obtain rfl : n = n3 := by have e1 := hx3.1; have e2 := hr.1; omega
        have b10 : Bk V10 V9.heap.size 35 (opC kn vn bn en six ah al pt pr wn A3 n c3) := h10
        have bx : Below V9.heap.size V9 V10 := below_grown (Below.allocS (Below.refl _ _) _) g10 (Nat.le_refl _)
        replace b0 := b0.later bx
        replace hr := hr.later bx
        replace h9 := h9.later bx
        replace hx3 := hx3.later bx
        replace be := be.trans (bx.mono be.size)
        clear bx h10 g10
        generalize V9.heap.size = g10 at *
        have HC := Lib.hid (fun (W : World) (h : Below V10.heap.size V10 W) => show Rs 2 W A3 n c3 (prs .i64 ms) ∧ Rs 2 W A n c (prs .i64 ms) from ⟨hx3.later h, hr.later h⟩)
        go_upto_region 11 with (fail)
        refine wp_relS 20 95 rfl (by kernel_rfl) (by kernel_rfl) ?_
        apply Steps.one (MP.eq _) 1 rfl
        · intro o ho FA x hO hD K hK
          obtain rfl := Option.some.inj ho.symm
          clear ho
          have e9 := hO 9 (by kernel_rfl)
          simp only [eval_tmp, List.getElem?_toArray, List.getElem?_cons_succ, List.getElem?_cons_zero, Option.getD_some] at e9
          have ev9 := Lib.hid ((eval_tmp FA 9).trans e9)
          clear hO hD
          go_simp
          exact hK.out _ _ (Ex.refl _) rfl
        apply Steps.one (MP.eq _) 2 rfl
        · intro o ho FA x hO hD K hK
          obtain rfl := Option.some.inj ho.symm
          clear ho
          have ev76 : FA.eval (.tmp 76) = _ := hD 0 76 (by kernel_rfl)
          have e76 := (eval_tmp FA 76).symm.trans ev76
          replace ev76 := Lib.hid ev76
          clear hO hD
          have es := run_str bt Try.underlying9 (h9.plus_ x.bs x.d)
          go_simp
          exact hK.out _ _ (Ex.refl _) rfl
        apply Steps.one (MP.eq _) 3 rfl
        · intro o ho FA x hO hD K hK
          obtain rfl := Option.some.inj ho.symm
          clear ho
          have e2 := hO 2 (by kernel_rfl)
          simp only [eval_tmp, List.getElem?_toArray, List.getElem?_cons_succ, List.getElem?_cons_zero, Option.getD_some] at e2
          have ev2 := Lib.hid ((eval_tmp FA 2).trans e2)
          clear hO hD
          refine wanted_if rfl ?_
          refine wp_ldA 28 (.tmp 2) rfl (opC kn vn bn en six ah al pt pr wn A n c) ev2.out (b0.later (below_plus _ _ _)) (whole_ _) vr1 vr2 (szRo _ _ _ _ _ _ _ _ _ _ _ _ _) ?_
          exact hK.out _ _ (Ex.refl _) rfl
        apply Steps.one (MP.rb Lo) 4 rfl
        · intro o ho FA x hO hD K hK
          obtain rfl := Option.some.inj ho.symm
          clear ho
          have ev78 : FA.eval (.tmp 78) = _ := hD 2 78 (by kernel_rfl)
          have e78 := (eval_tmp FA 78).symm.trans ev78
          replace ev78 := Lib.hid ev78
          clear hO hD
          go_simp
          refine (HRO.out _ (HC.out _ (below_plus _ _ _)).2).mono ?_
          rintro e w1 ⟨A8, n8, c8, bs8, d8, rfl, rfl, h8⟩
          exact hK.out _ _ (Ex.plus_ _ _ _) ⟨_, _, _, rfl, h8⟩
        apply Steps.one (MP.eq _) 5 rfl
        · intro o ho FA x hO hD K hK
          obtain rfl := Option.some.inj ho.symm
          clear ho
          have f79 := hD 3 79 (by kernel_rfl)
          generalize eu79 : FA.eval (.tmp 79) = u79 at f79
          have e79 := (eval_tmp FA 79).symm.trans eu79
          have ev79 := Lib.hid eu79
          clear eu79
          clear hO hD
          obtain ⟨A1, n1, c1, rfl, hr1⟩ := f79
          have es := run_str bt Try.underlying9 hr1
          go_simp
          exact hK.out _ _ (Ex.refl _) rfl
        apply Steps.one (MP.eq _) 6 rfl
        · intro o ho FA x hO hD K hK
          obtain rfl := Option.some.inj ho.symm
          clear ho
          have ev77 : FA.eval (.tmp 77) = _ := hD 1 77 (by kernel_rfl)
          have e77 := (eval_tmp FA 77).symm.trans ev77
          replace ev77 := Lib.hid ev77
          have ev80 : FA.eval (.tmp 80) = _ := hD 4 80 (by kernel_rfl)
          have e80 := (eval_tmp FA 80).symm.trans ev80
          replace ev80 := Lib.hid ev80
          clear hO hD
          go_simp
          exact hK.out _ _ (Ex.refl _) rfl
        apply Steps.one (MP.eq _) 7 rfl
        · intro o ho FA x hO hD K hK
          obtain rfl := Option.some.inj ho.symm
          clear ho
          have ev81 : FA.eval (.tmp 81) = _ := hD 5 81 (by kernel_rfl)
          have e81 := (eval_tmp FA 81).symm.trans ev81
          replace ev81 := Lib.hid ev81
          clear hO hD
          go_simp
          exact hK.out _ _ (Ex.refl _) rfl
        apply Steps.one (MP.eq _) 8 rfl
        · intro o ho FA x hO hD K hK
          obtain rfl := Option.some.inj ho.symm
          clear ho
          have e10 := hO 10 (by kernel_rfl)
          simp only [eval_tmp, List.getElem?_toArray, List.getElem?_cons_succ, List.getElem?_cons_zero, Option.getD_some] at e10
          have ev10 := Lib.hid ((eval_tmp FA 10).trans e10)
          have ev82 : FA.eval (.tmp 82) = _ := hD 6 82 (by kernel_rfl)
          have e82 := (eval_tmp FA 82).symm.trans ev82
          replace ev82 := Lib.hid ev82
          first | have ge82 := slot_of e82 | have ge82 := slot_un e82
          clear hO hD
          first | (refine wanted_ifG ?_ ?_; (· go_simp); refine wp_ldA 35 (.tmp 10) rfl (opC kn vn bn en six ah al pt pr wn A3 n c3) ev10.out (b10.later (below_plus _ _ _)) (whole_ _) wr1 wr2 (szOp _ _ _ _ _ _ _ _ _ _ _ _ _) ?_; exact hK.out _ _ (Ex.refl _) rfl) | (go_simp; exact hK.out _ _ (Ex.refl _) rfl) | (rcases ge82 with ge82 | ge82 <;> (go_simp; exact hK.out _ _ (Ex.refl _) rfl))
        apply Steps.one (MP.eq _) 9 rfl
        · intro o ho FA x hO hD K hK
          obtain rfl := Option.some.inj ho.symm
          clear ho
          have e2 := hO 2 (by kernel_rfl)
          simp only [eval_tmp, List.getElem?_toArray, List.getElem?_cons_succ, List.getElem?_cons_zero, Option.getD_some] at e2
          have ev2 := Lib.hid ((eval_tmp FA 2).trans e2)
          have ev82 : FA.eval (.tmp 82) = _ := hD 6 82 (by kernel_rfl)
          have e82 := (eval_tmp FA 82).symm.trans ev82
          replace ev82 := Lib.hid ev82
          first | have ge82 := slot_of e82 | have ge82 := slot_un e82
          clear hO hD
          first | (refine wanted_ifG ?_ ?_; (· go_simp); refine wp_ldA 28 (.tmp 2) rfl (opC kn vn bn en six ah al pt pr wn A n c) ev2.out (b0.later (below_plus _ _ _)) (whole_ _) vr1 vr2 (szRo _ _ _ _ _ _ _ _ _ _ _ _ _) ?_; exact hK.out _ _ (Ex.refl _) rfl) | (go_simp; exact hK.out _ _ (Ex.refl _) rfl) | (rcases ge82 with ge82 | ge82 <;> (go_simp; exact hK.out _ _ (Ex.refl _) rfl))
        apply Steps.one (MP.op (fun B n d => opC kn vn bn en six ah al pt pr wn B n d) n (prs .i64 ms)) 10 rfl
        · intro o ho FA x hO hD K hK
          obtain rfl := Option.some.inj ho.symm
          clear ho
          have ev84 : FA.eval (.tmp 84) = _ := hD 8 84 (by kernel_rfl)
          have e84 := (eval_tmp FA 84).symm.trans ev84
          replace ev84 := Lib.hid ev84
          have ev82 : FA.eval (.tmp 82) = _ := hD 6 82 (by kernel_rfl)
          have e82 := (eval_tmp FA 82).symm.trans ev82
          replace ev82 := Lib.hid ev82
          first | have ge82 := slot_of e82 | have ge82 := slot_un e82
          clear hO hD
          refine wanted_ifG (by go_simp) ?_
          go_simp
          refine (HT0.out _ (HC.out _ (below_plus _ _ _)).2).mono ?_
          rintro e w1 ⟨B7, d7, bs7, d8, rfl, rfl, h7⟩
          exact hK.out _ _ (Ex.plus_ _ _ _) ⟨_, _, rfl, h7⟩
        apply Steps.one (MP.eq (.bool true)) 11 rfl
        · intro o ho FA x hO hD K hK
          obtain rfl := Option.some.inj ho.symm
          clear ho
          have ev83 : FA.eval (.tmp 83) = _ := hD 7 83 (by kernel_rfl)
          have e83 := (eval_tmp FA 83).symm.trans ev83
          replace ev83 := Lib.hid ev83
          have f85 := hD 9 85 (by kernel_rfl)
          generalize eu85 : FA.eval (.tmp 85) = u85 at f85
          have e85 := (eval_tmp FA 85).symm.trans eu85
          have ev85 := Lib.hid eu85
          clear eu85
          have ev82 : FA.eval (.tmp 82) = _ := hD 6 82 (by kernel_rfl)
          have e82 := (eval_tmp FA 82).symm.trans ev82
          replace ev82 := Lib.hid ev82
          first | have ge82 := slot_of e82 | have ge82 := slot_un e82
          clear hO hD
          refine wanted_ifG (by go_simp) ?_
          obtain ⟨B7, d7, rfl, h7⟩ := f85
          go_simp
          refine (HSM2.out _ _ _ _ _ (HC.out _ (below_plus _ _ _)).1 h7).mono ?_
          rintro e w1 ⟨bs9, d9, rfl, rfl⟩
          exact hK.out _ _ (Ex.plus_ _ _ _) rfl
        apply Steps.one (MP.eq _) 12 rfl
        · intro o ho FA x hO hD K hK
          obtain rfl := Option.some.inj ho.symm
          clear ho
          have ev82 : FA.eval (.tmp 82) = _ := hD 6 82 (by kernel_rfl)
          have e82 := (eval_tmp FA 82).symm.trans ev82
          replace ev82 := Lib.hid ev82
          have ev86 : FA.eval (.tmp 86) = _ := hD 10 86 (by kernel_rfl)
          have e86 := (eval_tmp FA 86).symm.trans ev86
          replace ev86 := Lib.hid ev86
          clear hO hD
          go_simp
          exact hK.out _ _ (Ex.refl _) rfl
        apply Steps.one (MP.eq _) 13 rfl
        · intro o ho FA x hO hD K hK
          obtain rfl := Option.some.inj ho.symm
          clear ho
          have ev87 : FA.eval (.tmp 87) = _ := hD 11 87 (by kernel_rfl)
          have e87 := (eval_tmp FA 87).symm.trans ev87
          replace ev87 := Lib.hid ev87
          clear hO hD
          go_simp
          exact hK.out _ _ (Ex.refl _) rfl
        apply Steps.one (MP.eq _) 14 rfl
        · intro o ho FA x hO hD K hK
          obtain rfl := Option.some.inj ho.symm
          clear ho
          have e11 := hO 11 (by kernel_rfl)
          simp only [eval_tmp, List.getElem?_toArray, List.getElem?_cons_succ, List.getElem?_cons_zero, Option.getD_some] at e11
          have ev11 := Lib.hid ((eval_tmp FA 11).trans e11)
          have ev88 : FA.eval (.tmp 88) = _ := hD 12 88 (by kernel_rfl)
          have e88 := (eval_tmp FA 88).symm.trans ev88
          replace ev88 := Lib.hid ev88
          first | have ge88 := slot_of e88 | have ge88 := slot_un e88
          clear hO hD
          first | (go_simp; exact hK.out _ _ (Ex.refl _) rfl) | (rcases ge88 with ge88 | ge88 <;> (go_simp; exact hK.out _ _ (Ex.refl _) rfl))
        apply Steps.one (MP.eq _) 15 rfl
        · intro o ho FA x hO hD K hK
          obtain rfl := Option.some.inj ho.symm
          clear ho
          have ev89 : FA.eval (.tmp 89) = _ := hD 13 89 (by kernel_rfl)
          have e89 := (eval_tmp FA 89).symm.trans ev89
          replace ev89 := Lib.hid ev89
          have ev88 : FA.eval (.tmp 88) = _ := hD 12 88 (by kernel_rfl)
          have e88 := (eval_tmp FA 88).symm.trans ev88
          replace ev88 := Lib.hid ev88
          first | have ge88 := slot_of e88 | have ge88 := slot_un e88
          clear hO hD
          first | (go_simp; exact hK.out _ _ (Ex.refl _) rfl) | (rcases ge88 with ge88 | ge88 <;> (go_simp; exact hK.out _ _ (Ex.refl _) rfl))
        apply Steps.one (MP.eq _) 16 rfl
        · intro o ho FA x hO hD K hK
          obtain rfl := Option.some.inj ho.symm
          clear ho
          have ev88 : FA.eval (.tmp 88) = _ := hD 12 88 (by kernel_rfl)
          have e88 := (eval_tmp FA 88).symm.trans ev88
          replace ev88 := Lib.hid ev88
          have ev90 : FA.eval (.tmp 90) = _ := hD 14 90 (by kernel_rfl)
          have e90 := (eval_tmp FA 90).symm.trans ev90
          replace ev90 := Lib.hid ev90
          clear hO hD
          go_simp
          exact hK.out _ _ (Ex.refl _) rfl
        apply Steps.one (MP.eq _) 17 rfl
        · intro o ho FA x hO hD K hK
          obtain rfl := Option.some.inj ho.symm
          clear ho
          have ev91 : FA.eval (.tmp 91) = _ := hD 15 91 (by kernel_rfl)
          have e91 := (eval_tmp FA 91).symm.trans ev91
          replace ev91 := Lib.hid ev91
          clear hO hD
          go_simp
          exact hK.out _ _ (Ex.refl _) rfl
        apply Steps.one (MP.eq (.bool true)) 18 rfl
        · intro o ho FA x hO hD K hK
          obtain rfl := Option.some.inj ho.symm
          clear ho
          have ev92 : FA.eval (.tmp 92) = _ := hD 16 92 (by kernel_rfl)
          have e92 := (eval_tmp FA 92).symm.trans ev92
          replace ev92 := Lib.hid ev92
          first | have ge92 := slot_of e92 | have ge92 := slot_un e92
          clear hO hD
          refine wanted_ifG (by go_simp) ?_
          go_simp
          refine (awake23 _).mono ?_
          rintro e w1 ⟨bs9, d9, rfl, rfl⟩
          exact hK.out _ _ (Ex.plus_ _ _ _) rfl
        apply Steps.one (MP.eq _) 19 rfl
        · intro o ho FA x hO hD K hK
          obtain rfl := Option.some.inj ho.symm
          clear ho
          have ev92 : FA.eval (.tmp 92) = _ := hD 16 92 (by kernel_rfl)
          have e92 := (eval_tmp FA 92).symm.trans ev92
          replace ev92 := Lib.hid ev92
          have ev93 : FA.eval (.tmp 93) = _ := hD 17 93 (by kernel_rfl)
          have e93 := (eval_tmp FA 93).symm.trans ev93
          replace ev93 := Lib.hid ev93
          clear hO hD
          go_simp
          exact hK.out _ _ (Ex.refl _) rfl
        apply Steps.one (MP.eq _) 20 rfl
        · intro o ho FA x hO hD K hK
          obtain rfl := Option.some.inj ho.symm
          clear ho
          have ev94 : FA.eval (.tmp 94) = _ := hD 18 94 (by kernel_rfl)
          have e94 := (eval_tmp FA 94).symm.trans ev94
          replace ev94 := Lib.hid ev94
          clear hO hD
          go_simp
          exact hK.out _ _ (Ex.refl _) rfl
        refine Steps.fin_ (fun vs x hp => ?_)
        have p0 : vs 0 = _ := hp 0 (by omega)
        have p1 : vs 1 = _ := hp 1 (by omega)
        have p2 : vs 2 = _ := hp 2 (by omega)
        have p3 := hp 3 (by omega)
        have p4 : vs 4 = _ := hp 4 (by omega)
        have p5 : vs 5 = _ := hp 5 (by omega)
        have p6 : vs 6 = _ := hp 6 (by omega)
        have p7 : vs 7 = _ := hp 7 (by omega)
        have p8 : vs 8 = _ := hp 8 (by omega)
        have p9 := hp 9 (by omega)
        have p10 : vs 10 = _ := hp 10 (by omega)
        have p11 : vs 11 = _ := hp 11 (by omega)
        have p12 : vs 12 = _ := hp 12 (by omega)
        have p13 : vs 13 = _ := hp 13 (by omega)
        have p14 : vs 14 = _ := hp 14 (by omega)
        have p15 : vs 15 = _ := hp 15 (by omega)
        have p16 : vs 16 = _ := hp 16 (by omega)
        have p17 : vs 17 = _ := hp 17 (by omega)
        have p18 : vs 18 = _ := hp 18 (by omega)
        have p19 : vs 19 = _ := hp 19 (by omega)
        clear hp
        simp only [List.take_succ_cons, List.take_zero, List.drop_succ_cons, List.drop_zero, putAll, Nat.zero_add, Nat.reduceAdd, Act.put, List.setIfInBounds_toArray, List.set_cons_zero, List.set_cons_succ, p0, p1, p2, p4, p5, p6, p7, p8, p10, p11, p12, p13, p14, p15, p16, p17, p18, p19]
        clear p0 p1 p2 p4 p5 p6 p7 p8 p10 p11 p12 p13 p14 p15 p16 p17 p18 p19
        generalize vs 3 = y3 at *
        generalize vs 9 = y9 at *
        clear vs
        go_wp2
        go_ret
        exact RetV.mk (belowP be _ _)
  · have hlt : decide (n ≤ 100) = false := decide_eq_false h100
    rw [hlt]
    clear hlt
    go_wp2_with (go_at_call 7; refine (awake23 _).mono ?_; rintro e w1 ⟨bs3, d3, rfl, rfl⟩)
    go_ret
    exact RetV.mk (belowP be bs3 d3)
theorem codecOps_row (w : World) (x : OpX) (hx : x.ok w) (B : Option Addr) (cb : Nat) (L : List UInt8) (hl : L.length ≤ cb) (hc : cb ≤ maxLen) (hr : Rd w w.heap.size B (bcs L)) : Calls Try.prog 3 #[.agg x.cs.toArray, .slice B L.length cb] w fun e w' => e = .returned (.bool true) ∧ Below w.heap.size w w' := by
  obtain ⟨-, a1, a2, a3, a4, hrs, hc2, -⟩ := hx
  have hn := hrs.2.1
  simp only [maxLen] at hc hc2
  refine (codecOps_walk x.k x.v x.b x.e x.six x.ah x.al x.pt x.pr x.wy x.ms x.A x.n x.c B L.length cb L w a1 a2 a3 a4 hrs (by omega) ⟨rfl, hl, hr⟩ (by omega)).mono ?_
  rintro e w' ⟨bs, d, rfl, rfl⟩
  exact ⟨rfl, below_plus _ _ _⟩
end Go.Proofs.Ytepodflinhpejaa

