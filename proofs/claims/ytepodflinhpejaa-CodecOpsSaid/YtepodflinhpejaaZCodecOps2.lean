/- Texts of the law CodecOps, part 2. -/
import Derived.Test.YtepodflinhpejaaZCodecOps1
/- codec.takeAddr, takeMembers (chapter 23). -/
namespace Go.Proofs.Ytepodflinhpejaa
open Go.RowKit
set_option linter.unusedVariables false
set_option linter.unusedSimpArgs false
attribute [local go_sem ↓] sliced_cut

attribute [local go_sem] cutA_zero

theorem grown_new {a b c : World} {g r : Nat} (h : a.grownBy b (some r)) (k : b.grownBy c (some g)) (hg : a.heap.size ≤ g) : a.grownBy c (some r) :=
  ⟨k.os.trans h.os, k.tape.trans h.tape, k.output.trans h.output, Nat.le_trans h.size k.size, fun i hi hne => (k.block i (Nat.lt_of_lt_of_le hi h.size) (fun e => by injection e with e; omega)).trans (h.block i hi hne)⟩
theorem grown_below {a b c : World} {r : Nat} (h : a.grownBy b (some r)) (k : Below b.heap.size b c) : a.grownBy c (some r) :=
  ⟨k.os.trans h.os, k.tape.trans h.tape, k.output.trans h.output, Nat.le_trans h.size k.size, fun i hi hne => (k.block i (Nat.lt_of_lt_of_le hi h.size)).trans (h.block i hi hne)⟩
theorem grown_chg {a b c : World} {r : Nat} {D : Nat → Prop} (h : a.grownBy b (some r)) (k : Chg D b c) (hd : ∀ i, D i → a.heap.size ≤ i) : a.grownBy c (some r) :=
  have k2 := k.below (B := a.heap.size) (fun i hi => hd i hi) h.size
  ⟨k2.os.trans h.os, k2.tape.trans h.tape, k2.output.trans h.output, Nat.le_trans h.size k2.size, fun i hi hne => (k2.block i hi).trans (h.block i hi hne)⟩
theorem RP.low {w w' : World} {r : Nat} {s : StB} (h : RP w r s) (hb : Below (r + 1) w w') : RP w' r s := by
  cases s <;> (obtain ⟨A, n, c, h1, h2, h3, h4⟩ := h; exact ⟨A, n, c, (hb.block r (by omega)).trans h1, h2, h3, h4.below ⟨hb.os, hb.tape, hb.output, hb.size, fun k hk => hb.block k (by omega)⟩⟩)
/-- the address that some bytes are -/
def adX (x : List UInt8) : Option (Bool × Nat × Nat) := if x.length = 4 then some (false, 0, num x) else if x.length = 16 then some (true, num (x.take 8), num (x.drop 8)) else none
/-- an address behind its size, and what is left -/
def adS (s : StB) : Option ((Bool × Nat × Nat) × StB) := (adX (tkB (numT 1 s) (drB 1 s))).map fun q => (q, drB (numT 1 s) (drB 1 s))
theorem adX_some {z : Nat} {s : StB} {q : Bool × Nat × Nat} (hz : 0 < z) (h : adX (tkB z s) = some q) : ∃ l, drB z s = some l := by
  have h9 := tkB_drB z s hz
  rcases h9.2 with h8 | h8
  · exact Option.isSome_iff_exists.1 (h9.1.1 h8)
  · rw [h8] at h
    cases h
theorem adX_none {z : Nat} {s : StB} (h4 : z ≠ 4) (h16 : z ≠ 16) : adX (tkB z s) = none := by
  have h9 : (tkB z s).length = z ∨ tkB z s = [] := by
    by_cases hz : 0 < z
    · exact (tkB_drB z s hz).2
    · exact .inr (List.eq_nil_of_length_eq_zero (by have := tkB_le z s; omega))
  rcases h9 with h9 | h9
  · unfold adX
    rw [if_neg (by omega), if_neg (by omega)]
  · rw [h9]
    rfl
theorem adX_16 (x : List UInt8) (h : x.length = 16) : x = dig (num (x.take 8)) 8 ++ dig (num (x.drop 8)) 8 := by
  rw [digNum 8 _ (by rw [List.length_take]; omega), digNum 8 _ (by rw [List.length_drop]; omega), List.take_append_drop]
theorem numL (l : List UInt8) (n k : Nat) (h : l.length ≤ n) (hk : 256 ^ n ≤ k) : num l < k := Nat.lt_of_lt_of_le (num_lt n l h) hk
def RetAX (w : World) (x : List UInt8) (F : Bool → Value) (e : Ending) (w' : World) : Prop := ∃ six ah al ok bs d, e = .returned (.tuple #[.agg (adC six ah al).toArray, F ok]) ∧ w' = plus w bs d ∧ ah < 18446744073709551616 ∧ al < 18446744073709551616 ∧ (ok = true ∧ adX x = some (six, ah, al) ∨ ok = false ∧ adX x = none)
theorem adX_any {w : World} {G : World → (Ending → World → Prop) → Prop} (x : List UInt8) (F : Bool → Value) (hm : ∀ w P Q, (∀ e w', P e w' → Q e w') → G w P → G w Q)
    (h4 : x.length = 4 → G w (RetV w (.tuple #[.agg (adC false 0 (num x)).toArray, F true]))) (h16 : x.length = 16 → G w (RetV w (.tuple #[.agg (adC true (num (x.take 8)) (num (x.drop 8))).toArray, F true]))) (hn : x.length ≠ 4 → x.length ≠ 16 → G w (RetV w (.tuple #[.agg (adC false 0 0).toArray, F false]))) : G w (RetAX w x F) := by
  by_cases c4 : x.length = 4
  · refine hm _ _ _ ?_ (h4 c4)
    rintro e w1 ⟨bs, d, rfl, rfl⟩
    exact ⟨false, 0, num x, true, bs, d, rfl, rfl, by decide, numL x 4 _ (by omega) (by decide), .inl ⟨rfl, by unfold adX; rw [if_pos c4]⟩⟩
  by_cases c16 : x.length = 16
  · refine hm _ _ _ ?_ (h16 c16)
    rintro e w1 ⟨bs, d, rfl, rfl⟩
    exact ⟨true, _, _, true, bs, d, rfl, rfl, numL _ 8 _ (by rw [List.length_take]; omega) (by decide), numL _ 8 _ (by rw [List.length_drop]; omega) (by decide), .inl ⟨rfl, by unfold adX; rw [if_neg c4, if_pos c16]⟩⟩
  · refine hm _ _ _ ?_ (hn c4 c16)
    rintro e w1 ⟨bs, d, rfl, rfl⟩
    exact ⟨false, 0, 0, false, bs, d, rfl, rfl, by decide, by decide, .inr ⟨rfl, by unfold adX; rw [if_neg c4, if_neg c16]⟩⟩
theorem adrOfX (A : Option Addr) (n c : Nat) (x : List UInt8) (w : World) (h : Rb w A n c x) : Calls Try.prog 75 #[.slice A n c] w (RetAX w x (fun ok => .int .i64 (if ok then 0 else 20))) := by
  have hl := h.1
  refine adX_any (G := fun w P => Calls Try.prog 75 #[.slice A n c] w P) x _ (fun w P Q h1 h2 => h2.mono h1) (fun h4 => ?_) (fun h16 => ?_) (fun h4 h16 => ?_)
  · obtain rfl : n = 4 := by omega
    exact adrOf4 _ x A c w h rfl
  · obtain rfl : n = 16 := by omega
    exact adrOf16 _ _ A c w (numL _ 8 _ (by rw [List.length_take]; omega) (by decide)) (numL _ 8 _ (by rw [List.length_drop]; omega) (by decide)) (by rw [← adX_16 x h16]; exact h)
  · exact adrOfN A n c w (by omega) (by omega)
theorem adrOfT (A : Option Addr) (n c : Nat) (x : List UInt8) (w : World) (h : Rb w A n c x) (hn : n ≤ 16) : Calls Try.prog 75 #[.slice A n c] w fun e w' => ∃ six ah al E bs d, e = .returned (.tuple #[.agg (adC six ah al).toArray, .int .i64 E]) ∧ w' = plus w bs d ∧ ah < 18446744073709551616 ∧ al < 18446744073709551616 ∧ (E = 0 ∧ adX x = some (six, ah, al) ∨ E = 20 ∧ adX x = none) :=
  (adrOfX A n c x w h).mono fun e w' ⟨six, ah, al, ok, bs, d, h1, h2, h3, h4, h5⟩ => by
    rcases h5 with ⟨rfl, h5⟩ | ⟨rfl, h5⟩
    · exact ⟨six, ah, al, 0, bs, d, h1, h2, h3, h4, .inl ⟨rfl, h5⟩⟩
    · exact ⟨six, ah, al, 20, bs, d, h1, h2, h3, h4, .inr ⟨rfl, h5⟩⟩
/-- what takeAddr gives -/
def RetTA (w : World) (r : Nat) (s : StB) (e : Ending) (w' : World) : Prop := ∃ six ah al ok, e = .returned (.tuple #[.agg (adC six ah al).toArray, .bool ok]) ∧ w.grownBy w' (some r) ∧ ah < 18446744073709551616 ∧ al < 18446744073709551616 ∧ (ok = false ∧ adS s = none ∨ ok = true ∧ adS s = some ((six, ah, al), drB (numT 1 s) (drB 1 s)) ∧ RP w' r (drB (numT 1 s) (drB 1 s)))
set_option maxHeartbeats 4000000 in
set_option maxRecDepth 100000 in
theorem takeAddr_any (r : Nat) (s : StB) (w : World) (h : RP w r s) (hs : SL s) : Calls Try.prog 32 #[.pointer (some ⟨r, 0, none⟩)] w (RetTA w r s) := by
  obtain ⟨dk, u1, u2⟩ : ∃ d, Try.prog.underlying 24 = some d ∧ d.isRow = true := ⟨_, Try.underlying24, rfl⟩
  have b2 : Bk (w.alloc (.cells #[.bool false, .int .u64 0, .int .u64 0] 24)) w.heap.size 24 (adC false 0 0) := Bk.new w 24 #[.bool false, .int .u64 0, .int .u64 0]
  have be : Below w.heap.size w (w.alloc (.cells #[.bool false, .int .u64 0, .int .u64 0] 24)) := Below.allocS (Below.refl _ _) _
  have zr := h.lt
  have hz256 := numT_lt 1 256 s (by decide)
  have hs1 := hs.dr 1
  have HB := Lib.hid (byteT r s)
  have HBy := Lib.hid (fun w h => bytesT r (numT 1 s) (drB 1 s) w h hs1 (by omega))
  obtain ⟨z, hz⟩ : ∃ z, numT 1 s = z := ⟨_, rfl⟩
  have hz9 := hz
  rw [hz] at HB HBy hz256
  clear hz
  replace hz9 := Lib.hid hz9
  have gr : w.grownBy (w.alloc (.cells #[.bool false, .int .u64 0, .int .u64 0] 24)) (some r) := ⟨be.os, be.tape, be.output, be.size, fun i hi _ => be.block i hi⟩
  go_enter Try.func32, Try.ntmps32
  go_upto_region 1 with (fail)
  replace h := h.later be
  generalize w.alloc (.cells #[.bool false, .int .u64 0, .int .u64 0] 24) = V at *
  clear be
  go_wp2_with fail
  refine (HB.out _ h hs).mono ?_
  rintro e V1 ⟨rfl, hR1, hg1⟩
  replace b2 := b2.grown hg1 (by simp; omega)
  replace gr := gr.trans hg1
  clear hg1 h
  by_cases h4 : z = 4
  · subst h4
    go_wp2_with fail
    refine (HBy.out V1 hR1).mono ?_
    rintro e V2 ⟨A, n, c, rfl, ho, hR2, hg2⟩
    replace b2 := b2.grown hg2 (by simp; omega)
    replace gr := gr.trans hg2
    have hRb := ho.rb
    clear hg2 hR1 HBy HB
    go_wp2_with fail
    refine (adrOfT A n c _ V2 hRb (by rw [← hRb.1]; have := tkB_le 4 (drB 1 s); omega)).mono ?_
    rintro e w1 ⟨six, ah, al, E, bs1, d1, rfl, rfl, ha1, ha2, hE⟩
    replace b2 := b2.later (below_plus V2 bs1 d1)
    replace gr := grown_below gr (below_plus V2 bs1 d1)
    replace hR2 := hR2.later (below_plus V2 bs1 d1)
    have zV2 := b2.lt
    generalize plus V2 bs1 d1 = V3 at *
    go_upto_region 5 with (refine at_op (.store 24 (.tmp 5) (.tmp 22)) rfl ?_; refine wpList_stA (t := 24) 24 (.tmp 5) (.tmp 22) rfl rfl (adC six ah al) (adC false 0 0) rfl (adC_one _ _ _) rfl rfl (Bk.new _ _ _) (szAd _ _ _) ?_; intro W4 h4 g4)
    have be4 : Below V3.heap.size V3 W4 := below_grown (Below.allocS (Below.refl _ _) _) g4 (Nat.le_refl _)
    have hX : Bk W4 V3.heap.size 24 (adC six ah al) := h4
    replace b2 := b2.later be4
    replace gr := grown_below gr be4
    replace hR2 := hR2.later be4
    have nX : ¬ (fun b => b = w.heap.size) V3.heap.size := fun h => by have h' : V3.heap.size = w.heap.size := h; omega
    clear be4 h4 g4
    generalize V3.heap.size = g5 at *
    rcases hE with ⟨rfl, hE⟩ | ⟨rfl, hE⟩
    · obtain ⟨l5, hl5⟩ := adX_some (by decide : 0 < 4) hE
      have hR5 := hR2
      rw [hl5] at hR5
      have zR := hR5.lt
      go_wp2
      refine wp_suS (fun b => b = w.heap.size) 10 32 2 [8] rfl (by kernel_rfl) (by kernel_rfl) (fun k w' => Bk w' w.heap.size 24 (if k = 0 then adC false 0 0 else adC six ah al)) (fun k w w' h h' => h.later h'.below) (b2) ?_
      apply StepsC.one (MC.eq _) 1 rfl (by decide)
      · intro o ho FA w' hC hO hD K hK
        obtain rfl := Option.some.inj ho.symm
        clear ho
        have e5 := hO 5 (by kernel_rfl)
        simp only [eval_tmp, List.getElem?_toArray, List.getElem?_cons_succ, List.getElem?_cons_zero, Option.getD_some] at e5
        have ev5 := Lib.hid ((eval_tmp FA 5).trans e5)
        clear hO hD
        refine wanted_if rfl ?_
        refine wp_ldA 24 (.tmp 5) rfl (adC six ah al) ev5.out (hX.chg hC nX) (whole_ _) u1 u2 (szAd _ _ _) ?_
        exact hK.out _ _ (Ex.refl _) rfl
      apply StepsC.one (MC.eq _) 2 rfl (by decide)
      · intro o ho FA w' hC hO hD K hK
        obtain rfl := Option.some.inj ho.symm
        clear ho
        have e6 := hO 6 (by kernel_rfl)
        simp only [eval_tmp, List.getElem?_toArray, List.getElem?_cons_succ, List.getElem?_cons_zero, Option.getD_some] at e6
        have ev6 := Lib.hid ((eval_tmp FA 6).trans e6)
        clear hO hD
        go_simp
        exact hK.out _ _ (Ex.refl _) rfl
      apply StepsC.one (MC.eq _) 3 rfl (by decide)
      · intro o ho FA w' hC hO hD K hK
        obtain rfl := Option.some.inj ho.symm
        clear ho
        have ev25 : FA.eval (.tmp 25) = _ := hD 1 25 (by kernel_rfl)
        have e25 := (eval_tmp FA 25).symm.trans ev25
        replace ev25 := Lib.hid ev25
        clear hO hD
        go_simp
        exact hK.out _ _ (Ex.refl _) rfl
      apply StepsC.one (MC.eq _) 4 rfl (by decide)
      · intro o ho FA w' hC hO hD K hK
        obtain rfl := Option.some.inj ho.symm
        clear ho
        have ev26 : FA.eval (.tmp 26) = _ := hD 2 26 (by kernel_rfl)
        have e26 := (eval_tmp FA 26).symm.trans ev26
        replace ev26 := Lib.hid ev26
        clear hO hD
        go_simp
        exact hK.out _ _ (Ex.refl _) rfl
      apply StepsC.one (MC.eq _) 5 rfl (by decide)
      · intro o ho FA w' hC hO hD K hK
        obtain rfl := Option.some.inj ho.symm
        clear ho
        have e0 := hO 0 (by kernel_rfl)
        simp only [eval_tmp, List.getElem?_toArray, List.getElem?_cons_succ, List.getElem?_cons_zero, Option.getD_some] at e0
        have ev0 := Lib.hid ((eval_tmp FA 0).trans e0)
        have ev27 : FA.eval (.tmp 27) = _ := hD 3 27 (by kernel_rfl)
        have e27 := (eval_tmp FA 27).symm.trans ev27
        replace ev27 := Lib.hid ev27
        first | have ge27 := slot_of e27 | have ge27 := slot_un e27
        clear hO hD
        go_simp
        exact hK.out _ _ (Ex.refl _) rfl
      apply StepsC.one (MC.eq _) 6 rfl (by decide)
      · intro o ho FA w' hC hO hD K hK
        obtain rfl := Option.some.inj ho.symm
        clear ho
        have ev28 : FA.eval (.tmp 28) = _ := hD 4 28 (by kernel_rfl)
        have e28 := (eval_tmp FA 28).symm.trans ev28
        replace ev28 := Lib.hid ev28
        have ev27 : FA.eval (.tmp 27) = _ := hD 3 27 (by kernel_rfl)
        have e27 := (eval_tmp FA 27).symm.trans ev27
        replace ev27 := Lib.hid ev27
        first | have ge27 := slot_of e27 | have ge27 := slot_un e27
        clear hO hD
        go_simp
        refine (badT r (some l5) _ (hR5.low (hC.below (B := r + 1) (fun b hb => by have : b = w.heap.size := hb; omega) (by omega)))).mono ?_
        rintro e w1 ⟨rfl, rfl⟩
        exact hK.out _ _ (Ex.refl _) rfl
      apply StepsC.one (MC.eq _) 7 rfl (by decide)
      · intro o ho FA w' hC hO hD K hK
        obtain rfl := Option.some.inj ho.symm
        clear ho
        have ev29 : FA.eval (.tmp 29) = _ := hD 5 29 (by kernel_rfl)
        have e29 := (eval_tmp FA 29).symm.trans ev29
        replace ev29 := Lib.hid ev29
        have ev27 : FA.eval (.tmp 27) = _ := hD 3 27 (by kernel_rfl)
        have e27 := (eval_tmp FA 27).symm.trans ev27
        replace ev27 := Lib.hid ev27
        first | have ge27 := slot_of e27 | have ge27 := slot_un e27
        clear hO hD
        go_simp
        exact hK.out _ _ (Ex.refl _) rfl
      apply StepsC.one (MC.eq _) 8 rfl (by decide)
      · intro o ho FA w' hC hO hD K hK
        obtain rfl := Option.some.inj ho.symm
        clear ho
        have ev27 : FA.eval (.tmp 27) = _ := hD 3 27 (by kernel_rfl)
        have e27 := (eval_tmp FA 27).symm.trans ev27
        replace ev27 := Lib.hid ev27
        have ev30 : FA.eval (.tmp 30) = _ := hD 6 30 (by kernel_rfl)
        have e30 := (eval_tmp FA 30).symm.trans ev30
        replace ev30 := Lib.hid ev30
        clear hO hD
        go_simp
        exact hK.out _ _ (Ex.refl _) rfl
      apply StepsC.mov MC.any 9 0 rfl rfl rfl
      · intro o ho FA w' hC hO hD hS K hK
        obtain rfl := Option.some.inj ho.symm
        clear ho
        have e2 := hO 2 (by kernel_rfl)
        simp only [eval_tmp, List.getElem?_toArray, List.getElem?_cons_succ, List.getElem?_cons_zero, Option.getD_some] at e2
        have ev2 := Lib.hid ((eval_tmp FA 2).trans e2)
        have ev24 : FA.eval (.tmp 24) = _ := hD 0 24 (by kernel_rfl)
        have e24 := (eval_tmp FA 24).symm.trans ev24
        replace ev24 := Lib.hid ev24
        clear hO hD
        refine wanted_if rfl ?_
        refine wp_stA 24 (.tmp 2) (.tmp 24) rfl (adC six ah al) (adC false 0 0) rfl (adC_one _ _ _) ev2.out ev24.out hS (szAd _ _ _) ?_
        intro w'' hn hg
        exact hK.out undef _ (Chg.one hg rfl) hn trivial
      apply StepsC.one (MC.eq _) 10 rfl (by decide)
      · intro o ho FA w' hC hO hD K hK
        obtain rfl := Option.some.inj ho.symm
        clear ho
        have ev31 : FA.eval (.tmp 31) = _ := hD 7 31 (by kernel_rfl)
        have e31 := (eval_tmp FA 31).symm.trans ev31
        replace ev31 := Lib.hid ev31
        clear hO hD
        go_simp
        exact hK.out _ _ (Ex.refl _) rfl
      refine StepsC.fin_ (fun vs w' hC hS hp => ?_)
      have p0 : vs 0 = _ := hp 0 (by omega) rfl
      have p1 : vs 1 = _ := hp 1 (by omega) rfl
      have p2 : vs 2 = _ := hp 2 (by omega) rfl
      have p3 : vs 3 = _ := hp 3 (by omega) rfl
      have p4 : vs 4 = _ := hp 4 (by omega) rfl
      have p5 : vs 5 = _ := hp 5 (by omega) rfl
      have p6 : vs 6 = _ := hp 6 (by omega) rfl
      have p7 : vs 7 = _ := hp 7 (by omega) rfl
      have p9 : vs 9 = _ := hp 9 (by omega) rfl
      clear hp
      simp only [List.take_succ_cons, List.take_zero, List.drop_succ_cons, List.drop_zero, putAll, Nat.zero_add, Nat.reduceAdd, Act.put, List.setIfInBounds_toArray, List.set_cons_zero, List.set_cons_succ, p0, p1, p2, p3, p4, p5, p6, p7, p9]
      clear p0 p1 p2 p3 p4 p5 p6 p7 p9
      clear vs
      have gw : w.grownBy w' (some r) := grown_chg gr hC (fun b hb => by have : b = w.heap.size := hb; omega)
      go_wp2
      refine bodyPost_agg2 Try.results32 rfl rfl (Bk.range hS) u1 u2 (szAd _ _ _) rfl ?_
      exact ⟨six, ah, al, true, rfl, gw, ha1, ha2, .inr ⟨rfl, by unfold adS; rw [hz9.out]; simp only [hE, Option.map], by rw [hz9.out, hl5]; exact hR5.low (hC.below (B := r + 1) (fun b hb => by have : b = w.heap.size := hb; omega) (by omega))⟩⟩
    · 
      go_wp2
      refine wp_suS (fun b => b = w.heap.size) 10 32 2 [8] rfl (by kernel_rfl) (by kernel_rfl) (fun k w' => Bk w' w.heap.size 24 (if k = 0 then adC false 0 0 else adC six ah al)) (fun k w w' h h' => h.later h'.below) (b2) ?_
      apply StepsC.one (MC.eq _) 1 rfl (by decide)
      · intro o ho FA w' hC hO hD K hK
        obtain rfl := Option.some.inj ho.symm
        clear ho
        have e5 := hO 5 (by kernel_rfl)
        simp only [eval_tmp, List.getElem?_toArray, List.getElem?_cons_succ, List.getElem?_cons_zero, Option.getD_some] at e5
        have ev5 := Lib.hid ((eval_tmp FA 5).trans e5)
        clear hO hD
        refine wanted_if rfl ?_
        refine wp_ldA 24 (.tmp 5) rfl (adC six ah al) ev5.out (hX.chg hC nX) (whole_ _) u1 u2 (szAd _ _ _) ?_
        exact hK.out _ _ (Ex.refl _) rfl
      apply StepsC.one (MC.eq _) 2 rfl (by decide)
      · intro o ho FA w' hC hO hD K hK
        obtain rfl := Option.some.inj ho.symm
        clear ho
        have e6 := hO 6 (by kernel_rfl)
        simp only [eval_tmp, List.getElem?_toArray, List.getElem?_cons_succ, List.getElem?_cons_zero, Option.getD_some] at e6
        have ev6 := Lib.hid ((eval_tmp FA 6).trans e6)
        clear hO hD
        go_simp
        exact hK.out _ _ (Ex.refl _) rfl
      apply StepsC.one (MC.eq _) 3 rfl (by decide)
      · intro o ho FA w' hC hO hD K hK
        obtain rfl := Option.some.inj ho.symm
        clear ho
        have ev25 : FA.eval (.tmp 25) = _ := hD 1 25 (by kernel_rfl)
        have e25 := (eval_tmp FA 25).symm.trans ev25
        replace ev25 := Lib.hid ev25
        clear hO hD
        go_simp
        exact hK.out _ _ (Ex.refl _) rfl
      apply StepsC.one (MC.eq _) 4 rfl (by decide)
      · intro o ho FA w' hC hO hD K hK
        obtain rfl := Option.some.inj ho.symm
        clear ho
        have ev26 : FA.eval (.tmp 26) = _ := hD 2 26 (by kernel_rfl)
        have e26 := (eval_tmp FA 26).symm.trans ev26
        replace ev26 := Lib.hid ev26
        clear hO hD
        go_simp
        exact hK.out _ _ (Ex.refl _) rfl
      apply StepsC.one (MC.eq _) 5 rfl (by decide)
      · intro o ho FA w' hC hO hD K hK
        obtain rfl := Option.some.inj ho.symm
        clear ho
        have e0 := hO 0 (by kernel_rfl)
        simp only [eval_tmp, List.getElem?_toArray, List.getElem?_cons_succ, List.getElem?_cons_zero, Option.getD_some] at e0
        have ev0 := Lib.hid ((eval_tmp FA 0).trans e0)
        have ev27 : FA.eval (.tmp 27) = _ := hD 3 27 (by kernel_rfl)
        have e27 := (eval_tmp FA 27).symm.trans ev27
        replace ev27 := Lib.hid ev27
        first | have ge27 := slot_of e27 | have ge27 := slot_un e27
        clear hO hD
        go_simp
        exact hK.out _ _ (Ex.refl _) rfl
      apply StepsC.one (MC.eq _) 6 rfl (by decide)
      · intro o ho FA w' hC hO hD K hK
        obtain rfl := Option.some.inj ho.symm
        clear ho
        have ev28 : FA.eval (.tmp 28) = _ := hD 4 28 (by kernel_rfl)
        have e28 := (eval_tmp FA 28).symm.trans ev28
        replace ev28 := Lib.hid ev28
        have ev27 : FA.eval (.tmp 27) = _ := hD 3 27 (by kernel_rfl)
        have e27 := (eval_tmp FA 27).symm.trans ev27
        replace ev27 := Lib.hid ev27
        first | have ge27 := slot_of e27 | have ge27 := slot_un e27
        clear hO hD
        go_simp
        exact hK.out _ _ (Ex.refl _) rfl
      apply StepsC.one (MC.eq _) 7 rfl (by decide)
      · intro o ho FA w' hC hO hD K hK
        obtain rfl := Option.some.inj ho.symm
        clear ho
        have ev29 : FA.eval (.tmp 29) = _ := hD 5 29 (by kernel_rfl)
        have e29 := (eval_tmp FA 29).symm.trans ev29
        replace ev29 := Lib.hid ev29
        have ev27 : FA.eval (.tmp 27) = _ := hD 3 27 (by kernel_rfl)
        have e27 := (eval_tmp FA 27).symm.trans ev27
        replace ev27 := Lib.hid ev27
        first | have ge27 := slot_of e27 | have ge27 := slot_un e27
        clear hO hD
        go_simp
        exact hK.out _ _ (Ex.refl _) rfl
      apply StepsC.one (MC.eq _) 8 rfl (by decide)
      · intro o ho FA w' hC hO hD K hK
        obtain rfl := Option.some.inj ho.symm
        clear ho
        have ev27 : FA.eval (.tmp 27) = _ := hD 3 27 (by kernel_rfl)
        have e27 := (eval_tmp FA 27).symm.trans ev27
        replace ev27 := Lib.hid ev27
        have ev30 : FA.eval (.tmp 30) = _ := hD 6 30 (by kernel_rfl)
        have e30 := (eval_tmp FA 30).symm.trans ev30
        replace ev30 := Lib.hid ev30
        clear hO hD
        go_simp
        exact hK.out _ _ (Ex.refl _) rfl
      apply StepsC.mov MC.any 9 0 rfl rfl rfl
      · intro o ho FA w' hC hO hD hS K hK
        obtain rfl := Option.some.inj ho.symm
        clear ho
        have e2 := hO 2 (by kernel_rfl)
        simp only [eval_tmp, List.getElem?_toArray, List.getElem?_cons_succ, List.getElem?_cons_zero, Option.getD_some] at e2
        have ev2 := Lib.hid ((eval_tmp FA 2).trans e2)
        have ev24 : FA.eval (.tmp 24) = _ := hD 0 24 (by kernel_rfl)
        have e24 := (eval_tmp FA 24).symm.trans ev24
        replace ev24 := Lib.hid ev24
        clear hO hD
        refine wanted_if rfl ?_
        refine wp_stA 24 (.tmp 2) (.tmp 24) rfl (adC six ah al) (adC false 0 0) rfl (adC_one _ _ _) ev2.out ev24.out hS (szAd _ _ _) ?_
        intro w'' hn hg
        exact hK.out undef _ (Chg.one hg rfl) hn trivial
      apply StepsC.one (MC.eq _) 10 rfl (by decide)
      · intro o ho FA w' hC hO hD K hK
        obtain rfl := Option.some.inj ho.symm
        clear ho
        have ev31 : FA.eval (.tmp 31) = _ := hD 7 31 (by kernel_rfl)
        have e31 := (eval_tmp FA 31).symm.trans ev31
        replace ev31 := Lib.hid ev31
        clear hO hD
        go_simp
        exact hK.out _ _ (Ex.refl _) rfl
      refine StepsC.fin_ (fun vs w' hC hS hp => ?_)
      have p0 : vs 0 = _ := hp 0 (by omega) rfl
      have p1 : vs 1 = _ := hp 1 (by omega) rfl
      have p2 : vs 2 = _ := hp 2 (by omega) rfl
      have p3 : vs 3 = _ := hp 3 (by omega) rfl
      have p4 : vs 4 = _ := hp 4 (by omega) rfl
      have p5 : vs 5 = _ := hp 5 (by omega) rfl
      have p6 : vs 6 = _ := hp 6 (by omega) rfl
      have p7 : vs 7 = _ := hp 7 (by omega) rfl
      have p9 : vs 9 = _ := hp 9 (by omega) rfl
      clear hp
      simp only [List.take_succ_cons, List.take_zero, List.drop_succ_cons, List.drop_zero, putAll, Nat.zero_add, Nat.reduceAdd, Act.put, List.setIfInBounds_toArray, List.set_cons_zero, List.set_cons_succ, p0, p1, p2, p3, p4, p5, p6, p7, p9]
      clear p0 p1 p2 p3 p4 p5 p6 p7 p9
      clear vs
      have gw : w.grownBy w' (some r) := grown_chg gr hC (fun b hb => by have : b = w.heap.size := hb; omega)
      go_wp2
      refine bodyPost_agg2 Try.results32 rfl rfl (Bk.range hS) u1 u2 (szAd _ _ _) rfl ?_
      exact ⟨six, ah, al, false, rfl, gw, ha1, ha2, .inl ⟨rfl, by unfold adS; rw [hz9.out]; simp only [hE, Option.map]⟩⟩
  by_cases h16 : z = 16
  · subst h16
    go_wp2_with fail
    refine (HBy.out V1 hR1).mono ?_
    rintro e V2 ⟨A, n, c, rfl, ho, hR2, hg2⟩
    replace b2 := b2.grown hg2 (by simp; omega)
    replace gr := gr.trans hg2
    have hRb := ho.rb
    clear hg2 hR1 HBy HB
    go_wp2_with fail
    refine (adrOfT A n c _ V2 hRb (by rw [← hRb.1]; have := tkB_le 16 (drB 1 s); omega)).mono ?_
    rintro e w1 ⟨six, ah, al, E, bs1, d1, rfl, rfl, ha1, ha2, hE⟩
    replace b2 := b2.later (below_plus V2 bs1 d1)
    replace gr := grown_below gr (below_plus V2 bs1 d1)
    replace hR2 := hR2.later (below_plus V2 bs1 d1)
    have zV2 := b2.lt
    generalize plus V2 bs1 d1 = V3 at *
    go_upto_region 5 with (refine at_op (.store 24 (.tmp 5) (.tmp 22)) rfl ?_; refine wpList_stA (t := 24) 24 (.tmp 5) (.tmp 22) rfl rfl (adC six ah al) (adC false 0 0) rfl (adC_one _ _ _) rfl rfl (Bk.new _ _ _) (szAd _ _ _) ?_; intro W4 h4 g4)
    have be4 : Below V3.heap.size V3 W4 := below_grown (Below.allocS (Below.refl _ _) _) g4 (Nat.le_refl _)
    have hX : Bk W4 V3.heap.size 24 (adC six ah al) := h4
    replace b2 := b2.later be4
    replace gr := grown_below gr be4
    replace hR2 := hR2.later be4
    have nX : ¬ (fun b => b = w.heap.size) V3.heap.size := fun h => by have h' : V3.heap.size = w.heap.size := h; omega
    clear be4 h4 g4
    generalize V3.heap.size = g5 at *
    rcases hE with ⟨rfl, hE⟩ | ⟨rfl, hE⟩
    · obtain ⟨l5, hl5⟩ := adX_some (by decide : 0 < 16) hE
      have hR5 := hR2
      rw [hl5] at hR5
      have zR := hR5.lt
      go_wp2
      refine wp_suS (fun b => b = w.heap.size) 10 32 2 [8] rfl (by kernel_rfl) (by kernel_rfl) (fun k w' => Bk w' w.heap.size 24 (if k = 0 then adC false 0 0 else adC six ah al)) (fun k w w' h h' => h.later h'.below) (b2) ?_
      apply StepsC.one (MC.eq _) 1 rfl (by decide)
      · intro o ho FA w' hC hO hD K hK
        obtain rfl := Option.some.inj ho.symm
        clear ho
        have e5 := hO 5 (by kernel_rfl)
        simp only [eval_tmp, List.getElem?_toArray, List.getElem?_cons_succ, List.getElem?_cons_zero, Option.getD_some] at e5
        have ev5 := Lib.hid ((eval_tmp FA 5).trans e5)
        clear hO hD
        refine wanted_if rfl ?_
        refine wp_ldA 24 (.tmp 5) rfl (adC six ah al) ev5.out (hX.chg hC nX) (whole_ _) u1 u2 (szAd _ _ _) ?_
        exact hK.out _ _ (Ex.refl _) rfl
      apply StepsC.one (MC.eq _) 2 rfl (by decide)
      · intro o ho FA w' hC hO hD K hK
        obtain rfl := Option.some.inj ho.symm
        clear ho
        have e6 := hO 6 (by kernel_rfl)
        simp only [eval_tmp, List.getElem?_toArray, List.getElem?_cons_succ, List.getElem?_cons_zero, Option.getD_some] at e6
        have ev6 := Lib.hid ((eval_tmp FA 6).trans e6)
        clear hO hD
        go_simp
        exact hK.out _ _ (Ex.refl _) rfl
      apply StepsC.one (MC.eq _) 3 rfl (by decide)
      · intro o ho FA w' hC hO hD K hK
        obtain rfl := Option.some.inj ho.symm
        clear ho
        have ev25 : FA.eval (.tmp 25) = _ := hD 1 25 (by kernel_rfl)
        have e25 := (eval_tmp FA 25).symm.trans ev25
        replace ev25 := Lib.hid ev25
        clear hO hD
        go_simp
        exact hK.out _ _ (Ex.refl _) rfl
      apply StepsC.one (MC.eq _) 4 rfl (by decide)
      · intro o ho FA w' hC hO hD K hK
        obtain rfl := Option.some.inj ho.symm
        clear ho
        have ev26 : FA.eval (.tmp 26) = _ := hD 2 26 (by kernel_rfl)
        have e26 := (eval_tmp FA 26).symm.trans ev26
        replace ev26 := Lib.hid ev26
        clear hO hD
        go_simp
        exact hK.out _ _ (Ex.refl _) rfl
      apply StepsC.one (MC.eq _) 5 rfl (by decide)
      · intro o ho FA w' hC hO hD K hK
        obtain rfl := Option.some.inj ho.symm
        clear ho
        have e0 := hO 0 (by kernel_rfl)
        simp only [eval_tmp, List.getElem?_toArray, List.getElem?_cons_succ, List.getElem?_cons_zero, Option.getD_some] at e0
        have ev0 := Lib.hid ((eval_tmp FA 0).trans e0)
        have ev27 : FA.eval (.tmp 27) = _ := hD 3 27 (by kernel_rfl)
        have e27 := (eval_tmp FA 27).symm.trans ev27
        replace ev27 := Lib.hid ev27
        first | have ge27 := slot_of e27 | have ge27 := slot_un e27
        clear hO hD
        go_simp
        exact hK.out _ _ (Ex.refl _) rfl
      apply StepsC.one (MC.eq _) 6 rfl (by decide)
      · intro o ho FA w' hC hO hD K hK
        obtain rfl := Option.some.inj ho.symm
        clear ho
        have ev28 : FA.eval (.tmp 28) = _ := hD 4 28 (by kernel_rfl)
        have e28 := (eval_tmp FA 28).symm.trans ev28
        replace ev28 := Lib.hid ev28
        have ev27 : FA.eval (.tmp 27) = _ := hD 3 27 (by kernel_rfl)
        have e27 := (eval_tmp FA 27).symm.trans ev27
        replace ev27 := Lib.hid ev27
        first | have ge27 := slot_of e27 | have ge27 := slot_un e27
        clear hO hD
        go_simp
        refine (badT r (some l5) _ (hR5.low (hC.below (B := r + 1) (fun b hb => by have : b = w.heap.size := hb; omega) (by omega)))).mono ?_
        rintro e w1 ⟨rfl, rfl⟩
        exact hK.out _ _ (Ex.refl _) rfl
      apply StepsC.one (MC.eq _) 7 rfl (by decide)
      · intro o ho FA w' hC hO hD K hK
        obtain rfl := Option.some.inj ho.symm
        clear ho
        have ev29 : FA.eval (.tmp 29) = _ := hD 5 29 (by kernel_rfl)
        have e29 := (eval_tmp FA 29).symm.trans ev29
        replace ev29 := Lib.hid ev29
        have ev27 : FA.eval (.tmp 27) = _ := hD 3 27 (by kernel_rfl)
        have e27 := (eval_tmp FA 27).symm.trans ev27
        replace ev27 := Lib.hid ev27
        first | have ge27 := slot_of e27 | have ge27 := slot_un e27
        clear hO hD
        go_simp
        exact hK.out _ _ (Ex.refl _) rfl
      apply StepsC.one (MC.eq _) 8 rfl (by decide)
      · intro o ho FA w' hC hO hD K hK
        obtain rfl := Option.some.inj ho.symm
        clear ho
        have ev27 : FA.eval (.tmp 27) = _ := hD 3 27 (by kernel_rfl)
        have e27 := (eval_tmp FA 27).symm.trans ev27
        replace ev27 := Lib.hid ev27
        have ev30 : FA.eval (.tmp 30) = _ := hD 6 30 (by kernel_rfl)
        have e30 := (eval_tmp FA 30).symm.trans ev30
        replace ev30 := Lib.hid ev30
        clear hO hD
        go_simp
        exact hK.out _ _ (Ex.refl _) rfl
      apply StepsC.mov MC.any 9 0 rfl rfl rfl
      · intro o ho FA w' hC hO hD hS K hK
        obtain rfl := Option.some.inj ho.symm
        clear ho
        have e2 := hO 2 (by kernel_rfl)
        simp only [eval_tmp, List.getElem?_toArray, List.getElem?_cons_succ, List.getElem?_cons_zero, Option.getD_some] at e2
        have ev2 := Lib.hid ((eval_tmp FA 2).trans e2)
        have ev24 : FA.eval (.tmp 24) = _ := hD 0 24 (by kernel_rfl)
        have e24 := (eval_tmp FA 24).symm.trans ev24
        replace ev24 := Lib.hid ev24
        clear hO hD
        refine wanted_if rfl ?_
        refine wp_stA 24 (.tmp 2) (.tmp 24) rfl (adC six ah al) (adC false 0 0) rfl (adC_one _ _ _) ev2.out ev24.out hS (szAd _ _ _) ?_
        intro w'' hn hg
        exact hK.out undef _ (Chg.one hg rfl) hn trivial
      apply StepsC.one (MC.eq _) 10 rfl (by decide)
      · intro o ho FA w' hC hO hD K hK
        obtain rfl := Option.some.inj ho.symm
        clear ho
        have ev31 : FA.eval (.tmp 31) = _ := hD 7 31 (by kernel_rfl)
        have e31 := (eval_tmp FA 31).symm.trans ev31
        replace ev31 := Lib.hid ev31
        clear hO hD
        go_simp
        exact hK.out _ _ (Ex.refl _) rfl
      refine StepsC.fin_ (fun vs w' hC hS hp => ?_)
      have p0 : vs 0 = _ := hp 0 (by omega) rfl
      have p1 : vs 1 = _ := hp 1 (by omega) rfl
      have p2 : vs 2 = _ := hp 2 (by omega) rfl
      have p3 : vs 3 = _ := hp 3 (by omega) rfl
      have p4 : vs 4 = _ := hp 4 (by omega) rfl
      have p5 : vs 5 = _ := hp 5 (by omega) rfl
      have p6 : vs 6 = _ := hp 6 (by omega) rfl
      have p7 : vs 7 = _ := hp 7 (by omega) rfl
      have p9 : vs 9 = _ := hp 9 (by omega) rfl
      clear hp
      simp only [List.take_succ_cons, List.take_zero, List.drop_succ_cons, List.drop_zero, putAll, Nat.zero_add, Nat.reduceAdd, Act.put, List.setIfInBounds_toArray, List.set_cons_zero, List.set_cons_succ, p0, p1, p2, p3, p4, p5, p6, p7, p9]
      clear p0 p1 p2 p3 p4 p5 p6 p7 p9
      clear vs
      have gw : w.grownBy w' (some r) := grown_chg gr hC (fun b hb => by have : b = w.heap.size := hb; omega)
      go_wp2
      refine bodyPost_agg2 Try.results32 rfl rfl (Bk.range hS) u1 u2 (szAd _ _ _) rfl ?_
      exact ⟨six, ah, al, true, rfl, gw, ha1, ha2, .inr ⟨rfl, by unfold adS; rw [hz9.out]; simp only [hE, Option.map], by rw [hz9.out, hl5]; exact hR5.low (hC.below (B := r + 1) (fun b hb => by have : b = w.heap.size := hb; omega) (by omega))⟩⟩
    · 
      go_wp2
      refine wp_suS (fun b => b = w.heap.size) 10 32 2 [8] rfl (by kernel_rfl) (by kernel_rfl) (fun k w' => Bk w' w.heap.size 24 (if k = 0 then adC false 0 0 else adC six ah al)) (fun k w w' h h' => h.later h'.below) (b2) ?_
      apply StepsC.one (MC.eq _) 1 rfl (by decide)
      · intro o ho FA w' hC hO hD K hK
        obtain rfl := Option.some.inj ho.symm
        clear ho
        have e5 := hO 5 (by kernel_rfl)
        simp only [eval_tmp, List.getElem?_toArray, List.getElem?_cons_succ, List.getElem?_cons_zero, Option.getD_some] at e5
        have ev5 := Lib.hid ((eval_tmp FA 5).trans e5)
        clear hO hD
        refine wanted_if rfl ?_
        refine wp_ldA 24 (.tmp 5) rfl (adC six ah al) ev5.out (hX.chg hC nX) (whole_ _) u1 u2 (szAd _ _ _) ?_
        exact hK.out _ _ (Ex.refl _) rfl
      apply StepsC.one (MC.eq _) 2 rfl (by decide)
      · intro o ho FA w' hC hO hD K hK
        obtain rfl := Option.some.inj ho.symm
        clear ho
        have e6 := hO 6 (by kernel_rfl)
        simp only [eval_tmp, List.getElem?_toArray, List.getElem?_cons_succ, List.getElem?_cons_zero, Option.getD_some] at e6
        have ev6 := Lib.hid ((eval_tmp FA 6).trans e6)
        clear hO hD
        go_simp
        exact hK.out _ _ (Ex.refl _) rfl
      apply StepsC.one (MC.eq _) 3 rfl (by decide)
      · intro o ho FA w' hC hO hD K hK
        obtain rfl := Option.some.inj ho.symm
        clear ho
        have ev25 : FA.eval (.tmp 25) = _ := hD 1 25 (by kernel_rfl)
        have e25 := (eval_tmp FA 25).symm.trans ev25
        replace ev25 := Lib.hid ev25
        clear hO hD
        go_simp
        exact hK.out _ _ (Ex.refl _) rfl
      apply StepsC.one (MC.eq _) 4 rfl (by decide)
      · intro o ho FA w' hC hO hD K hK
        obtain rfl := Option.some.inj ho.symm
        clear ho
        have ev26 : FA.eval (.tmp 26) = _ := hD 2 26 (by kernel_rfl)
        have e26 := (eval_tmp FA 26).symm.trans ev26
        replace ev26 := Lib.hid ev26
        clear hO hD
        go_simp
        exact hK.out _ _ (Ex.refl _) rfl
      apply StepsC.one (MC.eq _) 5 rfl (by decide)
      · intro o ho FA w' hC hO hD K hK
        obtain rfl := Option.some.inj ho.symm
        clear ho
        have e0 := hO 0 (by kernel_rfl)
        simp only [eval_tmp, List.getElem?_toArray, List.getElem?_cons_succ, List.getElem?_cons_zero, Option.getD_some] at e0
        have ev0 := Lib.hid ((eval_tmp FA 0).trans e0)
        have ev27 : FA.eval (.tmp 27) = _ := hD 3 27 (by kernel_rfl)
        have e27 := (eval_tmp FA 27).symm.trans ev27
        replace ev27 := Lib.hid ev27
        first | have ge27 := slot_of e27 | have ge27 := slot_un e27
        clear hO hD
        go_simp
        exact hK.out _ _ (Ex.refl _) rfl
      apply StepsC.one (MC.eq _) 6 rfl (by decide)
      · intro o ho FA w' hC hO hD K hK
        obtain rfl := Option.some.inj ho.symm
        clear ho
        have ev28 : FA.eval (.tmp 28) = _ := hD 4 28 (by kernel_rfl)
        have e28 := (eval_tmp FA 28).symm.trans ev28
        replace ev28 := Lib.hid ev28
        have ev27 : FA.eval (.tmp 27) = _ := hD 3 27 (by kernel_rfl)
        have e27 := (eval_tmp FA 27).symm.trans ev27
        replace ev27 := Lib.hid ev27
        first | have ge27 := slot_of e27 | have ge27 := slot_un e27
        clear hO hD
        go_simp
        exact hK.out _ _ (Ex.refl _) rfl
      apply StepsC.one (MC.eq _) 7 rfl (by decide)
      · intro o ho FA w' hC hO hD K hK
        obtain rfl := Option.some.inj ho.symm
        clear ho
        have ev29 : FA.eval (.tmp 29) = _ := hD 5 29 (by kernel_rfl)
        have e29 := (eval_tmp FA 29).symm.trans ev29
        replace ev29 := Lib.hid ev29
        have ev27 : FA.eval (.tmp 27) = _ := hD 3 27 (by kernel_rfl)
        have e27 := (eval_tmp FA 27).symm.trans ev27
        replace ev27 := Lib.hid ev27
        first | have ge27 := slot_of e27 | have ge27 := slot_un e27
        clear hO hD
        go_simp
        exact hK.out _ _ (Ex.refl _) rfl
      apply StepsC.one (MC.eq _) 8 rfl (by decide)
      · intro o ho FA w' hC hO hD K hK
        obtain rfl := Option.some.inj ho.symm
        clear ho
        have ev27 : FA.eval (.tmp 27) = _ := hD 3 27 (by kernel_rfl)
        have e27 := (eval_tmp FA 27).symm.trans ev27
        replace ev27 := Lib.hid ev27
        have ev30 : FA.eval (.tmp 30) = _ := hD 6 30 (by kernel_rfl)
        have e30 := (eval_tmp FA 30).symm.trans ev30
        replace ev30 := Lib.hid ev30
        clear hO hD
        go_simp
        exact hK.out _ _ (Ex.refl _) rfl
      apply StepsC.mov MC.any 9 0 rfl rfl rfl
      · intro o ho FA w' hC hO hD hS K hK
        obtain rfl := Option.some.inj ho.symm
        clear ho
        have e2 := hO 2 (by kernel_rfl)
        simp only [eval_tmp, List.getElem?_toArray, List.getElem?_cons_succ, List.getElem?_cons_zero, Option.getD_some] at e2
        have ev2 := Lib.hid ((eval_tmp FA 2).trans e2)
        have ev24 : FA.eval (.tmp 24) = _ := hD 0 24 (by kernel_rfl)
        have e24 := (eval_tmp FA 24).symm.trans ev24
        replace ev24 := Lib.hid ev24
        clear hO hD
        refine wanted_if rfl ?_
        refine wp_stA 24 (.tmp 2) (.tmp 24) rfl (adC six ah al) (adC false 0 0) rfl (adC_one _ _ _) ev2.out ev24.out hS (szAd _ _ _) ?_
        intro w'' hn hg
        exact hK.out undef _ (Chg.one hg rfl) hn trivial
      apply StepsC.one (MC.eq _) 10 rfl (by decide)
      · intro o ho FA w' hC hO hD K hK
        obtain rfl := Option.some.inj ho.symm
        clear ho
        have ev31 : FA.eval (.tmp 31) = _ := hD 7 31 (by kernel_rfl)
        have e31 := (eval_tmp FA 31).symm.trans ev31
        replace ev31 := Lib.hid ev31
        clear hO hD
        go_simp
        exact hK.out _ _ (Ex.refl _) rfl
      refine StepsC.fin_ (fun vs w' hC hS hp => ?_)
      have p0 : vs 0 = _ := hp 0 (by omega) rfl
      have p1 : vs 1 = _ := hp 1 (by omega) rfl
      have p2 : vs 2 = _ := hp 2 (by omega) rfl
      have p3 : vs 3 = _ := hp 3 (by omega) rfl
      have p4 : vs 4 = _ := hp 4 (by omega) rfl
      have p5 : vs 5 = _ := hp 5 (by omega) rfl
      have p6 : vs 6 = _ := hp 6 (by omega) rfl
      have p7 : vs 7 = _ := hp 7 (by omega) rfl
      have p9 : vs 9 = _ := hp 9 (by omega) rfl
      clear hp
      simp only [List.take_succ_cons, List.take_zero, List.drop_succ_cons, List.drop_zero, putAll, Nat.zero_add, Nat.reduceAdd, Act.put, List.setIfInBounds_toArray, List.set_cons_zero, List.set_cons_succ, p0, p1, p2, p3, p4, p5, p6, p7, p9]
      clear p0 p1 p2 p3 p4 p5 p6 p7 p9
      clear vs
      have gw : w.grownBy w' (some r) := grown_chg gr hC (fun b hb => by have : b = w.heap.size := hb; omega)
      go_wp2
      refine bodyPost_agg2 Try.results32 rfl rfl (Bk.range hS) u1 u2 (szAd _ _ _) rfl ?_
      exact ⟨six, ah, al, false, rfl, gw, ha1, ha2, .inl ⟨rfl, by unfold adS; rw [hz9.out]; simp only [hE, Option.map]⟩⟩
  have i4 : ((z : Int) == 4) = false := by simp; omega
  have i16 : ((z : Int) == 16) = false := by simp; omega
  have hno : adS s = none := by unfold adS; rw [adX_none (by rw [hz9.out]; exact h4) (by rw [hz9.out]; exact h16)]; rfl
  replace hno := Lib.hid hno
  have j4 : ¬ (z : Int) = 4 := by omega
  have j16 : ¬ (z : Int) = 16 := by omega
  have k4 : ((z : Int) != 4) = true := by simp; omega
  have k16 : ((z : Int) != 16) = true := by simp; omega
  clear HBy HB hz9
  go_wp2_with (refine at_op (.store 24 (.tmp 2) (.tmp 16)) rfl ?_; refine wpList_stA (t := 24) 24 (.tmp 2) (.tmp 16) rfl rfl (adC false 0 0) (adC false 0 0) rfl (adC_one _ _ _) rfl rfl (b2) (szAd _ _ _) ?_; intro W4 h9 g9)
  refine bodyPost_agg2 Try.results32 rfl rfl h9.range u1 u2 (szAd _ _ _) rfl ?_
  exact ⟨false, 0, 0, false, rfl, grown_new gr g9 (Nat.le_refl _), by decide, by decide, .inl ⟨rfl, hno.out⟩⟩
def drs : Nat → StB → StB
  | 0, s => s
  | i + 1, s => drB 1 (drB 1 (drs i s))
def mbs : Nat → StB → List (Int × Int)
  | 0, _ => []
  | i + 1, s => mbs i s ++ [((numT 1 (drs i s) : Int), (numT 1 (drB 1 (drs i s)) : Int))]
theorem mbs_len (s : StB) : ∀ i, (mbs i s).length = i
  | 0 => rfl
  | i + 1 => by simp [mbs, mbs_len s i]
theorem SL.drs {s : StB} (h : SL s) : ∀ i, SL (drs i s)
  | 0 => h
  | i + 1 => ((SL.drs h i).dr 1).dr 1
/-- members behind their number, and what is left -/
def mbS (s : StB) : Option (List (Int × Int) × List UInt8) := if numT 1 s ≤ 64 then (drs (numT 1 s) (drB 1 s)).map fun l => (mbs (numT 1 s) (drB 1 s), l) else none
theorem grown_old {a b c : World} {r : Nat} (h : a.grownBy b (some r)) (k : Below a.heap.size b c) : a.grownBy c (some r) :=
  ⟨k.os.trans h.os, k.tape.trans h.tape, k.output.trans h.output, Nat.le_trans h.size k.size, fun i hi hne => (k.block i hi).trans (h.block i hi hne)⟩
theorem etCm : ET Try.prog 33 105 (.agg #[.int .i64 0, .int .i64 0]) 2 16 := ⟨Try.underlying33, by kernel_rfl, rfl, by decide, by decide⟩
/-- what takeMembers gives -/
def RetTM (w : World) (r : Nat) (s : StB) (e : Ending) (w' : World) : Prop := ∃ A n c ok, e = .returned (.tuple #[.slice A n c, .bool ok]) ∧ w.grownBy w' (some r) ∧ (ok = false ∧ mbS s = none ∨ ok = true ∧ ∃ L l, mbS s = some (L, l) ∧ RP w' r (some l) ∧ Os 105 2 w' w.heap.size A n c (prs .i64 L))
set_option maxHeartbeats 4000000 in
set_option maxRecDepth 100000 in
theorem takeMembers_any (r : Nat) (s : StB) (w : World) (h : RP w r s) (hs : SL s) : Calls Try.prog 34 #[.pointer (some ⟨r, 0, none⟩)] w (RetTM w r s) := by
  have zr := h.lt
  have hz256 := numT_lt 1 256 s (by decide)
  have hs1 := hs.dr 1
  have HB := Lib.hid (byteT r s)
  have HBi := Lib.hid (fun i w h => byteT r (drs i (drB 1 s)) w h (hs1.drs i))
  have HBj := Lib.hid (fun i w h => byteT r (drB 1 (drs i (drB 1 s))) w h ((hs1.drs i).dr 1))
  obtain ⟨n, hn⟩ : ∃ n, numT 1 s = n := ⟨_, rfl⟩
  have hn9 : Hid (mbS s = if n ≤ 64 then (drs n (drB 1 s)).map fun l => (mbs n (drB 1 s), l) else none) := Lib.hid (by unfold mbS; rw [hn])
  rw [hn] at HB hz256
  clear hn
  generalize drB 1 s = s1 at *
  go_enter Try.func34, Try.ntmps34
  go_wp2_with fail
  refine (HB.out _ h hs).mono ?_
  rintro e V ⟨rfl, hR, hg⟩
  clear HB h
  by_cases h64 : 64 < n
  · have i64 : (64 : Int) < (n : Int) := by omega
    have hno : Hid (mbS s = none) := Lib.hid (by rw [hn9.out, if_neg (by omega)])
    go_wp2
    refine bodyPost_ret (v := .tuple #[.slice none 0 0, .bool false]) (by simp [results, Try.results34, go_sem]) rfl ?_
    exact ⟨none, 0, 0, false, rfl, hg, .inl ⟨rfl, hno.out⟩⟩
  have i64 : ¬ (64 : Int) < (n : Int) := by omega
  go_upto_region 6 with (fail)
  have hGv := hg
  clear hg
  go_loopw [5, 14] (fun X I wr => ∃ i : Nat, ∃ A m c, I = .int .i64 (i : Int) ∧ i ≤ n ∧ X = .slice A m c ∧ Os 105 2 wr w.heap.size A m c (prs .i64 (mbs i s1)) ∧ RP wr r (drs i s1) ∧ w.grownBy wr (some r)) (fun _ I _ => n - (intOf I).toNat)
  case atStart => exact ⟨0, none, 0, 0, rfl, Nat.zero_le _, rfl, Os.nil_, hR, hGv⟩
  case round =>
    obtain ⟨i, A, m, c, rfl, hi, rfl, hO, hRr, hG⟩ := hrel
    have hm : m = i := by
      have := hO.rs.1
      rw [prs_length, mbs_len] at this
      omega
    subst hm
    by_cases hlt : m < n
    · have ii : (m : Int) < (n : Int) := by omega
      have hx := numT_lt 1 256 (drs m s1) (by decide)
      have hy := numT_lt 1 256 (drB 1 (drs m s1)) (by decide)
      have HX := Lib.hid (HBi.out m)
      have HY := Lib.hid (HBj.out m)
      have HM := Lib.hid (show mbs (m + 1) s1 = mbs m s1 ++ [((numT 1 (drs m s1) : Int), (numT 1 (drB 1 (drs m s1)) : Int))] from rfl)
      generalize numT 1 (drs m s1) = x at *
      generalize numT 1 (drB 1 (drs m s1)) = y at *
      have zg := hG.size
      go_wp2_with fail
      refine (HX.out _ hRr).mono ?_
      rintro e V1 ⟨rfl, hR1, hg1⟩
      replace hO := hO.grown hg1 (fun k hk e => by have := (hO.blk k hk).1; injection e with e; omega)
      replace hG := hG.trans hg1
      clear hg1 hRr
      go_wp2_with fail
      refine (HY.out _ hR1).mono ?_
      rintro e V2 ⟨rfl, hR2, hg2⟩
      replace hO := hO.grown hg2 (fun k hk e => by have := (hO.blk k hk).1; injection e with e; omega)
      replace hG := hG.trans hg2
      clear hg2 hR1
      have zV2 := hG.size
      go_wp2_with (at_builtin; refine wpList_appS etCm rfl (.tmp 22) (.tmp 26) rfl rfl (hO.later (Below.allocS (Below.refl _ _) _)) rfl (Rs.of_bk (n := 1) (c := 1) (Bk.new V2 _ _) rfl (Nat.le_refl _)) (by simp [Value.oneCell']) (by omega) (by simp; omega) ?_; intro A2 n2 c2 w4 hn2 hO4 hb4 hg4; subst hn2)
      have hb5 : Below w.heap.size V2 w4 := ((Below.refl V2.heap.size V2).alloc (Nat.le_refl _) _ |>.mono (by omega)).trans hb4
      exact ⟨⟨m + 1, A2, _, c2, by go_num, by omega, rfl, by rw [HM.out, prs_append]; exact hO4, hR2.low (hb5.mono (by omega)), grown_old hG hb5⟩, by simp [intOf]; omega⟩
    · obtain rfl : m = n := by omega
      have ii : ¬ (m : Int) < (m : Int) := by omega
      have hyes : Hid (mbS s = (drs m s1).map fun l => (mbs m s1, l)) := Lib.hid (by rw [hn9.out, if_pos (by omega)])
      go_wp2_with fail
      refine (badT r (drs m s1) _ hRr).mono ?_
      rintro e w1 ⟨rfl, rfl⟩
      cases hd : drs m s1 with
      | none =>
        rw [hd] at hyes
        simp only [Option.isNone]
        go_wp2
        refine bodyPost_ret (v := .tuple #[.slice A m c, .bool false]) (by simp [results, Try.results34, go_sem]) rfl ?_
        exact ⟨A, _, c, false, rfl, hG, .inl ⟨rfl, hyes.out⟩⟩
      | some l =>
        rw [hd] at hyes hRr
        simp only [Option.isNone]
        go_wp2
        refine bodyPost_ret (v := .tuple #[.slice A m c, .bool true]) (by simp [results, Try.results34, go_sem]) rfl ?_
        exact ⟨A, _, c, true, rfl, hG, .inr ⟨rfl, _, l, hyes.out, hRr, hO⟩⟩
end Go.Proofs.Ytepodflinhpejaa

/- codec.ParseOp (chapter 23). -/
namespace Go.Proofs.Ytepodflinhpejaa
open Go.RowKit
set_option linter.unusedVariables false
set_option linter.unusedSimpArgs false
attribute [local go_sem ↓] sliced_cut

attribute [local go_sem] cutA_zero

/-- an operation's cells -/
def opC (k v b e : Int) (six : Bool) (ah al pt pr : Nat) (wy : Int) (A : Option Addr) (n c : Nat) : List Value := [.int .i64 k, .int .i64 v, .int .i64 b, .int .i64 e, .bool six, .int .u64 (ah : Int), .int .u64 (al : Int), .int .u16 (pt : Int), .int .u8 (pr : Int), .int .i64 wy, .slice A n c]
theorem opC_one (k v b e : Int) (six : Bool) (ah al pt pr : Nat) (wy : Int) (A : Option Addr) (n c : Nat) : ∀ u ∈ opC k v b e six ah al pt pr wy A n c, u.oneCell' = true := by simp [opC, Value.oneCell']
theorem szOp (k v b e : Int) (six : Bool) (ah al pt pr : Nat) (wy : Int) (A : Option Addr) (n c : Nat) : (Try.prog.info? 35).map (·.size) = some (opC k v b e six ah al pt pr wy A n c).length := by kernel_rfl
theorem rowOpC : ∃ d, Try.prog.underlying 35 = some d ∧ d.isRow = true := ⟨_, Try.underlying35, rfl⟩
/-- an operation -/
structure OpR where
  k : Int
  v : Int
  b : Int
  e : Int
  six : Bool
  ah : Nat
  al : Nat
  pt : Nat
  pr : Nat
  wy : Int
  ms : List (Int × Int)
def OpR.cells (o : OpR) (A : Option Addr) (n c : Nat) : List Value := opC o.k o.v o.b o.e o.six o.ah o.al o.pt o.pr o.wy A n c
def popE (k v b e : Nat) (q : Bool × Nat × Nat) (pt pr wy : Nat) : Option (List (Int × Int) × List UInt8) → Option OpR
  | some (L, []) => some ⟨k, v, b, e, q.1, q.2.1, q.2.2, pt, pr, wy, L⟩
  | _ => none
/-- the operation that some bytes are -/
def popS (L : List UInt8) : Option OpR :=
  let s1 := drB 1 (some L); let s2 := drB 1 s1; let s3 := drB 1 s2; let s4 := drB 1 s3
  (adS s4).bind fun p => popE (numT 1 (some L)) (numT 1 s1) (numT 1 s2) (numT 1 s3) p.1 (numT 2 p.2) (numT 1 (drB 2 p.2)) (numT 1 (drB 1 (drB 2 p.2))) (mbS (drB 1 (drB 1 (drB 2 p.2))))
/-- bounds of what was read -/
def OpR.fine (o : OpR) : Prop := (0 ≤ o.k ∧ o.k < 256) ∧ (0 ≤ o.v ∧ o.v < 256) ∧ (0 ≤ o.b ∧ o.b < 256) ∧ (0 ≤ o.e ∧ o.e < 256) ∧ o.ah < 18446744073709551616 ∧ o.al < 18446744073709551616 ∧ o.pt < 65536 ∧ o.pr < 256 ∧ (0 ≤ o.wy ∧ o.wy < 256) ∧ o.ms.length ≤ 64
/-- what ParseOp gives -/
def RetPO (w : World) (L : List UInt8) (F : Bool → Value) (e : Ending) (w' : World) : Prop := ∃ (o : OpR) (ok : Bool) (A : Option Addr) (n c : Nat) (bs : List Obj) (d : Nat), e = .returned (.tuple #[.agg (o.cells A n c).toArray, F ok]) ∧ w' = plus w bs d ∧ o.fine ∧ Rs 2 (plus w bs d) A n c (prs .i64 o.ms) ∧ (ok = true ∧ popS L = some o ∨ ok = false ∧ popS L = none ∧ o = ⟨0, 0, 0, 0, false, 0, 0, 0, 0, 0, []⟩)
theorem OpR.fine0 : OpR.fine ⟨0, 0, 0, 0, false, 0, 0, 0, 0, 0, []⟩ := by simp [OpR.fine]
theorem RetPO.none_ {w w' : World} {L : List UInt8} {F : Bool → Value} (h : popS L = none) (hb : Below w.heap.size w w') : RetPO w L F (.returned (.tuple #[.agg (opC 0 0 0 0 false 0 0 0 0 0 none 0 0).toArray, F false])) w' := by
  obtain ⟨bs, d, rfl⟩ := plus_of hb
  exact ⟨_, false, none, 0, 0, bs, d, rfl, rfl, OpR.fine0, Rs.nil_, .inr ⟨rfl, h, rfl⟩⟩
theorem mbS_len {s : StB} {L : List (Int × Int)} {l : List UInt8} (h : mbS s = some (L, l)) : L.length ≤ 64 := by
  unfold mbS at h
  split at h
  · rename_i h64
    cases hd : drs (numT 1 s) (drB 1 s) with
    | none => rw [hd] at h; cases h
    | some x =>
      rw [hd] at h
      simp only [Option.map] at h
      injection h with h
      injection h with h1 h2
      rw [← h1, mbs_len]
      exact h64
  · cases h
set_option maxHeartbeats 4000000 in
set_option maxRecDepth 100000 in
theorem parseOp_any (A : Option Addr) (n c : Nat) (L : List UInt8) (w : World) (hr : Rb w A n c L) (hm : n ≤ 1000000) : Calls Try.prog 8 #[.slice A n c] w (RetPO w L (fun ok => .int .i64 (if ok then 0 else 21))) := by
  obtain ⟨dv, v1, v2⟩ := rowOpC
  obtain ⟨da, u1, u2⟩ : ∃ d, Try.prog.underlying 24 = some d ∧ d.isRow = true := ⟨_, Try.underlying24, rfl⟩
  have s0 : SL (some L) := fun l h => by injection h with h; rw [← h, hr.1]; exact hm
  have s1 := s0.dr 1
  have s2 := s1.dr 1
  have s3 := s2.dr 1
  have s4 := s3.dr 1
  have x0 := numT_lt 1 256 (some L) (by decide)
  have x1 := numT_lt 1 256 (drB 1 (some L)) (by decide)
  have x2 := numT_lt 1 256 (drB 1 (drB 1 (some L))) (by decide)
  have x3 := numT_lt 1 256 (drB 1 (drB 1 (drB 1 (some L)))) (by decide)
  have HP := Lib.hid (show popS L = (adS (drB 1 (drB 1 (drB 1 (drB 1 (some L)))))).bind _ from rfl)
  have HRD := Lib.hid (fun w h => readT A n c L w h (by omega))
  have HB0 := Lib.hid (fun r w h => byteT r (some L) w h s0)
  have HB1 := Lib.hid (fun r w h => byteT r (drB 1 (some L)) w h s1)
  have HB2 := Lib.hid (fun r w h => byteT r (drB 1 (drB 1 (some L))) w h s2)
  have HB3 := Lib.hid (fun r w h => byteT r (drB 1 (drB 1 (drB 1 (some L)))) w h s3)
  generalize numT 1 (some L) = y0 at *
  generalize numT 1 (drB 1 (some L)) = y1 at *
  generalize numT 1 (drB 1 (drB 1 (some L))) = y2 at *
  generalize numT 1 (drB 1 (drB 1 (drB 1 (some L)))) = y3 at *
  generalize drB 1 (drB 1 (drB 1 (drB 1 (some L)))) = S4 at *
  generalize drB 1 (drB 1 (drB 1 (some L))) = S3 at *
  generalize drB 1 (drB 1 (some L)) = S2 at *
  generalize drB 1 (some L) = S1 at *
  have b2 : Bk (w.alloc (.cells #[.int .i64 0, .int .i64 0, .int .i64 0, .int .i64 0, .bool false, .int .u64 0, .int .u64 0, .int .u16 0, .int .u8 0, .int .i64 0, .slice none 0 0] 35)) w.heap.size 35 (opC 0 0 0 0 false 0 0 0 0 0 none 0 0) := Bk.new w 35 #[.int .i64 0, .int .i64 0, .int .i64 0, .int .i64 0, .bool false, .int .u64 0, .int .u64 0, .int .u16 0, .int .u8 0, .int .i64 0, .slice none 0 0]
  have be : Below w.heap.size w (w.alloc (.cells #[.int .i64 0, .int .i64 0, .int .i64 0, .int .i64 0, .bool false, .int .u64 0, .int .u64 0, .int .u16 0, .int .u8 0, .int .i64 0, .slice none 0 0] 35)) := Below.allocS (Below.refl _ _) _
  go_enter Try.func8, Try.ntmps8
  go_upto_region 1 with (fail)
  replace hr := hr.later be
  generalize w.alloc (.cells #[.int .i64 0, .int .i64 0, .int .i64 0, .int .i64 0, .bool false, .int .u64 0, .int .u64 0, .int .u16 0, .int .u8 0, .int .i64 0, .slice none 0 0] 35) = V0 at *
  have z2 := b2.lt
  go_wp2_with fail
  refine (HRD.out _ hr).mono ?_
  rintro e w1 ⟨r, bs1, d1, rfl, rfl, hr1, hR⟩
  replace b2 := b2.later (below_plus V0 bs1 d1)
  replace be := belowP be bs1 d1
  have hr2 : w.heap.size < r := by omega
  have zr := hR.lt
  clear hr HRD hr1 z2
  generalize plus V0 bs1 d1 = V1 at *
  go_upto_region 3 with (fail)
  have b5 : Bk (V1.alloc (.cells #[.int .i64 0, .int .i64 0, .int .i64 0, .int .i64 0, .bool false, .int .u64 0, .int .u64 0, .int .u16 0, .int .u8 0, .int .i64 0, .slice none 0 0] 35)) V1.heap.size 35 (opC 0 0 0 0 false 0 0 0 0 0 none 0 0) := Bk.new V1 35 #[.int .i64 0, .int .i64 0, .int .i64 0, .int .i64 0, .bool false, .int .u64 0, .int .u64 0, .int .u16 0, .int .u8 0, .int .i64 0, .slice none 0 0]
  have hb5 : Below V1.heap.size V1 (V1.alloc (.cells #[.int .i64 0, .int .i64 0, .int .i64 0, .int .i64 0, .bool false, .int .u64 0, .int .u64 0, .int .u16 0, .int .u8 0, .int .i64 0, .slice none 0 0] 35)) := Below.allocS (Below.refl _ _) _
  replace b2 := b2.later hb5
  replace hR := hR.later hb5
  have z1 := be.size
  replace be := be.trans (hb5.mono z1)
  have zg := b5.lt
  clear hb5
  generalize V1.alloc (.cells #[.int .i64 0, .int .i64 0, .int .i64 0, .int .i64 0, .bool false, .int .u64 0, .int .u64 0, .int .u16 0, .int .u8 0, .int .i64 0, .slice none 0 0] 35) = V5 at *
  generalize V1.heap.size = g5 at *
  have hwr : w.heap.size < g5 := by omega
  go_wp2_with fail
  refine (HB0.out r _ hR).mono ?_
  rintro e V ⟨rfl, hR', hg⟩
  replace b2 := b2.grown hg (by simp; omega)
  replace b5 := b5.grown hg (by simp; omega)
  replace be := below_grown be hg (by omega)
  replace zg := Nat.lt_of_lt_of_le zg hg.size
  clear hR
  have hR := hR'
  clear hR' hg
  go_upto_region 4 with (refine at_op (.store 3 (.tmp 13) (.tmp 12)) rfl ?_; refine wpList_st1 3 (.tmp 13) (.tmp 12) rfl rfl (by rfl) (by rfl) b5 (Nat.le_of_ble_eq_true rfl) rfl (by kernel_rfl) ?_; intro W5 h5 g5g)
  replace b5 : Bk W5 g5 35 (opC y0 0 0 0 false 0 0 0 0 0 none 0 0) := h5
  replace b2 := b2.grown g5g (by simp; omega)
  replace hR := hR.low (below_of_grown g5g (by omega) (fun k hk => by injection hk with hk; omega))
  replace be := below_grown be g5g (by omega)
  replace zg := Nat.lt_of_lt_of_le zg g5g.size
  clear h5 g5g
  go_wp2_with fail
  refine (HB1.out r _ hR).mono ?_
  rintro e V ⟨rfl, hR', hg⟩
  replace b2 := b2.grown hg (by simp; omega)
  replace b5 := b5.grown hg (by simp; omega)
  replace be := below_grown be hg (by omega)
  replace zg := Nat.lt_of_lt_of_le zg hg.size
  clear hR
  have hR := hR'
  clear hR' hg
  go_upto_region 5 with (refine at_op (.store 3 (.tmp 17) (.tmp 16)) rfl ?_; refine wpList_st1 3 (.tmp 17) (.tmp 16) rfl rfl (by rfl) (by rfl) b5 (Nat.le_of_ble_eq_true rfl) rfl (by kernel_rfl) ?_; intro W5 h5 g5g)
  replace b5 : Bk W5 g5 35 (opC y0 y1 0 0 false 0 0 0 0 0 none 0 0) := h5
  replace b2 := b2.grown g5g (by simp; omega)
  replace hR := hR.low (below_of_grown g5g (by omega) (fun k hk => by injection hk with hk; omega))
  replace be := below_grown be g5g (by omega)
  replace zg := Nat.lt_of_lt_of_le zg g5g.size
  clear h5 g5g
  go_wp2_with fail
  refine (HB2.out r _ hR).mono ?_
  rintro e V ⟨rfl, hR', hg⟩
  replace b2 := b2.grown hg (by simp; omega)
  replace b5 := b5.grown hg (by simp; omega)
  replace be := below_grown be hg (by omega)
  replace zg := Nat.lt_of_lt_of_le zg hg.size
  clear hR
  have hR := hR'
  clear hR' hg
  go_upto_region 6 with (refine at_op (.store 3 (.tmp 21) (.tmp 20)) rfl ?_; refine wpList_st1 3 (.tmp 21) (.tmp 20) rfl rfl (by rfl) (by rfl) b5 (Nat.le_of_ble_eq_true rfl) rfl (by kernel_rfl) ?_; intro W5 h5 g5g)
  replace b5 : Bk W5 g5 35 (opC y0 y1 y2 0 false 0 0 0 0 0 none 0 0) := h5
  replace b2 := b2.grown g5g (by simp; omega)
  replace hR := hR.low (below_of_grown g5g (by omega) (fun k hk => by injection hk with hk; omega))
  replace be := below_grown be g5g (by omega)
  replace zg := Nat.lt_of_lt_of_le zg g5g.size
  clear h5 g5g
  go_wp2_with fail
  refine (HB3.out r _ hR).mono ?_
  rintro e V ⟨rfl, hR', hg⟩
  replace b2 := b2.grown hg (by simp; omega)
  replace b5 := b5.grown hg (by simp; omega)
  replace be := below_grown be hg (by omega)
  replace zg := Nat.lt_of_lt_of_le zg hg.size
  clear hR
  have hR := hR'
  clear hR' hg
  go_upto_region 7 with (refine at_op (.store 3 (.tmp 25) (.tmp 24)) rfl ?_; refine wpList_st1 3 (.tmp 25) (.tmp 24) rfl rfl (by rfl) (by rfl) b5 (Nat.le_of_ble_eq_true rfl) rfl (by kernel_rfl) ?_; intro W5 h5 g5g)
  replace b5 : Bk W5 g5 35 (opC y0 y1 y2 y3 false 0 0 0 0 0 none 0 0) := h5
  replace b2 := b2.grown g5g (by simp; omega)
  replace hR := hR.low (below_of_grown g5g (by omega) (fun k hk => by injection hk with hk; omega))
  replace be := below_grown be g5g (by omega)
  replace zg := Nat.lt_of_lt_of_le zg g5g.size
  clear h5 g5g
  go_wp2_with fail
  refine (takeAddr_any r S4 _ hR s4).mono ?_
  rintro e V ⟨six, ah, al, ok, rfl, hg, ha1, ha2, hE⟩
  replace b2 := b2.grown hg (by simp; omega)
  replace b5 := b5.grown hg (by simp; omega)
  replace be := below_grown be hg (by omega)
  replace zg := Nat.lt_of_lt_of_le zg hg.size
  clear hR hg
  go_upto_region 8 with (refine at_op (.store 24 (.tmp 6) (.tmp 29)) rfl ?_; refine wpList_stA (t := 24) 24 (.tmp 6) (.tmp 29) rfl rfl (adC six ah al) (adC false 0 0) rfl (adC_one _ _ _) rfl rfl (Bk.new _ _ _) (szAd _ _ _) ?_; intro W4 h4 g4)
  have be4 : Below V.heap.size V W4 := below_grown (Below.allocS (Below.refl _ _) _) g4 (Nat.le_refl _)
  have hX : Bk W4 V.heap.size 24 (adC six ah al) := h4
  have zX : V.heap.size < W4.heap.size := hX.lt
  replace b2 := b2.later be4
  replace b5 := b5.later be4
  replace be := be.trans (be4.mono be.size)
  have zg6 : g5 < V.heap.size := zg
  replace zg : g5 < W4.heap.size := by omega
  rcases hE with ⟨rfl, hE⟩ | ⟨rfl, hE, hR⟩
  · replace HP := Lib.hid (HP.out.trans (by rw [hE]; rfl) : popS L = none)
    clear HB0 HB1 HB2 HB3 be4 g4
    go_wp2_with (refine at_op (.store 35 (.tmp 2) (.tmp 33)) rfl ?_; refine wpList_stA (t := 35) 35 (.tmp 2) (.tmp 33) rfl rfl (opC 0 0 0 0 false 0 0 0 0 0 none 0 0) (opC 0 0 0 0 false 0 0 0 0 0 none 0 0) rfl (opC_one _ _ _ _ _ _ _ _ _ _ _ _ _) rfl rfl b2 (szOp _ _ _ _ _ _ _ _ _ _ _ _ _) ?_; intro W4 h4 g4)
    refine bodyPost_agg2 Try.results8 rfl rfl h4.range v1 v2 (szOp _ _ _ _ _ _ _ _ _ _ _ _ _) rfl ?_
    exact RetPO.none_ HP.out (below_grown be g4 (Nat.le_refl _))
  · replace hR := hR.later be4
    have s5 := (s4.dr 1).dr (numT 1 S4)
    replace HP := Lib.hid (HP.out.trans (by rw [hE]; rfl) : popS L = popE y0 y1 y2 y3 (six, ah, al) (numT 2 (drB (numT 1 S4) (drB 1 S4))) (numT 1 (drB 2 (drB (numT 1 S4) (drB 1 S4)))) (numT 1 (drB 1 (drB 2 (drB (numT 1 S4) (drB 1 S4))))) (mbS (drB 1 (drB 1 (drB 2 (drB (numT 1 S4) (drB 1 S4)))))))
    clear hE be4 g4 h4 HB0 HB1 HB2 HB3
    generalize V.heap.size = g6 at *
    generalize drB (numT 1 S4) (drB 1 S4) = S5 at *
    have s6 := s5.dr 2
    have s7 := s6.dr 1
    have s8 := s7.dr 1
    have x5 := numT_lt 2 65536 S5 (by decide)
    have x6 := numT_lt 1 256 (drB 2 S5) (by decide)
    have x7 := numT_lt 1 256 (drB 1 (drB 2 S5)) (by decide)
    have HB5 := Lib.hid (fun w h => wordT r S5 w h s5)
    have HB6 := Lib.hid (fun w h => byteT r (drB 2 S5) w h s6)
    have HB7 := Lib.hid (fun w h => byteT r (drB 1 (drB 2 S5)) w h s7)
    generalize numT 2 S5 = y5 at *
    generalize numT 1 (drB 2 S5) = y6 at *
    generalize numT 1 (drB 1 (drB 2 S5)) = y7 at *
    generalize drB 1 (drB 1 (drB 2 S5)) = S8 at *
    generalize drB 1 (drB 2 S5) = S7 at *
    generalize drB 2 S5 = S6 at *
    go_upto_region 11 with (first
      | (refine at_op (.load 24 (.tmp 6)) rfl ?_; refine wpList_ldA (t := 24) 24 (.tmp 6) rfl rfl (adC six ah al) rfl (hX) (whole_ _) u1 u2 (szAd _ _ _) ?_)
      | (refine at_op (.store 24 (.tmp 35) (.tmp 34)) rfl ?_; refine wpList_stM (t := 35) (off := 4) 24 (.tmp 35) (.tmp 34) rfl rfl (adC six ah al) (opC y0 y1 y2 y3 false 0 0 0 0 0 none 0 0) (Nat.le_of_ble_eq_true rfl) (adC_one _ _ _) rfl rfl b5 (szAd _ _ _) ?_; intro W5 h5 g5g))
    replace b5 : Bk W5 g5 35 (opC y0 y1 y2 y3 six ah al 0 0 0 none 0 0) := h5
    replace b2 := b2.grown g5g (by simp; omega)
    replace hR := hR.low (below_of_grown g5g (by omega) (fun k hk => by injection hk with hk; omega))
    replace be := below_grown be g5g (by omega)
    replace zg := Nat.lt_of_lt_of_le zg g5g.size
    clear h5 g5g
    clear hX
    go_wp2_with fail
    refine (HB5.out _ hR).mono ?_
    rintro e V ⟨rfl, hR', hg⟩
    replace b2 := b2.grown hg (by simp; omega)
    replace b5 := b5.grown hg (by simp; omega)
    replace be := below_grown be hg (by omega)
    replace zg := Nat.lt_of_lt_of_le zg hg.size
    clear hR
    have hR := hR'
    clear hR' hg
    go_upto_region 12 with (refine at_op (.store 25 (.tmp 38) (.tmp 37)) rfl ?_; refine wpList_st1 25 (.tmp 38) (.tmp 37) rfl rfl (by rfl) (by rfl) b5 (Nat.le_of_ble_eq_true rfl) rfl (by kernel_rfl) ?_; intro W5 h5 g5g)
    replace b5 : Bk W5 g5 35 (opC y0 y1 y2 y3 six ah al y5 0 0 none 0 0) := h5
    replace b2 := b2.grown g5g (by simp; omega)
    replace hR := hR.low (below_of_grown g5g (by omega) (fun k hk => by injection hk with hk; omega))
    replace be := below_grown be g5g (by omega)
    replace zg := Nat.lt_of_lt_of_le zg g5g.size
    clear h5 g5g
    go_wp2_with fail
    refine (HB6.out _ hR).mono ?_
    rintro e V ⟨rfl, hR', hg⟩
    replace b2 := b2.grown hg (by simp; omega)
    replace b5 := b5.grown hg (by simp; omega)
    replace be := below_grown be hg (by omega)
    replace zg := Nat.lt_of_lt_of_le zg hg.size
    clear hR
    have hR := hR'
    clear hR' hg
    go_upto_region 13 with (refine at_op (.store 5 (.tmp 41) (.tmp 40)) rfl ?_; refine wpList_st1 5 (.tmp 41) (.tmp 40) rfl rfl (by rfl) (by rfl) b5 (Nat.le_of_ble_eq_true rfl) rfl (by kernel_rfl) ?_; intro W5 h5 g5g)
    replace b5 : Bk W5 g5 35 (opC y0 y1 y2 y3 six ah al y5 y6 0 none 0 0) := h5
    replace b2 := b2.grown g5g (by simp; omega)
    replace hR := hR.low (below_of_grown g5g (by omega) (fun k hk => by injection hk with hk; omega))
    replace be := below_grown be g5g (by omega)
    replace zg := Nat.lt_of_lt_of_le zg g5g.size
    clear h5 g5g
    go_wp2_with fail
    refine (HB7.out _ hR).mono ?_
    rintro e V ⟨rfl, hR', hg⟩
    replace b2 := b2.grown hg (by simp; omega)
    replace b5 := b5.grown hg (by simp; omega)
    replace be := below_grown be hg (by omega)
    replace zg := Nat.lt_of_lt_of_le zg hg.size
    clear hR
    have hR := hR'
    clear hR' hg
    go_upto_region 14 with (refine at_op (.store 3 (.tmp 45) (.tmp 44)) rfl ?_; refine wpList_st1 3 (.tmp 45) (.tmp 44) rfl rfl (by rfl) (by rfl) b5 (Nat.le_of_ble_eq_true rfl) rfl (by kernel_rfl) ?_; intro W5 h5 g5g)
    replace b5 : Bk W5 g5 35 (opC y0 y1 y2 y3 six ah al y5 y6 y7 none 0 0) := h5
    replace b2 := b2.grown g5g (by simp; omega)
    replace hR := hR.low (below_of_grown g5g (by omega) (fun k hk => by injection hk with hk; omega))
    replace be := below_grown be g5g (by omega)
    replace zg := Nat.lt_of_lt_of_le zg g5g.size
    clear h5 g5g
    go_wp2_with fail
    refine (takeMembers_any r S8 _ hR s8).mono ?_
    rintro e V ⟨A2, n2, c2, ok, rfl, hg, hE⟩
    replace b2 := b2.grown hg (by simp; omega)
    replace b5 := b5.grown hg (by simp; omega)
    replace be := below_grown be hg (by omega)
    have zW : g5 < V.heap.size := Nat.lt_of_lt_of_le zg hg.size
    clear hR hg
    go_upto_region 15 with (refine at_op (.store 33 (.tmp 51) (.tmp 49)) rfl ?_; refine wpList_st1 33 (.tmp 51) (.tmp 49) rfl rfl (by rfl) (by rfl) b5 (Nat.le_of_ble_eq_true rfl) rfl (by kernel_rfl) ?_; intro W5 h5 g5g)
    replace b5 : Bk W5 g5 35 (opC y0 y1 y2 y3 six ah al y5 y6 y7 A2 n2 c2) := h5
    replace b2 := b2.grown g5g (by simp; omega)
    replace be := below_grown be g5g (by omega)
    have zV5 := g5g.size
    rcases hE with ⟨rfl, hE⟩ | ⟨rfl, Lm, lr, hE, hR, hO⟩
    · replace HP := Lib.hid (HP.out.trans (by rw [hE]; rfl) : popS L = none)
      clear h5 g5g hE HB5 HB6 HB7
      go_wp2_with (refine at_op (.store 35 (.tmp 2) (.tmp 59)) rfl ?_; refine wpList_stA (t := 35) 35 (.tmp 2) (.tmp 59) rfl rfl (opC 0 0 0 0 false 0 0 0 0 0 none 0 0) (opC 0 0 0 0 false 0 0 0 0 0 none 0 0) rfl (opC_one _ _ _ _ _ _ _ _ _ _ _ _ _) rfl rfl b2 (szOp _ _ _ _ _ _ _ _ _ _ _ _ _) ?_; intro W4 h4 g4)
      refine bodyPost_agg2 Try.results8 rfl rfl h4.range v1 v2 (szOp _ _ _ _ _ _ _ _ _ _ _ _ _) rfl ?_
      exact RetPO.none_ HP.out (below_grown be g4 (Nat.le_refl _))
    · replace hO := hO.grown g5g (fun k hk e => by have := (hO.blk k hk).1; injection e with e; omega)
      replace hR := hR.low (below_of_grown g5g (by omega) (fun k hk => by injection hk with hk; omega))
      have hml := mbS_len hE
      clear h5 g5g HB5 HB6 HB7
      go_wp2_with fail
      refine (leftT r (some lr) _ hR).mono ?_
      rintro e w1 ⟨rfl, rfl⟩
      cases lr with
      | cons x lr =>
        replace HP := Lib.hid (HP.out.trans (by rw [hE]; rfl) : popS L = none)
        have i9 : ¬ ((((some (x :: lr)).getD []).length : Nat) : Int) = 0 := by simp; omega
        have k9 : (((((some (x :: lr)).getD []).length : Nat) : Int) != 0) = true := by rw [bne_iff_ne]; exact i9
        generalize (((some (x :: lr)).getD []).length) = q at *
        clear hE hR hO
        go_wp2_with (refine at_op (.store 35 (.tmp 2) (.tmp 59)) rfl ?_; refine wpList_stA (t := 35) 35 (.tmp 2) (.tmp 59) rfl rfl (opC 0 0 0 0 false 0 0 0 0 0 none 0 0) (opC 0 0 0 0 false 0 0 0 0 0 none 0 0) rfl (opC_one _ _ _ _ _ _ _ _ _ _ _ _ _) rfl rfl b2 (szOp _ _ _ _ _ _ _ _ _ _ _ _ _) ?_; intro W4 h4 g4)
        refine bodyPost_agg2 Try.results8 rfl rfl h4.range v1 v2 (szOp _ _ _ _ _ _ _ _ _ _ _ _ _) rfl ?_
        exact RetPO.none_ HP.out (below_grown be g4 (Nat.le_refl _))
      | nil =>
        replace HP := Lib.hid (HP.out.trans (by rw [hE]; rfl) : popS L = some ⟨y0, y1, y2, y3, six, ah, al, y5, y6, y7, Lm⟩)
        clear hE hR
        simp only [Option.getD_some, List.length_nil]
        go_wp2_with (first
          | (refine at_op (.load 35 (.tmp 5)) rfl ?_; refine wpList_ldA (t := 35) 35 (.tmp 5) rfl rfl (opC y0 y1 y2 y3 six ah al y5 y6 y7 A2 n2 c2) rfl (b5) (whole_ _) v1 v2 (szOp _ _ _ _ _ _ _ _ _ _ _ _ _) ?_)
          | (refine at_op (.store 35 (.tmp 2) (.tmp 60)) rfl ?_; refine wpList_stA (t := 35) 35 (.tmp 2) (.tmp 60) rfl rfl (opC y0 y1 y2 y3 six ah al y5 y6 y7 A2 n2 c2) (opC 0 0 0 0 false 0 0 0 0 0 none 0 0) rfl (opC_one _ _ _ _ _ _ _ _ _ _ _ _ _) rfl rfl b2 (szOp _ _ _ _ _ _ _ _ _ _ _ _ _) ?_; intro W4 h4 g4))
        refine bodyPost_agg2 Try.results8 rfl rfl h4.range v1 v2 (szOp _ _ _ _ _ _ _ _ _ _ _ _ _) rfl ?_
        have zO : w.heap.size < W5.heap.size := b2.lt
        have hO4 := hO.grown g4 (fun k hk e => by have := (hO.blk k hk).1; injection e with e; omega)
        obtain ⟨bs, d, e9⟩ := plus_of (below_grown be g4 (Nat.le_refl _))
        subst e9
        exact ⟨⟨y0, y1, y2, y3, six, ah, al, y5, y6, y7, Lm⟩, true, A2, n2, c2, bs, d, rfl, rfl, by refine ⟨?_, ?_, ?_, ?_, ha1, ha2, x5, x6, ?_, hml⟩ <;> (simp only []; omega), hO4.rs, .inl ⟨rfl, HP.out⟩⟩
end Go.Proofs.Ytepodflinhpejaa

/- Contracts of tcp.Parse. -/
namespace Go.Proofs.Ytepodflinhpejaa
open Go.RowKit
set_option linter.unusedVariables false
set_option linter.unusedSimpArgs false
attribute [local go_sem ↓] sliced_cut

attribute [local go_sem] cutA_zero

/-- a segment in new memory, and a second result -/
def RetSeg (w : World) (x0 x1 x2 x3 x4 x5 x6 x7 : Nat) (l l2 : List UInt8) (v : Value) (e : Ending) (w' : World) : Prop :=
  ∃ A n c A2 n2 c2 bs d, e = .returned (.tuple #[.agg #[.int .u16 x0, .int .u16 x1, .int .u32 x2, .int .u32 x3, .int .u8 x4, .int .u16 x5, .int .u16 x6, .int .u16 x7, .slice A n c, .slice A2 n2 c2], v]) ∧ w' = plus w bs d ∧ Rb (plus w bs d) A n c l ∧ Rb (plus w bs d) A2 n2 c2 l2
theorem RetSeg.mk {w w' : World} {x0 x1 x2 x3 x4 x5 x6 x7 : Nat} {l l2 : List UInt8} {A : Option Addr} {n c : Nat} {A2 : Option Addr} {n2 c2 : Nat} {v : Value} (h1 : Rb w' A n c l) (h2 : Rb w' A2 n2 c2 l2) (hb : Below w.heap.size w w') :
    RetSeg w x0 x1 x2 x3 x4 x5 x6 x7 l l2 v (.returned (.tuple #[.agg #[.int .u16 x0, .int .u16 x1, .int .u32 x2, .int .u32 x3, .int .u8 x4, .int .u16 x5, .int .u16 x6, .int .u16 x7, .slice A n c, .slice A2 n2 c2], v])) w' := by
  obtain ⟨bs, d, rfl⟩ := plus_of hb
  exact ⟨A, n, c, A2, n2, c2, bs, d, rfl, rfl, h1, h2⟩
/-- the same, the rows in new blocks -/
def RetSegF (w : World) (x0 x1 x2 x3 x4 x5 x6 x7 : Nat) (l l2 : List UInt8) (v : Value) (e : Ending) (w' : World) : Prop :=
  ∃ A n c A2 n2 c2 bs d, e = .returned (.tuple #[.agg #[.int .u16 x0, .int .u16 x1, .int .u32 x2, .int .u32 x3, .int .u8 x4, .int .u16 x5, .int .u16 x6, .int .u16 x7, .slice A n c, .slice A2 n2 c2], v]) ∧ w' = plus w bs d ∧ Rb (plus w bs d) A n c l ∧ Rb (plus w bs d) A2 n2 c2 l2 ∧ (∀ a, A = some a → w.heap.size ≤ a.block) ∧ ∀ a, A2 = some a → w.heap.size ≤ a.block
theorem Ob.freshT {w : World} {w0 base : Nat} {A : Option Addr} {n c : Nat} {l : List UInt8} (h : Ob w base A n c l) (hb : w0 ≤ base) : ∀ a, A = some a → w0 ≤ a.block := fun a ha => by
  subst ha
  have := (h.blk a.block rfl).1
  omega
theorem RetSegF.mk {w w' : World} {x0 x1 x2 x3 x4 x5 x6 x7 : Nat} {l l2 : List UInt8} {A : Option Addr} {n c : Nat} {A2 : Option Addr} {n2 c2 : Nat} {v : Value} {b1 b2 : Nat} (h1 : Ob w' b1 A n c l) (h2 : Ob w' b2 A2 n2 c2 l2) (hb : Below w.heap.size w w') (f1 : w.heap.size ≤ b1) (f2 : w.heap.size ≤ b2) :
    RetSegF w x0 x1 x2 x3 x4 x5 x6 x7 l l2 v (.returned (.tuple #[.agg #[.int .u16 x0, .int .u16 x1, .int .u32 x2, .int .u32 x3, .int .u8 x4, .int .u16 x5, .int .u16 x6, .int .u16 x7, .slice A n c, .slice A2 n2 c2], v])) w' := by
  obtain ⟨bs, d, rfl⟩ := plus_of hb
  exact ⟨A, n, c, A2, n2, c2, bs, d, rfl, rfl, h1.rb, h2.rb, h1.freshT f1, h2.freshT f2⟩
theorem RetSeg.zero {w w' : World} {v : Value} (hb : Below w.heap.size w w') : RetSeg w 0 0 0 0 0 0 0 0 [] [] v (.returned (.tuple #[.agg #[.int .u16 0, .int .u16 0, .int .u32 0, .int .u32 0, .int .u8 0, .int .u16 0, .int .u16 0, .int .u16 0, .slice none 0 0, .slice none 0 0], v])) w' := RetSeg.mk Rb.nil_ Rb.nil_ hb

end Go.Proofs.Ytepodflinhpejaa

/- counterfoilref03.Of of sixteen bytes (out of Ip6Q, for seats without packets). -/
namespace Go.Proofs.Ytepodflinhpejaa
open Go.RowKit
set_option linter.unusedVariables false
set_option linter.unusedSimpArgs false
attribute [local go_sem ↓] sliced_cut

attribute [local go_sem] cutA_zero

set_option maxHeartbeats 4000000 in
set_option maxRecDepth 100000 in
theorem refOf16c (a b : Nat) (A : Option Addr) (c : Nat) (w : World) (ha : a < 18446744073709551616) (hb : b < 18446744073709551616) (h : Rb w A 16 c (dig a 8 ++ dig b 8)) : Calls Try.prog 78 #[.slice A 16 c] w (RetV w (.tuple #[.agg (adC true a b).toArray, .bool true])) := by
  obtain ⟨dk, u1, u2⟩ : ∃ d, Try.prog.underlying 24 = some d ∧ d.isRow = true := ⟨_, Try.underlying24, rfl⟩
  have hc := h.2.1
  have hc2 : (16 : Int) ≤ (c : Int) := by omega
  have hc8 : (8 : Int) ≤ (c : Int) := by omega
  have hA : Rb w A 8 c (dig a 8) := by
    have := h.take (k := 8) (by omega)
    rwa [List.take_left' (dig_length _ _)] at this
  have hB : Rb w (cutA A c 8 1) 8 (c - 8) (dig b 8) := by
    have := h.cut (k := 8) (by omega)
    rwa [List.drop_left' (dig_length _ _)] at this
  have HN := Lib.hid (fun w A c x (hx : x < 18446744073709551616) (h : Rb w A 8 c (dig x 8)) => (by have := refNum_any A 8 c (dig x 8) w h (by decide); rwa [numDig x 8 (by omega)] at this : Calls Try.prog 76 #[.slice A 8 c] w fun e w' => e = .returned (.int .u64 (x : Nat)) ∧ w = w'))
  have b2 : Bk (w.alloc (.cells #[.bool false, .int .u64 0, .int .u64 0] 24)) w.heap.size 24 (adC false 0 0) := Bk.new w 24 #[.bool false, .int .u64 0, .int .u64 0]
  have be : Below w.heap.size w (w.alloc (.cells #[.bool false, .int .u64 0, .int .u64 0] 24)) := Below.allocS (Below.refl _ _) _
  go_enter Try.func78, Try.ntmps78
  go_upto_region 5 with (fail)
  generalize w.alloc (.cells #[.bool false, .int .u64 0, .int .u64 0] 24) = V at *
  go_wp2
  refine wp_relS 7 21 rfl (by kernel_rfl) (by kernel_rfl) ?_
  apply Steps.one (MP.eq _) 1 rfl
  · intro o ho FA x hO hD K hK
    obtain rfl := Option.some.inj ho.symm
    clear ho
    have e0 := hO 0 (by kernel_rfl)
    simp only [eval_tmp, List.getElem?_toArray, List.getElem?_cons_succ, List.getElem?_cons_zero, Option.getD_some] at e0
    have ev0 := Lib.hid ((eval_tmp FA 0).trans e0)
    clear hO hD
    go_simp
    exact hK.out _ _ (Ex.refl _) rfl
  apply Steps.one (MP.eq _) 2 rfl
  · intro o ho FA x hO hD K hK
    obtain rfl := Option.some.inj ho.symm
    clear ho
    have ev14 : FA.eval (.tmp 14) = _ := hD 0 14 (by kernel_rfl)
    have e14 := (eval_tmp FA 14).symm.trans ev14
    replace ev14 := Lib.hid ev14
    clear hO hD
    go_simp
    exact hK.out _ _ (Ex.refl _) rfl
  apply Steps.one (MP.eq _) 3 rfl
  · intro o ho FA x hO hD K hK
    obtain rfl := Option.some.inj ho.symm
    clear ho
    have ev15 : FA.eval (.tmp 15) = _ := hD 1 15 (by kernel_rfl)
    have e15 := (eval_tmp FA 15).symm.trans ev15
    replace ev15 := Lib.hid ev15
    clear hO hD
    go_simp
    refine (HN.out _ _ _ a ha ((hA.later be).plus_ _ _)).mono ?_
    rintro e w1 ⟨rfl, rfl⟩
    exact hK.out _ _ (Ex.refl _) rfl
  apply Steps.one (MP.eq _) 4 rfl
  · intro o ho FA x hO hD K hK
    obtain rfl := Option.some.inj ho.symm
    clear ho
    have e0 := hO 0 (by kernel_rfl)
    simp only [eval_tmp, List.getElem?_toArray, List.getElem?_cons_succ, List.getElem?_cons_zero, Option.getD_some] at e0
    have ev0 := Lib.hid ((eval_tmp FA 0).trans e0)
    clear hO hD
    go_simp
    exact hK.out _ _ (Ex.refl _) rfl
  apply Steps.one (MP.eq _) 5 rfl
  · intro o ho FA x hO hD K hK
    obtain rfl := Option.some.inj ho.symm
    clear ho
    have ev17 : FA.eval (.tmp 17) = _ := hD 3 17 (by kernel_rfl)
    have e17 := (eval_tmp FA 17).symm.trans ev17
    replace ev17 := Lib.hid ev17
    clear hO hD
    go_simp
    exact hK.out _ _ (Ex.refl _) rfl
  apply Steps.one (MP.eq _) 6 rfl
  · intro o ho FA x hO hD K hK
    obtain rfl := Option.some.inj ho.symm
    clear ho
    have ev18 : FA.eval (.tmp 18) = _ := hD 4 18 (by kernel_rfl)
    have e18 := (eval_tmp FA 18).symm.trans ev18
    replace ev18 := Lib.hid ev18
    clear hO hD
    go_simp
    refine (HN.out _ _ _ b hb ((hB.later be).plus_ _ _)).mono ?_
    rintro e w1 ⟨rfl, rfl⟩
    exact hK.out _ _ (Ex.refl _) rfl
  apply Steps.one (MP.eq _) 7 rfl
  · intro o ho FA x hO hD K hK
    obtain rfl := Option.some.inj ho.symm
    clear ho
    have ev16 : FA.eval (.tmp 16) = _ := hD 2 16 (by kernel_rfl)
    have e16 := (eval_tmp FA 16).symm.trans ev16
    replace ev16 := Lib.hid ev16
    have ev19 : FA.eval (.tmp 19) = _ := hD 5 19 (by kernel_rfl)
    have e19 := (eval_tmp FA 19).symm.trans ev19
    replace ev19 := Lib.hid ev19
    clear hO hD
    go_simp
    exact hK.out _ _ (Ex.refl _) rfl
  refine Steps.fin_ (fun vs x hp => ?_)
  have p0 : vs 0 = _ := hp 0 (by omega)
  have p1 : vs 1 = _ := hp 1 (by omega)
  have p2 : vs 2 = _ := hp 2 (by omega)
  have p3 : vs 3 = _ := hp 3 (by omega)
  have p4 : vs 4 = _ := hp 4 (by omega)
  have p5 : vs 5 = _ := hp 5 (by omega)
  have p6 : vs 6 = _ := hp 6 (by omega)
  clear hp
  simp only [List.take_succ_cons, List.take_zero, List.drop_succ_cons, List.drop_zero, putAll, Nat.zero_add, Nat.reduceAdd, Act.put, List.setIfInBounds_toArray, List.set_cons_zero, List.set_cons_succ, p0, p1, p2, p3, p4, p5, p6]
  clear p0 p1 p2 p3 p4 p5 p6
  clear vs
  go_wp2_with (refine at_op (.store 24 (.tmp 2) (.tmp 20)) rfl ?_; refine wpList_stA (t := 24) 24 (.tmp 2) (.tmp 20) rfl rfl (adC true a b) (adC false 0 0) rfl (adC_one _ _ _) rfl rfl (b2.later (below_plus _ _ _)) (szAd _ _ _) ?_; intro W9 h9 g9)
  refine bodyPost_agg2 Try.results78 rfl rfl h9.range u1 u2 (szAd _ _ _) rfl (RetV.mk ?_)
  exact below_grown (belowP be _ _) g9 (by omega)
end Go.Proofs.Ytepodflinhpejaa

/- The reference's reader (chapter 23): Take, Num, Addr, Members. -/
namespace Go.Proofs.Ytepodflinhpejaa
open Go.RowKit
set_option linter.unusedVariables false
set_option linter.unusedSimpArgs false
attribute [local go_sem ↓] sliced_cut

attribute [local go_sem] cutA_zero

/-- the block r is a reader in the state s -/
def RR (w : World) (r : Nat) : StB → Prop
  | none => ∃ A n c, Bk w r 100 [.slice A n c, .bool true]
  | some l => ∃ A n c, Bk w r 100 [.slice A n c, .bool false] ∧ l.length = n ∧ n ≤ c ∧ Rd w r A (bcs l)
theorem RR.bk {w : World} {r : Nat} {s : StB} (h : RR w r s) : ∃ A n c, Bk w r 100 [.slice A n c, .bool s.isNone] := by
  cases s with
  | none => exact h
  | some l =>
    obtain ⟨A, n, c, h1, _⟩ := h
    exact ⟨A, n, c, h1⟩
theorem RR.lt {w : World} {r : Nat} {s : StB} (h : RR w r s) : r < w.heap.size := by
  obtain ⟨A, n, c, h1⟩ := h.bk
  exact h1.lt
theorem RR.low {w w' : World} {r : Nat} {s : StB} (h : RR w r s) (hb : Below (r + 1) w w') : RR w' r s := by
  cases s with
  | none =>
    obtain ⟨A, n, c, h1⟩ := h
    exact ⟨A, n, c, (hb.block r (by omega)).trans h1⟩
  | some l =>
    obtain ⟨A, n, c, h1, h2, h3, h4⟩ := h
    exact ⟨A, n, c, (hb.block r (by omega)).trans h1, h2, h3, h4.below ⟨hb.os, hb.tape, hb.output, hb.size, fun k hk => hb.block k (by omega)⟩⟩
theorem RR.later {w w' : World} {r : Nat} {s : StB} (h : RR w r s) (hb : Below w.heap.size w w') : RR w' r s := h.low (hb.mono h.lt)
set_option maxHeartbeats 4000000 in
set_option maxRecDepth 100000 in
theorem refTake (r n : Nat) (s : StB) (w : World) (h : RR w r s) (hs : SL s) (hn : n ≤ 1000000) : Calls Try.prog 77 #[.pointer (some ⟨r, 0, none⟩), .int .i64 n] w fun e w' => ∃ A m c, e = .returned (.slice A m c) ∧ (tkB n s).length = m ∧ m ≤ c ∧ Rd w' r A (bcs (tkB n s)) ∧ RR w' r (drB n s) ∧ w.grownBy w' (some r) := by
  cases s with
  | none =>
    obtain ⟨A, k, c, hb⟩ := h
    have q1 : w.cell? ⟨r, 1, none⟩ = some (.bool true) := hb.cell 1
    have hf := hb.frozen 1
    have hb2 := hb.set_ 1 (.bool true)
    go_enter Try.func77, Try.ntmps77
    go_wp2
    go_ret
    exact ⟨none, 0, 0, rfl, rfl, Nat.le_refl _, .inl rfl, ⟨_, _, _, hb2⟩, grownBy_setCell _ _ _ _⟩
  | some l =>
    have hl := hs l rfl
    obtain ⟨A, k, c, hb, hk, hkc, hrd⟩ := h
    have q0 : w.cell? ⟨r, 0, none⟩ = some (.slice A k c) := hb.cell 0
    have q1 : w.cell? ⟨r, 1, none⟩ = some (.bool false) := hb.cell 1
    by_cases hn1 : n ≤ l.length
    · have hf := hb.frozen 0
      have hn' : n ≤ k := by omega
      have j1 : ¬ (k : Int) < (n : Int) := by omega
      have hk1 : k ≤ 1099511627776 := by omega
      have HK := Lib.hid hk
      have hb2 := fun u => hb.set_ 0 u
      have h1 := fun u => hrd.setCell (p := ⟨r, 0, none⟩) (Nat.le_refl _) u
      simp only [tkB, drB, hn1, if_true]
      clear hk hn1 hl
      go_enter Try.func77, Try.ntmps77
      go_wp2
      go_ret
      refine ⟨A, n, c, rfl, by rw [HK.out]; omega, by omega, by rw [← bcs_take]; exact (h1 _).take n, ⟨_, _, _, hb2 _, by rw [List.length_drop, HK.out], by omega, ?_⟩, grownBy_setCell _ _ _ _⟩
      rw [← bcs_drop]
      exact (h1 _).cut (by rw [bcs_length, HK.out]; exact hkc)
    · have hf := hb.frozen 1
      have j1 : (k : Int) < (n : Int) := by omega
      have j2 : k < n := by omega
      have hb2 := hb.set_ 1 (.bool true)
      simp only [tkB, drB, hn1, if_false]
      clear hk hn1 hl
      go_enter Try.func77, Try.ntmps77
      go_wp2
      go_ret
      exact ⟨none, 0, 0, rfl, rfl, Nat.le_refl _, .inl rfl, ⟨_, _, _, hb2⟩, grownBy_setCell _ _ _ _⟩
/-- what a call leaves -/
def RetRT (w : World) (r : Nat) (s : StB) (v : Value) (e : Ending) (w' : World) : Prop := e = .returned v ∧ RR w' r s ∧ w.grownBy w' (some r)
set_option maxHeartbeats 4000000 in
set_option maxRecDepth 100000 in
theorem refNumT (r n : Nat) (s : StB) (w : World) (h : RR w r s) (hs : SL s) (hn : n ≤ 2) : Calls Try.prog 36 #[.pointer (some ⟨r, 0, none⟩), .int .i64 n] w (RetRT w r (drB n s) (.int .i64 (numT n s : Nat))) := by
  have hx : numT n s < 65536 := numT_lt n 65536 s (by match n, hn with | 0, _ => decide | 1, _ => decide | 2, _ => decide)
  have hle := tkB_le n s
  have HN := Lib.hid (refTake r n s)
  have HX := Lib.hid (show num (tkB n s) = numT n s from rfl)
  generalize tkB n s = l at *
  generalize numT n s = x at *
  go_enter Try.func36, Try.ntmps36
  go_wp2_with fail
  refine (HN.out _ h hs (by omega)).mono ?_
  rintro e w1 ⟨A, m, c, rfl, hm, hc, hrd, hrr, hg⟩
  go_wp2_with fail
  refine (refNum_any A m c l w1 (hrd.rb (Nat.le_of_lt hrr.lt) hm hc) (by omega)).mono ?_
  rintro e w2 ⟨rfl, rfl⟩
  rw [HX.out]
  go_wp2
  go_ret
  exact ⟨rfl, hrr, hg⟩
theorem refOfX (A : Option Addr) (n c : Nat) (x : List UInt8) (w : World) (h : Rb w A n c x) : Calls Try.prog 78 #[.slice A n c] w (RetAX w x (fun ok => .bool ok)) := by
  have hl := h.1
  refine adX_any (G := fun w P => Calls Try.prog 78 #[.slice A n c] w P) x _ (fun w P Q h1 h2 => h2.mono h1) (fun h4 => ?_) (fun h16 => ?_) (fun h4 h16 => ?_)
  · obtain rfl : n = 4 := by omega
    exact refOf4 _ x A c w h rfl
  · obtain rfl : n = 16 := by omega
    exact refOf16c _ _ A c w (numL _ 8 _ (by rw [List.length_take]; omega) (by decide)) (numL _ 8 _ (by rw [List.length_drop]; omega) (by decide)) (by rw [← adX_16 x h16]; exact h)
  · exact refOfN A n c w (by omega) (by omega)
/-- what Addr gives -/
def RetRA (w : World) (r : Nat) (s : StB) (e : Ending) (w' : World) : Prop := ∃ six ah al s', e = .returned (.agg (adC six ah al).toArray) ∧ w.grownBy w' (some r) ∧ ah < 18446744073709551616 ∧ al < 18446744073709551616 ∧ RR w' r s' ∧ SL s' ∧ (s' = none ∧ adS s = none ∨ adS s = some ((six, ah, al), s'))
set_option maxHeartbeats 4000000 in
set_option maxRecDepth 100000 in
theorem refAddrT (r : Nat) (s : StB) (w : World) (h : RR w r s) (hs : SL s) : Calls Try.prog 37 #[.pointer (some ⟨r, 0, none⟩)] w (RetRA w r s) := by
  obtain ⟨dk, u1, u2⟩ : ∃ d, Try.prog.underlying 24 = some d ∧ d.isRow = true := ⟨_, Try.underlying24, rfl⟩
  have b2 : Bk (w.alloc (.cells #[.bool false, .int .u64 0, .int .u64 0] 24)) w.heap.size 24 (adC false 0 0) := Bk.new w 24 #[.bool false, .int .u64 0, .int .u64 0]
  have be : Below w.heap.size w (w.alloc (.cells #[.bool false, .int .u64 0, .int .u64 0] 24)) := Below.allocS (Below.refl _ _) _
  have zr := h.lt
  have hz256 := numT_lt 1 256 s (by decide)
  have hs1 := hs.dr 1
  have hs2 := hs1.dr (numT 1 s)
  have hx16 := tkB_le (numT 1 s) (drB 1 s)
  have HB := Lib.hid (refNumT r 1 s)
  have HBy := Lib.hid (fun w h => refTake r (numT 1 s) (drB 1 s) w h hs1 (by omega))
  have HA : Hid (adS s = (adX (tkB (numT 1 s) (drB 1 s))).map fun q => (q, drB (numT 1 s) (drB 1 s))) := Lib.hid rfl
  have HS : Hid (∀ q, adX (tkB (numT 1 s) (drB 1 s)) = some q → ∃ l, drB (numT 1 s) (drB 1 s) = some l) := Lib.hid (fun q hq => by
    by_cases h0 : 0 < numT 1 s
    · exact adX_some h0 hq
    · rw [adX_none (by omega) (by omega)] at hq
      cases hq)
  generalize tkB (numT 1 s) (drB 1 s) = x at *
  generalize drB (numT 1 s) (drB 1 s) = s2 at *
  generalize numT 1 s = z at *
  have gr : w.grownBy (w.alloc (.cells #[.bool false, .int .u64 0, .int .u64 0] 24)) (some r) := ⟨be.os, be.tape, be.output, be.size, fun i hi _ => be.block i hi⟩
  go_enter Try.func37, Try.ntmps37
  go_upto_region 1 with (fail)
  replace h := h.later be
  generalize w.alloc (.cells #[.bool false, .int .u64 0, .int .u64 0] 24) = V at *
  clear be
  go_wp2_with fail
  refine (HB.out _ h hs (by omega)).mono ?_
  rintro e V1 ⟨rfl, hR1, hg1⟩
  replace b2 := b2.grown hg1 (by simp; omega)
  replace gr := gr.trans hg1
  clear hg1 h
  go_wp2_with fail
  refine (HBy.out V1 hR1).mono ?_
  rintro e V2 ⟨A, n, c, rfl, hn, hc, hrd, hR2, hg2⟩
  replace b2 := b2.grown hg2 (by simp; omega)
  replace gr := gr.trans hg2
  have hRb : Rb V2 A n c x := hrd.rb (Nat.le_of_lt hR2.lt) hn hc
  clear hg2 hR1 HBy HB hrd
  go_wp2_with fail
  refine (refOfX A n c _ V2 hRb).mono ?_
  rintro e w1 ⟨six, ah, al, ok, bs1, d1, rfl, rfl, ha1, ha2, hE⟩
  replace b2 := b2.later (below_plus V2 bs1 d1)
  replace gr := grown_below gr (below_plus V2 bs1 d1)
  replace hR2 := hR2.later (below_plus V2 bs1 d1)
  have zV2 := b2.lt
  clear hRb
  generalize plus V2 bs1 d1 = V3 at *
  go_upto_region 2 with (refine at_op (.store 24 (.tmp 3) (.tmp 11)) rfl ?_; refine wpList_stA (t := 24) 24 (.tmp 3) (.tmp 11) rfl rfl (adC six ah al) (adC false 0 0) rfl (adC_one _ _ _) rfl rfl (Bk.new _ _ _) (szAd _ _ _) ?_; intro W4 h4 g4)
  have be4 : Below V3.heap.size V3 W4 := below_grown (Below.allocS (Below.refl _ _) _) g4 (Nat.le_refl _)
  have hX : Bk W4 V3.heap.size 24 (adC six ah al) := h4
  have zr3 : r < V3.heap.size := hR2.lt
  replace b2 := b2.later be4
  replace gr := grown_below gr be4
  replace hR2 := hR2.later be4
  clear be4 h4 g4
  generalize V3.heap.size = g3 at *
  have zW4 := hR2.lt
  obtain ⟨Ab, nb, cb, hbk⟩ := hR2.bk
  have q1 : W4.cell? ⟨r, 1, none⟩ = some (.bool s2.isNone) := hbk.cell 1
  rcases hE with ⟨rfl, hE⟩ | ⟨rfl, hE⟩
  · obtain ⟨l, rfl⟩ := HS.out _ hE
    have HF : Hid (adS s = some ((six, ah, al), some l)) := Lib.hid (by rw [HA.out, hE]; rfl)
    obtain ⟨A9, n9, c9, hb9, k1, k2, k3⟩ := hR2
    clear HA HS hE hbk
    simp only [Option.isNone] at q1
    go_upto_region 3 with (refine at_op (.store 4 (.tmp 23) (.tmp 21)) rfl ?_; refine wpList_st1 4 (.tmp 23) (.tmp 21) rfl rfl (by rfl) (by rfl) hb9 (Nat.le_of_ble_eq_true rfl) rfl (by kernel_rfl) ?_; intro W5 h5 g5g)
    replace b2 := b2.grown g5g (by simp; omega)
    replace hX := hX.grown g5g (by simp; omega)
    have hR3 : RR W5 r (some l) := ⟨A9, n9, c9, h5, k1, k2, k3.below (below_of_grown g5g (by omega) (fun k hk => by injection hk with hk; omega))⟩
    replace gr := gr.trans g5g
    clear g5g h5 k1 k2 k3 hb9
    go_wp2_with (first
      | (refine at_op (.load 24 (.tmp 3)) rfl ?_; refine wpList_ldA (t := 24) 24 (.tmp 3) rfl rfl (adC six ah al) rfl (hX) (whole_ _) u1 u2 (szAd _ _ _) ?_)
      | (refine at_op (.store 24 (.tmp 2) (.tmp 24)) rfl ?_; refine wpList_stA (t := 24) 24 (.tmp 2) (.tmp 24) rfl rfl (adC six ah al) (adC false 0 0) rfl (adC_one _ _ _) rfl rfl (b2) (szAd _ _ _) ?_; intro W6 h6 g6))
    refine bodyPost_agg Try.results37 rfl h6.range u1 u2 (szAd _ _ _) rfl ?_
    exact ⟨six, ah, al, some l, rfl, grown_new gr g6 (Nat.le_refl _), ha1, ha2, hR3.low (below_of_grown g6 (by have := hR3.lt; omega) (fun k hk => by injection hk with hk; omega)), hs2, .inr HF.out⟩
  · have HF : Hid (adS s = none) := Lib.hid (by rw [HA.out, hE]; rfl)
    clear HA HS hE
    have hfr := hbk.frozen 1
    cases s2 with
    | none =>
      simp only [Option.isNone] at q1 hbk
      go_upto_region 3 with (refine at_op (.store 4 (.tmp 23) (.tmp 21)) rfl ?_; refine wpList_st1 4 (.tmp 23) (.tmp 21) rfl rfl (by rfl) (by rfl) hbk (Nat.le_of_ble_eq_true rfl) rfl (by kernel_rfl) ?_; intro W5 h5 g5g)
      replace b2 := b2.grown g5g (by simp; omega)
      replace hX := hX.grown g5g (by simp; omega)
      have hR3 : RR W5 r none := ⟨Ab, nb, cb, h5⟩
      replace gr := gr.trans g5g
      clear g5g h5 hbk
      go_wp2_with (first
        | (refine at_op (.load 24 (.tmp 3)) rfl ?_; refine wpList_ldA (t := 24) 24 (.tmp 3) rfl rfl (adC six ah al) rfl (hX) (whole_ _) u1 u2 (szAd _ _ _) ?_)
        | (refine at_op (.store 24 (.tmp 2) (.tmp 24)) rfl ?_; refine wpList_stA (t := 24) 24 (.tmp 2) (.tmp 24) rfl rfl (adC six ah al) (adC false 0 0) rfl (adC_one _ _ _) rfl rfl (b2) (szAd _ _ _) ?_; intro W6 h6 g6))
      refine bodyPost_agg Try.results37 rfl h6.range u1 u2 (szAd _ _ _) rfl ?_
      exact ⟨six, ah, al, none, rfl, grown_new gr g6 (Nat.le_refl _), ha1, ha2, hR3.low (below_of_grown g6 (by have := hR3.lt; omega) (fun k hk => by injection hk with hk; omega)), (fun _ h => by cases h), .inl ⟨rfl, HF.out⟩⟩
    | some l =>
      simp only [Option.isNone] at q1 hbk
      go_upto_region 3 with (refine at_op (.store 4 (.tmp 23) (.tmp 21)) rfl ?_; refine wpList_st1 4 (.tmp 23) (.tmp 21) rfl rfl (by rfl) (by rfl) hbk (Nat.le_of_ble_eq_true rfl) rfl (by kernel_rfl) ?_; intro W5 h5 g5g)
      replace b2 := b2.grown g5g (by simp; omega)
      replace hX := hX.grown g5g (by simp; omega)
      have hR3 : RR W5 r none := ⟨Ab, nb, cb, h5⟩
      replace gr := gr.trans g5g
      clear g5g h5 hbk
      go_wp2_with (first
        | (refine at_op (.load 24 (.tmp 3)) rfl ?_; refine wpList_ldA (t := 24) 24 (.tmp 3) rfl rfl (adC six ah al) rfl (hX) (whole_ _) u1 u2 (szAd _ _ _) ?_)
        | (refine at_op (.store 24 (.tmp 2) (.tmp 24)) rfl ?_; refine wpList_stA (t := 24) 24 (.tmp 2) (.tmp 24) rfl rfl (adC six ah al) (adC false 0 0) rfl (adC_one _ _ _) rfl rfl (b2) (szAd _ _ _) ?_; intro W6 h6 g6))
      refine bodyPost_agg Try.results37 rfl h6.range u1 u2 (szAd _ _ _) rfl ?_
      exact ⟨six, ah, al, none, rfl, grown_new gr g6 (Nat.le_refl _), ha1, ha2, hR3.low (below_of_grown g6 (by have := hR3.lt; omega) (fun k hk => by injection hk with hk; omega)), (fun _ h => by cases h), .inl ⟨rfl, HF.out⟩⟩
theorem etRm23 : ET Try.prog 26 106 (.agg #[.int .i64 0, .int .i64 0]) 2 16 := ⟨Try.underlying26, by kernel_rfl, rfl, by decide, by decide⟩
theorem drs_of_none : ∀ i, drs i none = none
  | 0 => rfl
  | i + 1 => by simp only [drs, drs_of_none i]; rfl
theorem drs_none {s : StB} {i n : Nat} (h : drs i s = none) (hi : i ≤ n) : drs n s = none := by
  induction n with
  | zero => exact (by omega : i = 0) ▸ h
  | succ n ih =>
    by_cases e : i = n + 1
    · subst e; exact h
    · simp only [drs, ih (by omega)]; rfl
/-- what Members gives -/
def RetRM (w : World) (r : Nat) (s : StB) (e : Ending) (w' : World) : Prop := ∃ A n c, e = .returned (.slice A n c) ∧ w.grownBy w' (some r) ∧ (mbS s = none ∧ RR w' r none ∨ ∃ L l, mbS s = some (L, l) ∧ RR w' r (some l) ∧ Os 106 2 w' w.heap.size A n c (prs .i64 L))
set_option maxHeartbeats 4000000 in
set_option maxRecDepth 100000 in
theorem refMembersT (r : Nat) (s : StB) (w : World) (h : RR w r s) (hs : SL s) : Calls Try.prog 38 #[.pointer (some ⟨r, 0, none⟩)] w (RetRM w r s) := by
  have zr := h.lt
  have hz256 := numT_lt 1 256 s (by decide)
  have hs1 := hs.dr 1
  have HB := Lib.hid (refNumT r 1 s)
  obtain ⟨n, hn⟩ : ∃ n, numT 1 s = n := ⟨_, rfl⟩
  have hn9 : Hid (mbS s = if n ≤ 64 then (drs n (drB 1 s)).map fun l => (mbs n (drB 1 s), l) else none) := Lib.hid (by unfold mbS; rw [hn])
  rw [hn] at HB hz256
  clear hn
  generalize drB 1 s = s1 at *
  have gr := World.grownBy.refl w (some r)
  go_enter Try.func38, Try.ntmps38
  go_wp2_with fail
  refine (HB.out _ h hs (by omega)).mono ?_
  rintro e V ⟨rfl, hR, hg⟩
  replace gr := gr.trans hg
  clear HB h hg
  obtain ⟨Ab, nb, cb, hbk⟩ := hR.bk
  have q1 : V.cell? ⟨r, 1, none⟩ = some (.bool s1.isNone) := hbk.cell 1
  have zV := hR.lt
  by_cases h64 : 64 < n
  · have i64 : (64 : Int) < (n : Int) := by omega
    have hno : Hid (mbS s = none) := Lib.hid (by rw [hn9.out, if_neg (by omega)])
    obtain ⟨s0, e0⟩ : ∃ x : StB, x = none := ⟨_, rfl⟩
    have hs0 : SL s0 := fun _ h => by rw [e0] at h; cases h
    have HN : Hid (drs n s0 = none → mbS s = none) := Lib.hid (fun _ => hno.out)
    have HY0 : Hid (∀ l, drs n s0 = some l → mbS s = some (mbs n s0, l)) := Lib.hid (fun l h => by rw [e0, drs_of_none] at h; cases h)
    rcases Option.eq_none_or_eq_some s1 with e1 | ⟨l, e1⟩
    · rw [e1] at q1 hbk
      simp only [Option.isNone] at q1 hbk
      go_upto_region 3 with (refine at_op (.store 4 (.tmp 18) (.tmp 16)) rfl ?_; refine wpList_st1 4 (.tmp 18) (.tmp 16) rfl rfl (by rfl) (by rfl) hbk (Nat.le_of_ble_eq_true rfl) rfl (by kernel_rfl) ?_; intro W5 h5 g5g)
      have zW5 := g5g.size
      replace gr := gr.trans g5g
      have hR3 : RR W5 r s0 := by rw [e0]; exact ⟨Ab, nb, cb, h5⟩
      clear hn9 hs1 hno g5g h5 hbk q1 e0 e1 hR
      have hR5 : Hid (RR W5 r s0 ∧ w.grownBy W5 (some r)) := Lib.hid ⟨hR3, gr⟩
      clear hR3 gr
      go_upto_region 5 with (fail)
      go_loopw [4, 5] (fun X I wr => ∃ i : Nat, ∃ A m c, I = .int .i64 (i : Int) ∧ i ≤ n ∧ X = .slice A m c ∧ Os 106 2 wr w.heap.size A m c (prs .i64 (mbs i s0)) ∧ RR wr r (drs i s0) ∧ w.grownBy wr (some r)) (fun _ I _ => n - (intOf I).toNat)
      case atStart => exact ⟨0, none, 0, 0, rfl, Nat.zero_le _, rfl, Os.nil_, hR5.out.1, hR5.out.2⟩
      case round =>
        obtain ⟨i, A, m, c, rfl, hi, rfl, hO, hRr, hG⟩ := hrel
        have hm : m = i := by
          have := hO.rs.1
          rw [prs_length, mbs_len] at this
          omega
        subst hm
        obtain ⟨Ab, nb, cb, hbk⟩ := hRr.bk
        have q1 : wr.cell? ⟨r, 1, none⟩ = some (.bool (drs m s0).isNone) := hbk.cell 1
        clear hbk
        by_cases hlt : m < n
        · have ii : (m : Int) < (n : Int) := by omega
          cases hd : drs m s0 with
          | none =>
            rw [hd] at q1 hRr
            simp only [Option.isNone] at q1
            have hno : Hid (mbS s = none) := Lib.hid (HN.out (drs_none hd hi))
            clear hd
            go_wp2
            go_ret
            exact ⟨A, _, c, rfl, hG, .inl ⟨hno.out, hRr⟩⟩
          | some l =>
            have hq1 : wr.cell? ⟨r, 1, none⟩ = some (.bool false) := by rw [q1, hd]; rfl
            have HX := Lib.hid (fun w h => refNumT r 1 (drs m s0) w h (hs0.drs m) (by omega))
            have HY := Lib.hid (fun w h => refNumT r 1 (drB 1 (drs m s0)) w h ((hs0.drs m).dr 1) (by omega))
            have HM := Lib.hid (show mbs (m + 1) s0 = mbs m s0 ++ [((numT 1 (drs m s0) : Int), (numT 1 (drB 1 (drs m s0)) : Int))] from rfl)
            clear hd q1
            generalize numT 1 (drs m s0) = x at *
            generalize numT 1 (drB 1 (drs m s0)) = y at *
            have zg := hG.size
            go_wp2_with fail
            refine (HX.out _ hRr).mono ?_
            rintro e V1 ⟨rfl, hR1, hg1⟩
            replace hO := hO.grown hg1 (fun k hk e => by have := (hO.blk k hk).1; injection e with e; omega)
            replace hG := hG.trans hg1
            clear hg1 hRr hq1
            go_wp2_with fail
            refine (HY.out _ hR1).mono ?_
            rintro e V2 ⟨rfl, hR2, hg2⟩
            replace hO := hO.grown hg2 (fun k hk e => by have := (hO.blk k hk).1; injection e with e; omega)
            replace hG := hG.trans hg2
            clear hg2 hR1
            have zV2 := hG.size
            go_wp2_with (at_builtin; refine wpList_appS etRm23 rfl (.tmp 31) (.tmp 37) rfl rfl (hO.later (Below.allocS (Below.refl _ _) _)) rfl (Rs.of_bk (n := 1) (c := 1) (Bk.new V2 _ _) rfl (Nat.le_refl _)) (by simp [Value.oneCell']) (by omega) (by simp; omega) ?_; intro A2 n2 c2 w4 hn2 hO4 hb4 hg4; subst hn2)
            have hb5 : Below w.heap.size V2 w4 := ((Below.refl V2.heap.size V2).alloc (Nat.le_refl _) _ |>.mono (by omega)).trans hb4
            exact ⟨⟨m + 1, A2, _, c2, by go_num, by omega, rfl, by rw [HM.out, prs_append]; exact hO4, hR2.low (hb5.mono (by omega)), grown_old hG hb5⟩, by simp [intOf]; omega⟩
        · obtain rfl : m = n := by omega
          have ii : ¬ (m : Int) < (m : Int) := by omega
          cases hd : drs m s0 with
          | none =>
            have hno : Hid (mbS s = none) := Lib.hid (HN.out hd)
            rw [hd] at hRr
            clear hd q1
            go_wp2
            go_ret
            exact ⟨A, _, c, rfl, hG, .inl ⟨hno.out, hRr⟩⟩
          | some l =>
            have hyes : Hid (mbS s = some (mbs m s0, l)) := Lib.hid (HY0.out l hd)
            rw [hd] at hRr
            clear hd q1
            go_wp2
            go_ret
            exact ⟨A, _, c, rfl, hG, .inr ⟨_, l, hyes.out, hRr, hO⟩⟩
    · rw [e1] at q1 hbk
      simp only [Option.isNone] at q1 hbk
      go_upto_region 3 with (refine at_op (.store 4 (.tmp 18) (.tmp 16)) rfl ?_; refine wpList_st1 4 (.tmp 18) (.tmp 16) rfl rfl (by rfl) (by rfl) hbk (Nat.le_of_ble_eq_true rfl) rfl (by kernel_rfl) ?_; intro W5 h5 g5g)
      have zW5 := g5g.size
      replace gr := gr.trans g5g
      have hR3 : RR W5 r s0 := by rw [e0]; exact ⟨Ab, nb, cb, h5⟩
      clear hn9 hs1 hno g5g h5 hbk q1 e0 e1 hR
      have hR5 : Hid (RR W5 r s0 ∧ w.grownBy W5 (some r)) := Lib.hid ⟨hR3, gr⟩
      clear hR3 gr
      go_upto_region 5 with (fail)
      go_loopw [4, 5] (fun X I wr => ∃ i : Nat, ∃ A m c, I = .int .i64 (i : Int) ∧ i ≤ n ∧ X = .slice A m c ∧ Os 106 2 wr w.heap.size A m c (prs .i64 (mbs i s0)) ∧ RR wr r (drs i s0) ∧ w.grownBy wr (some r)) (fun _ I _ => n - (intOf I).toNat)
      case atStart => exact ⟨0, none, 0, 0, rfl, Nat.zero_le _, rfl, Os.nil_, hR5.out.1, hR5.out.2⟩
      case round =>
        obtain ⟨i, A, m, c, rfl, hi, rfl, hO, hRr, hG⟩ := hrel
        have hm : m = i := by
          have := hO.rs.1
          rw [prs_length, mbs_len] at this
          omega
        subst hm
        obtain ⟨Ab, nb, cb, hbk⟩ := hRr.bk
        have q1 : wr.cell? ⟨r, 1, none⟩ = some (.bool (drs m s0).isNone) := hbk.cell 1
        clear hbk
        by_cases hlt : m < n
        · have ii : (m : Int) < (n : Int) := by omega
          cases hd : drs m s0 with
          | none =>
            rw [hd] at q1 hRr
            simp only [Option.isNone] at q1
            have hno : Hid (mbS s = none) := Lib.hid (HN.out (drs_none hd hi))
            clear hd
            go_wp2
            go_ret
            exact ⟨A, _, c, rfl, hG, .inl ⟨hno.out, hRr⟩⟩
          | some l =>
            have hq1 : wr.cell? ⟨r, 1, none⟩ = some (.bool false) := by rw [q1, hd]; rfl
            have HX := Lib.hid (fun w h => refNumT r 1 (drs m s0) w h (hs0.drs m) (by omega))
            have HY := Lib.hid (fun w h => refNumT r 1 (drB 1 (drs m s0)) w h ((hs0.drs m).dr 1) (by omega))
            have HM := Lib.hid (show mbs (m + 1) s0 = mbs m s0 ++ [((numT 1 (drs m s0) : Int), (numT 1 (drB 1 (drs m s0)) : Int))] from rfl)
            clear hd q1
            generalize numT 1 (drs m s0) = x at *
            generalize numT 1 (drB 1 (drs m s0)) = y at *
            have zg := hG.size
            go_wp2_with fail
            refine (HX.out _ hRr).mono ?_
            rintro e V1 ⟨rfl, hR1, hg1⟩
            replace hO := hO.grown hg1 (fun k hk e => by have := (hO.blk k hk).1; injection e with e; omega)
            replace hG := hG.trans hg1
            clear hg1 hRr hq1
            go_wp2_with fail
            refine (HY.out _ hR1).mono ?_
            rintro e V2 ⟨rfl, hR2, hg2⟩
            replace hO := hO.grown hg2 (fun k hk e => by have := (hO.blk k hk).1; injection e with e; omega)
            replace hG := hG.trans hg2
            clear hg2 hR1
            have zV2 := hG.size
            go_wp2_with (at_builtin; refine wpList_appS etRm23 rfl (.tmp 31) (.tmp 37) rfl rfl (hO.later (Below.allocS (Below.refl _ _) _)) rfl (Rs.of_bk (n := 1) (c := 1) (Bk.new V2 _ _) rfl (Nat.le_refl _)) (by simp [Value.oneCell']) (by omega) (by simp; omega) ?_; intro A2 n2 c2 w4 hn2 hO4 hb4 hg4; subst hn2)
            have hb5 : Below w.heap.size V2 w4 := ((Below.refl V2.heap.size V2).alloc (Nat.le_refl _) _ |>.mono (by omega)).trans hb4
            exact ⟨⟨m + 1, A2, _, c2, by go_num, by omega, rfl, by rw [HM.out, prs_append]; exact hO4, hR2.low (hb5.mono (by omega)), grown_old hG hb5⟩, by simp [intOf]; omega⟩
        · obtain rfl : m = n := by omega
          have ii : ¬ (m : Int) < (m : Int) := by omega
          cases hd : drs m s0 with
          | none =>
            have hno : Hid (mbS s = none) := Lib.hid (HN.out hd)
            rw [hd] at hRr
            clear hd q1
            go_wp2
            go_ret
            exact ⟨A, _, c, rfl, hG, .inl ⟨hno.out, hRr⟩⟩
          | some l =>
            have hyes : Hid (mbS s = some (mbs m s0, l)) := Lib.hid (HY0.out l hd)
            rw [hd] at hRr
            clear hd q1
            go_wp2
            go_ret
            exact ⟨A, _, c, rfl, hG, .inr ⟨_, l, hyes.out, hRr, hO⟩⟩
  have i64 : ¬ (64 : Int) < (n : Int) := by omega
  have hn8 : Hid (mbS s = (drs n s1).map fun l => (mbs n s1, l)) := Lib.hid (by rw [hn9.out, if_pos (by omega)])
  have HN : Hid (drs n s1 = none → mbS s = none) := Lib.hid (fun h => by rw [hn8.out, h]; rfl)
  have HY0 : Hid (∀ l, drs n s1 = some l → mbS s = some (mbs n s1, l)) := Lib.hid (fun l h => by rw [hn8.out, h]; rfl)
  clear hn8 hn9
  rcases Option.eq_none_or_eq_some s1 with e1 | ⟨l, e1⟩
  · rw [e1] at q1 hbk
    simp only [Option.isNone] at q1 hbk
    go_upto_region 3 with (refine at_op (.store 4 (.tmp 18) (.tmp 16)) rfl ?_; refine wpList_st1 4 (.tmp 18) (.tmp 16) rfl rfl (by rfl) (by rfl) hbk (Nat.le_of_ble_eq_true rfl) rfl (by kernel_rfl) ?_; intro W5 h5 g5g)
    have zW5 := g5g.size
    replace gr := gr.trans g5g
    have hR3 : RR W5 r s1 := by rw [e1]; exact ⟨Ab, nb, cb, h5⟩
    clear g5g h5 hbk q1 e1 hR
    have hR5 : Hid (RR W5 r s1 ∧ w.grownBy W5 (some r)) := Lib.hid ⟨hR3, gr⟩
    clear hR3 gr
    go_upto_region 5 with (fail)
    go_loopw [4, 5] (fun X I wr => ∃ i : Nat, ∃ A m c, I = .int .i64 (i : Int) ∧ i ≤ n ∧ X = .slice A m c ∧ Os 106 2 wr w.heap.size A m c (prs .i64 (mbs i s1)) ∧ RR wr r (drs i s1) ∧ w.grownBy wr (some r)) (fun _ I _ => n - (intOf I).toNat)
    case atStart => exact ⟨0, none, 0, 0, rfl, Nat.zero_le _, rfl, Os.nil_, hR5.out.1, hR5.out.2⟩
    case round =>
      obtain ⟨i, A, m, c, rfl, hi, rfl, hO, hRr, hG⟩ := hrel
      have hm : m = i := by
        have := hO.rs.1
        rw [prs_length, mbs_len] at this
        omega
      subst hm
      obtain ⟨Ab, nb, cb, hbk⟩ := hRr.bk
      have q1 : wr.cell? ⟨r, 1, none⟩ = some (.bool (drs m s1).isNone) := hbk.cell 1
      clear hbk
      by_cases hlt : m < n
      · have ii : (m : Int) < (n : Int) := by omega
        cases hd : drs m s1 with
        | none =>
          rw [hd] at q1 hRr
          simp only [Option.isNone] at q1
          have hno : Hid (mbS s = none) := Lib.hid (HN.out (drs_none hd hi))
          clear hd
          go_wp2
          go_ret
          exact ⟨A, _, c, rfl, hG, .inl ⟨hno.out, hRr⟩⟩
        | some l =>
          have hq1 : wr.cell? ⟨r, 1, none⟩ = some (.bool false) := by rw [q1, hd]; rfl
          have HX := Lib.hid (fun w h => refNumT r 1 (drs m s1) w h (hs1.drs m) (by omega))
          have HY := Lib.hid (fun w h => refNumT r 1 (drB 1 (drs m s1)) w h ((hs1.drs m).dr 1) (by omega))
          have HM := Lib.hid (show mbs (m + 1) s1 = mbs m s1 ++ [((numT 1 (drs m s1) : Int), (numT 1 (drB 1 (drs m s1)) : Int))] from rfl)
          clear hd q1
          generalize numT 1 (drs m s1) = x at *
          generalize numT 1 (drB 1 (drs m s1)) = y at *
          have zg := hG.size
          go_wp2_with fail
          refine (HX.out _ hRr).mono ?_
          rintro e V1 ⟨rfl, hR1, hg1⟩
          replace hO := hO.grown hg1 (fun k hk e => by have := (hO.blk k hk).1; injection e with e; omega)
          replace hG := hG.trans hg1
          clear hg1 hRr hq1
          go_wp2_with fail
          refine (HY.out _ hR1).mono ?_
          rintro e V2 ⟨rfl, hR2, hg2⟩
          replace hO := hO.grown hg2 (fun k hk e => by have := (hO.blk k hk).1; injection e with e; omega)
          replace hG := hG.trans hg2
          clear hg2 hR1
          have zV2 := hG.size
          go_wp2_with (at_builtin; refine wpList_appS etRm23 rfl (.tmp 31) (.tmp 37) rfl rfl (hO.later (Below.allocS (Below.refl _ _) _)) rfl (Rs.of_bk (n := 1) (c := 1) (Bk.new V2 _ _) rfl (Nat.le_refl _)) (by simp [Value.oneCell']) (by omega) (by simp; omega) ?_; intro A2 n2 c2 w4 hn2 hO4 hb4 hg4; subst hn2)
          have hb5 : Below w.heap.size V2 w4 := ((Below.refl V2.heap.size V2).alloc (Nat.le_refl _) _ |>.mono (by omega)).trans hb4
          exact ⟨⟨m + 1, A2, _, c2, by go_num, by omega, rfl, by rw [HM.out, prs_append]; exact hO4, hR2.low (hb5.mono (by omega)), grown_old hG hb5⟩, by simp [intOf]; omega⟩
      · obtain rfl : m = n := by omega
        have ii : ¬ (m : Int) < (m : Int) := by omega
        cases hd : drs m s1 with
        | none =>
          have hno : Hid (mbS s = none) := Lib.hid (HN.out hd)
          rw [hd] at hRr
          clear hd q1
          go_wp2
          go_ret
          exact ⟨A, _, c, rfl, hG, .inl ⟨hno.out, hRr⟩⟩
        | some l =>
          have hyes : Hid (mbS s = some (mbs m s1, l)) := Lib.hid (HY0.out l hd)
          rw [hd] at hRr
          clear hd q1
          go_wp2
          go_ret
          exact ⟨A, _, c, rfl, hG, .inr ⟨_, l, hyes.out, hRr, hO⟩⟩
  · rw [e1] at q1 hR
    obtain ⟨A9, n9, c9, hb9, k1, k2, k3⟩ := hR
    clear hbk
    have hbk := hb9
    simp only [Option.isNone] at q1
    go_upto_region 3 with (refine at_op (.store 4 (.tmp 18) (.tmp 16)) rfl ?_; refine wpList_st1 4 (.tmp 18) (.tmp 16) rfl rfl (by rfl) (by rfl) hbk (Nat.le_of_ble_eq_true rfl) rfl (by kernel_rfl) ?_; intro W5 h5 g5g)
    have zW5 := g5g.size
    replace gr := gr.trans g5g
    have h5' : Bk W5 r 100 [.slice A9 n9 c9, .bool false] := by
      have h6 : Bk W5 r 100 [.slice A9 n9 c9, .bool (decide ((64 : Int) < (n : Int)))] := h5
      rwa [decide_eq_false (by omega)] at h6
    have hR3 : RR W5 r s1 := by rw [e1]; exact ⟨A9, n9, c9, h5', k1, k2, k3.below (below_of_grown g5g (by omega) (fun k hk => by injection hk with hk; omega))⟩
    clear g5g h5 h5' hbk q1 k1 k2 k3 hb9 e1
    have hR5 : Hid (RR W5 r s1 ∧ w.grownBy W5 (some r)) := Lib.hid ⟨hR3, gr⟩
    clear hR3 gr
    go_upto_region 5 with (fail)
    go_loopw [4, 5] (fun X I wr => ∃ i : Nat, ∃ A m c, I = .int .i64 (i : Int) ∧ i ≤ n ∧ X = .slice A m c ∧ Os 106 2 wr w.heap.size A m c (prs .i64 (mbs i s1)) ∧ RR wr r (drs i s1) ∧ w.grownBy wr (some r)) (fun _ I _ => n - (intOf I).toNat)
    case atStart => exact ⟨0, none, 0, 0, rfl, Nat.zero_le _, rfl, Os.nil_, hR5.out.1, hR5.out.2⟩
    case round =>
      obtain ⟨i, A, m, c, rfl, hi, rfl, hO, hRr, hG⟩ := hrel
      have hm : m = i := by
        have := hO.rs.1
        rw [prs_length, mbs_len] at this
        omega
      subst hm
      obtain ⟨Ab, nb, cb, hbk⟩ := hRr.bk
      have q1 : wr.cell? ⟨r, 1, none⟩ = some (.bool (drs m s1).isNone) := hbk.cell 1
      clear hbk
      by_cases hlt : m < n
      · have ii : (m : Int) < (n : Int) := by omega
        cases hd : drs m s1 with
        | none =>
          rw [hd] at q1 hRr
          simp only [Option.isNone] at q1
          have hno : Hid (mbS s = none) := Lib.hid (HN.out (drs_none hd hi))
          clear hd
          go_wp2
          go_ret
          exact ⟨A, _, c, rfl, hG, .inl ⟨hno.out, hRr⟩⟩
        | some l =>
          have hq1 : wr.cell? ⟨r, 1, none⟩ = some (.bool false) := by rw [q1, hd]; rfl
          have HX := Lib.hid (fun w h => refNumT r 1 (drs m s1) w h (hs1.drs m) (by omega))
          have HY := Lib.hid (fun w h => refNumT r 1 (drB 1 (drs m s1)) w h ((hs1.drs m).dr 1) (by omega))
          have HM := Lib.hid (show mbs (m + 1) s1 = mbs m s1 ++ [((numT 1 (drs m s1) : Int), (numT 1 (drB 1 (drs m s1)) : Int))] from rfl)
          clear hd q1
          generalize numT 1 (drs m s1) = x at *
          generalize numT 1 (drB 1 (drs m s1)) = y at *
          have zg := hG.size
          go_wp2_with fail
          refine (HX.out _ hRr).mono ?_
          rintro e V1 ⟨rfl, hR1, hg1⟩
          replace hO := hO.grown hg1 (fun k hk e => by have := (hO.blk k hk).1; injection e with e; omega)
          replace hG := hG.trans hg1
          clear hg1 hRr hq1
          go_wp2_with fail
          refine (HY.out _ hR1).mono ?_
          rintro e V2 ⟨rfl, hR2, hg2⟩
          replace hO := hO.grown hg2 (fun k hk e => by have := (hO.blk k hk).1; injection e with e; omega)
          replace hG := hG.trans hg2
          clear hg2 hR1
          have zV2 := hG.size
          go_wp2_with (at_builtin; refine wpList_appS etRm23 rfl (.tmp 31) (.tmp 37) rfl rfl (hO.later (Below.allocS (Below.refl _ _) _)) rfl (Rs.of_bk (n := 1) (c := 1) (Bk.new V2 _ _) rfl (Nat.le_refl _)) (by simp [Value.oneCell']) (by omega) (by simp; omega) ?_; intro A2 n2 c2 w4 hn2 hO4 hb4 hg4; subst hn2)
          have hb5 : Below w.heap.size V2 w4 := ((Below.refl V2.heap.size V2).alloc (Nat.le_refl _) _ |>.mono (by omega)).trans hb4
          exact ⟨⟨m + 1, A2, _, c2, by go_num, by omega, rfl, by rw [HM.out, prs_append]; exact hO4, hR2.low (hb5.mono (by omega)), grown_old hG hb5⟩, by simp [intOf]; omega⟩
      · obtain rfl : m = n := by omega
        have ii : ¬ (m : Int) < (m : Int) := by omega
        cases hd : drs m s1 with
        | none =>
          have hno : Hid (mbS s = none) := Lib.hid (HN.out hd)
          rw [hd] at hRr
          clear hd q1
          go_wp2
          go_ret
          exact ⟨A, _, c, rfl, hG, .inl ⟨hno.out, hRr⟩⟩
        | some l =>
          have hyes : Hid (mbS s = some (mbs m s1, l)) := Lib.hid (HY0.out l hd)
          rw [hd] at hRr
          clear hd q1
          go_wp2
          go_ret
          exact ⟨A, _, c, rfl, hG, .inr ⟨_, l, hyes.out, hRr, hO⟩⟩
end Go.Proofs.Ytepodflinhpejaa

/- counterfoilref23.ParseOp (chapter 23). -/
namespace Go.Proofs.Ytepodflinhpejaa
open Go.RowKit
set_option linter.unusedVariables false
set_option linter.unusedSimpArgs false
attribute [local go_sem ↓] sliced_cut

attribute [local go_sem] cutA_zero

theorem szRo (k v b e : Int) (six : Bool) (ah al pt pr : Nat) (wy : Int) (A : Option Addr) (n c : Nat) : (Try.prog.info? 28).map (·.size) = some (opC k v b e six ah al pt pr wy A n c).length := by kernel_rfl
theorem rowRo : ∃ d, Try.prog.underlying 28 = some d ∧ d.isRow = true := ⟨_, Try.underlying28, rfl⟩
theorem popE_none {k v b e : Nat} {q : Bool × Nat × Nat} {pt pr wy : Nat} {x : Option (List (Int × Int) × List UInt8)} (h : x = none) : popE k v b e q pt pr wy x = none := by rw [h]; rfl
theorem mbS_none : mbS none = none := by
  unfold mbS
  have : numT 1 none = 0 := rfl
  rw [this]
  rfl
set_option maxHeartbeats 4000000 in
set_option maxRecDepth 100000 in
theorem refParseOp_any (A : Option Addr) (n c : Nat) (L : List UInt8) (w : World) (hr : Rb w A n c L) (hm : n ≤ 1000000) : Calls Try.prog 9 #[.slice A n c] w (RetPO w L Value.bool) := by
  obtain ⟨dv, v1, v2⟩ := rowRo
  obtain ⟨da, u1, u2⟩ : ∃ d, Try.prog.underlying 24 = some d ∧ d.isRow = true := ⟨_, Try.underlying24, rfl⟩
  have s0 : SL (some L) := fun l h => by injection h with h; rw [← h, hr.1]; exact hm
  have s1 := s0.dr 1
  have s2 := s1.dr 1
  have s3 := s2.dr 1
  have s4 := s3.dr 1
  have x0 := numT_lt 1 256 (some L) (by decide)
  have x1 := numT_lt 1 256 (drB 1 (some L)) (by decide)
  have x2 := numT_lt 1 256 (drB 1 (drB 1 (some L))) (by decide)
  have x3 := numT_lt 1 256 (drB 1 (drB 1 (drB 1 (some L)))) (by decide)
  have HP := Lib.hid (show popS L = (adS (drB 1 (drB 1 (drB 1 (drB 1 (some L)))))).bind _ from rfl)
  have HB0 := Lib.hid (fun r w h => refNumT r 1 (some L) w h s0 (by omega))
  have HB1 := Lib.hid (fun r w h => refNumT r 1 (drB 1 (some L)) w h s1 (by omega))
  have HB2 := Lib.hid (fun r w h => refNumT r 1 (drB 1 (drB 1 (some L))) w h s2 (by omega))
  have HB3 := Lib.hid (fun r w h => refNumT r 1 (drB 1 (drB 1 (drB 1 (some L)))) w h s3 (by omega))
  have HR0 : Hid (∀ W r, Bk W r 100 [.slice A n c, .bool false] → Rd W r A (bcs L) → RR W r (some L)) := Lib.hid (fun W r h1 h2 => ⟨A, n, c, h1, hr.1, hr.2.1, h2⟩)
  generalize numT 1 (some L) = y0 at *
  generalize numT 1 (drB 1 (some L)) = y1 at *
  generalize numT 1 (drB 1 (drB 1 (some L))) = y2 at *
  generalize numT 1 (drB 1 (drB 1 (drB 1 (some L)))) = y3 at *
  generalize drB 1 (drB 1 (drB 1 (drB 1 (some L)))) = S4 at *
  generalize drB 1 (drB 1 (drB 1 (some L))) = S3 at *
  generalize drB 1 (drB 1 (some L)) = S2 at *
  generalize drB 1 (some L) = S1 at *
  have b2 : Bk (w.alloc (.cells #[.int .i64 0, .int .i64 0, .int .i64 0, .int .i64 0, .bool false, .int .u64 0, .int .u64 0, .int .u16 0, .int .u8 0, .int .i64 0, .slice none 0 0] 28)) w.heap.size 28 (opC 0 0 0 0 false 0 0 0 0 0 none 0 0) := Bk.new w 28 #[.int .i64 0, .int .i64 0, .int .i64 0, .int .i64 0, .bool false, .int .u64 0, .int .u64 0, .int .u16 0, .int .u8 0, .int .i64 0, .slice none 0 0]
  have be : Below w.heap.size w (w.alloc (.cells #[.int .i64 0, .int .i64 0, .int .i64 0, .int .i64 0, .bool false, .int .u64 0, .int .u64 0, .int .u16 0, .int .u8 0, .int .i64 0, .slice none 0 0] 28)) := Below.allocS (Below.refl _ _) _
  go_enter Try.func9, Try.ntmps9
  go_upto_region 1 with (fail)
  replace hr := hr.later be
  generalize w.alloc (.cells #[.int .i64 0, .int .i64 0, .int .i64 0, .int .i64 0, .bool false, .int .u64 0, .int .u64 0, .int .u16 0, .int .u8 0, .int .i64 0, .slice none 0 0] 28) = V0 at *
  have z2 := b2.lt
  go_upto_region 2 with (fail)
  have bR : Bk (V0.alloc (.cells #[.slice A n c, .bool false] 100)) V0.heap.size 100 [.slice A n c, .bool false] := Bk.new V0 100 #[.slice A n c, .bool false]
  have hb5 : Below V0.heap.size V0 (V0.alloc (.cells #[.slice A n c, .bool false] 100)) := Below.allocS (Below.refl _ _) _
  have hR := HR0.out _ _ bR (hr.2.2.below hb5)
  replace b2 := b2.later hb5
  replace be := be.trans (hb5.mono be.size)
  have zr := hR.lt
  clear hb5 HR0 hr bR
  generalize V0.alloc (.cells #[.slice A n c, .bool false] 100) = V at *
  generalize V0.heap.size = r at *
  go_wp2_with fail
  refine (HB0.out r _ hR).mono ?_
  rintro e V ⟨rfl, hR', hg⟩
  replace b2 := b2.grown hg (by simp; omega)
  replace be := below_grown be hg (by omega)
  clear hR
  have hR := hR'
  clear hR' hg
  go_wp2_with fail
  refine (HB1.out r _ hR).mono ?_
  rintro e V ⟨rfl, hR', hg⟩
  replace b2 := b2.grown hg (by simp; omega)
  replace be := below_grown be hg (by omega)
  clear hR
  have hR := hR'
  clear hR' hg
  go_wp2_with fail
  refine (HB2.out r _ hR).mono ?_
  rintro e V ⟨rfl, hR', hg⟩
  replace b2 := b2.grown hg (by simp; omega)
  replace be := below_grown be hg (by omega)
  clear hR
  have hR := hR'
  clear hR' hg
  go_wp2_with fail
  refine (HB3.out r _ hR).mono ?_
  rintro e V ⟨rfl, hR', hg⟩
  replace b2 := b2.grown hg (by simp; omega)
  replace be := below_grown be hg (by omega)
  clear hR
  have hR := hR'
  clear hR' hg
  have zr4 := hR.lt
  go_upto_region 3 with (refine at_op (.store 28 (.tmp 5) (.tmp 17)) rfl ?_; refine wpList_stA (t := 28) 28 (.tmp 5) (.tmp 17) rfl rfl (opC y0 y1 y2 y3 false 0 0 0 0 0 none 0 0) (opC 0 0 0 0 false 0 0 0 0 0 none 0 0) rfl (opC_one _ _ _ _ _ _ _ _ _ _ _ _ _) rfl rfl (Bk.new _ _ _) (szRo _ _ _ _ _ _ _ _ _ _ _ _ _) ?_; intro W5 h5 g5g)
  have be4 : Below V.heap.size V W5 := below_grown (Below.allocS (Below.refl _ _) _) g5g (Nat.le_refl _)
  have b5 : Bk W5 V.heap.size 28 (opC y0 y1 y2 y3 false 0 0 0 0 0 none 0 0) := h5
  have zg := b5.lt
  replace b2 := b2.later be4
  replace hR := hR.later be4
  have zbe := be.size
  replace be := be.trans (be4.mono be.size)
  clear be4 h5 g5g HB0 HB1 HB2 HB3
  generalize V.heap.size = g5 at *
  go_wp2_with fail
  refine (refAddrT r S4 _ hR s4).mono ?_
  rintro e V ⟨six, ah, al, S5, rfl, hg, ha1, ha2, hR', s5, hE⟩
  replace b2 := b2.grown hg (by simp; omega)
  replace b5 := b5.grown hg (by simp; omega)
  replace be := below_grown be hg (by omega)
  replace zg := Nat.lt_of_lt_of_le zg hg.size
  clear hR hg
  have hR := hR'
  clear hR'
  replace HP : Hid (popS L = popE y0 y1 y2 y3 (six, ah, al) (numT 2 S5) (numT 1 (drB 2 S5)) (numT 1 (drB 1 (drB 2 S5))) (mbS (drB 1 (drB 1 (drB 2 S5))))) := Lib.hid (by
    rcases hE with ⟨rfl, hE⟩ | hE
    · rw [HP.out, hE]
      exact (popE_none mbS_none).symm
    · rw [HP.out, hE]
      rfl)
  clear hE
  go_upto_region 4 with (refine at_op (.store 24 (.tmp 20) (.tmp 19)) rfl ?_; refine wpList_stM (t := 28) (off := 4) 24 (.tmp 20) (.tmp 19) rfl rfl (adC six ah al) (opC y0 y1 y2 y3 false 0 0 0 0 0 none 0 0) (Nat.le_of_ble_eq_true rfl) (adC_one _ _ _) rfl rfl b5 (szAd _ _ _) ?_; intro W5 h5 g5g)
  replace b5 : Bk W5 g5 28 (opC y0 y1 y2 y3 six ah al 0 0 0 none 0 0) := h5
  replace b2 := b2.grown g5g (by simp; omega)
  replace hR := hR.low (below_of_grown g5g (by omega) (fun k hk => by injection hk with hk; omega))
  replace be := below_grown be g5g (by omega)
  replace zg := Nat.lt_of_lt_of_le zg g5g.size
  clear h5 g5g
  have s6 := s5.dr 2
  have s7 := s6.dr 1
  have s8 := s7.dr 1
  have x5 := numT_lt 2 65536 S5 (by decide)
  have x6 := numT_lt 1 256 (drB 2 S5) (by decide)
  have x7 := numT_lt 1 256 (drB 1 (drB 2 S5)) (by decide)
  have HB5 := Lib.hid (fun w h => refNumT r 2 S5 w h s5 (by omega))
  have HB6 := Lib.hid (fun w h => refNumT r 1 (drB 2 S5) w h s6 (by omega))
  have HB7 := Lib.hid (fun w h => refNumT r 1 (drB 1 (drB 2 S5)) w h s7 (by omega))
  generalize numT 2 S5 = y5 at *
  generalize numT 1 (drB 2 S5) = y6 at *
  generalize numT 1 (drB 1 (drB 2 S5)) = y7 at *
  generalize drB 1 (drB 1 (drB 2 S5)) = S8 at *
  generalize drB 1 (drB 2 S5) = S7 at *
  generalize drB 2 S5 = S6 at *
  go_wp2_with fail
  refine (HB5.out _ hR).mono ?_
  rintro e V ⟨rfl, hR', hg⟩
  replace b2 := b2.grown hg (by simp; omega)
  replace b5 := b5.grown hg (by simp; omega)
  replace zg := Nat.lt_of_lt_of_le zg hg.size
  replace be := below_grown be hg (by omega)
  clear hR
  have hR := hR'
  clear hR' hg
  go_upto_region 5 with (refine at_op (.store 25 (.tmp 24) (.tmp 23)) rfl ?_; refine wpList_st1 25 (.tmp 24) (.tmp 23) rfl rfl (by rfl) (by rfl) b5 (Nat.le_of_ble_eq_true rfl) rfl (by kernel_rfl) ?_; intro W5 h5 g5g)
  replace b5 : Bk W5 g5 28 (opC y0 y1 y2 y3 six ah al y5 0 0 none 0 0) := h5
  replace b2 := b2.grown g5g (by simp; omega)
  replace hR := hR.low (below_of_grown g5g (by omega) (fun k hk => by injection hk with hk; omega))
  replace be := below_grown be g5g (by omega)
  replace zg := Nat.lt_of_lt_of_le zg g5g.size
  clear h5 g5g
  go_wp2_with fail
  refine (HB6.out _ hR).mono ?_
  rintro e V ⟨rfl, hR', hg⟩
  replace b2 := b2.grown hg (by simp; omega)
  replace b5 := b5.grown hg (by simp; omega)
  replace zg := Nat.lt_of_lt_of_le zg hg.size
  replace be := below_grown be hg (by omega)
  clear hR
  have hR := hR'
  clear hR' hg
  go_upto_region 6 with (refine at_op (.store 5 (.tmp 28) (.tmp 27)) rfl ?_; refine wpList_st1 5 (.tmp 28) (.tmp 27) rfl rfl (by rfl) (by rfl) b5 (Nat.le_of_ble_eq_true rfl) rfl (by kernel_rfl) ?_; intro W5 h5 g5g)
  replace b5 : Bk W5 g5 28 (opC y0 y1 y2 y3 six ah al y5 y6 0 none 0 0) := h5
  replace b2 := b2.grown g5g (by simp; omega)
  replace hR := hR.low (below_of_grown g5g (by omega) (fun k hk => by injection hk with hk; omega))
  replace be := below_grown be g5g (by omega)
  replace zg := Nat.lt_of_lt_of_le zg g5g.size
  clear h5 g5g
  go_wp2_with fail
  refine (HB7.out _ hR).mono ?_
  rintro e V ⟨rfl, hR', hg⟩
  replace b2 := b2.grown hg (by simp; omega)
  replace b5 := b5.grown hg (by simp; omega)
  replace zg := Nat.lt_of_lt_of_le zg hg.size
  replace be := below_grown be hg (by omega)
  clear hR
  have hR := hR'
  clear hR' hg
  go_upto_region 7 with (refine at_op (.store 3 (.tmp 31) (.tmp 30)) rfl ?_; refine wpList_st1 3 (.tmp 31) (.tmp 30) rfl rfl (by rfl) (by rfl) b5 (Nat.le_of_ble_eq_true rfl) rfl (by kernel_rfl) ?_; intro W5 h5 g5g)
  replace b5 : Bk W5 g5 28 (opC y0 y1 y2 y3 six ah al y5 y6 y7 none 0 0) := h5
  replace b2 := b2.grown g5g (by simp; omega)
  replace hR := hR.low (below_of_grown g5g (by omega) (fun k hk => by injection hk with hk; omega))
  replace be := below_grown be g5g (by omega)
  replace zg := Nat.lt_of_lt_of_le zg g5g.size
  clear h5 g5g
  go_wp2_with fail
  refine (refMembersT r S8 _ hR s8).mono ?_
  rintro e V ⟨A2, n2, c2, rfl, hg, hE⟩
  replace b2 := b2.grown hg (by simp; omega)
  replace b5 := b5.grown hg (by simp; omega)
  replace be := below_grown be hg (by omega)
  have zW : g5 < V.heap.size := Nat.lt_of_lt_of_le zg hg.size
  clear hR hg
  go_upto_region 8 with (refine at_op (.store 26 (.tmp 34) (.tmp 33)) rfl ?_; refine wpList_st1 26 (.tmp 34) (.tmp 33) rfl rfl (by rfl) (by rfl) b5 (Nat.le_of_ble_eq_true rfl) rfl (by kernel_rfl) ?_; intro W5 h5 g5g)
  replace b5 : Bk W5 g5 28 (opC y0 y1 y2 y3 six ah al y5 y6 y7 A2 n2 c2) := h5
  replace b2 := b2.grown g5g (by simp; omega)
  replace be := below_grown be g5g (by omega)
  have zV5 := g5g.size
  rcases hE with ⟨hE, hR⟩ | ⟨Lm, lr, hE, hR, hO⟩
  · replace HP := Lib.hid (HP.out.trans (by rw [hE]; rfl) : popS L = none)
    replace hR := hR.low (below_of_grown g5g (by omega) (fun k hk => by injection hk with hk; omega))
    obtain ⟨Ab, nb, cb, hbk⟩ := hR
    have q1 : W5.cell? ⟨r, 1, none⟩ = some (.bool true) := hbk.cell 1
    clear h5 g5g hE HB5 HB6 HB7 hbk
    go_wp2_with (refine at_op (.store 28 (.tmp 2) (.tmp 47)) rfl ?_; refine wpList_stA (t := 28) 28 (.tmp 2) (.tmp 47) rfl rfl (opC 0 0 0 0 false 0 0 0 0 0 none 0 0) (opC 0 0 0 0 false 0 0 0 0 0 none 0 0) rfl (opC_one _ _ _ _ _ _ _ _ _ _ _ _ _) rfl rfl (b2) (szRo _ _ _ _ _ _ _ _ _ _ _ _ _) ?_; intro W4 h4 g4)
    refine bodyPost_agg2 Try.results9 rfl rfl h4.range v1 v2 (szRo _ _ _ _ _ _ _ _ _ _ _ _ _) rfl ?_
    exact RetPO.none_ (F := Value.bool) HP.out (below_grown be g4 (Nat.le_refl _))
  · replace hO := hO.grown g5g (fun k hk e => by have := (hO.blk k hk).1; injection e with e; omega)
    replace hR := hR.low (below_of_grown g5g (by omega) (fun k hk => by injection hk with hk; omega))
    have hml := mbS_len hE
    obtain ⟨Ab, nb, cb, hbk, hnb, hcb, -⟩ := hR
    have q1 : W5.cell? ⟨r, 1, none⟩ = some (.bool false) := hbk.cell 1
    have q0 : W5.cell? ⟨r, 0, none⟩ = some (.slice Ab nb cb) := hbk.cell 0
    clear h5 g5g HB5 HB6 HB7 hbk
    by_cases h0 : 0 < nb
    · have hpn : popS L = none := HP.out.trans (by
        rw [hE]
        cases lr with
        | nil => simp at hnb; omega
        | cons x t => rfl)
      replace HP := Lib.hid hpn
      have i9 : (0 : Int) < (nb : Int) := by omega
      clear hE hO hpn hnb
      go_wp2_with (refine at_op (.store 28 (.tmp 2) (.tmp 47)) rfl ?_; refine wpList_stA (t := 28) 28 (.tmp 2) (.tmp 47) rfl rfl (opC 0 0 0 0 false 0 0 0 0 0 none 0 0) (opC 0 0 0 0 false 0 0 0 0 0 none 0 0) rfl (opC_one _ _ _ _ _ _ _ _ _ _ _ _ _) rfl rfl (b2) (szRo _ _ _ _ _ _ _ _ _ _ _ _ _) ?_; intro W4 h4 g4)
      refine bodyPost_agg2 Try.results9 rfl rfl h4.range v1 v2 (szRo _ _ _ _ _ _ _ _ _ _ _ _ _) rfl ?_
      exact RetPO.none_ (F := Value.bool) HP.out (below_grown be g4 (Nat.le_refl _))
    · have hl0 : lr = [] := List.eq_nil_of_length_eq_zero (by omega)
      replace HP := Lib.hid (HP.out.trans (by rw [hE, hl0]; rfl) : popS L = some ⟨y0, y1, y2, y3, six, ah, al, y5, y6, y7, Lm⟩)
      have i9 : ¬ (0 : Int) < (nb : Int) := by omega
      clear hE hl0 hnb
      go_wp2_with (first
        | (refine at_op (.load 28 (.tmp 5)) rfl ?_; refine wpList_ldA (t := 28) 28 (.tmp 5) rfl rfl (opC y0 y1 y2 y3 six ah al y5 y6 y7 A2 n2 c2) rfl (b5) (whole_ _) v1 v2 (szRo _ _ _ _ _ _ _ _ _ _ _ _ _) ?_)
        | (refine at_op (.store 28 (.tmp 2) (.tmp 48)) rfl ?_; refine wpList_stA (t := 28) 28 (.tmp 2) (.tmp 48) rfl rfl (opC y0 y1 y2 y3 six ah al y5 y6 y7 A2 n2 c2) (opC 0 0 0 0 false 0 0 0 0 0 none 0 0) rfl (opC_one _ _ _ _ _ _ _ _ _ _ _ _ _) rfl rfl (b2) (szRo _ _ _ _ _ _ _ _ _ _ _ _ _) ?_; intro W4 h4 g4))
      refine bodyPost_agg2 Try.results9 rfl rfl h4.range v1 v2 (szRo _ _ _ _ _ _ _ _ _ _ _ _ _) rfl ?_
      have zO : w.heap.size < W5.heap.size := b2.lt
      have hO4 := hO.grown g4 (fun k hk e => by have := (hO.blk k hk).1; injection e with e; omega)
      obtain ⟨bs, d, e9⟩ := plus_of (below_grown be g4 (Nat.le_refl _))
      subst e9
      exact ⟨⟨y0, y1, y2, y3, six, ah, al, y5, y6, y7, Lm⟩, true, A2, n2, c2, bs, d, rfl, rfl, by refine ⟨?_, ?_, ?_, ?_, ha1, ha2, x5, x6, ?_, hml⟩ <;> (simp only []; omega), hO4.rs, .inl ⟨rfl, HP.out⟩⟩
end Go.Proofs.Ytepodflinhpejaa

/- Right, of both sides (chapter 23). -/
namespace Go.Proofs.Ytepodflinhpejaa
open Go.RowKit
set_option linter.unusedVariables false
set_option linter.unusedSimpArgs false
attribute [local go_sem ↓] sliced_cut

attribute [local go_sem] cutA_zero

def shB (n : Int) : Bool := decide (0 ≤ n) && decide (n < 256)
def adG (six : Bool) (h l : Nat) : Bool := six || (decide (h = 0) && decide (l < 4294967296))
theorem short_any (n : Int) (w : World) : Calls Try.prog 39 #[.int .i64 n] w fun e w' => e = .returned (.bool (shB n)) ∧ w = w' := by
  by_cases h0 : 0 ≤ n
  · by_cases h1 : n < 256
    · have d0 : decide (0 ≤ n) = true := by simpa using h0
      have d1 : decide (n ≤ 255) = true := by simp; omega
      have hz : Hid (shB n = true) := Lib.hid (by simp [shB]; omega)
      have k1 : n ≤ 255 := by omega
      go_enter Try.func39, Try.ntmps39
      go_wp2
      go_ret
      exact ⟨by rw [hz.out]; simp; try omega, rfl⟩
    · have d0 : decide (0 ≤ n) = true := by simpa using h0
      have d1 : decide (n ≤ 255) = false := by simp; omega
      have hz : Hid (shB n = false) := Lib.hid (by simp [shB]; omega)
      have k1 : ¬ n ≤ 255 := by omega
      go_enter Try.func39, Try.ntmps39
      go_wp2
      go_ret
      exact ⟨by rw [hz.out]; simp; try omega, rfl⟩
  · have d0 : decide (0 ≤ n) = false := by simpa using h0
    have hz : Hid (shB n = false) := Lib.hid (by simp [shB]; omega)
    go_enter Try.func39, Try.ntmps39
    go_wp2
    go_ret
    exact ⟨by rw [hz.out]; simp; try omega, rfl⟩
theorem small_any (n : Int) (w : World) : Calls Try.prog 41 #[.int .i64 n] w fun e w' => e = .returned (.bool (shB n)) ∧ w = w' := by
  by_cases h0 : 0 ≤ n
  · by_cases h1 : n < 256
    · have d0 : decide (0 ≤ n) = true := by simpa using h0
      have d1 : decide (n < 256) = true := by simp; omega
      have hz : Hid (shB n = true) := Lib.hid (by simp [shB]; omega)
      have k1 : n < 256 := by omega
      go_enter Try.func41, Try.ntmps41
      go_wp2
      go_ret
      exact ⟨by rw [hz.out]; simp; try omega, rfl⟩
    · have d0 : decide (0 ≤ n) = true := by simpa using h0
      have d1 : decide (n < 256) = false := by simp; omega
      have hz : Hid (shB n = false) := Lib.hid (by simp [shB]; omega)
      have k1 : ¬ n < 256 := by omega
      go_enter Try.func41, Try.ntmps41
      go_wp2
      go_ret
      exact ⟨by rw [hz.out]; simp; try omega, rfl⟩
  · have d0 : decide (0 ≤ n) = false := by simpa using h0
    have hz : Hid (shB n = false) := Lib.hid (by simp [shB]; omega)
    go_enter Try.func41, Try.ntmps41
    go_wp2
    go_ret
    exact ⟨by rw [hz.out]; simp; try omega, rfl⟩
set_option maxHeartbeats 4000000 in
set_option maxRecDepth 100000 in
theorem adrRightC (six : Bool) (h l : Nat) (w : World) (hl : l < 18446744073709551616) : Calls Try.prog 40 #[.agg (adC six h l).toArray] w (RetV w (.bool (adG six h l))) := by
  unfold adC
  cases six
  · by_cases h0 : h = 0
    · subst h0
      by_cases h1 : l < 4294967296
      · have t1 : decide (l < 4294967296) = true := by simp; omega
        have hz : Hid (adG false 0 l = true) := Lib.hid (by simp [adG]; omega)
        go_enter Try.func40, Try.ntmps40
        go_wp2
        go_ret
        exact RetV.is_ (by rw [hz.out]; simp; try omega) (Below.allocS (Below.refl _ _) _)
      · have t1 : decide (l < 4294967296) = false := by simp; omega
        have hz : Hid (adG false 0 l = false) := Lib.hid (by simp [adG]; omega)
        go_enter Try.func40, Try.ntmps40
        go_wp2
        go_ret
        exact RetV.is_ (by rw [hz.out]; simp; try omega) (Below.allocS (Below.refl _ _) _)
    · have e1 : ((h : Int) == 0) = false := by rw [beq_eq_false_iff_ne]; omega
      have hz : Hid (adG false h l = false) := Lib.hid (by simp [adG]; omega)
      clear h0
      go_enter Try.func40, Try.ntmps40
      go_wp2
      go_ret
      exact RetV.is_ (by rw [hz.out]; rfl) (Below.allocS (Below.refl _ _) _)
  · go_enter Try.func40, Try.ntmps40
    go_wp2
    go_ret
    exact RetV.is_ rfl (Below.allocS (Below.refl _ _) _)
set_option maxHeartbeats 4000000 in
set_option maxRecDepth 100000 in
theorem refAdrRightC (six : Bool) (h l : Nat) (w : World) (hl : l < 18446744073709551616) : Calls Try.prog 42 #[.agg (adC six h l).toArray] w (RetV w (.bool (adG six h l))) := by
  unfold adC
  cases six
  · by_cases h0 : h = 0
    · subst h0
      by_cases h1 : l < 4294967296
      · have t1 : decide (l ≤ 4294967295) = true := by simp; omega
        have hz : Hid (adG false 0 l = true) := Lib.hid (by simp [adG]; omega)
        go_enter Try.func42, Try.ntmps42
        go_wp2
        go_ret
        exact RetV.is_ (by rw [hz.out]; simp; try omega) (Below.allocS (Below.refl _ _) _)
      · have t1 : decide (l ≤ 4294967295) = false := by simp; omega
        have hz : Hid (adG false 0 l = false) := Lib.hid (by simp [adG]; omega)
        go_enter Try.func42, Try.ntmps42
        go_wp2
        go_ret
        exact RetV.is_ (by rw [hz.out]; simp; try omega) (Below.allocS (Below.refl _ _) _)
    · have e1 : ((h : Int) == 0) = false := by rw [beq_eq_false_iff_ne]; omega
      have hz : Hid (adG false h l = false) := Lib.hid (by simp [adG]; omega)
      clear h0
      go_enter Try.func42, Try.ntmps42
      go_wp2
      go_ret
      exact RetV.is_ (by rw [hz.out]; rfl) (Below.allocS (Below.refl _ _) _)
  · go_enter Try.func42, Try.ntmps42
    go_wp2
    go_ret
    exact RetV.is_ rfl (Below.allocS (Below.refl _ _) _)
def rightB (k v b e : Int) (six : Bool) (ah al : Nat) (wy : Int) (ms : List (Int × Int)) : Bool := (shB k && shB v && shB b && shB e && shB wy) && (adG six ah al && (decide (ms.length ≤ 64) && ms.all (fun p => shB p.1 && shB p.2)))
theorem rng_pr {w : World} {b off : Nat} {p : Int × Int} (h : w.cell? ⟨b, off, none⟩ = some (.int .i64 p.1) ∧ w.cell? ⟨b, off + 1, none⟩ = some (.int .i64 p.2)) : w.rangeAt b off [.int .i64 p.1, .int .i64 p.2] := by
  intro i u hu
  match i, hu with
  | 0, hu => simp at hu; subst hu; exact h.1
  | 1, hu => simp at hu; subst hu; exact h.2
  | i + 2, hu => simp at hu
set_option maxHeartbeats 4000000 in
set_option maxRecDepth 100000 in
theorem right_any (k v b e : Int) (six : Bool) (ah al pt pr : Nat) (wy : Int) (ms : List (Int × Int)) (A : Option Addr) (n c : Nat) (w : World) (ha : al < 18446744073709551616) (hr : Rs 2 w A n c (prs .i64 ms)) (hn : n ≤ 1000000) : Calls Try.prog 12 #[.agg (opC k v b e six ah al pt pr wy A n c).toArray] w (RetV w (.bool (rightB k v b e six ah al wy ms))) := by
  obtain ⟨da, a1, a2⟩ : ∃ d, Try.prog.underlying 24 = some d ∧ d.isRow = true := ⟨_, Try.underlying24, rfl⟩
  obtain ⟨dm, m1, m2⟩ : ∃ d, Try.prog.underlying 105 = some d ∧ d.isRow = true := ⟨_, Try.underlying105, rfl⟩
  have hml : ms.length = n := by have := hr.1; rw [prs_length] at this; omega
  have HAR := Lib.hid (fun w => adrRightC six ah al w ha)
  replace hr := hr.alloc (.cells (opC k v b e six ah al pt pr wy A n c).toArray 35)
  obtain ⟨dv1, v1, v2⟩ := rowOpC
  have b1 : Bk (w.alloc (.cells (opC k v b e six ah al pt pr wy A n c).toArray 35)) w.heap.size 35 (opC k v b e six ah al pt pr wy A n c) := Bk.new w 35 (opC k v b e six ah al pt pr wy A n c).toArray
  have be : Below w.heap.size w (w.alloc (.cells (opC k v b e six ah al pt pr wy A n c).toArray 35)) := Below.allocS (Below.refl _ _) _
  have zV : w.heap.size + 1 ≤ (w.alloc (.cells (opC k v b e six ah al pt pr wy A n c).toArray 35)).heap.size := by simp
  go_enter Try.func12, Try.ntmps12
  go_upto_region 1 with (fail)
  generalize w.alloc (.cells (opC k v b e six ah al pt pr wy A n c).toArray 35) = V at *
  have q0 : V.cell? ⟨w.heap.size, 0, none⟩ = some (.int .i64 k) := b1.cell 0
  have q1 : V.cell? ⟨w.heap.size, 1, none⟩ = some (.int .i64 v) := b1.cell 1
  have q2 : V.cell? ⟨w.heap.size, 2, none⟩ = some (.int .i64 b) := b1.cell 2
  have q3 : V.cell? ⟨w.heap.size, 3, none⟩ = some (.int .i64 e) := b1.cell 3
  have q9 : V.cell? ⟨w.heap.size, 9, none⟩ = some (.int .i64 wy) := b1.cell 9
  go_upto_region 2 with (fail)
  clear q0 q1 q2 q3 q9
  go_loop [18] (fun I => ∃ i : Nat, I = .int .i64 (i : Int) ∧ i ≤ 5 ∧ (1 ≤ i → shB k = true) ∧ (2 ≤ i → shB v = true) ∧ (3 ≤ i → shB b = true) ∧ (4 ≤ i → shB e = true) ∧ (5 ≤ i → shB wy = true)) (fun I => 5 - (intOf I).toNat)
  case atStart => exact ⟨0, rfl, by omega, fun h => by omega, fun h => by omega, fun h => by omega, fun h => by omega, fun h => by omega⟩
  case round =>
    obtain ⟨i, rfl, hi, hp⟩ := hrel
    rcases (by omega : i = 0 ∨ i = 1 ∨ i = 2 ∨ i = 3 ∨ i = 4 ∨ i = 5) with rfl | rfl | rfl | rfl | rfl | rfl
    · have hx := Lib.hid (short_any k)
      have hix : (Instr.index 107 (.agg #[.int .i64 k, .int .i64 v, .int .i64 b, .int .i64 e, .int .i64 wy]) (.int .i64 0)).run Try.prog V = .ok (.int .i64 k) V := by
        show _ = _
        kernel_rfl
      go_wp2_with fail
      refine (hx.out _).mono ?_
      rintro e1 w1 ⟨rfl, rfl⟩
      cases hb : shB k with
      | false =>
        have hno : Hid (rightB k v b e six ah al wy ms = false) := Lib.hid (by simp [rightB, hb])
        go_wp2
        go_ret
        exact RetV.is_ (by rw [hno.out]; rfl) be
      | true =>
        clear hx
        go_wp2
        go_round
        case rel => exact ⟨1, rfl, by omega, fun _ => hb, fun h => by omega, fun h => by omega, fun h => by omega, fun h => by omega⟩
        case measure => simp [intOf]
    · have hx := Lib.hid (short_any v)
      have hix : (Instr.index 107 (.agg #[.int .i64 k, .int .i64 v, .int .i64 b, .int .i64 e, .int .i64 wy]) (.int .i64 1)).run Try.prog V = .ok (.int .i64 v) V := by
        show _ = _
        kernel_rfl
      go_wp2_with fail
      refine (hx.out _).mono ?_
      rintro e1 w1 ⟨rfl, rfl⟩
      cases hb : shB v with
      | false =>
        have hno : Hid (rightB k v b e six ah al wy ms = false) := Lib.hid (by simp [rightB, hb])
        go_wp2
        go_ret
        exact RetV.is_ (by rw [hno.out]; rfl) be
      | true =>
        clear hx
        go_wp2
        go_round
        case rel => exact ⟨2, rfl, by omega, fun h => hp.1 (by omega), fun _ => hb, fun h => by omega, fun h => by omega, fun h => by omega⟩
        case measure => simp [intOf]
    · have hx := Lib.hid (short_any b)
      have hix : (Instr.index 107 (.agg #[.int .i64 k, .int .i64 v, .int .i64 b, .int .i64 e, .int .i64 wy]) (.int .i64 2)).run Try.prog V = .ok (.int .i64 b) V := by
        show _ = _
        kernel_rfl
      go_wp2_with fail
      refine (hx.out _).mono ?_
      rintro e1 w1 ⟨rfl, rfl⟩
      cases hb : shB b with
      | false =>
        have hno : Hid (rightB k v b e six ah al wy ms = false) := Lib.hid (by simp [rightB, hb])
        go_wp2
        go_ret
        exact RetV.is_ (by rw [hno.out]; rfl) be
      | true =>
        clear hx
        go_wp2
        go_round
        case rel => exact ⟨3, rfl, by omega, fun h => hp.1 (by omega), fun h => hp.2.1 (by omega), fun _ => hb, fun h => by omega, fun h => by omega⟩
        case measure => simp [intOf]
    · have hx := Lib.hid (short_any e)
      have hix : (Instr.index 107 (.agg #[.int .i64 k, .int .i64 v, .int .i64 b, .int .i64 e, .int .i64 wy]) (.int .i64 3)).run Try.prog V = .ok (.int .i64 e) V := by
        show _ = _
        kernel_rfl
      go_wp2_with fail
      refine (hx.out _).mono ?_
      rintro e1 w1 ⟨rfl, rfl⟩
      cases hb : shB e with
      | false =>
        have hno : Hid (rightB k v b e six ah al wy ms = false) := Lib.hid (by simp [rightB, hb])
        go_wp2
        go_ret
        exact RetV.is_ (by rw [hno.out]; rfl) be
      | true =>
        clear hx
        go_wp2
        go_round
        case rel => exact ⟨4, rfl, by omega, fun h => hp.1 (by omega), fun h => hp.2.1 (by omega), fun h => hp.2.2.1 (by omega), fun _ => hb, fun h => by omega⟩
        case measure => simp [intOf]
    · have hx := Lib.hid (short_any wy)
      have hix : (Instr.index 107 (.agg #[.int .i64 k, .int .i64 v, .int .i64 b, .int .i64 e, .int .i64 wy]) (.int .i64 4)).run Try.prog V = .ok (.int .i64 wy) V := by
        show _ = _
        kernel_rfl
      go_wp2_with fail
      refine (hx.out _).mono ?_
      rintro e1 w1 ⟨rfl, rfl⟩
      cases hb : shB wy with
      | false =>
        have hno : Hid (rightB k v b e six ah al wy ms = false) := Lib.hid (by simp [rightB, hb])
        go_wp2
        go_ret
        exact RetV.is_ (by rw [hno.out]; rfl) be
      | true =>
        clear hx
        go_wp2
        go_round
        case rel => exact ⟨5, rfl, by omega, fun h => hp.1 (by omega), fun h => hp.2.1 (by omega), fun h => hp.2.2.1 (by omega), fun h => hp.2.2.2.1 (by omega), fun _ => hb⟩
        case measure => simp [intOf]
    · have HK : Hid (shB k = true ∧ shB v = true ∧ shB b = true ∧ shB e = true ∧ shB wy = true) := Lib.hid ⟨hp.1 (by omega), hp.2.1 (by omega), hp.2.2.1 (by omega), hp.2.2.2.1 (by omega), hp.2.2.2.2 (by omega)⟩
      clear hp hi
      go_wp2_with (refine at_op (.load 24 (.tmp 25)) rfl ?_; refine wpList_ldA (t := 35) (off := 4) 24 (.tmp 25) rfl rfl (adC six ah al) rfl b1 rfl a1 a2 (szAd _ _ _) ?_)
      refine (HAR.out _).mono ?_
      rintro e1 w1 ⟨bs1, d1, rfl, rfl⟩
      replace b1 := b1.later (below_plus V bs1 d1)
      replace hr := hr.later (below_plus V bs1 d1)
      replace be := belowP be bs1 d1
      have q10 : (plus V bs1 d1).cell? ⟨w.heap.size, 10, none⟩ = some (.slice A n c) := b1.cell 10
      clear HAR
      generalize plus V bs1 d1 = V2 at *
      cases had : adG six ah al with
      | false =>
        have hno : Hid (rightB k v b e six ah al wy ms = false) := Lib.hid (by simp [rightB, had])
        go_wp2
        go_ret
        exact RetV.is_ (by rw [hno.out]; rfl) be
      | true =>
        by_cases h64 : 64 < n
        · have i64 : (64 : Int) < (n : Int) := by omega
          have hml9 : ¬ ms.length ≤ 64 := by omega
          have hno : Hid (rightB k v b e six ah al wy ms = false) := Lib.hid (by simp [rightB, hml9])
          go_wp2
          go_ret
          exact RetV.is_ (by rw [hno.out]; rfl) be
        have i64 : ¬ (64 : Int) < (n : Int) := by omega
        go_upto_region 10 with (fail)
        have hB0 : Hid (Below w.heap.size w V2) := Lib.hid be
        clear be
        go_loopw [38] (fun I wr => ∃ i : Nat, I = .int .i64 (i : Int) ∧ i ≤ n ∧ Below V2.heap.size V2 wr ∧ (ms.take i).all (fun p => shB p.1 && shB p.2) = true) (fun I _ => n - (intOf I).toNat)
        case atStart => exact ⟨0, rfl, Nat.zero_le _, Below.refl _ _, rfl⟩
        case round =>
          obtain ⟨i, rfl, hi, hE, hall⟩ := hrel
          have be9 : Hid (Below w.heap.size w wr) := Lib.hid (hB0.out.trans (hE.mono hB0.out.size))
          by_cases hlt : i < n
          · have ii : (i : Int) < (n : Int) := by omega
            have hjL : i < ms.length := by omega
            obtain ⟨bl, ol, rfl, hbl, -⟩ := (hr.later hE).at_ (by omega) (by decide)
            have hg7 := rng_pr ((hr.later hE).range2 i hjL)
            have hsn : ms.take (i + 1) = ms.take i ++ [ms[i]] := by simp
            have hmem : ms[i] ∈ ms := List.getElem_mem hjL
            generalize ms[i] = p at *
            obtain ⟨x, y⟩ := p
            replace hsn := Lib.hid hsn
            have hx := Lib.hid (short_any x)
            have hy := Lib.hid (short_any y)
            have hbad : Hid (shB x = false ∨ shB y = false → rightB k v b e six ah al wy ms = false) := Lib.hid (fun h => by
              have : ms.all (fun p => shB p.1 && shB p.2) = false := by
                rw [List.all_eq_false]
                exact ⟨(x, y), hmem, by rcases h with h | h <;> simp [h]⟩
              simp [rightB, this])
            clear hmem
            go_upto_region 12 with (first
              | (refine at_op (.load 105 (.tmp 40)) rfl ?_; refine wpList_load_mid rfl 105 (.tmp 40) rfl bl (ol + i * 2) rfl [.int .i64 x, .int .i64 y] _ hg7 m1 m2 (by kernel_rfl) ?_)
              | (refine at_op (.store 105 (.tmp 6) (.tmp 41)) rfl ?_; refine wpList_stA (t := 105) 105 (.tmp 6) (.tmp 41) rfl rfl [.int .i64 x, .int .i64 y] [.int .i64 0, .int .i64 0] rfl (by simp [Value.oneCell']) rfl rfl (Bk.new _ _ _) (by kernel_rfl) ?_; intro W4 h4 g4))
            have be4 : Below wr.heap.size wr W4 := below_grown (Below.allocS (Below.refl _ _) _) g4 (Nat.le_refl _)
            have q0 : W4.cell? ⟨wr.heap.size, 0, none⟩ = some (.int .i64 x) := h4.cell 0
            have q1 : W4.cell? ⟨wr.heap.size, 1, none⟩ = some (.int .i64 y) := h4.cell 1
            have be10 : Hid (Below w.heap.size w W4) := Lib.hid (be9.out.trans (be4.mono be9.out.size))
            replace hE := hE.trans (be4.mono hE.size)
            clear be4 h4 g4
            generalize wr.heap.size = g6 at *
            go_wp2_with fail
            refine (hx.out _).mono ?_
            rintro e1 w1 ⟨rfl, rfl⟩
            cases hbx : shB x with
            | false =>
              have hno : Hid (rightB k v b e six ah al wy ms = false) := Lib.hid (hbad.out (.inl hbx))
              clear hbad
              go_wp2
              go_ret
              exact RetV.is_ (by rw [hno.out]; rfl) be10.out
            | true =>
              go_wp2_with fail
              refine (hy.out _).mono ?_
              rintro e1 w1 ⟨rfl, rfl⟩
              cases hby : shB y with
              | false =>
                have hno : Hid (rightB k v b e six ah al wy ms = false) := Lib.hid (hbad.out (.inr hby))
                clear hbad
                go_wp2
                go_ret
                exact RetV.is_ (by rw [hno.out]; rfl) be10.out
              | true =>
                clear hbad
                go_wp2
                exact ⟨⟨i + 1, by go_num, by omega, hE, by rw [hsn.out, List.all_append, hall]; simp [hbx, hby]⟩, by simp [intOf]; omega⟩
          · obtain rfl : i = n := by omega
            have ii : ¬ (i : Int) < (i : Int) := by omega
            have hyes : Hid (rightB k v b e six ah al wy ms = true) := Lib.hid (by
              have h1 := HK.out
              have : ms.all (fun p => shB p.1 && shB p.2) = true := by rw [← hall, List.take_of_length_le (by omega)]
              simp [rightB, h1, had, this]
              omega)
            go_wp2
            go_ret
            exact RetV.is_ (by rw [hyes.out]; rfl) be9.out
end Go.Proofs.Ytepodflinhpejaa

/- The reference's Right (chapter 23). -/
namespace Go.Proofs.Ytepodflinhpejaa
open Go.RowKit
set_option linter.unusedVariables false
set_option linter.unusedSimpArgs false
attribute [local go_sem ↓] sliced_cut

attribute [local go_sem] cutA_zero

set_option maxHeartbeats 4000000 in
set_option maxRecDepth 100000 in
theorem refRight_any (k v b e : Int) (six : Bool) (ah al pt pr : Nat) (wy : Int) (ms : List (Int × Int)) (A : Option Addr) (n c : Nat) (w : World) (ha : al < 18446744073709551616) (hr : Rs 2 w A n c (prs .i64 ms)) (hn : n ≤ 1000000) : Calls Try.prog 13 #[.agg (opC k v b e six ah al pt pr wy A n c).toArray] w (RetV w (.bool (rightB k v b e six ah al wy ms))) := by
  obtain ⟨da, a1, a2⟩ : ∃ d, Try.prog.underlying 24 = some d ∧ d.isRow = true := ⟨_, Try.underlying24, rfl⟩
  have hml : ms.length = n := by have := hr.1; rw [prs_length] at this; omega
  have HAR := Lib.hid (fun w => refAdrRightC six ah al w ha)
  replace hr := hr.alloc (.cells (opC k v b e six ah al pt pr wy A n c).toArray 28)
  obtain ⟨dv1, v1, v2⟩ := rowRo
  have b1 : Bk (w.alloc (.cells (opC k v b e six ah al pt pr wy A n c).toArray 28)) w.heap.size 28 (opC k v b e six ah al pt pr wy A n c) := Bk.new w 28 (opC k v b e six ah al pt pr wy A n c).toArray
  have be : Below w.heap.size w (w.alloc (.cells (opC k v b e six ah al pt pr wy A n c).toArray 28)) := Below.allocS (Below.refl _ _) _
  have zV : w.heap.size + 1 ≤ (w.alloc (.cells (opC k v b e six ah al pt pr wy A n c).toArray 28)).heap.size := by simp
  go_enter Try.func13, Try.ntmps13
  go_upto_region 1 with (fail)
  generalize w.alloc (.cells (opC k v b e six ah al pt pr wy A n c).toArray 28) = V at *
  have q0 : V.cell? ⟨w.heap.size, 0, none⟩ = some (.int .i64 k) := b1.cell 0
  have q1 : V.cell? ⟨w.heap.size, 1, none⟩ = some (.int .i64 v) := b1.cell 1
  have q2 : V.cell? ⟨w.heap.size, 2, none⟩ = some (.int .i64 b) := b1.cell 2
  have q3 : V.cell? ⟨w.heap.size, 3, none⟩ = some (.int .i64 e) := b1.cell 3
  have q10' : V.cell? ⟨w.heap.size, 10, none⟩ = some (.slice A n c) := b1.cell 10
  have q9 : V.cell? ⟨w.heap.size, 9, none⟩ = some (.int .i64 wy) := b1.cell 9
  have q4 : V.cell? ⟨w.heap.size, 4, none⟩ = some (.bool six) := b1.cell 4
  have q5 : V.cell? ⟨w.heap.size, 5, none⟩ = some (.int .u64 (ah : Int)) := b1.cell 5
  have q6 : V.cell? ⟨w.heap.size, 6, none⟩ = some (.int .u64 (al : Int)) := b1.cell 6
  have hc0 := Lib.hid (small_any k)
  go_wp2_with fail
  refine (hc0.out _).mono ?_
  rintro e1 w1 ⟨rfl, rfl⟩
  clear hc0
  cases hk : shB k with
  | false =>
    have hno : Hid (rightB k v b e six ah al wy ms = false) := Lib.hid (by simp [rightB, hk])
    go_upto_region 3 with (fail)
    go_loop [3, 4] (fun O I => O = .bool false ∧ I = .int .i64 0) (fun _ _ => 0)
    case atStart => exact ⟨by first | rfl | (simp; omega), rfl⟩
    case round =>
      obtain ⟨rfl, rfl⟩ := hrel
      by_cases h0 : 0 < n
      · have i0 : (0 : Int) < (n : Int) := by omega
        go_wp2
        go_ret
        exact RetV.is_ (by rw [hno.out]; rfl) be
      · first
        | (exfalso; omega)
        | (have i0 : ¬ (0 : Int) < (n : Int) := by omega
           go_wp2
           go_ret
           exact RetV.is_ (by rw [hno.out]; rfl) be)
  | true =>
    have hc1 := Lib.hid (small_any v)
    go_wp2_with fail
    refine (hc1.out _).mono ?_
    rintro e1 w1 ⟨rfl, rfl⟩
    clear hc1
    cases hv : shB v with
    | false =>
      have hno : Hid (rightB k v b e six ah al wy ms = false) := Lib.hid (by simp [rightB, hv])
      go_upto_region 3 with (fail)
      go_loop [3, 4] (fun O I => O = .bool false ∧ I = .int .i64 0) (fun _ _ => 0)
      case atStart => exact ⟨by first | rfl | (simp; omega), rfl⟩
      case round =>
        obtain ⟨rfl, rfl⟩ := hrel
        by_cases h0 : 0 < n
        · have i0 : (0 : Int) < (n : Int) := by omega
          go_wp2
          go_ret
          exact RetV.is_ (by rw [hno.out]; rfl) be
        · first
          | (exfalso; omega)
          | (have i0 : ¬ (0 : Int) < (n : Int) := by omega
             go_wp2
             go_ret
             exact RetV.is_ (by rw [hno.out]; rfl) be)
    | true =>
      have hc2 := Lib.hid (small_any b)
      go_wp2_with fail
      refine (hc2.out _).mono ?_
      rintro e1 w1 ⟨rfl, rfl⟩
      clear hc2
      cases hb : shB b with
      | false =>
        have hno : Hid (rightB k v b e six ah al wy ms = false) := Lib.hid (by simp [rightB, hb])
        go_upto_region 3 with (fail)
        go_loop [3, 4] (fun O I => O = .bool false ∧ I = .int .i64 0) (fun _ _ => 0)
        case atStart => exact ⟨by first | rfl | (simp; omega), rfl⟩
        case round =>
          obtain ⟨rfl, rfl⟩ := hrel
          by_cases h0 : 0 < n
          · have i0 : (0 : Int) < (n : Int) := by omega
            go_wp2
            go_ret
            exact RetV.is_ (by rw [hno.out]; rfl) be
          · first
            | (exfalso; omega)
            | (have i0 : ¬ (0 : Int) < (n : Int) := by omega
               go_wp2
               go_ret
               exact RetV.is_ (by rw [hno.out]; rfl) be)
      | true =>
        have hc3 := Lib.hid (small_any e)
        go_wp2_with fail
        refine (hc3.out _).mono ?_
        rintro e1 w1 ⟨rfl, rfl⟩
        clear hc3
        cases he : shB e with
        | false =>
          have hno : Hid (rightB k v b e six ah al wy ms = false) := Lib.hid (by simp [rightB, he])
          go_upto_region 3 with (fail)
          go_loop [3, 4] (fun O I => O = .bool false ∧ I = .int .i64 0) (fun _ _ => 0)
          case atStart => exact ⟨by first | rfl | (simp; omega), rfl⟩
          case round =>
            obtain ⟨rfl, rfl⟩ := hrel
            by_cases h0 : 0 < n
            · have i0 : (0 : Int) < (n : Int) := by omega
              go_wp2
              go_ret
              exact RetV.is_ (by rw [hno.out]; rfl) be
            · first
              | (exfalso; omega)
              | (have i0 : ¬ (0 : Int) < (n : Int) := by omega
                 go_wp2
                 go_ret
                 exact RetV.is_ (by rw [hno.out]; rfl) be)
        | true =>
          have hc4 := Lib.hid (small_any wy)
          go_wp2_with fail
          refine (hc4.out _).mono ?_
          rintro e1 w1 ⟨rfl, rfl⟩
          clear hc4
          cases hw : shB wy with
          | false =>
            have hno : Hid (rightB k v b e six ah al wy ms = false) := Lib.hid (by simp [rightB, hw])
            go_upto_region 3 with (fail)
            go_loop [3, 4] (fun O I => O = .bool false ∧ I = .int .i64 0) (fun _ _ => 0)
            case atStart => exact ⟨by first | rfl | (simp; omega), rfl⟩
            case round =>
              obtain ⟨rfl, rfl⟩ := hrel
              by_cases h0 : 0 < n
              · have i0 : (0 : Int) < (n : Int) := by omega
                go_wp2
                go_ret
                exact RetV.is_ (by rw [hno.out]; rfl) be
              · first
                | (exfalso; omega)
                | (have i0 : ¬ (0 : Int) < (n : Int) := by omega
                   go_wp2
                   go_ret
                   exact RetV.is_ (by rw [hno.out]; rfl) be)
          | true =>
            go_wp2_with fail
            refine (HAR.out _).mono ?_
            rintro e1 w1 ⟨bs1, d1, rfl, rfl⟩
            replace b1 := b1.later (below_plus V bs1 d1)
            replace hr := hr.later (below_plus V bs1 d1)
            replace be := belowP be bs1 d1
            have q10 : (plus V bs1 d1).cell? ⟨w.heap.size, 10, none⟩ = some (.slice A n c) := b1.cell 10
            clear HAR q10' q4 q5 q6 q0 q1 q2 q3 q9
            generalize plus V bs1 d1 = V2 at *
            cases had : adG six ah al with
            | false =>
              have hno : Hid (rightB k v b e six ah al wy ms = false) := Lib.hid (by simp [rightB, had])
              go_upto_region 3 with (fail)
              go_loop [3, 4] (fun O I => O = .bool false ∧ I = .int .i64 0) (fun _ _ => 0)
              case atStart => exact ⟨by first | rfl | (simp; omega), rfl⟩
              case round =>
                obtain ⟨rfl, rfl⟩ := hrel
                by_cases h0 : 0 < n
                · have i0 : (0 : Int) < (n : Int) := by omega
                  go_wp2
                  go_ret
                  exact RetV.is_ (by rw [hno.out]; rfl) be
                · first
                  | (exfalso; omega)
                  | (have i0 : ¬ (0 : Int) < (n : Int) := by omega
                     go_wp2
                     go_ret
                     exact RetV.is_ (by rw [hno.out]; rfl) be)
            | true =>
              by_cases h64 : n ≤ 64
              · have i64 : (n : Int) ≤ 64 := by omega
                have HY : Hid (rightB k v b e six ah al wy ms = ms.all (fun p => shB p.1 && shB p.2)) := Lib.hid (by simp [rightB, hk, hv, hb, he, hw, had]; omega)
                clear hk hv hb he hw had
                go_upto_region 3 with (fail)
                go_loop [3, 4] (fun O I => ∃ (i : Nat) (ok : Bool), I = .int .i64 (i : Int) ∧ O = .bool ok ∧ i ≤ n ∧ (ms.take i).all (fun p => shB p.1 && shB p.2) = ok) (fun _ I => n - (intOf I).toNat)
                case atStart => exact ⟨0, true, rfl, rfl, Nat.zero_le _, rfl⟩
                case round =>
                  obtain ⟨i, ok, rfl, rfl, hi, hall⟩ := hrel
                  by_cases hlt : i < n
                  · have ii : (i : Int) < (n : Int) := by omega
                    have hjL : i < ms.length := by omega
                    cases ok with
                    | false =>
                      have hno : Hid (rightB k v b e six ah al wy ms = false) := Lib.hid (by
                        rw [HY.out, List.all_eq_false]
                        rw [List.all_eq_false] at hall
                        obtain ⟨x, h1, h2⟩ := hall
                        exact ⟨x, List.mem_of_mem_take h1, h2⟩)
                      go_wp2
                      go_ret
                      exact RetV.is_ (by rw [hno.out]; rfl) be
                    | true =>
                      obtain ⟨bl, ol, rfl, hbl, -⟩ := hr.at_ (by omega) (by decide)
                      obtain ⟨c0, c1⟩ := hr.range2 i hjL
                      have hsn : ms.take (i + 1) = ms.take i ++ [ms[i]] := by simp
                      generalize ms[i] = p at *
                      obtain ⟨x, y⟩ := p
                      replace hsn := Lib.hid hsn
                      replace hall := Lib.hid hall
                      have hx := Lib.hid (small_any x)
                      have hy := Lib.hid (small_any y)
                      simp only [] at c0 c1
                      go_wp2_with fail
                      refine (hx.out _).mono ?_
                      rintro e1 w1 ⟨rfl, rfl⟩
                      cases hbx : shB x with
                      | false =>
                        clear hx hy
                        go_wp2
                        go_round
                        case rel => exact ⟨i + 1, false, by go_num, rfl, by omega, by rw [hsn.out, List.all_append]; simp [hbx]⟩
                        case measure => simp [intOf]; omega
                      | true =>
                        go_wp2_with fail
                        refine (hy.out _).mono ?_
                        rintro e1 w1 ⟨rfl, rfl⟩
                        clear hx hy
                        go_wp2
                        go_round
                        case rel => exact ⟨i + 1, shB y, by go_num, rfl, by omega, by rw [hsn.out, List.all_append, hall.out]; simp [hbx]⟩
                        case measure => simp [intOf]; omega
                  · obtain rfl : i = n := by omega
                    have ii : ¬ (i : Int) < (i : Int) := by omega
                    have hyes : Hid (rightB k v b e six ah al wy ms = ok) := Lib.hid (by rw [HY.out, ← hall, List.take_of_length_le (by omega)])
                    go_wp2
                    go_ret
                    exact RetV.is_ (by rw [hyes.out]; rfl) be
              · have i64 : ¬ (n : Int) ≤ 64 := by omega
                have hml9 : ¬ ms.length ≤ 64 := by omega
                have hno : Hid (rightB k v b e six ah al wy ms = false) := Lib.hid (by simp [rightB, hml9])
                go_upto_region 3 with (fail)
                go_loop [3, 4] (fun O I => O = .bool false ∧ I = .int .i64 0) (fun _ _ => 0)
                case atStart => exact ⟨by first | rfl | (simp; omega), rfl⟩
                case round =>
                  obtain ⟨rfl, rfl⟩ := hrel
                  by_cases h0 : 0 < n
                  · have i0 : (0 : Int) < (n : Int) := by omega
                    go_wp2
                    go_ret
                    exact RetV.is_ (by rw [hno.out]; rfl) be
                  · first
                    | (exfalso; omega)
                    | (have i0 : ¬ (0 : Int) < (n : Int) := by omega
                       go_wp2
                       go_ret
                       exact RetV.is_ (by rw [hno.out]; rfl) be)
end Go.Proofs.Ytepodflinhpejaa

/- codec.address, the reference's place (chapter 23). -/
namespace Go.Proofs.Ytepodflinhpejaa
open Go.RowKit
set_option linter.unusedVariables false
set_option linter.unusedSimpArgs false
attribute [local go_sem ↓] sliced_cut

attribute [local go_sem] cutA_zero

def sizeA (six : Bool) : Nat := if six then 16 else 4
/-- an address behind its size -/
def placeB (six : Bool) (ah al : Nat) : List UInt8 := dig (sizeA six) 1 ++ adrB six ah al
def RetRb (w : World) (l : List UInt8) (e : Ending) (w' : World) : Prop := ∃ A n c bs d, e = .returned (.slice A n c) ∧ w' = plus w bs d ∧ Rb (plus w bs d) A n c l
theorem RetRb.mk {w w' : World} {l : List UInt8} {A : Option Addr} {n c : Nat} (ho : Rb w' A n c l) (hb : Below w.heap.size w w') : RetRb w l (.returned (.slice A n c)) w' := by
  obtain ⟨bs, d, rfl⟩ := plus_of hb
  exact ⟨A, n, c, bs, d, rfl, rfl, ho⟩
set_option maxHeartbeats 4000000 in
set_option maxRecDepth 100000 in
theorem addrSize_any (six : Bool) (ah al : Nat) (w : World) : Calls Try.prog 80 #[.agg (adC six ah al).toArray] w (RetV w (.int .i64 (sizeA six : Nat))) := by
  cases six
  · have b1 : Bk (w.alloc (.cells (adC false ah al).toArray 24)) w.heap.size 24 (adC false ah al) := Bk.new w 24 _
    have q0 : (w.alloc (.cells (adC false ah al).toArray 24)).cell? ⟨w.heap.size, 0, none⟩ = some (.bool false) := b1.cell 0
    go_enter Try.func80, Try.ntmps80
    go_wp2
    go_ret
    exact RetV.is_ rfl (Below.allocS (Below.refl _ _) _)
  · have b1 : Bk (w.alloc (.cells (adC true ah al).toArray 24)) w.heap.size 24 (adC true ah al) := Bk.new w 24 _
    have q0 : (w.alloc (.cells (adC true ah al).toArray 24)).cell? ⟨w.heap.size, 0, none⟩ = some (.bool true) := b1.cell 0
    go_enter Try.func80, Try.ntmps80
    go_wp2
    go_ret
    exact RetV.is_ rfl (Below.allocS (Below.refl _ _) _)
set_option maxHeartbeats 4000000 in
set_option maxRecDepth 100000 in
theorem address_any (six : Bool) (ah al : Nat) (w : World) (h1 : ah < 18446744073709551616) (h2 : al < 18446744073709551616) : Calls Try.prog 44 #[.agg (adC six ah al).toArray] w (RetRb w (placeB six ah al)) := by
  obtain ⟨da, a1, a2⟩ : ∃ d, Try.prog.underlying 24 = some d ∧ d.isRow = true := ⟨_, Try.underlying24, rfl⟩
  obtain ⟨z, hz⟩ : ∃ z, sizeA six = z := ⟨_, rfl⟩
  have hzz : z ≤ 16 := by rw [← hz]; cases six <;> simp [sizeA]
  have HSZ := Lib.hid (fun w => addrSize_any six ah al w)
  have hwz : IntKind.u64.wrap (z : Int) = (z : Int) := IntWalk.u64_in _ (by omega)
  have HPU : Hid (∀ w, Calls Try.prog 43 #[.slice none 0 0, .int .u64 (z : Int), .int .i64 1] w (RetF w (dig z 1))) := Lib.hid (fun w => put_full none 0 0 [] z 1 w Rb.nil_ (by omega) (by omega) (by omega) (by omega))
  have HAB := Lib.hid (fun w => adrBytes_any six ah al w h1 h2)
  unfold placeB
  rw [hz] at HSZ ⊢
  clear hz
  have b1 : Bk (w.alloc (.cells (adC six ah al).toArray 24)) w.heap.size 24 (adC six ah al) := Bk.new w 24 (adC six ah al).toArray
  have be : Below w.heap.size w (w.alloc (.cells (adC six ah al).toArray 24)) := Below.allocS (Below.refl _ _) _
  have zV : w.heap.size + 1 ≤ (w.alloc (.cells (adC six ah al).toArray 24)).heap.size := by simp
  go_enter Try.func44, Try.ntmps44
  go_upto_region 1 with (fail)
  generalize w.alloc (.cells (adC six ah al).toArray 24) = V at *
  have zV1 := b1.lt
  go_wp2
  refine wp_relS 8 10 rfl (by kernel_rfl) (by kernel_rfl) ?_
  apply Steps.one (MP.eq _) 1 rfl
  · intro o ho FA x hO hD K hK
    obtain rfl := Option.some.inj ho.symm
    clear ho
    have e1 := hO 1 (by kernel_rfl)
    simp only [eval_tmp, List.getElem?_toArray, List.getElem?_cons_succ, List.getElem?_cons_zero, Option.getD_some] at e1
    have ev1 := Lib.hid ((eval_tmp FA 1).trans e1)
    clear hO hD
    refine wanted_if rfl ?_
    refine wp_ldA 24 (.tmp 1) rfl (adC six ah al) ev1.out (b1.later (below_plus _ _ _)) (whole_ _) a1 a2 (szAd _ _ _) ?_
    exact hK.out _ _ (Ex.refl _) rfl
  apply Steps.one (MP.eq _) 2 rfl
  · intro o ho FA x hO hD K hK
    obtain rfl := Option.some.inj ho.symm
    clear ho
    have ev3 : FA.eval (.tmp 3) = _ := hD 0 3 (by kernel_rfl)
    have e3 := (eval_tmp FA 3).symm.trans ev3
    replace ev3 := Lib.hid ev3
    clear hO hD
    go_simp
    refine (HSZ.out _).mono ?_
    rintro e w1 ⟨bs2, d2, rfl, rfl⟩
    exact hK.out _ _ (Ex.plus_ _ _ _) rfl
  apply Steps.one (MP.eq _) 3 rfl
  · intro o ho FA x hO hD K hK
    obtain rfl := Option.some.inj ho.symm
    clear ho
    have ev4 : FA.eval (.tmp 4) = _ := hD 1 4 (by kernel_rfl)
    have e4 := (eval_tmp FA 4).symm.trans ev4
    replace ev4 := Lib.hid ev4
    clear hO hD
    go_simp
    exact hK.out _ _ (Ex.refl _) rfl
  apply Steps.one (MP.of V.heap.size (dig z 1)) 4 rfl
  · intro o ho FA x hO hD K hK
    obtain rfl := Option.some.inj ho.symm
    clear ho
    have ev5 : FA.eval (.tmp 5) = _ := hD 2 5 (by kernel_rfl)
    have e5 := (eval_tmp FA 5).symm.trans ev5
    replace ev5 := Lib.hid ev5
    clear hO hD
    go_simp
    refine (HPU.out _).mono ?_
    rintro e w1 ⟨A2, n2, bs2, d2, rfl, rfl, ho2⟩
    exact hK.out _ _ (Ex.plus_ _ _ _) ⟨_, _, rfl, ho2.mono (by simp [size_plus])⟩
  apply Steps.one (MP.eq _) 5 rfl
  · intro o ho FA x hO hD K hK
    obtain rfl := Option.some.inj ho.symm
    clear ho
    have e1 := hO 1 (by kernel_rfl)
    simp only [eval_tmp, List.getElem?_toArray, List.getElem?_cons_succ, List.getElem?_cons_zero, Option.getD_some] at e1
    have ev1 := Lib.hid ((eval_tmp FA 1).trans e1)
    clear hO hD
    refine wanted_if rfl ?_
    refine wp_ldA 24 (.tmp 1) rfl (adC six ah al) ev1.out (b1.later (below_plus _ _ _)) (whole_ _) a1 a2 (szAd _ _ _) ?_
    exact hK.out _ _ (Ex.refl _) rfl
  apply Steps.one (MP.rb (adrB six ah al)) 6 rfl
  · intro o ho FA x hO hD K hK
    obtain rfl := Option.some.inj ho.symm
    clear ho
    have ev7 : FA.eval (.tmp 7) = _ := hD 4 7 (by kernel_rfl)
    have e7 := (eval_tmp FA 7).symm.trans ev7
    replace ev7 := Lib.hid ev7
    clear hO hD
    go_simp
    refine (HAB.out _).mono ?_
    rintro e w1 ⟨A2, n2, bs2, d2, rfl, rfl, ho2⟩
    exact hK.out _ _ (Ex.plus_ _ _ _) ⟨_, _, _, rfl, ho2.rb⟩
  apply Steps.one (MP.rb (dig z 1 ++ adrB six ah al)) 7 rfl
  · intro o ho FA x hO hD K hK
    obtain rfl := Option.some.inj ho.symm
    clear ho
    have f6 := hD 3 6 (by kernel_rfl)
    generalize eu6 : FA.eval (.tmp 6) = u6 at f6
    have e6 := (eval_tmp FA 6).symm.trans eu6
    have ev6 := Lib.hid eu6
    clear eu6
    have f8 := hD 5 8 (by kernel_rfl)
    generalize eu8 : FA.eval (.tmp 8) = u8 at f8
    have e8 := (eval_tmp FA 8).symm.trans eu8
    have ev8 := Lib.hid eu8
    clear eu8
    clear hO hD
    obtain ⟨A1, n1, rfl, hr1⟩ := f6
    obtain ⟨A2, n2, c2, rfl, hr2⟩ := f8
    have hn1 : n1 = 1 := by have := hr1.rb.1; simp [dig_length] at this; omega
    have hn2 : n2 ≤ 16 := by have := hr2.1; have := adrB_length six ah al; omega
    refine wanted_if rfl ?_
    refine rel_app bt (.tmp 6) (.tmp 8) rfl ev6.out hr1.rb ev8.out hr2 (by omega) ?_
    intro A3 n3 c3 w3 hex hr3
    exact hK.out _ _ hex ⟨_, _, _, rfl, hr3⟩
  apply Steps.one (MP.rb (dig z 1 ++ adrB six ah al)) 8 rfl
  · intro o ho FA x hO hD K hK
    obtain rfl := Option.some.inj ho.symm
    clear ho
    have f9 := hD 6 9 (by kernel_rfl)
    generalize eu9 : FA.eval (.tmp 9) = u9 at f9
    have e9 := (eval_tmp FA 9).symm.trans eu9
    have ev9 := Lib.hid eu9
    clear eu9
    clear hO hD
    go_simp
    exact hK.out _ _ (Ex.refl _) f9
  refine Steps.fin_ (fun vs x hp => ?_)
  have p0 : vs 0 = _ := hp 0 (by omega)
  have p1 : vs 1 = _ := hp 1 (by omega)
  have p2 : vs 2 = _ := hp 2 (by omega)
  have p3 := hp 3 (by omega)
  have p4 : vs 4 = _ := hp 4 (by omega)
  have p5 := hp 5 (by omega)
  have p6 := hp 6 (by omega)
  have p7 := hp 7 (by omega)
  clear hp
  simp only [List.take_succ_cons, List.take_zero, List.drop_succ_cons, List.drop_zero, putAll, Nat.zero_add, Nat.reduceAdd, Act.put, List.setIfInBounds_toArray, List.set_cons_zero, List.set_cons_succ, p0, p1, p2, p4]
  clear p0 p1 p2 p4
  generalize vs 3 = y3 at *
  generalize vs 5 = y5 at *
  generalize vs 6 = y6 at *
  generalize vs 7 = y7 at *
  clear vs
  go_wp2
  obtain ⟨A3, n3, c3, rfl, h3⟩ := p7
  go_ret
  exact RetRb.mk h3 (belowP be _ _)
theorem bcs_dig1 (z : Nat) (h : z < 256) : bcs (dig z 1) = [.int .u8 (z : Int)] := by
  simp [dig, bcs]
  omega
set_option maxHeartbeats 4000000 in
set_option maxRecDepth 100000 in
theorem place_any (six : Bool) (ah al : Nat) (w : World) (h1 : ah < 18446744073709551616) (h2 : al < 18446744073709551616) : Calls Try.prog 47 #[.agg (adC six ah al).toArray] w (RetRb w (placeB six ah al)) := by
  obtain ⟨da, a1, a2⟩ : ∃ d, Try.prog.underlying 24 = some d ∧ d.isRow = true := ⟨_, Try.underlying24, rfl⟩
  obtain ⟨z, hz⟩ : ∃ z, sizeA six = z := ⟨_, rfl⟩
  have hzz : z ≤ 16 := by rw [← hz]; cases six <;> simp [sizeA]
  have hlen : (adrB six ah al).length = z := by rw [← hz]; cases six <;> simp [sizeA, adrB, dig_length]
  have HAB := Lib.hid (fun w => refAdrBytes six ah al w h1 h2)
  unfold placeB
  rw [hz]
  clear hz
  generalize adrB six ah al = l at *
  have b1 : Bk (w.alloc (.cells (adC six ah al).toArray 24)) w.heap.size 24 (adC six ah al) := Bk.new w 24 (adC six ah al).toArray
  have be : Below w.heap.size w (w.alloc (.cells (adC six ah al).toArray 24)) := Below.allocS (Below.refl _ _) _
  have zV : w.heap.size + 1 ≤ (w.alloc (.cells (adC six ah al).toArray 24)).heap.size := by simp
  go_enter Try.func47, Try.ntmps47
  go_upto_region 1 with (fail)
  generalize w.alloc (.cells (adC six ah al).toArray 24) = V at *
  have zV1 := b1.lt
  go_upto_region 2 with (first
    | (refine at_op (.load 24 (.tmp 1)) rfl ?_; refine wpList_ldA (t := 24) 24 (.tmp 1) rfl rfl (adC six ah al) rfl (b1) (whole_ _) a1 a2 (szAd _ _ _) ?_)
    | (go_at_call 82; refine (HAB.out _).mono ?_; rintro e w1 ⟨A2, n2, c2, bs2, d2, rfl, rfl, ho2⟩))
  have hn2 : n2 = z := by have := ho2.rb.1; omega
  subst hn2
  replace be := belowP be bs2 d2
  have zbe := be.size
  replace ho2 := ho2.rb
  generalize plus V bs2 d2 = V2 at *
  have hw8 : IntKind.u8.wrap (n2 : Int) = (n2 : Int) := IntWalk.u8_in _ (by omega)
  have hlit : Ob (V2.alloc (.cells #[.int .u8 (n2 : Int)] 5)) w.heap.size (some ⟨V2.heap.size, 0, none⟩) 1 1 (dig n2 1) := Ob.of_bk (by rw [bcs_dig1 n2 (by omega)]; exact Bk.new _ _ _) zbe (by simp [dig_length]) (by simp [maxLen])
  go_wp2_with (at_builtin; refine wpList_app bt rfl (.tmp 9) (.tmp 10) rfl rfl hlit rfl (ho2.alloc _) (by omega) (by simp; omega) ?_; intro A3 n3 c3 w3 ho3 hb3 hg3)
  go_ret
  exact RetRb.mk ho3.rb (be.trans (((Below.refl V2.heap.size V2).alloc (Nat.le_refl _) _ |>.mono zbe).trans hb3))
end Go.Proofs.Ytepodflinhpejaa

/- members, of both sides (chapter 23). -/
namespace Go.Proofs.Ytepodflinhpejaa
open Go.RowKit
set_option linter.unusedVariables false
set_option linter.unusedSimpArgs false
attribute [local go_sem ↓] sliced_cut

attribute [local go_sem] cutA_zero

def pairsB (ms : List (Int × Int)) : List UInt8 := ms.flatMap fun p => [UInt8.ofNat p.1.toNat, UInt8.ofNat p.2.toNat]
/-- members behind their number -/
def membersB (ms : List (Int × Int)) : List UInt8 := dig ms.length 1 ++ pairsB ms
theorem pairsB_len : ∀ ms, (pairsB ms).length = 2 * ms.length
  | [] => rfl
  | p :: r => by have := pairsB_len r; simp [pairsB] at this ⊢; omega
set_option maxHeartbeats 4000000 in
set_option maxRecDepth 100000 in
theorem members_any (ms : List (Int × Int)) (A : Option Addr) (n c : Nat) (w : World) (hr : Rs 2 w A n c (prs .i64 ms)) (hn : n ≤ 64) (hg : ms.all (fun p => shB p.1 && shB p.2) = true) : Calls Try.prog 45 #[.slice A n c] w (RetRb w (membersB ms)) := by
  obtain ⟨dm, m1, m2⟩ : ∃ d, Try.prog.underlying 105 = some d ∧ d.isRow = true := ⟨_, Try.underlying105, rfl⟩
  have hml : ms.length = n := by have := hr.1; rw [prs_length] at this; omega
  have hwn : IntKind.u64.wrap (n : Int) = (n : Int) := IntWalk.u64_in _ (by omega)
  have HPU : Hid (∀ w, Calls Try.prog 43 #[.slice none 0 0, .int .u64 (n : Int), .int .i64 1] w (RetF w (dig n 1))) := Lib.hid (fun w => put_full none 0 0 [] n 1 w Rb.nil_ (by omega) (by omega) (by omega) (by omega))
  have hM : membersB ms = dig n 1 ++ pairsB ms := by unfold membersB; rw [hml]
  rw [hM]
  clear hM
  have hd1 : (dig n 1).length = 1 := dig_length _ _
  generalize dig n 1 = D at *
  go_enter Try.func45, Try.ntmps45
  go_wp2_with fail
  refine (HPU.out _).mono ?_
  rintro e w1 ⟨A2, n2, bs2, d2, rfl, rfl, ho⟩
  have hE0 := below_plus w bs2 d2
  generalize plus w bs2 d2 = V at *
  clear HPU hwn
  go_upto_region 3 with (fail)
  have hS0 := Lib.hid ho
  clear ho
  go_loopw [3, 12] (fun X I wr => ∃ i : Nat, ∃ B m d, I = .int .i64 (i : Int) ∧ i ≤ n ∧ X = .slice B m d ∧ Ob wr w.heap.size B m d (D ++ pairsB (ms.take i)) ∧ Below w.heap.size w wr) (fun _ I _ => n - (intOf I).toNat)
  case atStart => exact ⟨0, A2, n2, n2, rfl, Nat.zero_le _, rfl, by simpa [pairsB] using hS0.out, hE0⟩
  case round =>
    obtain ⟨i, B, m, d, rfl, hi, rfl, ho, hE⟩ := hrel
    have hmm : m ≤ 1 + 2 * i := by
      have := ho.rb.1
      rw [List.length_append, pairsB_len, hd1, List.length_take] at this
      omega
    by_cases hlt : i < n
    · have ii : (i : Int) < (n : Int) := by omega
      have hjL : i < ms.length := by omega
      obtain ⟨bl, ol, rfl, hbl, -⟩ := (hr.later hE).at_ (by omega) (by decide)
      have hg7 := rng_pr ((hr.later hE).range2 i hjL)
      have hsn : pairsB (ms.take (i + 1)) = pairsB (ms.take i) ++ [UInt8.ofNat ms[i].1.toNat, UInt8.ofNat ms[i].2.toNat] := by
        have e : ms.take (i + 1) = ms.take i ++ [ms[i]] := by simp
        rw [e]
        unfold pairsB
        rw [List.flatMap_append]
        rfl
      have hmem : shB ms[i].1 = true ∧ shB ms[i].2 = true := by
        have := List.all_eq_true.1 hg ms[i] (List.getElem_mem hjL)
        simpa using this
      generalize ms[i] = p at *
      obtain ⟨x, y⟩ := p
      replace hsn := Lib.hid hsn
      have hxb : 0 ≤ x ∧ x < 256 := by simpa [shB] using hmem.1
      have hyb : 0 ≤ y ∧ y < 256 := by simpa [shB] using hmem.2
      clear hmem
      have wx : IntKind.u8.wrap x = x := IntWalk.u8_in _ (by omega)
      have wy : IntKind.u8.wrap y = y := IntWalk.u8_in _ (by omega)
      go_upto_region 5 with (first
        | (refine at_op (.load 105 (.tmp 14)) rfl ?_; refine wpList_load_mid rfl 105 (.tmp 14) rfl bl (ol + i * 2) rfl [.int .i64 x, .int .i64 y] _ hg7 m1 m2 (by kernel_rfl) ?_)
        | (refine at_op (.store 105 (.tmp 5) (.tmp 15)) rfl ?_; refine wpList_stA (t := 105) 105 (.tmp 5) (.tmp 15) rfl rfl [.int .i64 x, .int .i64 y] [.int .i64 0, .int .i64 0] rfl (by simp [Value.oneCell']) rfl rfl (Bk.new _ _ _) (by kernel_rfl) ?_; intro W4 h4 g4))
      have be4 : Below wr.heap.size wr W4 := below_grown (Below.allocS (Below.refl _ _) _) g4 (Nat.le_refl _)
      have q0 : W4.cell? ⟨wr.heap.size, 0, none⟩ = some (.int .i64 x) := h4.cell 0
      have q1 : W4.cell? ⟨wr.heap.size, 1, none⟩ = some (.int .i64 y) := h4.cell 1
      replace ho := ho.later be4
      replace hE := hE.trans (be4.mono hE.size)
      clear be4 h4 g4
      generalize wr.heap.size = g6 at *
      have zE := hE.size
      go_wp2_with (at_builtin; refine wpList_app bt rfl (.tmp 16) (.tmp 23) rfl rfl (ho.alloc _) rfl (Rb.litW _ [UInt8.ofNat x.toNat, UInt8.ofNat y.toNat] rfl rfl (by decide) (by simp [bcs]; omega)) (by omega) (by simp; omega) ?_; intro A3 n3 c3 w3 ho3 hb3 hg3)
      exact ⟨⟨i + 1, A3, n3, c3, by go_num, by omega, rfl, by rw [hsn.out, ← List.append_assoc]; exact ho3, hE.trans (((Below.refl W4.heap.size W4).alloc (Nat.le_refl _) _ |>.mono zE).trans hb3)⟩, by simp [intOf]; omega⟩
    · obtain rfl : i = n := by omega
      have ii : ¬ (i : Int) < (i : Int) := by omega
      have ho9 : Ob wr w.heap.size B m d (D ++ pairsB ms) := by rw [List.take_of_length_le (by omega)] at ho; exact ho
      clear ho
      go_wp2
      go_ret
      exact RetRb.mk ho9.rb hE
end Go.Proofs.Ytepodflinhpejaa

/- The reference's members (chapter 23). -/
namespace Go.Proofs.Ytepodflinhpejaa
open Go.RowKit
set_option linter.unusedVariables false
set_option linter.unusedSimpArgs false
attribute [local go_sem ↓] sliced_cut

attribute [local go_sem] cutA_zero

set_option maxHeartbeats 4000000 in
set_option maxRecDepth 100000 in
theorem refMembers_any (ms : List (Int × Int)) (A : Option Addr) (n c : Nat) (w : World) (hr : Rs 2 w A n c (prs .i64 ms)) (hn : n ≤ 64) (hg : ms.all (fun p => shB p.1 && shB p.2) = true) : Calls Try.prog 49 #[.slice A n c] w (RetRb w (membersB ms)) := by
  have hml : ms.length = n := by have := hr.1; rw [prs_length] at this; omega
  have hwn : IntKind.u8.wrap (n : Int) = (n : Int) := IntWalk.u8_in _ (by omega)
  have hM : membersB ms = dig n 1 ++ pairsB ms := by unfold membersB; rw [hml]
  rw [hM]
  clear hM
  have hd1 : (dig n 1).length = 1 := dig_length _ _
  have hlit : Hid (Ob (w.alloc (.cells #[.int .u8 (n : Int)] 5)) w.heap.size (some ⟨w.heap.size, 0, none⟩) 1 1 (dig n 1)) := Lib.hid (Ob.of_bk (by rw [bcs_dig1 n (by omega)]; exact Bk.new _ _ _) (Nat.le_refl _) (by simp [dig_length]) (by simp [maxLen]))
  generalize dig n 1 = D at *
  have hE0 : Below w.heap.size w (w.alloc (.cells #[.int .u8 (n : Int)] 5)) := Below.allocS (Below.refl _ _) _
  go_enter Try.func49, Try.ntmps49
  go_upto_region 3 with (fail)
  go_loopw [3, 4] (fun X I wr => ∃ i : Nat, ∃ B m d, I = .int .i64 (i : Int) ∧ i ≤ n ∧ X = .slice B m d ∧ Ob wr w.heap.size B m d (D ++ pairsB (ms.take i)) ∧ Below w.heap.size w wr) (fun _ I _ => n - (intOf I).toNat)
  case atStart => exact ⟨0, _, 1, 1, rfl, Nat.zero_le _, rfl, by simpa [pairsB] using hlit.out, hE0⟩
  case round =>
    obtain ⟨i, B, m, d, rfl, hi, rfl, ho, hE⟩ := hrel
    have hmm : m ≤ 1 + 2 * i := by
      have := ho.rb.1
      rw [List.length_append, pairsB_len, hd1, List.length_take] at this
      omega
    by_cases hlt : i < n
    · have ii : (i : Int) < (n : Int) := by omega
      have hjL : i < ms.length := by omega
      obtain ⟨bl, ol, rfl, hbl, -⟩ := (hr.later hE).at_ (by omega) (by decide)
      have HC := Lib.hid (fun (W : World) (h : Below wr.heap.size wr W) => (hr.later (hE.trans (h.mono hE.size))).range2 i hjL)
      have hsn : pairsB (ms.take (i + 1)) = pairsB (ms.take i) ++ [UInt8.ofNat ms[i].1.toNat, UInt8.ofNat ms[i].2.toNat] := by
        have e : ms.take (i + 1) = ms.take i ++ [ms[i]] := by simp
        rw [e]
        unfold pairsB
        rw [List.flatMap_append]
        rfl
      have hmem : shB ms[i].1 = true ∧ shB ms[i].2 = true := by
        have := List.all_eq_true.1 hg ms[i] (List.getElem_mem hjL)
        simpa using this
      generalize ms[i] = p at *
      obtain ⟨px, py⟩ := p
      replace hsn := Lib.hid hsn
      have hxb : 0 ≤ px ∧ px < 256 := by simpa [shB] using hmem.1
      have hyb : 0 ≤ py ∧ py < 256 := by simpa [shB] using hmem.2
      clear hmem
      simp only [] at HC
      have wx : IntKind.u8.wrap px = px := IntWalk.u8_in _ (by omega)
      have wy : IntKind.u8.wrap py = py := IntWalk.u8_in _ (by omega)
      go_upto_region 5 with (fail)
      go_wp2
      refine wp_relS 14 31 rfl (by kernel_rfl) (by kernel_rfl) ?_
      apply Steps.one (MP.eq _) 1 rfl
      · intro o ho FA x hO hD K hK
        obtain rfl := Option.some.inj ho.symm
        clear ho
        have e3 := hO 3 (by kernel_rfl)
        simp only [eval_tmp, List.getElem?_toArray, List.getElem?_cons_succ, List.getElem?_cons_zero, Option.getD_some] at e3
        have ev3 := Lib.hid ((eval_tmp FA 3).trans e3)
        clear hO hD
        go_simp
        exact hK.out _ _ (Ex.refl _) rfl
      apply Steps.one (MP.eq _) 2 rfl
      · intro o ho FA x hO hD K hK
        obtain rfl := Option.some.inj ho.symm
        clear ho
        have e0 := hO 0 (by kernel_rfl)
        simp only [eval_tmp, List.getElem?_toArray, List.getElem?_cons_succ, List.getElem?_cons_zero, Option.getD_some] at e0
        have ev0 := Lib.hid ((eval_tmp FA 0).trans e0)
        clear hO hD
        go_simp
        exact hK.out _ _ (Ex.refl _) rfl
      apply Steps.one (MP.eq _) 3 rfl
      · intro o ho FA x hO hD K hK
        obtain rfl := Option.some.inj ho.symm
        clear ho
        have e4 := hO 4 (by kernel_rfl)
        simp only [eval_tmp, List.getElem?_toArray, List.getElem?_cons_succ, List.getElem?_cons_zero, Option.getD_some] at e4
        have ev4 := Lib.hid ((eval_tmp FA 4).trans e4)
        clear hO hD
        go_simp
        exact hK.out _ _ (Ex.refl _) rfl
      apply Steps.one (MP.eq _) 4 rfl
      · intro o ho FA x hO hD K hK
        obtain rfl := Option.some.inj ho.symm
        clear ho
        have ev16 : FA.eval (.tmp 16) = _ := hD 1 16 (by kernel_rfl)
        have e16 := (eval_tmp FA 16).symm.trans ev16
        replace ev16 := Lib.hid ev16
        have ev17 : FA.eval (.tmp 17) = _ := hD 2 17 (by kernel_rfl)
        have e17 := (eval_tmp FA 17).symm.trans ev17
        replace ev17 := Lib.hid ev17
        clear hO hD
        go_simp
        exact hK.out _ _ (Ex.refl _) rfl
      apply Steps.one (MP.eq _) 5 rfl
      · intro o ho FA x hO hD K hK
        obtain rfl := Option.some.inj ho.symm
        clear ho
        have ev18 : FA.eval (.tmp 18) = _ := hD 3 18 (by kernel_rfl)
        have e18 := (eval_tmp FA 18).symm.trans ev18
        replace ev18 := Lib.hid ev18
        clear hO hD
        go_simp
        exact hK.out _ _ (Ex.refl _) rfl
      apply Steps.one (MP.eq _) 6 rfl
      · intro o ho FA x hO hD K hK
        obtain rfl := Option.some.inj ho.symm
        clear ho
        have ev19 : FA.eval (.tmp 19) = _ := hD 4 19 (by kernel_rfl)
        have e19 := (eval_tmp FA 19).symm.trans ev19
        replace ev19 := Lib.hid ev19
        clear hO hD
        have q9 := (HC.out (plus wr x.bs x.d) (below_plus _ _ _)).1
        go_simp
        exact hK.out _ _ (Ex.refl _) rfl
      apply Steps.one (MP.eq _) 7 rfl
      · intro o ho FA x hO hD K hK
        obtain rfl := Option.some.inj ho.symm
        clear ho
        have ev20 : FA.eval (.tmp 20) = _ := hD 5 20 (by kernel_rfl)
        have e20 := (eval_tmp FA 20).symm.trans ev20
        replace ev20 := Lib.hid ev20
        clear hO hD
        go_simp
        exact hK.out _ _ (Ex.refl _) rfl
      apply Steps.one (MP.eq _) 8 rfl
      · intro o ho FA x hO hD K hK
        obtain rfl := Option.some.inj ho.symm
        clear ho
        have e0 := hO 0 (by kernel_rfl)
        simp only [eval_tmp, List.getElem?_toArray, List.getElem?_cons_succ, List.getElem?_cons_zero, Option.getD_some] at e0
        have ev0 := Lib.hid ((eval_tmp FA 0).trans e0)
        clear hO hD
        go_simp
        exact hK.out _ _ (Ex.refl _) rfl
      apply Steps.one (MP.eq _) 9 rfl
      · intro o ho FA x hO hD K hK
        obtain rfl := Option.some.inj ho.symm
        clear ho
        have e4 := hO 4 (by kernel_rfl)
        simp only [eval_tmp, List.getElem?_toArray, List.getElem?_cons_succ, List.getElem?_cons_zero, Option.getD_some] at e4
        have ev4 := Lib.hid ((eval_tmp FA 4).trans e4)
        clear hO hD
        go_simp
        exact hK.out _ _ (Ex.refl _) rfl
      apply Steps.one (MP.eq _) 10 rfl
      · intro o ho FA x hO hD K hK
        obtain rfl := Option.some.inj ho.symm
        clear ho
        have ev22 : FA.eval (.tmp 22) = _ := hD 7 22 (by kernel_rfl)
        have e22 := (eval_tmp FA 22).symm.trans ev22
        replace ev22 := Lib.hid ev22
        have ev23 : FA.eval (.tmp 23) = _ := hD 8 23 (by kernel_rfl)
        have e23 := (eval_tmp FA 23).symm.trans ev23
        replace ev23 := Lib.hid ev23
        clear hO hD
        go_simp
        exact hK.out _ _ (Ex.refl _) rfl
      apply Steps.one (MP.eq _) 11 rfl
      · intro o ho FA x hO hD K hK
        obtain rfl := Option.some.inj ho.symm
        clear ho
        have ev24 : FA.eval (.tmp 24) = _ := hD 9 24 (by kernel_rfl)
        have e24 := (eval_tmp FA 24).symm.trans ev24
        replace ev24 := Lib.hid ev24
        clear hO hD
        go_simp
        exact hK.out _ _ (Ex.refl _) rfl
      apply Steps.one (MP.eq _) 12 rfl
      · intro o ho FA x hO hD K hK
        obtain rfl := Option.some.inj ho.symm
        clear ho
        have ev25 : FA.eval (.tmp 25) = _ := hD 10 25 (by kernel_rfl)
        have e25 := (eval_tmp FA 25).symm.trans ev25
        replace ev25 := Lib.hid ev25
        clear hO hD
        have q9 := (HC.out (plus wr x.bs x.d) (below_plus _ _ _)).2
        go_simp
        exact hK.out _ _ (Ex.refl _) rfl
      apply Steps.one (MP.eq _) 13 rfl
      · intro o ho FA x hO hD K hK
        obtain rfl := Option.some.inj ho.symm
        clear ho
        have ev26 : FA.eval (.tmp 26) = _ := hD 11 26 (by kernel_rfl)
        have e26 := (eval_tmp FA 26).symm.trans ev26
        replace ev26 := Lib.hid ev26
        clear hO hD
        go_simp
        exact hK.out _ _ (Ex.refl _) rfl
      apply Steps.one (MP.rb [UInt8.ofNat px.toNat, UInt8.ofNat py.toNat]) 14 rfl
      · intro o ho FA x hO hD K hK
        obtain rfl := Option.some.inj ho.symm
        clear ho
        have ev21 : FA.eval (.tmp 21) = _ := hD 6 21 (by kernel_rfl)
        have e21 := (eval_tmp FA 21).symm.trans ev21
        replace ev21 := Lib.hid ev21
        have ev27 : FA.eval (.tmp 27) = _ := hD 12 27 (by kernel_rfl)
        have e27 := (eval_tmp FA 27).symm.trans ev27
        replace ev27 := Lib.hid ev27
        clear hO hD
        go_simp
        refine hK.out _ _ (Ex.alloc _ _) ⟨_, _, _, rfl, ?_⟩
        exact Rb.litW _ [UInt8.ofNat px.toNat, UInt8.ofNat py.toNat] (by simp [size_plus]) rfl (by decide) (by simp [bcs]; omega)
      refine Steps.fin_ (fun vs x hp => ?_)
      have p0 : vs 0 = _ := hp 0 (by omega)
      have p1 : vs 1 = _ := hp 1 (by omega)
      have p2 : vs 2 = _ := hp 2 (by omega)
      have p3 : vs 3 = _ := hp 3 (by omega)
      have p4 : vs 4 = _ := hp 4 (by omega)
      have p5 : vs 5 = _ := hp 5 (by omega)
      have p6 : vs 6 = _ := hp 6 (by omega)
      have p7 : vs 7 = _ := hp 7 (by omega)
      have p8 : vs 8 = _ := hp 8 (by omega)
      have p9 : vs 9 = _ := hp 9 (by omega)
      have p10 : vs 10 = _ := hp 10 (by omega)
      have p11 : vs 11 = _ := hp 11 (by omega)
      have p12 : vs 12 = _ := hp 12 (by omega)
      have p13 := hp 13 (by omega)
      clear hp
      simp only [List.take_succ_cons, List.take_zero, List.drop_succ_cons, List.drop_zero, putAll, Nat.zero_add, Nat.reduceAdd, Act.put, List.setIfInBounds_toArray, List.set_cons_zero, List.set_cons_succ, p0, p1, p2, p3, p4, p5, p6, p7, p8, p9, p10, p11, p12]
      clear p0 p1 p2 p3 p4 p5 p6 p7 p8 p9 p10 p11 p12
      generalize vs 13 = y13 at *
      clear vs
      obtain ⟨A8, n8, c8, rfl, h8⟩ := p13
      have hn8 : n8 ≤ 2 := by have := h8.1; simp at this; omega
      have b4 := below_plus wr x.bs x.d
      replace ho := ho.later b4
      replace hE := hE.trans (b4.mono hE.size)
      clear b4 HC
      have zE := hE.size
      generalize plus wr x.bs x.d = W4 at *
      go_wp2_with (at_builtin; refine wpList_app bt rfl (.tmp 15) (.tmp 28) rfl rfl ho rfl h8 (by omega) zE ?_; intro A3 n3 c3 w3 ho3 hb3 hg3)
      exact ⟨⟨i + 1, A3, n3, c3, by go_num, by omega, rfl, by rw [hsn.out, ← List.append_assoc]; exact ho3, hE.trans hb3⟩, by simp [intOf]; omega⟩
    · obtain rfl : i = n := by omega
      have ii : ¬ (i : Int) < (i : Int) := by omega
      have ho9 : Ob wr w.heap.size B m d (D ++ pairsB ms) := by rw [List.take_of_length_le (by omega)] at ho; exact ho
      clear ho
      go_wp2
      go_ret
      exact RetRb.mk ho9.rb hE
end Go.Proofs.Ytepodflinhpejaa

/- codec.Op (chapter 23). -/
namespace Go.Proofs.Ytepodflinhpejaa
open Go.RowKit
set_option linter.unusedVariables false
set_option linter.unusedSimpArgs false
attribute [local go_sem ↓] sliced_cut

attribute [local go_sem] cutA_zero

/-- an operation's bytes -/
def opB (k v b e : Nat) (six : Bool) (ah al pt pr wy : Nat) (ms : List (Int × Int)) : List UInt8 := dig k 1 ++ dig v 1 ++ dig b 1 ++ dig e 1 ++ placeB six ah al ++ dig pt 2 ++ dig pr 1 ++ dig wy 1 ++ membersB ms
theorem placeB_len (six : Bool) (ah al : Nat) : (placeB six ah al).length = 1 + (adrB six ah al).length := by simp [placeB, dig_length]
set_option maxHeartbeats 4000000 in
set_option maxRecDepth 100000 in
theorem codecOp_any (k v b e : Nat) (six : Bool) (ah al pt pr wy : Nat) (ms : List (Int × Int)) (A : Option Addr) (n c : Nat) (w : World) (k1 : k < 256) (k2 : v < 256) (k3 : b < 256) (k4 : e < 256) (k5 : wy < 256) (h1 : ah < 18446744073709551616) (h2 : al < 18446744073709551616) (h3 : pt < 65536) (h4 : pr < 256) (hr : Rs 2 w A n c (prs .i64 ms)) (hn : n ≤ 1000000) (hn64 : n ≤ 64)
    (hms : ms.all (fun p => shB p.1 && shB p.2) = true) (hR : rightB k v b e six ah al wy ms = true) : Calls Try.prog 14 #[.agg (opC k v b e six ah al pt pr wy A n c).toArray] w (RetRb w (opB k v b e six ah al pt pr wy ms)) := by
  obtain ⟨da, a1, a2⟩ : ∃ d, Try.prog.underlying 24 = some d ∧ d.isRow = true := ⟨_, Try.underlying24, rfl⟩
  have HR := Lib.hid (fun w (h : Rs 2 w A n c (prs .i64 ms)) => right_any k v b e six ah al pt pr wy ms A n c w h2 h hn)
  have hr0 := hr
  have hwk : IntKind.u64.wrap ((k : Nat) : Int) = ((k : Nat) : Int) := IntWalk.u64_in _ (by omega)
  have HPk : Hid (∀ A n c l w, Rb w A n c l → n ≤ 1000 → Calls Try.prog 43 #[.slice A n c, .int .u64 ((k : Nat) : Int), .int .i64 1] w (RetB w (l ++ dig k 1))) := Lib.hid (fun A n c l w h hn => put_any A n c l k 1 w h (by omega) (by omega) (by omega) (by omega))
  have hwv : IntKind.u64.wrap ((v : Nat) : Int) = ((v : Nat) : Int) := IntWalk.u64_in _ (by omega)
  have HPv : Hid (∀ A n c l w, Rb w A n c l → n ≤ 1000 → Calls Try.prog 43 #[.slice A n c, .int .u64 ((v : Nat) : Int), .int .i64 1] w (RetB w (l ++ dig v 1))) := Lib.hid (fun A n c l w h hn => put_any A n c l v 1 w h (by omega) (by omega) (by omega) (by omega))
  have hwb : IntKind.u64.wrap ((b : Nat) : Int) = ((b : Nat) : Int) := IntWalk.u64_in _ (by omega)
  have HPb : Hid (∀ A n c l w, Rb w A n c l → n ≤ 1000 → Calls Try.prog 43 #[.slice A n c, .int .u64 ((b : Nat) : Int), .int .i64 1] w (RetB w (l ++ dig b 1))) := Lib.hid (fun A n c l w h hn => put_any A n c l b 1 w h (by omega) (by omega) (by omega) (by omega))
  have hwe : IntKind.u64.wrap ((e : Nat) : Int) = ((e : Nat) : Int) := IntWalk.u64_in _ (by omega)
  have HPe : Hid (∀ A n c l w, Rb w A n c l → n ≤ 1000 → Calls Try.prog 43 #[.slice A n c, .int .u64 ((e : Nat) : Int), .int .i64 1] w (RetB w (l ++ dig e 1))) := Lib.hid (fun A n c l w h hn => put_any A n c l e 1 w h (by omega) (by omega) (by omega) (by omega))
  have hwpr : IntKind.u64.wrap ((pr : Nat) : Int) = ((pr : Nat) : Int) := IntWalk.u64_in _ (by omega)
  have HPpr : Hid (∀ A n c l w, Rb w A n c l → n ≤ 1000 → Calls Try.prog 43 #[.slice A n c, .int .u64 ((pr : Nat) : Int), .int .i64 1] w (RetB w (l ++ dig pr 1))) := Lib.hid (fun A n c l w h hn => put_any A n c l pr 1 w h (by omega) (by omega) (by omega) (by omega))
  have hwwy : IntKind.u64.wrap ((wy : Nat) : Int) = ((wy : Nat) : Int) := IntWalk.u64_in _ (by omega)
  have HPwy : Hid (∀ A n c l w, Rb w A n c l → n ≤ 1000 → Calls Try.prog 43 #[.slice A n c, .int .u64 ((wy : Nat) : Int), .int .i64 1] w (RetB w (l ++ dig wy 1))) := Lib.hid (fun A n c l w h hn => put_any A n c l wy 1 w h (by omega) (by omega) (by omega) (by omega))
  have hwpt : IntKind.u64.wrap ((pt : Nat) : Int) = ((pt : Nat) : Int) := IntWalk.u64_in _ (by omega)
  have HPpt : Hid (∀ A n c l w, Rb w A n c l → n ≤ 1000 → Calls Try.prog 43 #[.slice A n c, .int .u64 ((pt : Nat) : Int), .int .i64 2] w (RetB w (l ++ dig pt 2))) := Lib.hid (fun A n c l w h hn => put_any A n c l pt 2 w h (by omega) (by omega) (by omega) (by omega))
  have HAD := Lib.hid (fun w => address_any six ah al w h1 h2)
  have HMB := Lib.hid (fun w (h : Rs 2 w A n c (prs .i64 ms)) => members_any ms A n c w h hn64 hms)
  replace hr := hr.alloc (.cells (opC k v b e six ah al pt pr wy A n c).toArray 35)
  obtain ⟨dv1, v1, v2⟩ := rowOpC
  have b1 : Bk (w.alloc (.cells (opC k v b e six ah al pt pr wy A n c).toArray 35)) w.heap.size 35 (opC k v b e six ah al pt pr wy A n c) := Bk.new w 35 (opC k v b e six ah al pt pr wy A n c).toArray
  have be : Below w.heap.size w (w.alloc (.cells (opC k v b e six ah al pt pr wy A n c).toArray 35)) := Below.allocS (Below.refl _ _) _
  have zV : w.heap.size + 1 ≤ (w.alloc (.cells (opC k v b e six ah al pt pr wy A n c).toArray 35)).heap.size := by simp
  go_enter Try.func14, Try.ntmps14
  go_upto_region 1 with (fail)
  generalize w.alloc (.cells (opC k v b e six ah al pt pr wy A n c).toArray 35) = V at *
  replace zV : w.heap.size < V.heap.size := zV
  rw [hR] at HR
  go_upto_region 3 with (first
    | (refine at_op (.load 35 (.tmp 1)) rfl ?_; refine wpList_ldA (t := 35) 35 (.tmp 1) rfl rfl (opC k v b e six ah al pt pr wy A n c) rfl (b1) (whole_ _) v1 v2 (szOp _ _ _ _ _ _ _ _ _ _ _ _ _) ?_)
    | (go_at_call 12; refine (HR.out _ (hr0.later be)).mono ?_; rintro e1 w1 ⟨bs0, d0, rfl, rfl⟩))
  replace b1 := b1.later (below_plus V bs0 d0)
  replace be := belowP be bs0 d0
  have zb0' : w.heap.size < (plus V bs0 d0).heap.size := b1.lt
  generalize plus V bs0 d0 = V0 at *
  clear hr
  have q := b1.cell 0
  replace q : V0.cell? ⟨w.heap.size, 0, none⟩ = some (.int .i64 (k : Int)) := q
  go_wp2_with fail
  refine (HPk.out _ _ _ _ _ Rb.nil_ (by omega)).mono ?_
  rintro e w1 ⟨A1, n1, c1, bs1, d1, rfl, rfl, ho1⟩
  replace b1 := b1.later (below_plus V0 bs1 d1)
  replace be := belowP be bs1 d1
  clear q
  have zb1 : w.heap.size < V0.heap.size := zb0'
  have zb1' : w.heap.size < (plus V0 bs1 d1).heap.size := b1.lt
  have hz1 : V0.heap.size ≤ (plus V0 bs1 d1).heap.size := by simp [size_plus]
  have hn1 : n1 ≤ 100 := by have := ho1.rb.1; simp [dig_length, placeB_len] at this; have := adrB_length six ah al; omega
  generalize plus V0 bs1 d1 = V1 at *
  have q := b1.cell 1
  replace q : V1.cell? ⟨w.heap.size, 1, none⟩ = some (.int .i64 (v : Int)) := q
  go_wp2_with fail
  refine (HPv.out _ _ _ _ _ ho1.rb (by omega)).mono ?_
  rintro e w1 ⟨A2, n2, c2, bs2, d2, rfl, rfl, ho2⟩
  replace b1 := b1.later (below_plus V1 bs2 d2)
  replace be := belowP be bs2 d2
  clear q
  have zb2 : w.heap.size < V1.heap.size := zb1'
  have zb2' : w.heap.size < (plus V1 bs2 d2).heap.size := b1.lt
  have hz2 : V1.heap.size ≤ (plus V1 bs2 d2).heap.size := by simp [size_plus]
  have hn2 : n2 ≤ 100 := by have := ho2.rb.1; simp [dig_length, placeB_len] at this; have := adrB_length six ah al; omega
  generalize plus V1 bs2 d2 = V2 at *
  have q := b1.cell 2
  replace q : V2.cell? ⟨w.heap.size, 2, none⟩ = some (.int .i64 (b : Int)) := q
  go_wp2_with fail
  refine (HPb.out _ _ _ _ _ ho2.rb (by omega)).mono ?_
  rintro e w1 ⟨A3, n3, c3, bs3, d3, rfl, rfl, ho3⟩
  replace b1 := b1.later (below_plus V2 bs3 d3)
  replace be := belowP be bs3 d3
  clear q
  have zb3 : w.heap.size < V2.heap.size := zb2'
  have zb3' : w.heap.size < (plus V2 bs3 d3).heap.size := b1.lt
  have hz3 : V2.heap.size ≤ (plus V2 bs3 d3).heap.size := by simp [size_plus]
  have hn3 : n3 ≤ 100 := by have := ho3.rb.1; simp [dig_length, placeB_len] at this; have := adrB_length six ah al; omega
  generalize plus V2 bs3 d3 = V3 at *
  have q := b1.cell 3
  replace q : V3.cell? ⟨w.heap.size, 3, none⟩ = some (.int .i64 (e : Int)) := q
  go_wp2_with fail
  refine (HPe.out _ _ _ _ _ ho3.rb (by omega)).mono ?_
  rintro e w1 ⟨A4, n4, c4, bs4, d4, rfl, rfl, ho4⟩
  replace b1 := b1.later (below_plus V3 bs4 d4)
  replace be := belowP be bs4 d4
  clear q
  have zb4 : w.heap.size < V3.heap.size := zb3'
  have zb4' : w.heap.size < (plus V3 bs4 d4).heap.size := b1.lt
  have hz4 : V3.heap.size ≤ (plus V3 bs4 d4).heap.size := by simp [size_plus]
  have hn4 : n4 ≤ 100 := by have := ho4.rb.1; simp [dig_length, placeB_len] at this; have := adrB_length six ah al; omega
  generalize plus V3 bs4 d4 = V4 at *
  go_wp2_with (refine at_op (.load 24 (.tmp 27)) rfl ?_; refine wpList_ldA (t := 35) (off := 4) 24 (.tmp 27) rfl rfl (adC six ah al) rfl b1 rfl a1 a2 (szAd _ _ _) ?_)
  refine (HAD.out _).mono ?_
  rintro e1 w1 ⟨A9, n9, c9, bs9, d9, rfl, rfl, hx9⟩
  replace b1 := b1.later (below_plus V4 bs9 d9)
  replace be := belowP be bs9 d9
  replace ho4 := ho4.plus_ bs9 d9
  have hz9 : V3.heap.size ≤ (plus V4 bs9 d9).heap.size := by simp [size_plus]; omega
  have hn9 : n9 ≤ 17 := by have := hx9.1; simp [placeB_len] at this; have := adrB_length six ah al; omega
  generalize plus V4 bs9 d9 = V9 at *
  go_upto_region 8 with (at_builtin; refine wpList_app bt rfl (.tmp 26) (.tmp 29) rfl rfl ho4 rfl hx9 (by omega) hz9 ?_; intro A5 n5 c5 V5 ho5 hb5 hg5)
  replace b1 := b1.below hb5 (by omega)
  replace be := be.trans (hb5.mono (by omega))
  have zb5' : w.heap.size < V5.heap.size := b1.lt
  have hn5 : n5 ≤ 200 := by have := ho5.rb.1; simp [dig_length, placeB_len] at this; have := adrB_length six ah al; omega
  clear ho1 ho2 ho3 ho4 hx9 hb5 hg5
  have q := b1.cell 7
  replace q : V5.cell? ⟨w.heap.size, 7, none⟩ = some (.int .u16 (pt : Int)) := q
  go_wp2_with fail
  refine (HPpt.out _ _ _ _ _ ho5.rb (by omega)).mono ?_
  rintro e w1 ⟨A6, n6, c6, bs6, d6, rfl, rfl, ho6⟩
  replace b1 := b1.later (below_plus V5 bs6 d6)
  replace be := belowP be bs6 d6
  clear q
  have zb6 : w.heap.size < V5.heap.size := zb5'
  have zb6' : w.heap.size < (plus V5 bs6 d6).heap.size := b1.lt
  have hz6 : V5.heap.size ≤ (plus V5 bs6 d6).heap.size := by simp [size_plus]
  have hn6 : n6 ≤ 100 := by have := ho6.rb.1; simp [dig_length, placeB_len] at this; have := adrB_length six ah al; omega
  generalize plus V5 bs6 d6 = V6 at *
  have q := b1.cell 8
  replace q : V6.cell? ⟨w.heap.size, 8, none⟩ = some (.int .u8 (pr : Int)) := q
  go_wp2_with fail
  refine (HPpr.out _ _ _ _ _ ho6.rb (by omega)).mono ?_
  rintro e w1 ⟨A7, n7, c7, bs7, d7, rfl, rfl, ho7⟩
  replace b1 := b1.later (below_plus V6 bs7 d7)
  replace be := belowP be bs7 d7
  clear q
  have zb7 : w.heap.size < V6.heap.size := zb6'
  have zb7' : w.heap.size < (plus V6 bs7 d7).heap.size := b1.lt
  have hz7 : V6.heap.size ≤ (plus V6 bs7 d7).heap.size := by simp [size_plus]
  have hn7 : n7 ≤ 100 := by have := ho7.rb.1; simp [dig_length, placeB_len] at this; have := adrB_length six ah al; omega
  generalize plus V6 bs7 d7 = V7 at *
  have q := b1.cell 9
  replace q : V7.cell? ⟨w.heap.size, 9, none⟩ = some (.int .i64 (wy : Int)) := q
  go_wp2_with fail
  refine (HPwy.out _ _ _ _ _ ho7.rb (by omega)).mono ?_
  rintro e w1 ⟨A8, n8, c8, bs8, d8, rfl, rfl, ho8⟩
  replace b1 := b1.later (below_plus V7 bs8 d8)
  replace be := belowP be bs8 d8
  clear q
  have zb8 : w.heap.size < V7.heap.size := zb7'
  have zb8' : w.heap.size < (plus V7 bs8 d8).heap.size := b1.lt
  have hz8 : V7.heap.size ≤ (plus V7 bs8 d8).heap.size := by simp [size_plus]
  have hn8 : n8 ≤ 100 := by have := ho8.rb.1; simp [dig_length, placeB_len] at this; have := adrB_length six ah al; omega
  generalize plus V7 bs8 d8 = V8 at *
  have q := b1.cell 10
  replace q : V8.cell? ⟨w.heap.size, 10, none⟩ = some (.slice A n c) := q
  go_wp2_with fail
  refine (HMB.out _ (hr0.later be)).mono ?_
  rintro e1 w1 ⟨A9, n9, c9, bs9, d9, rfl, rfl, hx9⟩
  replace be := belowP be bs9 d9
  replace ho8 := ho8.plus_ bs9 d9
  have hz9 : V7.heap.size ≤ (plus V8 bs9 d9).heap.size := by simp [size_plus]; omega
  have hn9 : n9 ≤ 200 := by have := hx9.1; simp [membersB, pairsB_len, dig_length] at this; have := hr0.1; rw [prs_length] at this; omega
  clear q b1
  generalize plus V8 bs9 d9 = V9 at *
  go_wp2_with (at_builtin; refine wpList_app bt rfl (.tmp 46) (.tmp 49) rfl rfl ho8 rfl hx9 (by omega) hz9 ?_; intro A10 n10 c10 V10 ho10 hb10 hg10)
  go_ret
  have hfin := RetRb.mk ho10.rb (be.trans (hb10.mono (by omega)))
  have e9 : (((((((([] ++ dig k 1) ++ dig v 1) ++ dig b 1) ++ dig e 1) ++ placeB six ah al) ++ dig pt 2) ++ dig pr 1) ++ dig wy 1) ++ membersB ms = opB k v b e six ah al pt pr wy ms := by simp [opB]
  rw [e9] at hfin
  exact hfin
set_option maxHeartbeats 4000000 in
set_option maxRecDepth 100000 in
theorem codecOp_no (k v b e : Int) (six : Bool) (ah al pt pr : Nat) (wy : Int) (ms : List (Int × Int)) (A : Option Addr) (n c : Nat) (w : World) (h2 : al < 18446744073709551616) (hr : Rs 2 w A n c (prs .i64 ms)) (hn : n ≤ 1000000) (hR : rightB k v b e six ah al wy ms = false) : Calls Try.prog 14 #[.agg (opC k v b e six ah al pt pr wy A n c).toArray] w (RetV w (.slice none 0 0)) := by
  have HR := Lib.hid (fun w (h : Rs 2 w A n c (prs .i64 ms)) => right_any k v b e six ah al pt pr wy ms A n c w h2 h hn)
  have hr0 := hr
  obtain ⟨dv1, v1, v2⟩ := rowOpC
  have b1 : Bk (w.alloc (.cells (opC k v b e six ah al pt pr wy A n c).toArray 35)) w.heap.size 35 (opC k v b e six ah al pt pr wy A n c) := Bk.new w 35 (opC k v b e six ah al pt pr wy A n c).toArray
  have be : Below w.heap.size w (w.alloc (.cells (opC k v b e six ah al pt pr wy A n c).toArray 35)) := Below.allocS (Below.refl _ _) _
  have zV : w.heap.size + 1 ≤ (w.alloc (.cells (opC k v b e six ah al pt pr wy A n c).toArray 35)).heap.size := by simp
  go_enter Try.func14, Try.ntmps14
  go_upto_region 1 with (fail)
  generalize w.alloc (.cells (opC k v b e six ah al pt pr wy A n c).toArray 35) = V at *
  rw [hR] at HR
  go_wp2_with (first
    | (refine at_op (.load 35 (.tmp 1)) rfl ?_; refine wpList_ldA (t := 35) 35 (.tmp 1) rfl rfl (opC k v b e six ah al pt pr wy A n c) rfl (b1) (whole_ _) v1 v2 (szOp _ _ _ _ _ _ _ _ _ _ _ _ _) ?_)
    | (go_at_call 12; refine (HR.out _ (hr0.later be)).mono ?_; rintro e1 w1 ⟨bs0, d0, rfl, rfl⟩))
  go_ret
  exact RetV.is_ rfl (belowP be _ _)
end Go.Proofs.Ytepodflinhpejaa

/- Plain: what is written is read as it was (chapter 23). -/
namespace Go.Proofs.Ytepodflinhpejaa
open Go.RowKit
set_option linter.unusedVariables false

theorem tk_app (x r : List UInt8) (n : Nat) (h : x.length = n) : tkB n (some (x ++ r)) = x ∧ drB n (some (x ++ r)) = some r := by
  subst h
  constructor
  · simp [tkB]
  · simp [drB]
theorem numT_dig (x s : Nat) (r : List UInt8) (h : x < 256 ^ s) : numT s (some (dig x s ++ r)) = x := by
  unfold numT
  rw [(tk_app (dig x s) r s (dig_length _ _)).1, numDig x s h]
theorem drB_dig (x s : Nat) (r : List UInt8) : drB s (some (dig x s ++ r)) = some r := (tk_app (dig x s) r s (dig_length _ _)).2
theorem adrB_size (six : Bool) (ah al : Nat) : (adrB six ah al).length = sizeA six := by cases six <;> simp [adrB, sizeA, dig_length]
theorem adX_adr (six : Bool) (ah al : Nat) (h : adG six ah al = true) (h1 : ah < 18446744073709551616) (h2 : al < 18446744073709551616) : adX (adrB six ah al) = some (six, ah, al) := by
  cases six
  · simp [adG] at h
    obtain ⟨rfl, h4⟩ := h
    have e : adrB false 0 al = dig al 4 := rfl
    unfold adX
    rw [e, if_pos (dig_length _ _), numDig al 4 (by omega)]
  · have e : adrB true ah al = dig ah 8 ++ dig al 8 := rfl
    unfold adX
    rw [e, if_neg (by simp [dig_length]), if_pos (by simp [dig_length]), List.take_left' (dig_length _ _), List.drop_left' (dig_length _ _), numDig ah 8 (by omega), numDig al 8 (by omega)]
theorem adS_place (six : Bool) (ah al : Nat) (r : List UInt8) (h : adG six ah al = true) (h1 : ah < 18446744073709551616) (h2 : al < 18446744073709551616) : adS (some (placeB six ah al ++ r)) = some ((six, ah, al), some r) := by
  have hz : sizeA six < 256 ^ 1 := by cases six <;> decide
  unfold adS placeB
  rw [List.append_assoc, numT_dig _ 1 _ hz, drB_dig]
  obtain ⟨e1, e2⟩ := tk_app (adrB six ah al) r (sizeA six) (adrB_size six ah al)
  rw [e1, e2, adX_adr six ah al h h1 h2]
  rfl
theorem pairs_step (ms : List (Int × Int)) (r : List UInt8) (hg : ms.all (fun p => shB p.1 && shB p.2) = true) : ∀ i, i ≤ ms.length → drs i (some (pairsB ms ++ r)) = some (pairsB (ms.drop i) ++ r) ∧ mbs i (some (pairsB ms ++ r)) = ms.take i
  | 0, _ => ⟨rfl, rfl⟩
  | i + 1, hi => by
    obtain ⟨h1, h2⟩ := pairs_step ms r hg i (by omega)
    have hd : ms.drop i = ms[i] :: ms.drop (i + 1) := List.drop_eq_getElem_cons (by omega)
    have hm : shB ms[i].1 = true ∧ shB ms[i].2 = true := by
      have := List.all_eq_true.1 hg ms[i] (List.getElem_mem (by omega))
      simpa using this
    have ht : ms.take (i + 1) = ms.take i ++ [ms[i]] := by simp
    generalize ms[i] = p at *
    obtain ⟨x, y⟩ := p
    have hx : 0 ≤ x ∧ x < 256 := by simpa [shB] using hm.1
    have hy : 0 ≤ y ∧ y < 256 := by simpa [shB] using hm.2
    have dg : ∀ z : Int, 0 ≤ z ∧ z < 256 → [UInt8.ofNat z.toNat] = dig z.toNat 1 := fun z hz => by
      simp [dig]
      try (apply ofNat_eq; omega)
    have e : pairsB (ms.drop i) ++ r = dig x.toNat 1 ++ (dig y.toNat 1 ++ (pairsB (ms.drop (i + 1)) ++ r)) := by
      rw [hd, ← dg x hx, ← dg y hy]
      simp [pairsB]
    rw [e] at h1
    constructor
    · show drB 1 (drB 1 (drs i _)) = _
      rw [h1, drB_dig, drB_dig]
    · show mbs i _ ++ [(((numT 1 (drs i _) : Nat) : Int), ((numT 1 (drB 1 (drs i _)) : Nat) : Int))] = _
      rw [h1, h2, drB_dig, numT_dig _ 1 _ (by omega), numT_dig _ 1 _ (by omega), ht]
      simp
      omega
theorem mbS_members (ms : List (Int × Int)) (r : List UInt8) (h64 : ms.length ≤ 64) (hg : ms.all (fun p => shB p.1 && shB p.2) = true) : mbS (some (membersB ms ++ r)) = some (ms, r) := by
  unfold mbS membersB
  rw [List.append_assoc, numT_dig _ 1 _ (by omega), drB_dig, if_pos h64]
  obtain ⟨h1, h2⟩ := pairs_step ms r hg ms.length (Nat.le_refl _)
  rw [h1, h2]
  simp [pairsB]
theorem pop_op (k v b e : Nat) (six : Bool) (ah al pt pr wy : Nat) (ms : List (Int × Int)) (k1 : k < 256) (k2 : v < 256) (k3 : b < 256) (k4 : e < 256) (k5 : wy < 256) (h1 : ah < 18446744073709551616) (h2 : al < 18446744073709551616) (h3 : pt < 65536) (h4 : pr < 256) (ha : adG six ah al = true) (h64 : ms.length ≤ 64)
    (hms : ms.all (fun p => shB p.1 && shB p.2) = true) : popS (opB k v b e six ah al pt pr wy ms) = some ⟨k, v, b, e, six, ah, al, pt, pr, wy, ms⟩ := by
  have eL : opB k v b e six ah al pt pr wy ms = dig k 1 ++ (dig v 1 ++ (dig b 1 ++ (dig e 1 ++ (placeB six ah al ++ (dig pt 2 ++ (dig pr 1 ++ (dig wy 1 ++ (membersB ms ++ [])))))))) := by simp [opB]
  unfold popS
  rw [eL]
  simp only [drB_dig, numT_dig _ 1 _ (show k < 256 ^ 1 by omega), numT_dig _ 1 _ (show v < 256 ^ 1 by omega), numT_dig _ 1 _ (show b < 256 ^ 1 by omega), numT_dig _ 1 _ (show e < 256 ^ 1 by omega), adS_place six ah al _ ha h1 h2, Option.bind_some, numT_dig _ 2 _ (show pt < 256 ^ 2 by omega), numT_dig _ 1 _ (show pr < 256 ^ 1 by omega), numT_dig _ 1 _ (show wy < 256 ^ 1 by omega), mbS_members ms [] h64 hms]
  rfl
end Go.Proofs.Ytepodflinhpejaa

/- The law's awake (chapter 23). -/
namespace Go.Proofs.Ytepodflinhpejaa
open Go.RowKit
set_option linter.unusedVariables false
set_option linter.unusedSimpArgs false
attribute [local go_sem ↓] sliced_cut

attribute [local go_sem] cutA_zero

set_option maxHeartbeats 4000000 in
set_option maxRecDepth 100000 in
theorem awake23 (w : World) : Calls Try.prog 7 #[] w (RetV w (.bool true)) := by
  have HO : Hid (∀ w, Calls Try.prog 14 #[.agg #[.int .i64 8, .int .i64 0, .int .i64 0, .int .i64 0, .bool false, .int .u64 0, .int .u64 0, .int .u16 0, .int .u8 0, .int .i64 0, .slice none 0 0]] w (RetRb w (opB 8 0 0 0 false 0 0 0 0 0 []))) := Lib.hid (fun w => codecOp_any 8 0 0 0 false 0 0 0 0 0 [] none 0 0 w (by decide) (by decide) (by decide) (by decide) (by decide) (by decide) (by decide) (by decide) (by decide) Rs.nil_ (by decide) (by decide) rfl rfl)
  have hl : (opB 8 0 0 0 false 0 0 0 0 0 []).length = 14 := by decide +kernel
  generalize opB 8 0 0 0 false 0 0 0 0 0 [] = l at *
  go_enter Try.func7, Try.ntmps7
  go_wp2_with fail
  refine (HO.out _).mono ?_
  rintro e w1 ⟨A, n, c, bs, d, rfl, rfl, h⟩
  obtain rfl : n = 14 := by have := h.1; omega
  go_wp2
  go_ret
  exact RetV.is_ rfl (below_plus _ _ _)
set_option maxHeartbeats 4000000 in
set_option maxRecDepth 100000 in
/-- light of one operation -/
theorem light1 (k v b e : Int) (six : Bool) (ah al pt pr : Nat) (wy : Int) (A : Option Addr) (n c g : Nat) (w : World) (hb : Bk w g 28 (opC k v b e six ah al pt pr wy A n c)) (hn : n ≤ 9223372036854775807) : Calls Try.prog 6 #[.slice (some ⟨g, 0, none⟩) 1 1] w fun en w' => en = .returned (.bool (decide (n ≤ 100))) ∧ w = w' := by
  have q : w.cell? ⟨g, 10, none⟩ = some (.slice A n c) := hb.cell 10
  clear hb
  go_enter Try.func6, Try.ntmps6
  go_upto_region 2 with (fail)
  go_loop [3] (fun I => ∃ i : Nat, I = .int .i64 (i : Int) ∧ i ≤ 1 ∧ (i = 1 → n ≤ 100)) (fun I => 1 - (intOf I).toNat)
  case atStart => exact ⟨0, rfl, by omega, fun h => by omega⟩
  case round =>
    obtain ⟨i, rfl, hi, hp⟩ := hrel
    rcases (by omega : i = 0 ∨ i = 1) with rfl | rfl
    · by_cases h1 : n ≤ 100
      · have i1 : ¬ (100 : Int) < (n : Int) := by omega
        clear hp hi
        go_wp2
        go_round
        case rel => exact ⟨1, rfl, by omega, fun _ => h1⟩
        case measure => simp [intOf]
      · have i1 : (100 : Int) < (n : Int) := by omega
        have hz : Hid (decide (n ≤ 100) = false) := Lib.hid (by simpa using h1)
        clear hp hi
        go_wp2
        go_ret
        exact ⟨rfl, rfl⟩
    · have h1 := hp rfl
      have hz : Hid (decide (n ≤ 100) = true) := Lib.hid (by simpa using h1)
      clear hp hi
      go_wp2
      go_ret
      exact ⟨rfl, rfl⟩
end Go.Proofs.Ytepodflinhpejaa

/- same, of alike operations (chapter 23). -/
namespace Go.Proofs.Ytepodflinhpejaa
open Go.RowKit
set_option linter.unusedVariables false
set_option linter.unusedSimpArgs false
attribute [local go_sem ↓] sliced_cut

attribute [local go_sem] cutA_zero

theorem two_ofC {α β : Type} {f : α → β} {l : List α} {a b : β} (h : l.map f = [a, b]) : ∃ x y, l = [x, y] ∧ f x = a ∧ f y = b := by
  match l, h with
  | [x, y], h => simp at h; exact ⟨x, y, rfl, h.1, h.2⟩
theorem eqTwoC {P : Program} (w : World) (d : Nat) (xs ys : Array Value) (f0 f1 : Field) (h0 : f0.name ≠ "_") (h1 : f1.name ≠ "_") (u u' v v' : Value)
    (p0 : (part f0.type xs f0.offset).run P w = .ok u w) (p0' : (part f0.type ys f0.offset).run P w = .ok u' w) (p1 : (part f1.type xs f1.offset).run P w = .ok v w) (p1' : (part f1.type ys f1.offset).run P w = .ok v' w)
    (e0 : (Op.equalIn d f0.type u u').run P w = .ok true w) (e1 : (Op.equalIn d f1.type v v').run P w = .ok true w) : (Op.eqFields d xs ys [f0, f1]).run P w = .ok true w := by
  simp only [Op.eqFields, if_pos h0, if_pos h1, Sem.run_bind, p0, p0', p1, p1', e0, e1, Result.andThen_ok, Bool.not_true, Bool.false_eq_true, if_false, Sem.run_pure]
theorem cmFields : (Try.prog.fieldsOf 105).toList.map (fun f => (f.name, f.type, f.offset)) = [("Backend", 3, 0), ("Weight", 3, 1)] := by kernel_rfl
theorem cmStood : Try.prog.stoodInHeld 105 = false := by kernel_rfl
theorem cmUnder : Try.prog.underlying 105 = some (.struct (Try.prog.fieldsOf 105)) := by kernel_rfl
theorem eq_cm (w : World) (x y : Int) : (Op.equalIn 10000 105 (.agg #[.int .i64 x, .int .i64 y]) (.agg #[.int .i64 x, .int .i64 y])).run Try.prog w = .ok true w := by
  obtain ⟨f0, f1, hl, h0, h1⟩ := two_ofC cmFields
  simp only [Prod.mk.injEq] at h0 h1
  obtain ⟨a1, a2, a3⟩ := h0
  obtain ⟨b1, b2, b3⟩ := h1
  refine (run_equalIn_struct w 9999 105 _ _ cmUnder cmStood).trans ?_
  rw [hl]
  refine eqTwoC w 9999 _ _ f0 f1 (by rw [a1]; decide) (by rw [b1]; decide) (.int .i64 x) (.int .i64 x) (.int .i64 y) (.int .i64 y) ?_ ?_ ?_ ?_ ?_ ?_
  · rw [a2, a3]; simp [part, isAgg, run_underlying Try.underlying3]
  · rw [a2, a3]; simp [part, isAgg, run_underlying Try.underlying3]
  · rw [b2, b3]; simp [part, isAgg, run_underlying Try.underlying3]
  · rw [b2, b3]; simp [part, isAgg, run_underlying Try.underlying3]
  · rw [a2, run_equalIn_int w 9998 3 .i64 .i64 x x Try.underlying3]; simp
  · rw [b2, run_equalIn_int w 9998 3 .i64 .i64 y y Try.underlying3]; simp
set_option maxHeartbeats 4000000 in
set_option maxRecDepth 100000 in
theorem same_any (k v b e : Int) (six : Bool) (ah al pt pr : Nat) (wy : Int) (ms : List (Int × Int)) (A B : Option Addr) (n c d : Nat) (w : World) (hr : Rs 2 w A n c (prs .i64 ms)) (hs : Rs 2 w B n d (prs .i64 ms)) (hn : n ≤ 1000000) : Calls Try.prog 10 #[.agg (opC k v b e six ah al pt pr wy A n c).toArray, .agg (opC k v b e six ah al pt pr wy B n d).toArray] w (RetV w (.bool true)) := by
  obtain ⟨dm, m1, m2⟩ : ∃ d, Try.prog.underlying 105 = some d ∧ d.isRow = true := ⟨_, Try.underlying105, rfl⟩
  have hml : ms.length = n := by have := hr.1; rw [prs_length] at this; omega
  have hr0 := hr
  have hs0 := hs
  obtain ⟨dv1, v1, v2⟩ := rowOpC
  have b1 : Bk ((w.alloc (.cells (opC k v b e six ah al pt pr wy A n c).toArray 35)).alloc (.cells (opC k v b e six ah al pt pr wy B n d).toArray 35)) w.heap.size 35 (opC k v b e six ah al pt pr wy A n c) := (Bk.new w 35 (opC k v b e six ah al pt pr wy A n c).toArray).alloc _
  have b2 : Bk ((w.alloc (.cells (opC k v b e six ah al pt pr wy A n c).toArray 35)).alloc (.cells (opC k v b e six ah al pt pr wy B n d).toArray 35)) (w.heap.size + 1) 35 (opC k v b e six ah al pt pr wy B n d) := Bk.newK _ _ _ (by simp) rfl
  have be : Below w.heap.size w ((w.alloc (.cells (opC k v b e six ah al pt pr wy A n c).toArray 35)).alloc (.cells (opC k v b e six ah al pt pr wy B n d).toArray 35)) := Below.allocS (Below.allocS (Below.refl _ _) _) _
  have zV : w.heap.size + 2 ≤ ((w.alloc (.cells (opC k v b e six ah al pt pr wy A n c).toArray 35)).alloc (.cells (opC k v b e six ah al pt pr wy B n d).toArray 35)).heap.size := by simp
  go_enter Try.func10, Try.ntmps10
  go_upto_region 1 with (fail)
  generalize (w.alloc (.cells (opC k v b e six ah al pt pr wy A n c).toArray 35)).alloc (.cells (opC k v b e six ah al pt pr wy B n d).toArray 35) = V at *
  have qb10 : V.cell? ⟨w.heap.size, 0, none⟩ = some (.int .i64 k) := b1.cell 0
  have qb11 : V.cell? ⟨w.heap.size, 1, none⟩ = some (.int .i64 v) := b1.cell 1
  have qb12 : V.cell? ⟨w.heap.size, 2, none⟩ = some (.int .i64 b) := b1.cell 2
  have qb13 : V.cell? ⟨w.heap.size, 3, none⟩ = some (.int .i64 e) := b1.cell 3
  have qb14 : V.cell? ⟨w.heap.size, 4, none⟩ = some (.bool six) := b1.cell 4
  have qb15 : V.cell? ⟨w.heap.size, 5, none⟩ = some (.int .u64 (ah : Int)) := b1.cell 5
  have qb16 : V.cell? ⟨w.heap.size, 6, none⟩ = some (.int .u64 (al : Int)) := b1.cell 6
  have qb17 : V.cell? ⟨w.heap.size, 7, none⟩ = some (.int .u16 (pt : Int)) := b1.cell 7
  have qb18 : V.cell? ⟨w.heap.size, 8, none⟩ = some (.int .u8 (pr : Int)) := b1.cell 8
  have qb19 : V.cell? ⟨w.heap.size, 9, none⟩ = some (.int .i64 wy) := b1.cell 9
  have qb110 : V.cell? ⟨w.heap.size, 10, none⟩ = some (.slice A n c) := b1.cell 10
  have qb20 : V.cell? ⟨w.heap.size + 1, 0, none⟩ = some (.int .i64 k) := b2.cell 0
  have qb21 : V.cell? ⟨w.heap.size + 1, 1, none⟩ = some (.int .i64 v) := b2.cell 1
  have qb22 : V.cell? ⟨w.heap.size + 1, 2, none⟩ = some (.int .i64 b) := b2.cell 2
  have qb23 : V.cell? ⟨w.heap.size + 1, 3, none⟩ = some (.int .i64 e) := b2.cell 3
  have qb24 : V.cell? ⟨w.heap.size + 1, 4, none⟩ = some (.bool six) := b2.cell 4
  have qb25 : V.cell? ⟨w.heap.size + 1, 5, none⟩ = some (.int .u64 (ah : Int)) := b2.cell 5
  have qb26 : V.cell? ⟨w.heap.size + 1, 6, none⟩ = some (.int .u64 (al : Int)) := b2.cell 6
  have qb27 : V.cell? ⟨w.heap.size + 1, 7, none⟩ = some (.int .u16 (pt : Int)) := b2.cell 7
  have qb28 : V.cell? ⟨w.heap.size + 1, 8, none⟩ = some (.int .u8 (pr : Int)) := b2.cell 8
  have qb29 : V.cell? ⟨w.heap.size + 1, 9, none⟩ = some (.int .i64 wy) := b2.cell 9
  have qb210 : V.cell? ⟨w.heap.size + 1, 10, none⟩ = some (.slice B n d) := b2.cell 10
  go_upto_region 4 with (fail)
  clear qb10 qb11 qb12 qb13 qb14 qb15 qb16 qb17 qb18 qb19 qb20 qb21 qb22 qb23 qb24 qb25 qb26 qb27 qb28 qb29
  go_loopw [5] (fun I wr => ∃ i : Nat, I = .int .i64 (i : Int) ∧ i ≤ n ∧ Below V.heap.size V wr) (fun I _ => n - (intOf I).toNat)
  case atStart => exact ⟨0, rfl, Nat.zero_le _, Below.refl _ _⟩
  case round =>
    obtain ⟨i, rfl, hi, hE⟩ := hrel
    have be9 := be.trans (hE.mono be.size)
    have q10 : wr.cell? ⟨w.heap.size, 10, none⟩ = some (.slice A n c) := (b1.later hE).cell 10
    replace b1 := b1.later hE
    replace b2 := b2.later hE
    clear qb110 qb210
    by_cases hlt : i < n
    · have ii : (i : Int) < (n : Int) := by omega
      have hjL : i < ms.length := by omega
      obtain ⟨bl, ol, rfl, hbl, -⟩ := (hr0.later be9).at_ (by omega) (by decide)
      obtain ⟨bm, om, rfl, hbm, -⟩ := (hs0.later be9).at_ (by omega) (by decide)
      have HG1 := Lib.hid (fun (W : World) (h : Below wr.heap.size wr W) => rng_pr ((hr0.later (be9.trans (h.mono be9.size))).range2 i hjL))
      have HG2 := Lib.hid (fun (W : World) (h : Below wr.heap.size wr W) => rng_pr ((hs0.later (be9.trans (h.mono be9.size))).range2 i hjL))
      generalize ms[i] = p at *
      obtain ⟨px, py⟩ := p
      simp only [] at HG1 HG2
      go_upto_region 6 with (fail)
      go_wp2
      refine wp_relS 11 87 rfl (by kernel_rfl) (by kernel_rfl) ?_
      apply Steps.one (MP.eq _) 1 rfl
      · intro o ho FA x hO hD K hK
        obtain rfl := Option.some.inj ho.symm
        clear ho
        have e2 := hO 2 (by kernel_rfl)
        simp only [eval_tmp, List.getElem?_toArray, List.getElem?_cons_succ, List.getElem?_cons_zero, Option.getD_some] at e2
        have ev2 := Lib.hid ((eval_tmp FA 2).trans e2)
        clear hO hD
        go_simp
        exact hK.out _ _ (Ex.refl _) rfl
      apply Steps.one (MP.eq _) 2 rfl
      · intro o ho FA x hO hD K hK
        obtain rfl := Option.some.inj ho.symm
        clear ho
        have ev76 : FA.eval (.tmp 76) = _ := hD 0 76 (by kernel_rfl)
        have e76 := (eval_tmp FA 76).symm.trans ev76
        replace ev76 := Lib.hid ev76
        clear hO hD
        refine wanted_if rfl ?_
        refine wp_ld1 33 (.tmp 76) rfl ev76.out (b1.later (below_plus _ _ _)) rfl Try.underlying33 rfl ?_
        exact hK.out _ _ (Ex.refl _) rfl
      apply Steps.one (MP.eq _) 3 rfl
      · intro o ho FA x hO hD K hK
        obtain rfl := Option.some.inj ho.symm
        clear ho
        have e5 := hO 5 (by kernel_rfl)
        simp only [eval_tmp, List.getElem?_toArray, List.getElem?_cons_succ, List.getElem?_cons_zero, Option.getD_some] at e5
        have ev5 := Lib.hid ((eval_tmp FA 5).trans e5)
        clear hO hD
        go_simp
        exact hK.out _ _ (Ex.refl _) rfl
      apply Steps.one (MP.eq _) 4 rfl
      · intro o ho FA x hO hD K hK
        obtain rfl := Option.some.inj ho.symm
        clear ho
        have ev77 : FA.eval (.tmp 77) = _ := hD 1 77 (by kernel_rfl)
        have e77 := (eval_tmp FA 77).symm.trans ev77
        replace ev77 := Lib.hid ev77
        have ev78 : FA.eval (.tmp 78) = _ := hD 2 78 (by kernel_rfl)
        have e78 := (eval_tmp FA 78).symm.trans ev78
        replace ev78 := Lib.hid ev78
        clear hO hD
        go_simp
        exact hK.out _ _ (Ex.refl _) rfl
      apply Steps.one (MP.eq _) 5 rfl
      · intro o ho FA x hO hD K hK
        obtain rfl := Option.some.inj ho.symm
        clear ho
        have ev79 : FA.eval (.tmp 79) = _ := hD 3 79 (by kernel_rfl)
        have e79 := (eval_tmp FA 79).symm.trans ev79
        replace ev79 := Lib.hid ev79
        clear hO hD
        refine wanted_if rfl ?_
        refine wp_load_mid 105 (.tmp 79) rfl bl (ol + i * 2) ev79.out [.int .i64 px, .int .i64 py] _ (HG1.out _ (below_plus _ _ _)) m1 m2 (by kernel_rfl) ?_
        exact hK.out _ _ (Ex.refl _) rfl
      apply Steps.one (MP.eq _) 6 rfl
      · intro o ho FA x hO hD K hK
        obtain rfl := Option.some.inj ho.symm
        clear ho
        have e3 := hO 3 (by kernel_rfl)
        simp only [eval_tmp, List.getElem?_toArray, List.getElem?_cons_succ, List.getElem?_cons_zero, Option.getD_some] at e3
        have ev3 := Lib.hid ((eval_tmp FA 3).trans e3)
        clear hO hD
        go_simp
        exact hK.out _ _ (Ex.refl _) rfl
      apply Steps.one (MP.eq _) 7 rfl
      · intro o ho FA x hO hD K hK
        obtain rfl := Option.some.inj ho.symm
        clear ho
        have ev81 : FA.eval (.tmp 81) = _ := hD 5 81 (by kernel_rfl)
        have e81 := (eval_tmp FA 81).symm.trans ev81
        replace ev81 := Lib.hid ev81
        clear hO hD
        refine wanted_if rfl ?_
        refine wp_ld1 33 (.tmp 81) rfl ev81.out (b2.later (below_plus _ _ _)) rfl Try.underlying33 rfl ?_
        exact hK.out _ _ (Ex.refl _) rfl
      apply Steps.one (MP.eq _) 8 rfl
      · intro o ho FA x hO hD K hK
        obtain rfl := Option.some.inj ho.symm
        clear ho
        have e5 := hO 5 (by kernel_rfl)
        simp only [eval_tmp, List.getElem?_toArray, List.getElem?_cons_succ, List.getElem?_cons_zero, Option.getD_some] at e5
        have ev5 := Lib.hid ((eval_tmp FA 5).trans e5)
        clear hO hD
        go_simp
        exact hK.out _ _ (Ex.refl _) rfl
      apply Steps.one (MP.eq _) 9 rfl
      · intro o ho FA x hO hD K hK
        obtain rfl := Option.some.inj ho.symm
        clear ho
        have ev82 : FA.eval (.tmp 82) = _ := hD 6 82 (by kernel_rfl)
        have e82 := (eval_tmp FA 82).symm.trans ev82
        replace ev82 := Lib.hid ev82
        have ev83 : FA.eval (.tmp 83) = _ := hD 7 83 (by kernel_rfl)
        have e83 := (eval_tmp FA 83).symm.trans ev83
        replace ev83 := Lib.hid ev83
        clear hO hD
        go_simp
        exact hK.out _ _ (Ex.refl _) rfl
      apply Steps.one (MP.eq _) 10 rfl
      · intro o ho FA x hO hD K hK
        obtain rfl := Option.some.inj ho.symm
        clear ho
        have ev84 : FA.eval (.tmp 84) = _ := hD 8 84 (by kernel_rfl)
        have e84 := (eval_tmp FA 84).symm.trans ev84
        replace ev84 := Lib.hid ev84
        clear hO hD
        refine wanted_if rfl ?_
        refine wp_load_mid 105 (.tmp 84) rfl bm (om + i * 2) ev84.out [.int .i64 px, .int .i64 py] _ (HG2.out _ (below_plus _ _ _)) m1 m2 (by kernel_rfl) ?_
        exact hK.out _ _ (Ex.refl _) rfl
      apply Steps.one (MP.eq _) 11 rfl
      · intro o ho FA x hO hD K hK
        obtain rfl := Option.some.inj ho.symm
        clear ho
        have ev80 : FA.eval (.tmp 80) = _ := hD 4 80 (by kernel_rfl)
        have e80 := (eval_tmp FA 80).symm.trans ev80
        replace ev80 := Lib.hid ev80
        have ev85 : FA.eval (.tmp 85) = _ := hD 9 85 (by kernel_rfl)
        have e85 := (eval_tmp FA 85).symm.trans ev85
        replace ev85 := Lib.hid ev85
        clear hO hD
        have heq := eq_cm (plus wr x.bs x.d) px py
        go_simp
        exact hK.out _ _ (Ex.refl _) rfl
      refine Steps.fin_ (fun vs x hp => ?_)
      have p0 : vs 0 = _ := hp 0 (by omega)
      have p1 : vs 1 = _ := hp 1 (by omega)
      have p2 : vs 2 = _ := hp 2 (by omega)
      have p3 : vs 3 = _ := hp 3 (by omega)
      have p4 : vs 4 = _ := hp 4 (by omega)
      have p5 : vs 5 = _ := hp 5 (by omega)
      have p6 : vs 6 = _ := hp 6 (by omega)
      have p7 : vs 7 = _ := hp 7 (by omega)
      have p8 : vs 8 = _ := hp 8 (by omega)
      have p9 : vs 9 = _ := hp 9 (by omega)
      have p10 : vs 10 = _ := hp 10 (by omega)
      clear hp
      simp only [List.take_succ_cons, List.take_zero, List.drop_succ_cons, List.drop_zero, putAll, Nat.zero_add, Nat.reduceAdd, Act.put, List.setIfInBounds_toArray, List.set_cons_zero, List.set_cons_succ, p0, p1, p2, p3, p4, p5, p6, p7, p8, p9, p10]
      clear p0 p1 p2 p3 p4 p5 p6 p7 p8 p9 p10
      clear vs
      have b4 := below_plus wr x.bs x.d
      go_wp2
      exact ⟨⟨i + 1, by go_num, by omega, hE.trans (b4.mono hE.size)⟩, by simp [intOf]; omega⟩
    · obtain rfl : i = n := by omega
      have ii : ¬ (i : Int) < (i : Int) := by omega
      go_wp2
      go_ret
      exact RetV.is_ rfl be9
end Go.Proofs.Ytepodflinhpejaa

/- To (chapter 23). -/
namespace Go.Proofs.Ytepodflinhpejaa
open Go.RowKit
set_option linter.unusedVariables false
set_option linter.unusedSimpArgs false
attribute [local go_sem ↓] sliced_cut

attribute [local go_sem] cutA_zero

theorem Os.addr {e : TypeId} {s : Nat} {w : World} {base : Nat} {A : Option Addr} {n c : Nat} {cs : List Value} (h : Os e s w base A n c cs) : ∀ a, A = some a → base ≤ a.block := by
  intro a ha
  rcases h.2 with ⟨hv, h0⟩ | ⟨g, cap, cur, hv, hb, _⟩
  · injection hv with h1; rw [h1] at ha; cases ha
  · injection hv with h1; rw [h1] at ha; injection ha with ha; subst ha; exact hb
set_option maxRecDepth 100000 in
theorem run_buildTo (k v b e : Int) (six : Bool) (ah al pt pr : Nat) (wy : Int) (w : World) : (Instr.build 35 #[(0, .int .i64 k), (1, .int .i64 v), (2, .int .i64 b), (3, .int .i64 e), (4, .agg (adC six ah al).toArray), (5, .int .u16 (pt : Int)), (6, .int .u8 (pr : Int)), (7, .int .i64 wy)]).run Try.prog w = .ok (.agg (opC k v b e six ah al pt pr wy none 0 0).toArray) w := by kernel_rfl
set_option maxHeartbeats 4000000 in
set_option maxRecDepth 100000 in
theorem to23_any (k v b e : Int) (six : Bool) (ah al pt pr : Nat) (wy : Int) (ms : List (Int × Int)) (A : Option Addr) (n c : Nat) (w : World) (hr : Rs 2 w A n c (prs .i64 ms)) (hn : n ≤ 1000000) : Calls Try.prog 11 #[.agg (opC k v b e six ah al pt pr wy A n c).toArray] w fun en w' => ∃ B d bs d0, en = .returned (.agg (opC k v b e six ah al pt pr wy B n d).toArray) ∧ w' = plus w bs d0 ∧ Rs 2 (plus w bs d0) B n d (prs .i64 ms) := by
  obtain ⟨da, a1, a2⟩ : ∃ d, Try.prog.underlying 24 = some d ∧ d.isRow = true := ⟨_, Try.underlying24, rfl⟩
  have hml : ms.length = n := by have := hr.1; rw [prs_length] at this; omega
  have hr0 := hr
  obtain ⟨dv1, v1, v2⟩ := rowRo
  obtain ⟨dw1, w1, w2⟩ := rowOpC
  have b1 : Bk ((w.alloc (.cells (opC k v b e six ah al pt pr wy A n c).toArray 28)).alloc (.cells #[.int .i64 0, .int .i64 0, .int .i64 0, .int .i64 0, .bool false, .int .u64 0, .int .u64 0, .int .u16 0, .int .u8 0, .int .i64 0, .slice none 0 0] 35)) w.heap.size 28 (opC k v b e six ah al pt pr wy A n c) := (Bk.new w 28 (opC k v b e six ah al pt pr wy A n c).toArray).alloc _
  have b2 : Bk ((w.alloc (.cells (opC k v b e six ah al pt pr wy A n c).toArray 28)).alloc (.cells #[.int .i64 0, .int .i64 0, .int .i64 0, .int .i64 0, .bool false, .int .u64 0, .int .u64 0, .int .u16 0, .int .u8 0, .int .i64 0, .slice none 0 0] 35)) (w.heap.size + 1) 35 (opC 0 0 0 0 false 0 0 0 0 0 none 0 0) := Bk.newK _ _ _ (by simp) rfl
  have be : Below w.heap.size w ((w.alloc (.cells (opC k v b e six ah al pt pr wy A n c).toArray 28)).alloc (.cells #[.int .i64 0, .int .i64 0, .int .i64 0, .int .i64 0, .bool false, .int .u64 0, .int .u64 0, .int .u16 0, .int .u8 0, .int .i64 0, .slice none 0 0] 35)) := Below.allocS (Below.allocS (Below.refl _ _) _) _
  have zV : w.heap.size + 2 ≤ ((w.alloc (.cells (opC k v b e six ah al pt pr wy A n c).toArray 28)).alloc (.cells #[.int .i64 0, .int .i64 0, .int .i64 0, .int .i64 0, .bool false, .int .u64 0, .int .u64 0, .int .u16 0, .int .u8 0, .int .i64 0, .slice none 0 0] 35)).heap.size := by simp
  go_enter Try.func11, Try.ntmps11
  go_upto_region 1 with (fail)
  generalize (w.alloc (.cells (opC k v b e six ah al pt pr wy A n c).toArray 28)).alloc (.cells #[.int .i64 0, .int .i64 0, .int .i64 0, .int .i64 0, .bool false, .int .u64 0, .int .u64 0, .int .u16 0, .int .u8 0, .int .i64 0, .slice none 0 0] 35) = V at *
  refine wp_region_lit ?_
  refine wpList_plain rfl (fun K hK => ?_); go_simp; with_reducible refine hK _ _ ?_; clear hK K
  refine wpList_ld1 (t := 28) (cs := opC k v b e six ah al pt pr wy A n c) 3 (.tmp 5) rfl (by rfl) rfl (b1) rfl Try.underlying3 rfl ?_
  refine wpList_plain rfl (fun K hK => ?_); go_simp; with_reducible refine hK _ _ ?_; clear hK K
  refine wpList_ld1 (t := 28) (cs := opC k v b e six ah al pt pr wy A n c) 3 (.tmp 7) rfl (by rfl) rfl (b1) rfl Try.underlying3 rfl ?_
  refine wpList_plain rfl (fun K hK => ?_); go_simp; with_reducible refine hK _ _ ?_; clear hK K
  refine wpList_ld1 (t := 28) (cs := opC k v b e six ah al pt pr wy A n c) 3 (.tmp 9) rfl (by rfl) rfl (b1) rfl Try.underlying3 rfl ?_
  refine wpList_plain rfl (fun K hK => ?_); go_simp; with_reducible refine hK _ _ ?_; clear hK K
  refine wpList_ld1 (t := 28) (cs := opC k v b e six ah al pt pr wy A n c) 3 (.tmp 11) rfl (by rfl) rfl (b1) rfl Try.underlying3 rfl ?_
  refine wpList_plain rfl (fun K hK => ?_); go_simp; with_reducible refine hK _ _ ?_; clear hK K
  refine wpList_ldA (t := 28) (cs := opC k v b e six ah al pt pr wy A n c) 24 (.tmp 13) rfl rfl (adC six ah al) rfl (b1) rfl a1 a2 (szAd _ _ _) ?_
  refine wpList_plain rfl (fun K hK => ?_); go_simp; with_reducible refine hK _ _ ?_; clear hK K
  refine wpList_ld1 (t := 28) (cs := opC k v b e six ah al pt pr wy A n c) 25 (.tmp 15) rfl (by rfl) rfl (b1) rfl Try.underlying25 rfl ?_
  refine wpList_plain rfl (fun K hK => ?_); go_simp; with_reducible refine hK _ _ ?_; clear hK K
  refine wpList_ld1 (t := 28) (cs := opC k v b e six ah al pt pr wy A n c) 5 (.tmp 17) rfl (by rfl) rfl (b1) rfl Try.underlying5 rfl ?_
  refine wpList_plain rfl (fun K hK => ?_); go_simp; with_reducible refine hK _ _ ?_; clear hK K
  refine wpList_ld1 (t := 28) (cs := opC k v b e six ah al pt pr wy A n c) 3 (.tmp 19) rfl (by rfl) rfl (b1) rfl Try.underlying3 rfl ?_
  simp only [Act.put, List.setIfInBounds_toArray, List.set_cons_zero, List.set_cons_succ]
  refine wpList_build 35 [(0, .tmp 6), (1, .tmp 8), (2, .tmp 10), (3, .tmp 12), (4, .tmp 14), (5, .tmp 16), (6, .tmp 18), (7, .tmp 20)] rfl rfl (.agg (opC k v b e six ah al pt pr wy none 0 0).toArray) ?_ ?_
  · exact run_buildTo k v b e six ah al pt pr wy _
  refine wpList_plain rfl (fun K hK => ?_); go_simp; with_reducible refine hK _ _ ?_; clear hK K
  refine wpList_stA (t := 35) 35 (.tmp 3) (.tmp 21) rfl rfl (opC k v b e six ah al pt pr wy none 0 0) (opC 0 0 0 0 false 0 0 0 0 0 none 0 0) rfl (opC_one _ _ _ _ _ _ _ _ _ _ _ _ _) rfl rfl (Bk.new V 35 #[.int .i64 0, .int .i64 0, .int .i64 0, .int .i64 0, .bool false, .int .u64 0, .int .u64 0, .int .u16 0, .int .u8 0, .int .i64 0, .slice none 0 0]) (szOp _ _ _ _ _ _ _ _ _ _ _ _ _) ?_; intro W4 h4 g4
  simp only [Act.put, List.setIfInBounds_toArray, List.set_cons_zero, List.set_cons_succ]
  have be4 : Below V.heap.size V W4 := below_grown (Below.allocS (Below.refl _ _) _) g4 (Nat.le_refl _)
  have b3 : Bk W4 V.heap.size 35 (opC k v b e six ah al pt pr wy none 0 0) := h4
  have z3 : w.heap.size + 2 ≤ V.heap.size := zV
  replace b1 := b1.later be4
  replace b2 := b2.later be4
  replace be := be.trans (be4.mono be.size)
  have zW := b3.lt
  have hO0 : Os 105 2 W4 (V.heap.size + 1) none 0 0 (prs .i64 (ms.take 0)) := Os.nil_
  clear be4 h4 g4
  generalize V.heap.size = g3 at *
  go_upto_region 3 with (fail)
  go_loopw [4] (fun I wr => ∃ i : Nat, I = .int .i64 (i : Int) ∧ i ≤ n ∧ ∃ B d, Bk wr g3 35 (opC k v b e six ah al pt pr wy B i d) ∧ Os 105 2 wr (g3 + 1) B i d (prs .i64 (ms.take i)) ∧ Bk wr w.heap.size 28 (opC k v b e six ah al pt pr wy A n c) ∧ Bk wr (w.heap.size + 1) 35 (opC 0 0 0 0 false 0 0 0 0 0 none 0 0) ∧ Below w.heap.size w wr) (fun I _ => n - (intOf I).toNat)
  case atStart => exact ⟨0, rfl, Nat.zero_le _, none, 0, b3, hO0, b1, b2, be⟩
  case round =>
    clear b1 b2 b3 be hO0 zW
    obtain ⟨i, rfl, hi, B, d, b3, hO, b1, b2, be⟩ := hrel
    have q10 : wr.cell? ⟨w.heap.size, 10, none⟩ = some (.slice A n c) := b1.cell 10
    have zW := b3.lt
    by_cases hlt : i < n
    · have ii : (i : Int) < (n : Int) := by omega
      have hjL : i < ms.length := by omega
      obtain ⟨bl, ol, rfl, hbl, -⟩ := (hr0.later be).at_ (by omega) (by decide)
      have HC := Lib.hid (fun (W : World) (h : Below wr.heap.size wr W) => (hr0.later (be.trans (h.mono be.size))).range2 i hjL)
      have HT := Lib.hid (show ms.take (i + 1) = ms.take i ++ [ms[i]] from (List.take_succ_eq_append_getElem hjL))
      generalize ms[i] = p at *
      obtain ⟨px, py⟩ := p
      simp only [] at HC
      go_upto_region 5 with (fail)
      refine wp_relS 16 48 rfl (by kernel_rfl) (by kernel_rfl) ?_
      apply Steps.one (MP.eq _) 1 rfl
      · intro o ho FA x hO hD K hK
        obtain rfl := Option.some.inj ho.symm
        clear ho
        have e3 := hO 3 (by kernel_rfl)
        simp only [eval_tmp, List.getElem?_toArray, List.getElem?_cons_succ, List.getElem?_cons_zero, Option.getD_some] at e3
        have ev3 := Lib.hid ((eval_tmp FA 3).trans e3)
        clear hO hD
        go_simp
        exact hK.out _ _ (Ex.refl _) rfl
      apply Steps.one (MP.eq _) 2 rfl
      · intro o ho FA x hO hD K hK
        obtain rfl := Option.some.inj ho.symm
        clear ho
        have ev29 : FA.eval (.tmp 29) = _ := hD 0 29 (by kernel_rfl)
        have e29 := (eval_tmp FA 29).symm.trans ev29
        replace ev29 := Lib.hid ev29
        clear hO hD
        refine wanted_if rfl ?_
        refine wp_ld1 33 (.tmp 29) rfl ev29.out (b3.later (below_plus _ _ _)) rfl Try.underlying33 rfl ?_
        exact hK.out _ _ (Ex.refl _) rfl
      apply Steps.one (MP.eq _) 3 rfl
      · intro o ho FA x hO hD K hK
        obtain rfl := Option.some.inj ho.symm
        clear ho
        have e1 := hO 1 (by kernel_rfl)
        simp only [eval_tmp, List.getElem?_toArray, List.getElem?_cons_succ, List.getElem?_cons_zero, Option.getD_some] at e1
        have ev1 := Lib.hid ((eval_tmp FA 1).trans e1)
        clear hO hD
        go_simp
        exact hK.out _ _ (Ex.refl _) rfl
      apply Steps.one (MP.eq _) 4 rfl
      · intro o ho FA x hO hD K hK
        obtain rfl := Option.some.inj ho.symm
        clear ho
        have ev31 : FA.eval (.tmp 31) = _ := hD 2 31 (by kernel_rfl)
        have e31 := (eval_tmp FA 31).symm.trans ev31
        replace ev31 := Lib.hid ev31
        clear hO hD
        refine wanted_if rfl ?_
        refine wp_ld1 26 (.tmp 31) rfl ev31.out (b1.later (below_plus _ _ _)) rfl Try.underlying26 rfl ?_
        exact hK.out _ _ (Ex.refl _) rfl
      apply Steps.one (MP.eq _) 5 rfl
      · intro o ho FA x hO hD K hK
        obtain rfl := Option.some.inj ho.symm
        clear ho
        have e4 := hO 4 (by kernel_rfl)
        simp only [eval_tmp, List.getElem?_toArray, List.getElem?_cons_succ, List.getElem?_cons_zero, Option.getD_some] at e4
        have ev4 := Lib.hid ((eval_tmp FA 4).trans e4)
        clear hO hD
        go_simp
        exact hK.out _ _ (Ex.refl _) rfl
      apply Steps.one (MP.eq _) 6 rfl
      · intro o ho FA x hO hD K hK
        obtain rfl := Option.some.inj ho.symm
        clear ho
        have ev32 : FA.eval (.tmp 32) = _ := hD 3 32 (by kernel_rfl)
        have e32 := (eval_tmp FA 32).symm.trans ev32
        replace ev32 := Lib.hid ev32
        have ev33 : FA.eval (.tmp 33) = _ := hD 4 33 (by kernel_rfl)
        have e33 := (eval_tmp FA 33).symm.trans ev33
        replace ev33 := Lib.hid ev33
        clear hO hD
        go_simp
        exact hK.out _ _ (Ex.refl _) rfl
      apply Steps.one (MP.eq _) 7 rfl
      · intro o ho FA x hO hD K hK
        obtain rfl := Option.some.inj ho.symm
        clear ho
        have ev34 : FA.eval (.tmp 34) = _ := hD 5 34 (by kernel_rfl)
        have e34 := (eval_tmp FA 34).symm.trans ev34
        replace ev34 := Lib.hid ev34
        clear hO hD
        go_simp
        exact hK.out _ _ (Ex.refl _) rfl
      apply Steps.one (MP.eq _) 8 rfl
      · intro o ho FA x hO hD K hK
        obtain rfl := Option.some.inj ho.symm
        clear ho
        have ev35 : FA.eval (.tmp 35) = _ := hD 6 35 (by kernel_rfl)
        have e35 := (eval_tmp FA 35).symm.trans ev35
        replace ev35 := Lib.hid ev35
        clear hO hD
        have q9 := (HC.out (plus wr x.bs x.d) (below_plus _ _ _)).1
        go_simp
        exact hK.out _ _ (Ex.refl _) rfl
      apply Steps.one (MP.eq _) 9 rfl
      · intro o ho FA x hO hD K hK
        obtain rfl := Option.some.inj ho.symm
        clear ho
        have e1 := hO 1 (by kernel_rfl)
        simp only [eval_tmp, List.getElem?_toArray, List.getElem?_cons_succ, List.getElem?_cons_zero, Option.getD_some] at e1
        have ev1 := Lib.hid ((eval_tmp FA 1).trans e1)
        clear hO hD
        go_simp
        exact hK.out _ _ (Ex.refl _) rfl
      apply Steps.one (MP.eq _) 10 rfl
      · intro o ho FA x hO hD K hK
        obtain rfl := Option.some.inj ho.symm
        clear ho
        have ev37 : FA.eval (.tmp 37) = _ := hD 8 37 (by kernel_rfl)
        have e37 := (eval_tmp FA 37).symm.trans ev37
        replace ev37 := Lib.hid ev37
        clear hO hD
        refine wanted_if rfl ?_
        refine wp_ld1 26 (.tmp 37) rfl ev37.out (b1.later (below_plus _ _ _)) rfl Try.underlying26 rfl ?_
        exact hK.out _ _ (Ex.refl _) rfl
      apply Steps.one (MP.eq _) 11 rfl
      · intro o ho FA x hO hD K hK
        obtain rfl := Option.some.inj ho.symm
        clear ho
        have e4 := hO 4 (by kernel_rfl)
        simp only [eval_tmp, List.getElem?_toArray, List.getElem?_cons_succ, List.getElem?_cons_zero, Option.getD_some] at e4
        have ev4 := Lib.hid ((eval_tmp FA 4).trans e4)
        clear hO hD
        go_simp
        exact hK.out _ _ (Ex.refl _) rfl
      apply Steps.one (MP.eq _) 12 rfl
      · intro o ho FA x hO hD K hK
        obtain rfl := Option.some.inj ho.symm
        clear ho
        have ev38 : FA.eval (.tmp 38) = _ := hD 9 38 (by kernel_rfl)
        have e38 := (eval_tmp FA 38).symm.trans ev38
        replace ev38 := Lib.hid ev38
        have ev39 : FA.eval (.tmp 39) = _ := hD 10 39 (by kernel_rfl)
        have e39 := (eval_tmp FA 39).symm.trans ev39
        replace ev39 := Lib.hid ev39
        clear hO hD
        go_simp
        exact hK.out _ _ (Ex.refl _) rfl
      apply Steps.one (MP.eq _) 13 rfl
      · intro o ho FA x hO hD K hK
        obtain rfl := Option.some.inj ho.symm
        clear ho
        have ev40 : FA.eval (.tmp 40) = _ := hD 11 40 (by kernel_rfl)
        have e40 := (eval_tmp FA 40).symm.trans ev40
        replace ev40 := Lib.hid ev40
        clear hO hD
        go_simp
        exact hK.out _ _ (Ex.refl _) rfl
      apply Steps.one (MP.eq _) 14 rfl
      · intro o ho FA x hO hD K hK
        obtain rfl := Option.some.inj ho.symm
        clear ho
        have ev41 : FA.eval (.tmp 41) = _ := hD 12 41 (by kernel_rfl)
        have e41 := (eval_tmp FA 41).symm.trans ev41
        replace ev41 := Lib.hid ev41
        clear hO hD
        have q9 := (HC.out (plus wr x.bs x.d) (below_plus _ _ _)).2
        go_simp
        exact hK.out _ _ (Ex.refl _) rfl
      apply Steps.one (MP.eq _) 15 rfl
      · intro o ho FA x hO hD K hK
        obtain rfl := Option.some.inj ho.symm
        clear ho
        have ev36 : FA.eval (.tmp 36) = _ := hD 7 36 (by kernel_rfl)
        have e36 := (eval_tmp FA 36).symm.trans ev36
        replace ev36 := Lib.hid ev36
        have ev42 : FA.eval (.tmp 42) = _ := hD 13 42 (by kernel_rfl)
        have e42 := (eval_tmp FA 42).symm.trans ev42
        replace ev42 := Lib.hid ev42
        clear hO hD
        go_simp
        exact hK.out _ _ (Ex.refl _) rfl
      apply Steps.one (MP.rs 2 [.int .i64 px, .int .i64 py]) 16 rfl
      · intro o ho FA x hO hD K hK
        obtain rfl := Option.some.inj ho.symm
        clear ho
        have ev43 : FA.eval (.tmp 43) = _ := hD 14 43 (by kernel_rfl)
        have e43 := (eval_tmp FA 43).symm.trans ev43
        replace ev43 := Lib.hid ev43
        clear hO hD
        go_simp
        refine hK.out _ _ (Ex.alloc _ _) ⟨_, _, _, rfl, ?_⟩
        exact Rs.of_bk (n := 1) (c := 1) (Bk.newK _ _ _ (by simp [size_plus]) rfl) rfl (Nat.le_refl _)
      refine Steps.fin_ (fun vs x hp => ?_)
      have p0 : vs 0 = _ := hp 0 (by omega)
      have p1 : vs 1 = _ := hp 1 (by omega)
      have p2 : vs 2 = _ := hp 2 (by omega)
      have p3 : vs 3 = _ := hp 3 (by omega)
      have p4 : vs 4 = _ := hp 4 (by omega)
      have p5 : vs 5 = _ := hp 5 (by omega)
      have p6 : vs 6 = _ := hp 6 (by omega)
      have p7 : vs 7 = _ := hp 7 (by omega)
      have p8 : vs 8 = _ := hp 8 (by omega)
      have p9 : vs 9 = _ := hp 9 (by omega)
      have p10 : vs 10 = _ := hp 10 (by omega)
      have p11 : vs 11 = _ := hp 11 (by omega)
      have p12 : vs 12 = _ := hp 12 (by omega)
      have p13 : vs 13 = _ := hp 13 (by omega)
      have p14 : vs 14 = _ := hp 14 (by omega)
      have p15 := hp 15 (by omega)
      clear hp
      simp only [List.take_succ_cons, List.take_zero, List.drop_succ_cons, List.drop_zero, putAll, Nat.zero_add, Nat.reduceAdd, Act.put, List.setIfInBounds_toArray, List.set_cons_zero, List.set_cons_succ, p0, p1, p2, p3, p4, p5, p6, p7, p8, p9, p10, p11, p12, p13, p14]
      clear p0 p1 p2 p3 p4 p5 p6 p7 p8 p9 p10 p11 p12 p13 p14
      generalize vs 15 = y15 at *
      clear vs
      obtain ⟨A5, n5, c5, rfl, h5⟩ := p15
      obtain rfl : n5 = 1 := by have := h5.1; simp at this; omega
      have b4 := below_plus wr x.bs x.d
      replace hO := hO.later b4
      replace b1 := b1.later b4
      replace b2 := b2.later b4
      replace b3 := b3.later b4
      replace be := be.trans (b4.mono be.size)
      clear b4 HC q10
      generalize plus wr x.bs x.d = W at *
      have zW2 := b3.lt
      refine wpList_appS etCm rfl (.tmp 30) (.tmp 44) rfl rfl hO rfl h5 (by simp [Value.oneCell']) (by omega) (by omega) ?_
      intro A2 n2 c2 w4 hn2 hO4 hb4 hg4
      subst hn2
      simp only [Act.put, List.setIfInBounds_toArray, List.set_cons_zero, List.set_cons_succ]
      have hbl3 : ∀ k, (Value.slice B i d).ownBlock = some k → g3 + 1 ≤ k := fun k hk => (hO.blk k hk).1
      have b4 : Below (g3 + 1) W w4 := hb4
      have b1' := b1.below b4 (by omega)
      have b2' := b2.below b4 (by omega)
      have b3' := b3.below b4 (by omega)
      have be' := be.trans (b4.mono (by omega))
      clear b1 b2 b3 be b4 hO h5 zW zW2
      refine wpList_plain rfl (fun K hK => ?_); go_simp; with_reducible refine hK _ _ ?_; clear hK K
      refine wpList_st1 33 (.tmp 46) (.tmp 45) rfl rfl (by rfl) (by rfl) b3' (by simp [opC]) rfl (by kernel_rfl) ?_
      intro W5 h5s g5s
      simp only [Act.put, List.setIfInBounds_toArray, List.set_cons_zero, List.set_cons_succ]
      have q5 : Bk W5 g3 35 (opC k v b e six ah al pt pr wy A2 (i + 1) c2) := h5s
      have hO5 : Os 105 2 W5 (g3 + 1) A2 (i + 1) c2 (prs .i64 (ms.take (i + 1))) := by
        rw [HT.out, prs_append]
        exact hO4.grown g5s (fun k hk e => by have := (hO4.blk k hk).1; injection e with e; omega)
      have b1'' := b1'.grown g5s (fun e => by injection e with e; omega)
      have b2'' := b2'.grown g5s (fun e => by injection e with e; omega)
      have be'' : Below w.heap.size w W5 := below_grown be' g5s (by omega)
      clear h5s g5s b1' b2' b3' be' hO4 HT hb4 hg4
      go_wp2
      exact ⟨⟨i + 1, by go_num, by omega, A2, c2, q5, hO5, b1'', b2'', be''⟩, by simp [intOf]; omega⟩
    · obtain rfl : i = n := by omega
      have ii : ¬ (i : Int) < (i : Int) := by omega
      have hrs := hO.rs
      rw [List.take_of_length_le (by omega)] at hrs
      go_upto_region 6 with (fail)
      refine wp_region_lit ?_
      refine wpList_ldA (t := 35) 35 (.tmp 3) rfl rfl (opC k v b e six ah al pt pr wy B i d) rfl (b3) (whole_ _) w1 w2 (szOp _ _ _ _ _ _ _ _ _ _ _ _ _) ?_
      simp only [Act.put, List.setIfInBounds_toArray, List.set_cons_zero, List.set_cons_succ]
      refine wpList_stA (t := 35) 35 (.tmp 2) (.tmp 47) rfl rfl (opC k v b e six ah al pt pr wy B i d) (opC 0 0 0 0 false 0 0 0 0 0 none 0 0) rfl (opC_one _ _ _ _ _ _ _ _ _ _ _ _ _) rfl rfl b2 (szOp _ _ _ _ _ _ _ _ _ _ _ _ _) ?_
      intro W6 h6 g6
      simp only [Act.put, List.setIfInBounds_toArray, List.set_cons_zero, List.set_cons_succ]
      go_wp2
      refine bodyPost_agg Try.results11 rfl h6.range w1 w2 (szOp _ _ _ _ _ _ _ _ _ _ _ _ _) rfl ?_
      have hrs' : Rs 2 W6 B i d (prs .i64 ms) := hrs.grown g6 (fun a ha e => by have := hO.addr a ha; injection e with e; omega)
      obtain ⟨bs, d0, rfl⟩ := plus_of (below_grown be g6 (by omega))
      exact ⟨B, d, rfl, bs, d0, rfl, hrs'⟩
end Go.Proofs.Ytepodflinhpejaa

