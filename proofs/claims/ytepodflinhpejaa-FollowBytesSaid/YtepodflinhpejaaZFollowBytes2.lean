/- Texts of the law FollowBytes, part 2. -/
import Derived.Test.YtepodflinhpejaaZFollowBytes1
/- follow.Parse (chapter 27). -/
namespace Go.Proofs.Ytepodflinhpejaa
open Go.RowKit
set_option linter.unusedVariables false
set_option linter.unusedSimpArgs false
attribute [local go_sem ↓] sliced_cut

attribute [local go_sem] cutA_zero

theorem etSl : ET Try.prog 75 29 (.slice none 0 0) 1 24 := ⟨Try.underlying75, by kernel_rfl, rfl, by decide, by decide⟩
/-- own bytes lie apart from an own row of another type -/
theorem Ob.apart {w : World} {B B' s : Nat} {e : TypeId} {A A' : Option Addr} {n c n' c' : Nat} {l : List UInt8} {cs : List Value} (h : Ob w B A n c l) (ho : Os e s w B' A' n' c' cs) (he : e ≠ 5) : ∀ k, (Value.slice A n c).ownBlock = some k → (Value.slice A' n' c').ownBlock ≠ some k := by
  intro k hk hk'
  rcases h.2.2 with ⟨h1, _⟩ | ⟨g, cap, cur, h1, _, h2, _⟩
  · rw [h1] at hk; cases hk
  · rcases ho.2 with ⟨o1, _⟩ | ⟨g', cap', cur', o1, _, o2, _⟩
    · rw [o1] at hk'; cases hk'
    · rw [h1] at hk
      rw [o1] at hk'
      simp only [Value.ownBlock, Option.some.injEq] at hk hk'
      subst hk
      subst hk'
      rw [h2] at o2
      injection o2 with o2
      injection o2 with o2 o3
      exact he o3.symm
/-- parts, each in bytes of its own -/
def PtO (w : World) (B : Nat) (L : List (List UInt8)) (E : List Sl) : Prop := E.length = L.length ∧ ∀ (i : Nat) (h : i < L.length) (h' : i < E.length), Ob w B E[i].1 E[i].2.1 E[i].2.2 L[i]
theorem PtO.ok {w : World} {B : Nat} {L : List (List UInt8)} {E : List Sl} (h : PtO w B L E) : PtOk w L E := ⟨h.1, fun i a b => (h.2 i a b).rb⟩
theorem PtO.nil_ (w : World) (B : Nat) : PtO w B [] [] := ⟨rfl, fun i h => absurd h (Nat.not_lt_zero i)⟩
theorem PtO.map_ {w w' : World} {B : Nat} {L : List (List UInt8)} {E : List Sl} (h : PtO w B L E) (f : ∀ A n c l, Ob w B A n c l → Ob w' B A n c l) : PtO w' B L E := ⟨h.1, fun i a b => f _ _ _ _ (h.2 i a b)⟩
theorem PtO.snoc {w : World} {B : Nat} {L : List (List UInt8)} {E : List Sl} (h : PtO w B L E) {e : Sl} {l : List UInt8} (hr : Ob w B e.1 e.2.1 e.2.2 l) : PtO w B (L ++ [l]) (E ++ [e]) := by
  refine ⟨by simp [h.1], fun i h1 h2 => ?_⟩
  by_cases hi : i < L.length
  · rw [List.getElem_append_left hi, List.getElem_append_left (by rw [h.1]; exact hi)]
    exact h.2 i hi (by rw [h.1]; exact hi)
  · have e : i = L.length := by simp at h1; omega
    subst e
    rw [List.getElem_append_right (Nat.le_refl _), List.getElem_append_right (by rw [h.1]; exact Nat.le_refl _)]
    simp [h.1, hr]
/-- a row of one part -/
def MC.pt {D : Nat → Prop} (B : Nat) (hd : ∀ b, D b → b < B) (l : List UInt8) : MC D := ⟨fun v w => ∃ A n c, ∃ e : Sl, v = .slice A n c ∧ Rs 1 w A n c (slV e) ∧ Ob w B e.1 e.2.1 e.2.2 l ∧ ∀ a, A = some a → B ≤ a.block, fun _ _ _ ⟨A, n, c, e, h1, h2, h3, h4⟩ h => ⟨A, n, c, e, h1, h2.chg h (fun a ha hD => by have := h4 a ha; have := hd _ hD; omega), h3.chg h hd, h4⟩⟩
def ptsI : Nat → StB → List (List UInt8) × StB
  | 0, s => ([], s)
  | i + 1, s => ((ptsI i s).1 ++ [tkB (numT 2 (ptsI i s).2) (drB 2 (ptsI i s).2)], drB (numT 2 (ptsI i s).2) (drB 2 (ptsI i s).2))
theorem ptsI_len (s : StB) : ∀ i, (ptsI i s).1.length = i
  | 0 => rfl
  | i + 1 => by simp [ptsI, ptsI_len s i]
theorem SL.ptsI {s : StB} (h : SL s) : ∀ i, SL (ptsI i s).2
  | 0 => h
  | i + 1 => ((SL.ptsI h i).dr 2).dr _
theorem ptsI_none {s : StB} : ∀ (i j : Nat), (ptsI i s).2 = none → (ptsI (i + j) s).2 = none
  | i, 0, h => h
  | i, j + 1, h => by
    have := ptsI_none i j h
    show drB _ (drB 2 (ptsI (i + j) s).2) = none
    rw [this]
    rfl
theorem wrap8 {k : Nat} (h : k < 256) : IntKind.i64.wrap (k : Int) = (k : Int) := IntWalk.i64_in _ (by omega)
theorem wrap16 {k : Nat} (h : k < 65536) : IntKind.i64.wrap (k : Int) = (k : Int) := IntWalk.i64_in _ (by omega)
theorem badN (r : Nat) (w : World) (h : RP w r none) : Calls Try.prog 72 #[.pointer (some ⟨r, 0, none⟩)] w fun e w' => e = .returned (.bool true) ∧ w = w' := badT r none w h
theorem badS (r : Nat) (l : List UInt8) (w : World) (h : RP w r (some l)) : Calls Try.prog 72 #[.pointer (some ⟨r, 0, none⟩)] w fun e w' => e = .returned (.bool false) ∧ w = w' := badT r (some l) w h
theorem leftS (r : Nat) (l : List UInt8) (w : World) (h : RP w r (some l)) : Calls Try.prog 35 #[.pointer (some ⟨r, 0, none⟩)] w fun e w' => e = .returned (.int .i64 (l.length : Nat)) ∧ w = w' := leftT r (some l) w h
theorem Ob.chgG {D : Nat → Prop} {w w' : World} {B : Nat} {A : Option Addr} {n c : Nat} {l : List UInt8} (h : Ob w B A n c l) (hc : Chg D w w') (hd : ∀ k, (Value.slice A n c).ownBlock = some k → ¬ D k) : Ob w' B A n c l := by
  refine ⟨h.1, h.2.1, ?_⟩
  rcases h.2.2 with h1 | ⟨g, cap, cur, h1, h2, h3, h4⟩
  · exact .inl h1
  · refine .inr ⟨g, cap, cur, h1, h2, ?_, h4⟩
    rw [hc.block g (Array.getElem?_eq_some_iff.1 h3).1 (hd g (by rw [h1]; rfl))]
    exact h3
theorem flat_snoc (E : List Sl) (e : Sl) : (E ++ [e]).flatMap slV = E.flatMap slV ++ slV e := by simp
set_option maxRecDepth 100000 in
theorem bdZ (w : World) : (Instr.build 79 #[]).run Try.prog w = .ok (.agg (msC 0 0 none 0 0).toArray) w := by kernel_rfl
def restM (b : List UInt8) : StB := drB 1 (drB 8 (drB 1 (some b)))
/-- the message that bytes are -/
def pmS (b : List UInt8) : Option (Nat × Nat × List (List UInt8)) := if (ptsI (numT 1 (drB 8 (drB 1 (some b)))) (restM b)).2 = some [] ∧ rightM (numT 1 (some b) : Nat) (ptsI (numT 1 (drB 8 (drB 1 (some b)))) (restM b)).1 = true then some (numT 1 (some b), numT 8 (drB 1 (some b)), (ptsI (numT 1 (drB 8 (drB 1 (some b)))) (restM b)).1) else none
/-- what a reader of messages gives -/
def RetPM (w : World) (b : List UInt8) (F : Bool → Value) (e : Ending) (w' : World) : Prop := ∃ k nu : Nat, ∃ A n c ok, e = .returned (.tuple #[.agg (msC (k : Int) nu A n c).toArray, F ok]) ∧ Below w.heap.size w w' ∧ (ok = false ∧ pmS b = none ∧ k = 0 ∧ nu = 0 ∧ A = none ∧ n = 0 ∧ c = 0 ∨ ok = true ∧ ∃ L, pmS b = some (k, nu, L) ∧ RL w' A n c L ∧ n ≤ 255 ∧ rightM (k : Int) L = true)
set_option maxHeartbeats 4000000 in
set_option maxRecDepth 100000 in
theorem parseFol_any (b : List UInt8) (A : Option Addr) (n c : Nat) (w : World) (hb : Rb w A n c b) (hn : n ≤ 1000000) : Calls Try.prog 22 #[.slice A n c] w (RetPM w b (fun ok => .int .i64 (bif ok then 0 else 21))) := by
  obtain ⟨dvm1, vm1, vm2⟩ := rowFm
  have hs : SL (some b) := fun l hl => by injection hl with hl; subst hl; have := hb.1; omega
  have hs1 := hs.dr 1
  have hs2 := hs1.dr 8
  have hs3 := hs2.dr 1
  have hk := numT_lt 1 256 (some b) (by decide)
  have hnu := numT_lt 8 18446744073709551616 (drB 1 (some b)) (by decide)
  have hm := numT_lt 1 256 (drB 8 (drB 1 (some b))) (by decide)
  have wk := wrap8 hk
  have wm := wrap8 hm
  have hP : pmS b = if (ptsI (numT 1 (drB 8 (drB 1 (some b)))) (drB 1 (drB 8 (drB 1 (some b))))).2 = some [] ∧ rightM (numT 1 (some b) : Nat) (ptsI (numT 1 (drB 8 (drB 1 (some b)))) (drB 1 (drB 8 (drB 1 (some b))))).1 = true then some (numT 1 (some b), numT 8 (drB 1 (some b)), (ptsI (numT 1 (drB 8 (drB 1 (some b)))) (drB 1 (drB 8 (drB 1 (some b))))).1) else none := rfl
  generalize hs3e : drB 1 (drB 8 (drB 1 (some b))) = s3 at *
  have HB := Lib.hid (fun r w h => byteT r (some b) w h hs)
  have HN := Lib.hid (fun r w h => numTP r 8 (drB 1 (some b)) w h hs1 (by omega))
  have HC := Lib.hid (fun r w h => byteT r (drB 8 (drB 1 (some b))) w h hs2)
  rw [hs3e] at HC
  clear hs3e hs hs1 hs2
  generalize numT 1 (some b) = k at *
  generalize numT 8 (drB 1 (some b)) = nu at *
  generalize numT 1 (drB 8 (drB 1 (some b))) = m at *
  generalize drB 8 (drB 1 (some b)) = s2 at *
  generalize drB 1 (some b) = s1 at *
  replace hP := Lib.hid hP
  have b2 : Bk (w.alloc (.cells #[.int .i64 0, .int .u64 0, .slice none 0 0] 79)) w.heap.size 79 (msC 0 0 none 0 0) := Bk.new w 79 #[.int .i64 0, .int .u64 0, .slice none 0 0]
  have be : Below w.heap.size w (w.alloc (.cells #[.int .i64 0, .int .u64 0, .slice none 0 0] 79)) := Below.allocS (Below.refl _ _) _
  replace hb := hb.later be
  go_enter Try.func22, Try.ntmps22
  go_upto_region 1 with (fail)
  generalize w.alloc (.cells #[.int .i64 0, .int .u64 0, .slice none 0 0] 79) = V at *
  go_wp2_with fail
  refine (readT _ _ _ _ _ hb (by omega)).mono ?_
  rintro e w1 ⟨r, bs1, d1, rfl, rfl, hr1, hR⟩
  have zV := b2.lt
  replace b2 := b2.later (below_plus V bs1 d1)
  replace be := belowP be bs1 d1
  have zr := hR.lt
  clear hb
  replace HB := Lib.hid (HB.out r)
  replace HN := Lib.hid (HN.out r)
  replace HC := Lib.hid (HC.out r)
  generalize plus V bs1 d1 = V0 at *
  go_upto_region 3 with (fail)
  have b5 : Bk (V0.alloc (.cells #[.int .i64 0, .int .u64 0, .slice none 0 0] 79)) V0.heap.size 79 (msC 0 0 none 0 0) := Bk.new V0 79 #[.int .i64 0, .int .u64 0, .slice none 0 0]
  have be3 : Below V0.heap.size V0 (V0.alloc (.cells #[.int .i64 0, .int .u64 0, .slice none 0 0] 79)) := Below.allocS (Below.refl _ _) _
  replace b2 := b2.later be3
  replace hR := hR.later be3
  replace be := be.trans (be3.mono be.size)
  have hr5 : r + 1 ≤ V0.heap.size := zr
  have zx : w.heap.size ≤ r := by omega
  have zw : w.heap.size < r := by omega
  clear be3 zV hr1
  generalize V0.alloc (.cells #[.int .i64 0, .int .u64 0, .slice none 0 0] 79) = V at *
  generalize V0.heap.size = g5 at *
  refine wp_region_lit ?_
  refine wpList_plain rfl (fun K hK => ?_); go_simp; with_reducible refine hK _ _ ?_; clear hK K
  refine wpList_plain rfl (fun K hK => ?_)
  go_simp
  refine (HB.out _ hR).mono ?_
  rintro e V1 ⟨rfl, hR1, hg⟩
  with_reducible refine hK _ _ ?_
  clear hK K
  replace b2 := b2.grown hg (fun e => by injection e with e; omega)
  replace b5 := b5.grown hg (fun e => by injection e with e; omega)
  replace be := below_grown be hg zx
  clear hg
  iterate 2 (refine wpList_plain rfl (fun K hK => ?_); go_simp; with_reducible refine hK _ _ ?_; clear hK K)
  refine wpList_st1 3 (.tmp 11) (.tmp 10) rfl rfl (by rfl) (by rfl) b5 (by simp [msC]) rfl (by kernel_rfl) ?_
  intro W1 hW1 gW1
  simp only [Act.put, List.setIfInBounds_toArray, List.set_cons_zero, List.set_cons_succ]
  replace b2 := b2.grown gW1 (fun e => by injection e with e; omega)
  have q5 : Bk W1 g5 79 (msC k 0 none 0 0) := hW1
  have hR2 := hR1.low ((Chg.one (D := fun b => b = g5) gW1 rfl).below (B := r + 1) (fun b hb => by have : b = g5 := hb; omega) hR1.lt)
  replace be := below_grown be gW1 (by omega)
  clear b5 hW1 gW1 hR1
  rename Bk W1 g5 79 (msC k 0 none 0 0) => b5
  go_upto_region 4 with (fail)
  refine wp_region_lit ?_
  refine wpList_plain rfl (fun K hK => ?_); go_simp; with_reducible refine hK _ _ ?_; clear hK K
  refine wpList_plain rfl (fun K hK => ?_)
  go_simp
  refine (HN.out _ hR2).mono ?_
  rintro e V2 ⟨rfl, hR3, hg⟩
  with_reducible refine hK _ _ ?_
  clear hK K
  replace b2 := b2.grown hg (fun e => by injection e with e; omega)
  replace b5 := b5.grown hg (fun e => by injection e with e; omega)
  replace be := below_grown be hg zx
  clear hg
  refine wpList_plain rfl (fun K hK => ?_); go_simp; with_reducible refine hK _ _ ?_; clear hK K
  refine wpList_st1 22 (.tmp 14) (.tmp 13) rfl rfl (by rfl) (by rfl) b5 (by simp [msC]) rfl (by kernel_rfl) ?_
  intro W2 hW2 gW2
  simp only [Act.put, List.setIfInBounds_toArray, List.set_cons_zero, List.set_cons_succ]
  replace b2 := b2.grown gW2 (fun e => by injection e with e; omega)
  have q5 : Bk W2 g5 79 (msC k nu none 0 0) := hW2
  have hR4 := hR3.low ((Chg.one (D := fun b => b = g5) gW2 rfl).below (B := r + 1) (fun b hb => by have : b = g5 := hb; omega) hR3.lt)
  replace be := below_grown be gW2 (by omega)
  clear b5 hW2 gW2 hR3
  rename Bk W2 g5 79 (msC k nu none 0 0) => b5
  go_upto_region 5 with (fail)
  refine wp_region_lit ?_
  refine wpList_plain rfl (fun K hK => ?_); go_simp; with_reducible refine hK _ _ ?_; clear hK K
  refine wpList_plain rfl (fun K hK => ?_)
  go_simp
  refine (HC.out _ hR4).mono ?_
  rintro e V3 ⟨rfl, hR5, hg⟩
  with_reducible refine hK _ _ ?_
  clear hK K
  replace b2 := b2.grown hg (fun e => by injection e with e; omega)
  replace b5 := b5.grown hg (fun e => by injection e with e; omega)
  replace be := below_grown be hg zx
  clear hg
  iterate 2 (refine wpList_plain rfl (fun K hK => ?_); go_simp; with_reducible refine hK _ _ ?_; clear hK K)
  have hO0 : Os 29 1 V3 (g5 + 1) none 0 0 (([] : List Sl).flatMap slV) := Os.nil_
  clear HB HN HC hn hk wk
  go_upto_region 6 with (fail)
  go_loopw [18] (fun I wr => ∃ i : Nat, I = .int .i64 (i : Int) ∧ i ≤ m ∧ ∃ A c E, Bk wr w.heap.size 79 (msC 0 0 none 0 0) ∧ Bk wr g5 79 (msC k nu A i c) ∧ Os 29 1 wr (g5 + 1) A i c (E.flatMap slV) ∧ PtO wr (g5 + 1) (ptsI i s3).1 E ∧ RP wr r (ptsI i s3).2 ∧ Below w.heap.size w wr) (fun I _ => m - (intOf I).toNat)
  case atStart => exact ⟨0, rfl, Nat.zero_le _, none, 0, [], b2, b5, hO0, PtO.nil_ _ _, hR5, be⟩
  case round =>
    clear b2 b5 hO0 hR5 be
    obtain ⟨i, rfl, hi, A, c, E, b2, b5, hO, hE, hRr, be⟩ := hrel
    have hs4 := hs3.ptsI i
    have zW := b5.lt
    by_cases hlt : i < m
    · have ii : (i : Int) < (m : Int) := by omega
      have HT := Lib.hid (show ptsI (i + 1) s3 = ((ptsI i s3).1 ++ [tkB (numT 2 (ptsI i s3).2) (drB 2 (ptsI i s3).2)], drB (numT 2 (ptsI i s3).2) (drB 2 (ptsI i s3).2)) from rfl)
      generalize (ptsI i s3).1 = L at *
      generalize (ptsI i s3).2 = q at *
      have hz := numT_lt 2 65536 q (by decide)
      have wz := wrap16 hz
      have HW := Lib.hid (fun w h => wordT r q w h hs4)
      have HY := Lib.hid (fun w h => bytesT r (numT 2 q) (drB 2 q) w h (hs4.dr 2) (by omega))
      generalize numT 2 q = z at *
      generalize tkB z (drB 2 q) = l at *
      have hDr : ∀ b, (fun b => b = r) b → b < wr.heap.size := fun b hb => by have : b = r := hb; omega
      go_upto_region 7 with (fail)
      refine wp_suS (fun b => b = r) 8 47 2 [4, 6] rfl (by kernel_rfl) (by kernel_rfl) (fun k w' => match k with | 0 => RP w' r q | 1 => RP w' r (drB 2 q) | _ => RP w' r (drB z (drB 2 q))) (fun k w w' h h' => match k with | 0 => RP.later h h'.below | 1 => RP.later h h'.below | _ + 2 => RP.later h h'.below) (hRr) ?_
      apply StepsC.one (MC.eq _) 1 rfl (by decide)
      · intro o ho FA w' hC hO hD K hK
        obtain rfl := Option.some.inj ho.symm
        clear ho
        have e5 := hO 5 (by kernel_rfl)
        simp only [eval_tmp, List.getElem?_toArray, List.getElem?_cons_succ, List.getElem?_cons_zero, Option.getD_some] at e5
        have ev5 := Lib.hid ((eval_tmp FA 5).trans e5)
        clear hO hD
        go_simp
        exact hK.out _ _ (Ex.refl _) rfl
      apply StepsC.one (MC.eq _) 2 rfl (by decide)
      · intro o ho FA w' hC hO hD K hK
        obtain rfl := Option.some.inj ho.symm
        clear ho
        have ev20 : FA.eval (.tmp 20) = _ := hD 0 20 (by kernel_rfl)
        have e20 := (eval_tmp FA 20).symm.trans ev20
        replace ev20 := Lib.hid ev20
        clear hO hD
        refine wanted_if rfl ?_
        refine wp_ld1 75 (.tmp 20) rfl ev20.out (b5.chg hC (fun e => by have e : g5 = r := e; omega)) rfl Try.underlying75 rfl ?_
        exact hK.out _ _ (Ex.refl _) rfl
      apply StepsC.one (MC.eq _) 3 rfl (by decide)
      · intro o ho FA w' hC hO hD K hK
        obtain rfl := Option.some.inj ho.symm
        clear ho
        have e4 := hO 4 (by kernel_rfl)
        simp only [eval_tmp, List.getElem?_toArray, List.getElem?_cons_succ, List.getElem?_cons_zero, Option.getD_some] at e4
        have ev4 := Lib.hid ((eval_tmp FA 4).trans e4)
        clear hO hD
        go_simp
        exact hK.out _ _ (Ex.refl _) rfl
      apply StepsC.one (MC.eq _) 4 rfl (by decide)
      · intro o ho FA w' hC hO hD K hK
        obtain rfl := Option.some.inj ho.symm
        clear ho
        have e4 := hO 4 (by kernel_rfl)
        simp only [eval_tmp, List.getElem?_toArray, List.getElem?_cons_succ, List.getElem?_cons_zero, Option.getD_some] at e4
        have ev4 := Lib.hid ((eval_tmp FA 4).trans e4)
        clear hO hD
        go_simp
        exact hK.out _ _ (Ex.refl _) rfl
      apply StepsC.mov (MC.eq (.int .u16 (z : Int))) 5 0 rfl rfl rfl
      · intro o ho FA w' hC hO hD hS K hK
        obtain rfl := Option.some.inj ho.symm
        clear ho
        have ev23 : FA.eval (.tmp 23) = _ := hD 3 23 (by kernel_rfl)
        have e23 := (eval_tmp FA 23).symm.trans ev23
        replace ev23 := Lib.hid ev23
        clear hO hD
        go_simp
        refine (HW.out _ hS).mono ?_
        rintro e w2 ⟨rfl, hR6, hg6⟩
        exact hK.out _ _ (Chg.one hg6 rfl) hR6 rfl
      apply StepsC.one (MC.eq _) 6 rfl (by decide)
      · intro o ho FA w' hC hO hD K hK
        obtain rfl := Option.some.inj ho.symm
        clear ho
        have ev24 : FA.eval (.tmp 24) = _ := hD 4 24 (by kernel_rfl)
        have e24 := (eval_tmp FA 24).symm.trans ev24
        replace ev24 := Lib.hid ev24
        clear hO hD
        go_simp
        exact hK.out _ _ (Ex.refl _) rfl
      apply StepsC.mov (MC.ob wr.heap.size hDr l) 7 1 rfl rfl rfl
      · intro o ho FA w' hC hO hD hS K hK
        obtain rfl := Option.some.inj ho.symm
        clear ho
        have ev22 : FA.eval (.tmp 22) = _ := hD 2 22 (by kernel_rfl)
        have e22 := (eval_tmp FA 22).symm.trans ev22
        replace ev22 := Lib.hid ev22
        have ev25 : FA.eval (.tmp 25) = _ := hD 5 25 (by kernel_rfl)
        have e25 := (eval_tmp FA 25).symm.trans ev25
        replace ev25 := Lib.hid ev25
        clear hO hD
        go_simp
        refine (HY.out _ hS).mono ?_
        rintro e w2 ⟨A6, n6, c6, rfl, hO6, hR6, hg6⟩
        exact hK.out _ _ (Chg.one hg6 rfl) hR6 ⟨_, _, _, rfl, hO6.mono hC.size⟩
      apply StepsC.one (MC.pt wr.heap.size hDr l) 8 rfl (by decide)
      · intro o ho FA w' hC hO hD K hK
        obtain rfl := Option.some.inj ho.symm
        clear ho
        have f26 := hD 6 26 (by kernel_rfl)
        generalize eu26 : FA.eval (.tmp 26) = u26 at f26
        have e26 := (eval_tmp FA 26).symm.trans eu26
        have ev26 := Lib.hid eu26
        clear eu26
        clear hO hD
        obtain ⟨A6, n6, c6, rfl, hO6⟩ := f26
        go_simp
        refine hK.out _ _ (Ex.alloc _ _) ⟨_, _, _, (A6, n6, c6), rfl, ?_, ?_, ?_⟩
        · exact Rs.of_bk (n := 1) (c := 1) (Bk.new _ _ _) rfl (Nat.le_refl _)
        · exact hO6.later (Below.allocS (Below.refl _ _) _)
        · intro a ha; injection ha with ha; subst ha; exact hC.size
      refine StepsC.fin_ (fun vs w' hC hS hp => ?_)
      have p0 : vs 0 = _ := hp 0 (by omega) rfl
      have p1 : vs 1 = _ := hp 1 (by omega) rfl
      have p2 : vs 2 = _ := hp 2 (by omega) rfl
      have p3 : vs 3 = _ := hp 3 (by omega) rfl
      have p4 : vs 4 = _ := hp 4 (by omega) rfl
      have p5 : vs 5 = _ := hp 5 (by omega) rfl
      have p6 := hp 6 (by omega) rfl
      have p7 := hp 7 (by omega) rfl
      clear hp
      simp only [List.take_succ_cons, List.take_zero, List.drop_succ_cons, List.drop_zero, putAll, Nat.zero_add, Nat.reduceAdd, Act.put, List.setIfInBounds_toArray, List.set_cons_zero, List.set_cons_succ, p0, p1, p2, p3, p4, p5]
      clear p0 p1 p2 p3 p4 p5
      generalize vs 6 = y6 at *
      generalize vs 7 = y7 at *
      clear vs
      obtain ⟨A7, n7, c7, e7, rfl, h7, ho7, -⟩ := p7
      obtain rfl : n7 = 1 := by have := h7.1; rw [slV_len] at this; omega
      replace b2 := b2.chg hC (fun e => by have e : w.heap.size = r := e; omega)
      replace b5 := b5.chg hC (fun e => by have e : g5 = r := e; omega)
      replace hO := hO.chg hC (fun k hk e => by have := (hO.blk k hk).1; have e : k = r := e; omega)
      replace hE := hE.map_ (fun _ _ _ _ h => h.chgG hC (fun k hk e => by have := (h.2.lt k hk).1; have e : k = r := e; omega))
      replace be := be.trans ((hC.below (B := w.heap.size) (fun b hb => by have : b = r := hb; omega) (by omega)))
      have zW2 := b5.lt
      have ho7 := ho7.mono (show g5 + 1 ≤ wr.heap.size by omega)
      have hRr : RP w' r (drB z (drB 2 q)) := hS
      clear p6 hS hC hDr HW HY
      refine wpList_appS etSl rfl (.tmp 21) (.tmp 27) rfl rfl hO rfl h7 (slV_one _) (by omega) (by omega) ?_
      intro A2 n2 c2 w4 hn2 hO4 hb4 hg4
      subst hn2
      simp only [Act.put, List.setIfInBounds_toArray, List.set_cons_zero, List.set_cons_succ]
      replace hE := hE.map_ (fun A' n' c' l' h => h.grown hg4 (fun k' hk' e => h.apart hO (by decide) k' hk' e))
      replace ho7 := ho7.grown hg4 (fun k' hk' e => ho7.apart hO (by decide) k' hk' e)
      replace hE := hE.snoc ho7
      replace b2 := b2.below hb4 (by omega)
      replace b5 := b5.below hb4 (by omega)
      replace be := be.trans (hb4.mono (by omega))
      replace hRr := hRr.low (hb4.mono (by omega))
      rw [← flat_snoc] at hO4
      clear hb4 hg4 hO zW zW2 ho7 h7
      refine wpList_plain rfl (fun K hK => ?_); go_simp; with_reducible refine hK _ _ ?_; clear hK K
      refine wpList_st1 75 (.tmp 29) (.tmp 28) rfl rfl (by rfl) (by rfl) b5 (by simp [msC]) rfl (by kernel_rfl) ?_
      intro W5 h5s g5s
      simp only [Act.put, List.setIfInBounds_toArray, List.set_cons_zero, List.set_cons_succ]
      have q5 : Bk W5 g5 79 (msC k nu A2 (i + 1) c2) := h5s
      replace b2 := b2.grown g5s (fun e => by injection e with e; omega)
      replace hRr := hRr.low ((Chg.one (D := fun b => b = g5) g5s rfl).below (B := r + 1) (fun b hb => by have : b = g5 := hb; omega) hRr.lt)
      replace be := below_grown be g5s (by omega)
      replace hE := hE.map_ (fun A' n' c' l' h => h.grown g5s (fun k' hk' e => by have := (h.2.lt k' hk').1; injection e with e; omega))
      replace hO4 := hO4.grown g5s (fun k' hk' e => by have := (hO4.blk k' hk').1; injection e with e; omega)
      clear b5 h5s g5s
      rename Bk W5 g5 79 (msC k nu A2 (i + 1) c2) => b5
      cases hq : drB z (drB 2 q) with
      | none =>
        rw [hq] at hRr HT
        have hno : Hid (pmS b = none) := Lib.hid (by
          rw [hP.out, if_neg]
          intro hh
          have := ptsI_none (s := s3) (i + 1) (m - (i + 1)) (by rw [HT.out])
          rw [show i + 1 + (m - (i + 1)) = m by omega] at this
          rw [this] at hh
          cases hh.1)
        clear hP HT hq
        go_upto_region 8 with (fail)
        go_wp2_with fail
        refine (badN r _ hRr).mono ?_
        rintro e w1 ⟨rfl, rfl⟩
        go_upto_region 10 with (fail)
        refine wp_region_lit ?_
        refine wpList_plain rfl (fun K hK => ?_); go_simp; with_reducible refine hK _ _ ?_; clear hK K
        refine wpList_plain rfl (fun K hK => ?_)
        go_simp
        refine (badN r _ hRr).mono ?_
        rintro e V4 ⟨rfl, rfl⟩
        with_reducible refine hK _ _ ?_
        clear hK K
        refine wpList_plain rfl (fun K hK => ?_); go_simp; with_reducible refine hK _ _ ?_; clear hK K
        iterate 3 ((with_reducible refine wpList_skip ?_ ?_); (· first | (go_simp; done) | (go_simp; intro h; cases h)); simp only [Act.put, List.setIfInBounds_toArray, List.set_cons_zero, List.set_cons_succ])
        iterate 2 (refine wpList_plain rfl (fun K hK => ?_); go_simp; with_reducible refine hK _ _ ?_; clear hK K)
        iterate 3 ((with_reducible refine wpList_skip ?_ ?_); (· first | (go_simp; done) | (go_simp; intro h; cases h)); simp only [Act.put, List.setIfInBounds_toArray, List.set_cons_zero, List.set_cons_succ])
        refine wpList_plain rfl (fun K hK => ?_); go_simp; with_reducible refine hK _ _ ?_; clear hK K
        go_upto_region 11 with (fail)
        refine wp_region_lit ?_
        refine wpList_build 79 [] rfl rfl (.agg (msC 0 0 none 0 0).toArray) ?_ ?_
        · exact bdZ _
        simp only [Act.put, List.setIfInBounds_toArray, List.set_cons_zero, List.set_cons_succ]
        refine wpList_stA (t := 79) 79 (.tmp 2) (.tmp 45) rfl rfl (msC 0 0 none 0 0) (msC 0 0 none 0 0) rfl (msC_one _ _ _ _ _) rfl rfl b2 (szFm _ _ _ _ _) ?_
        intro W9 h9 g9
        refine wpList_plain rfl (fun K hK => ?_); go_simp; with_reducible refine hK _ _ ?_; clear hK K
        go_wp2
        refine bodyPost_agg2 Try.results22 rfl rfl h9.range vm1 vm2 (szFm _ _ _ _ _) rfl ?_
        exact ⟨0, 0, none, 0, 0, false, rfl, below_grown be g9 (Nat.le_refl _), .inl ⟨rfl, hno.out, rfl, rfl, rfl, rfl, rfl⟩⟩
      | some l9 =>
        rw [hq] at hRr HT
        go_upto_region 8 with (fail)
        go_wp2_with fail
        refine (badS r _ _ hRr).mono ?_
        rintro e w1 ⟨rfl, rfl⟩
        go_wp2
        exact ⟨⟨i + 1, by go_num, by omega, A2, c2, E ++ [e7], b2, b5, hO4, by rw [HT.out]; exact hE, by rw [HT.out]; exact hRr, be⟩, by simp [intOf]; omega⟩
    · obtain rfl : i = m := by omega
      have ii : ¬ (i : Int) < (i : Int) := by omega
      have hLl := ptsI_len s3 i
      generalize (ptsI i s3).1 = L at *
      generalize (ptsI i s3).2 = q at *
      cases q with
      | none =>
        have hno : Hid (pmS b = none) := Lib.hid (by rw [hP.out, if_neg]; intro hh; cases hh.1)
        clear hP hLl
        go_upto_region 10 with (fail)
        refine wp_region_lit ?_
        refine wpList_plain rfl (fun K hK => ?_); go_simp; with_reducible refine hK _ _ ?_; clear hK K
        refine wpList_plain rfl (fun K hK => ?_)
        go_simp
        refine (badN r _ hRr).mono ?_
        rintro e V4 ⟨rfl, rfl⟩
        with_reducible refine hK _ _ ?_
        clear hK K
        refine wpList_plain rfl (fun K hK => ?_); go_simp; with_reducible refine hK _ _ ?_; clear hK K
        iterate 3 ((with_reducible refine wpList_skip ?_ ?_); (· first | (go_simp; done) | (go_simp; intro h; cases h)); simp only [Act.put, List.setIfInBounds_toArray, List.set_cons_zero, List.set_cons_succ])
        iterate 2 (refine wpList_plain rfl (fun K hK => ?_); go_simp; with_reducible refine hK _ _ ?_; clear hK K)
        iterate 3 ((with_reducible refine wpList_skip ?_ ?_); (· first | (go_simp; done) | (go_simp; intro h; cases h)); simp only [Act.put, List.setIfInBounds_toArray, List.set_cons_zero, List.set_cons_succ])
        refine wpList_plain rfl (fun K hK => ?_); go_simp; with_reducible refine hK _ _ ?_; clear hK K
        go_upto_region 11 with (fail)
        refine wp_region_lit ?_
        refine wpList_build 79 [] rfl rfl (.agg (msC 0 0 none 0 0).toArray) ?_ ?_
        · exact bdZ _
        simp only [Act.put, List.setIfInBounds_toArray, List.set_cons_zero, List.set_cons_succ]
        refine wpList_stA (t := 79) 79 (.tmp 2) (.tmp 45) rfl rfl (msC 0 0 none 0 0) (msC 0 0 none 0 0) rfl (msC_one _ _ _ _ _) rfl rfl b2 (szFm _ _ _ _ _) ?_
        intro W9 h9 g9
        refine wpList_plain rfl (fun K hK => ?_); go_simp; with_reducible refine hK _ _ ?_; clear hK K
        go_wp2
        refine bodyPost_agg2 Try.results22 rfl rfl h9.range vm1 vm2 (szFm _ _ _ _ _) rfl ?_
        exact ⟨0, 0, none, 0, 0, false, rfl, below_grown be g9 (Nat.le_refl _), .inl ⟨rfl, hno.out, rfl, rfl, rfl, rfl, rfl⟩⟩
      | some l9 =>
        by_cases hl9 : l9 = []
        · subst hl9
          have hRL : RL wr A i c L := ⟨E, hE.ok, hO.rs⟩
          have HR := Lib.hid (fun W h => msgRight_any (k : Int) nu L A i c W h (by omega))
          cases hX : rightM (k : Int) L with
          | false =>
            rw [hX] at HR
            have hno : Hid (pmS b = none) := Lib.hid (by rw [hP.out, if_neg]; intro hh; rw [hX] at hh; cases hh.2)
            clear hP hLl hX
            go_upto_region 10 with (fail)
            refine wp_region_lit ?_
            refine wpList_plain rfl (fun K hK => ?_); go_simp; with_reducible refine hK _ _ ?_; clear hK K
            refine wpList_plain rfl (fun K hK => ?_)
            go_simp
            refine (badS r _ _ hRr).mono ?_
            rintro e V4 ⟨rfl, rfl⟩
            with_reducible refine hK _ _ ?_
            clear hK K
            refine wpList_plain rfl (fun K hK => ?_); go_simp; with_reducible refine hK _ _ ?_; clear hK K
            refine wpList_step (fun K hK => ?_); go_simp; with_reducible refine hK _ _ ?_; clear hK K
            refine wpList_step (fun K hK => ?_)
            go_simp
            refine (leftS r _ _ hRr).mono ?_
            rintro e V4 ⟨rfl, rfl⟩
            with_reducible refine hK _ _ ?_
            clear hK K
            refine wpList_step (fun K hK => ?_); go_simp; with_reducible refine hK _ _ ?_; clear hK K
            iterate 2 (refine wpList_plain rfl (fun K hK => ?_); go_simp; with_reducible refine hK _ _ ?_; clear hK K)
            refine wpList_ldG (t := 79) 79 (.tmp 5) rfl (by go_simp) (msC k nu A i c) rfl (b5) (whole_ _) vm1 vm2 (szFm _ _ _ _ _) ?_
            refine wpList_step (fun K hK => ?_)
            go_simp
            refine (HR.out _ hRL).mono ?_
            rintro e V5 ⟨bs7, d7, rfl, rfl⟩
            with_reducible refine hK _ _ ?_
            clear hK K
            replace b2 := b2.later (below_plus wr bs7 d7)
            replace b5 := b5.later (below_plus wr bs7 d7)
            replace be := belowP be bs7 d7
            replace hO := hO.plus_ bs7 d7
            replace hE := hE.map_ (fun _ _ _ _ h => h.later (below_plus wr bs7 d7))
            clear hRL hRr
            generalize plus wr bs7 d7 = W7 at *
            refine wpList_step (fun K hK => ?_); go_simp; with_reducible refine hK _ _ ?_; clear hK K
            refine wpList_plain rfl (fun K hK => ?_); go_simp; with_reducible refine hK _ _ ?_; clear hK K
            go_upto_region 11 with (fail)
            refine wp_region_lit ?_
            refine wpList_build 79 [] rfl rfl (.agg (msC 0 0 none 0 0).toArray) ?_ ?_
            · exact bdZ _
            simp only [Act.put, List.setIfInBounds_toArray, List.set_cons_zero, List.set_cons_succ]
            refine wpList_stA (t := 79) 79 (.tmp 2) (.tmp 45) rfl rfl (msC 0 0 none 0 0) (msC 0 0 none 0 0) rfl (msC_one _ _ _ _ _) rfl rfl b2 (szFm _ _ _ _ _) ?_
            intro W9 h9 g9
            refine wpList_plain rfl (fun K hK => ?_); go_simp; with_reducible refine hK _ _ ?_; clear hK K
            go_wp2
            refine bodyPost_agg2 Try.results22 rfl rfl h9.range vm1 vm2 (szFm _ _ _ _ _) rfl ?_
            exact ⟨0, 0, none, 0, 0, false, rfl, below_grown be g9 (Nat.le_refl _), .inl ⟨rfl, hno.out, rfl, rfl, rfl, rfl, rfl⟩⟩
          | true =>
            rw [hX] at HR
            have hyes : Hid (pmS b = some (k, nu, L)) := Lib.hid (by rw [hP.out, if_pos ⟨rfl, hX⟩])
            have hyr := Lib.hid hX
            have hi255 : i ≤ 255 := by omega
            clear hP hLl hX
            go_upto_region 10 with (fail)
            refine wp_region_lit ?_
            refine wpList_plain rfl (fun K hK => ?_); go_simp; with_reducible refine hK _ _ ?_; clear hK K
            refine wpList_plain rfl (fun K hK => ?_)
            go_simp
            refine (badS r _ _ hRr).mono ?_
            rintro e V4 ⟨rfl, rfl⟩
            with_reducible refine hK _ _ ?_
            clear hK K
            refine wpList_plain rfl (fun K hK => ?_); go_simp; with_reducible refine hK _ _ ?_; clear hK K
            refine wpList_step (fun K hK => ?_); go_simp; with_reducible refine hK _ _ ?_; clear hK K
            refine wpList_step (fun K hK => ?_)
            go_simp
            refine (leftS r _ _ hRr).mono ?_
            rintro e V4 ⟨rfl, rfl⟩
            with_reducible refine hK _ _ ?_
            clear hK K
            refine wpList_step (fun K hK => ?_); go_simp; with_reducible refine hK _ _ ?_; clear hK K
            iterate 2 (refine wpList_plain rfl (fun K hK => ?_); go_simp; with_reducible refine hK _ _ ?_; clear hK K)
            refine wpList_ldG (t := 79) 79 (.tmp 5) rfl (by go_simp) (msC k nu A i c) rfl (b5) (whole_ _) vm1 vm2 (szFm _ _ _ _ _) ?_
            refine wpList_step (fun K hK => ?_)
            go_simp
            refine (HR.out _ hRL).mono ?_
            rintro e V5 ⟨bs7, d7, rfl, rfl⟩
            with_reducible refine hK _ _ ?_
            clear hK K
            replace b2 := b2.later (below_plus wr bs7 d7)
            replace b5 := b5.later (below_plus wr bs7 d7)
            replace be := belowP be bs7 d7
            replace hO := hO.plus_ bs7 d7
            replace hE := hE.map_ (fun _ _ _ _ h => h.later (below_plus wr bs7 d7))
            clear hRL hRr
            generalize plus wr bs7 d7 = W7 at *
            refine wpList_step (fun K hK => ?_); go_simp; with_reducible refine hK _ _ ?_; clear hK K
            refine wpList_plain rfl (fun K hK => ?_); go_simp; with_reducible refine hK _ _ ?_; clear hK K
            go_upto_region 12 with (fail)
            refine wp_region_lit ?_
            refine wpList_ldA (t := 79) 79 (.tmp 5) rfl rfl (msC k nu A i c) rfl (b5) (whole_ _) vm1 vm2 (szFm _ _ _ _ _) ?_
            simp only [Act.put, List.setIfInBounds_toArray, List.set_cons_zero, List.set_cons_succ]
            refine wpList_stA (t := 79) 79 (.tmp 2) (.tmp 46) rfl rfl (msC k nu A i c) (msC 0 0 none 0 0) rfl (msC_one _ _ _ _ _) rfl rfl b2 (szFm _ _ _ _ _) ?_
            intro W9 h9 g9
            refine wpList_plain rfl (fun K hK => ?_); go_simp; with_reducible refine hK _ _ ?_; clear hK K
            go_wp2
            refine bodyPost_agg2 Try.results22 rfl rfl h9.range vm1 vm2 (szFm _ _ _ _ _) rfl ?_
            exact ⟨k, nu, A, i, c, true, rfl, below_grown be g9 (Nat.le_refl _), .inr ⟨rfl, _, hyes.out, ⟨E, (hE.map_ (fun A' n' c' l' h => h.grown g9 (fun k' hk' e => by have := (h.2.lt k' hk').1; injection e with e; omega))).ok, (hO.grown g9 (fun k' hk' e => by have := (hO.blk k' hk').1; injection e with e; omega)).rs⟩, by omega, hyr.out⟩⟩
        · have hno : Hid (pmS b = none) := Lib.hid (by rw [hP.out, if_neg]; intro hh; injection hh.1 with h; exact hl9 h)
          have jl : ((l9.length : Int) != 0) = true := by
            have : l9.length ≠ 0 := fun h => hl9 (List.eq_nil_of_length_eq_zero h)
            simp; omega
          clear hP hLl hl9
          go_upto_region 10 with (fail)
          refine wp_region_lit ?_
          refine wpList_plain rfl (fun K hK => ?_); go_simp; with_reducible refine hK _ _ ?_; clear hK K
          refine wpList_plain rfl (fun K hK => ?_)
          go_simp
          refine (badS r _ _ hRr).mono ?_
          rintro e V4 ⟨rfl, rfl⟩
          with_reducible refine hK _ _ ?_
          clear hK K
          refine wpList_plain rfl (fun K hK => ?_); go_simp; with_reducible refine hK _ _ ?_; clear hK K
          refine wpList_step (fun K hK => ?_); go_simp; with_reducible refine hK _ _ ?_; clear hK K
          refine wpList_step (fun K hK => ?_)
          go_simp
          refine (leftS r _ _ hRr).mono ?_
          rintro e V4 ⟨rfl, rfl⟩
          with_reducible refine hK _ _ ?_
          clear hK K
          refine wpList_step (fun K hK => ?_); go_simp; with_reducible refine hK _ _ ?_; clear hK K
          iterate 2 (refine wpList_plain rfl (fun K hK => ?_); go_simp; with_reducible refine hK _ _ ?_; clear hK K)
          iterate 3 ((with_reducible refine wpList_skip ?_ ?_); (· first | (go_simp; done) | (go_simp; intro h; cases h)); simp only [Act.put, List.setIfInBounds_toArray, List.set_cons_zero, List.set_cons_succ])
          refine wpList_plain rfl (fun K hK => ?_); go_simp; with_reducible refine hK _ _ ?_; clear hK K
          go_upto_region 11 with (fail)
          refine wp_region_lit ?_
          refine wpList_build 79 [] rfl rfl (.agg (msC 0 0 none 0 0).toArray) ?_ ?_
          · exact bdZ _
          simp only [Act.put, List.setIfInBounds_toArray, List.set_cons_zero, List.set_cons_succ]
          refine wpList_stA (t := 79) 79 (.tmp 2) (.tmp 45) rfl rfl (msC 0 0 none 0 0) (msC 0 0 none 0 0) rfl (msC_one _ _ _ _ _) rfl rfl b2 (szFm _ _ _ _ _) ?_
          intro W9 h9 g9
          refine wpList_plain rfl (fun K hK => ?_); go_simp; with_reducible refine hK _ _ ?_; clear hK K
          go_wp2
          refine bodyPost_agg2 Try.results22 rfl rfl h9.range vm1 vm2 (szFm _ _ _ _ _) rfl ?_
          exact ⟨0, 0, none, 0, 0, false, rfl, below_grown be g9 (Nat.le_refl _), .inl ⟨rfl, hno.out, rfl, rfl, rfl, rfl, rfl⟩⟩
end Go.Proofs.Ytepodflinhpejaa

/- The reference's Parse (chapter 27). -/
namespace Go.Proofs.Ytepodflinhpejaa
open Go.RowKit
set_option linter.unusedVariables false
set_option linter.unusedSimpArgs false
attribute [local go_sem ↓] sliced_cut

attribute [local go_sem] cutA_zero

attribute [local go_sem ↓] sliced_cut

attribute [local go_sem] cutA_zero

theorem dgGetF (A : Option Addr) (n c : Nat) (l : List UInt8) (k s : Int) (k' s' x : Nat) (w : World) (h : Rb w A n c l) (hk : k = k') (hs : s = s') (hx : num ((l.drop k').take s') = x) (hm : n ≤ 1099511627776) (hn : k' + s' ≤ n) (h8 : s' ≤ 8) : Calls Try.prog 73 #[.slice A n c, .int .i64 k, .int .i64 s] w fun e w' => e = .returned (.int .u64 (x : Nat)) ∧ w = w' := by
  subst hk hs hx
  exact refGet_any A n c l k' s' w h hm hn h8
set_option maxRecDepth 100000 in
theorem bdZR (w : World) : (Instr.build 77 #[]).run Try.prog w = .ok (.agg (msC 0 0 none 0 0).toArray) w := by kernel_rfl
theorem restM_short (b : List UInt8) (h : b.length < 10) : restM b = none := by
  unfold restM
  simp only [drB]
  by_cases h1 : 1 ≤ b.length
  · rw [if_pos h1]
    simp only [drB, List.length_drop]
    by_cases h8 : 8 ≤ b.length - 1
    · rw [if_pos h8]
      simp only [drB, List.length_drop]
      rw [if_neg (by omega)]
    · rw [if_neg h8]
  · rw [if_neg h1]
theorem pmS_short (b : List UInt8) (h : b.length < 10) : pmS b = none := by
  unfold pmS
  rw [if_neg]
  intro hh
  have := ptsI_none (s := restM b) 0 (numT 1 (drB 8 (drB 1 (some b)))) (by rw [restM_short b h]; rfl)
  rw [Nat.zero_add] at this
  rw [this] at hh
  cases hh.1
theorem num_take1 (l : List UInt8) (h : 0 < l.length) : num (l.take 1) = l[0].toNat := by
  rw [num_take_succ l 0 h]
  simp [num]
theorem pmS_head (b : List UInt8) (h : 10 ≤ b.length) : pmS b = if (ptsI b[9].toNat (some (b.drop 10))).2 = some [] ∧ rightM (b[0].toNat : Nat) (ptsI b[9].toNat (some (b.drop 10))).1 = true then some (b[0].toNat, num ((b.drop 1).take 8), (ptsI b[9].toNat (some (b.drop 10))).1) else none := by
  have e1 : drB 1 (some b) = some (b.drop 1) := by simp only [drB]; rw [if_pos (by omega)]
  have e2 : drB 8 (some (b.drop 1)) = some (b.drop 9) := by simp only [drB]; rw [if_pos (by rw [List.length_drop]; omega), List.drop_drop]
  have e3 : drB 1 (some (b.drop 9)) = some (b.drop 10) := by simp only [drB]; rw [if_pos (by rw [List.length_drop]; omega), List.drop_drop]
  have n0 : numT 1 (some b) = b[0].toNat := by simp only [numT, tkB]; rw [if_pos (by omega), num_take1 b (by omega)]
  have n1 : numT 8 (some (b.drop 1)) = num ((b.drop 1).take 8) := by simp only [numT, tkB]; rw [if_pos (by rw [List.length_drop]; omega)]
  have n9 : numT 1 (some (b.drop 9)) = b[9].toNat := by simp only [numT, tkB]; rw [if_pos (by rw [List.length_drop]; omega), num_take1 _ (by rw [List.length_drop]; omega)]; simp
  unfold pmS restM
  rw [e1, e2, e3, n0, n1, n9]
set_option maxHeartbeats 4000000 in
set_option maxRecDepth 100000 in
theorem refParseFol_any (b : List UInt8) (A : Option Addr) (n c : Nat) (w : World) (hb : Rb w A n c b) (hn : n ≤ 1000000) : Calls Try.prog 23 #[.slice A n c] w (RetPM w b (fun ok => .bool ok)) := by
  obtain ⟨dvm1, vm1, vm2⟩ := rowRm27
  have hl1 : b.length ≤ n := Nat.le_of_eq hb.1
  have hl2 : n ≤ b.length := Nat.le_of_eq hb.1.symm
  have b2 : Bk (w.alloc (.cells #[.int .i64 0, .int .u64 0, .slice none 0 0] 77)) w.heap.size 77 (msC 0 0 none 0 0) := Bk.new w 77 #[.int .i64 0, .int .u64 0, .slice none 0 0]
  have be : Below w.heap.size w (w.alloc (.cells #[.int .i64 0, .int .u64 0, .slice none 0 0] 77)) := Below.allocS (Below.refl _ _) _
  go_enter Try.func23, Try.ntmps23
  go_upto_region 1 with (fail)
  generalize w.alloc (.cells #[.int .i64 0, .int .u64 0, .slice none 0 0] 77) = V at *
  have zV := b2.lt
  by_cases h10 : n < 10
  · have i10 : (n : Int) < 10 := by omega
    have hno : Hid (pmS b = none) := Lib.hid (pmS_short b (by omega))
    clear hl1 hl2
    go_upto_region 2 with (fail)
    refine wp_region_lit ?_
    refine wpList_build 77 [] rfl rfl (.agg (msC 0 0 none 0 0).toArray) ?_ ?_
    · exact bdZR _
    simp only [Act.put, List.setIfInBounds_toArray, List.set_cons_zero, List.set_cons_succ]
    refine wpList_stA (t := 77) 77 (.tmp 2) (.tmp 11) rfl rfl (msC 0 0 none 0 0) (msC 0 0 none 0 0) rfl (msC_one _ _ _ _ _) rfl rfl b2 (szRm27 _ _ _ _ _) ?_
    intro W9 h9 g9
    refine wpList_plain rfl (fun K hK => ?_); go_simp; with_reducible refine hK _ _ ?_; clear hK K
    go_wp2
    refine bodyPost_agg2 Try.results23 rfl rfl h9.range vm1 vm2 (szRm27 _ _ _ _ _) rfl ?_
    exact ⟨0, 0, none, 0, 0, false, rfl, below_grown be g9 (Nat.le_refl _), .inl ⟨rfl, hno.out, rfl, rfl, rfl, rfl, rfl⟩⟩
  have i10 : ¬ (n : Int) < 10 := by omega
  have hP := Lib.hid (pmS_head b (by omega))
  have hk : b[0].toNat < 256 := UInt8.toNat_lt _
  have hm : b[9].toNat < 256 := UInt8.toNat_lt _
  have wk := wrap8 hk
  have wm := wrap8 hm
  obtain ⟨b0, o0, rfl, hb0, hcell⟩ := hb.2.2.at_ (by rw [bcs_length]; omega)
  have hc0 := hcell 0 _ (by rw [bcs_get _ _ (by omega)])
  rw [Nat.add_zero] at hc0
  have p0 : 0 < n := by omega
  have p9 : 9 < n := by omega
  have hc9 := hcell 9 _ (by rw [bcs_get _ _ (by omega)])
  clear hcell
  have HC0 := Lib.hid (fun W (h : Below V.heap.size V W) => (be.trans (h.mono be.size)).cell (p := ⟨b0, o0, none⟩) (by exact hb0) |>.trans hc0)
  have HC9 := Lib.hid (fun W (h : Below w.heap.size w W) => h.cell (p := ⟨b0, o0 + 9, none⟩) (by exact hb0) |>.trans hc9)
  have HG := Lib.hid (fun w h => dgGetF (some ⟨b0, o0, none⟩) n c b 1 8 1 8 _ w h rfl rfl rfl (by omega) (by omega) (by omega))
  have hnu : num ((b.drop 1).take 8) < 18446744073709551616 := numL _ 8 _ (by rw [List.length_take]; omega) (by decide)
  have hdrop : ∀ l : List UInt8, l = b.drop 10 → Rb w (cutA (some ⟨b0, o0, none⟩) c 10 1) (n - 10) (c - 10) l := fun l hl => by rw [hl]; exact hb.cut (by omega)
  have hcap := hb.cap
  obtain ⟨s3, hs3⟩ : ∃ s3, b.drop 10 = s3 := ⟨_, rfl⟩
  have hRb := hdrop _ hs3.symm
  rw [hs3] at hP
  clear hdrop hs3 hc0 hc9
  generalize b[0].toNat = k at *
  generalize b[9].toNat = m at *
  generalize num ((b.drop 1).take 8) = nu at *
  go_upto_region 3 with (fail)
  refine wp_relS 8 67 rfl (by kernel_rfl) (by kernel_rfl) ?_
  apply Steps.one (MP.eq _) 1 rfl
  · intro o ho FA x hO hD K hK
    obtain rfl := Option.some.inj ho.symm
    clear ho
    have e0 := hO 0 (by kernel_rfl)
    simp only [eval_tmp, List.getElem?_toArray, List.getElem?_cons_succ, List.getElem?_cons_zero, Option.getD_some] at e0
    have ev0 := Lib.hid ((eval_tmp FA 0).trans e0)
    clear hO hD
    go_simp
    exact hK.out _ _ (Ex.refl _) rfl
  apply Steps.one (MP.eq _) 2 rfl
  · intro o ho FA x hO hD K hK
    obtain rfl := Option.some.inj ho.symm
    clear ho
    have ev12 : FA.eval (.tmp 12) = _ := hD 0 12 (by kernel_rfl)
    have e12 := (eval_tmp FA 12).symm.trans ev12
    replace ev12 := Lib.hid ev12
    clear hO hD
    go_simp
    exact hK.out _ _ (Ex.refl _) rfl
  apply Steps.one (MP.eq _) 3 rfl
  · intro o ho FA x hO hD K hK
    obtain rfl := Option.some.inj ho.symm
    clear ho
    have ev13 : FA.eval (.tmp 13) = _ := hD 1 13 (by kernel_rfl)
    have e13 := (eval_tmp FA 13).symm.trans ev13
    replace ev13 := Lib.hid ev13
    clear hO hD
    have q9 := HC0.out _ (below_plus V x.bs x.d)
    go_simp
    exact hK.out _ _ (Ex.refl _) rfl
  apply Steps.one (MP.eq _) 4 rfl
  · intro o ho FA x hO hD K hK
    obtain rfl := Option.some.inj ho.symm
    clear ho
    have ev14 : FA.eval (.tmp 14) = _ := hD 2 14 (by kernel_rfl)
    have e14 := (eval_tmp FA 14).symm.trans ev14
    replace ev14 := Lib.hid ev14
    clear hO hD
    go_simp
    exact hK.out _ _ (Ex.refl _) rfl
  apply Steps.one (MP.eq _) 5 rfl
  · intro o ho FA x hO hD K hK
    obtain rfl := Option.some.inj ho.symm
    clear ho
    have e0 := hO 0 (by kernel_rfl)
    simp only [eval_tmp, List.getElem?_toArray, List.getElem?_cons_succ, List.getElem?_cons_zero, Option.getD_some] at e0
    have ev0 := Lib.hid ((eval_tmp FA 0).trans e0)
    clear hO hD
    go_simp
    exact hK.out _ _ (Ex.refl _) rfl
  apply Steps.one (MP.eq _) 6 rfl
  · intro o ho FA x hO hD K hK
    obtain rfl := Option.some.inj ho.symm
    clear ho
    have ev16 : FA.eval (.tmp 16) = _ := hD 4 16 (by kernel_rfl)
    have e16 := (eval_tmp FA 16).symm.trans ev16
    replace ev16 := Lib.hid ev16
    clear hO hD
    go_simp
    refine (HG.out _ (hb.later (be.trans ((below_plus V x.bs x.d).mono be.size)))).mono ?_
    rintro e w2 ⟨rfl, rfl⟩
    exact hK.out _ _ (Ex.refl _) rfl
  apply Steps.one (MP.eq _) 7 rfl
  · intro o ho FA x hO hD K hK
    obtain rfl := Option.some.inj ho.symm
    clear ho
    have ev15 : FA.eval (.tmp 15) = _ := hD 3 15 (by kernel_rfl)
    have e15 := (eval_tmp FA 15).symm.trans ev15
    replace ev15 := Lib.hid ev15
    have ev17 : FA.eval (.tmp 17) = _ := hD 5 17 (by kernel_rfl)
    have e17 := (eval_tmp FA 17).symm.trans ev17
    replace ev17 := Lib.hid ev17
    clear hO hD
    go_simp
    exact hK.out _ _ (Ex.refl _) rfl
  apply Steps.one (MP.blk V.heap.size 77 (msC 0 0 none 0 0)) 8 rfl
  · intro o ho FA x hO hD K hK
    obtain rfl := Option.some.inj ho.symm
    clear ho
    clear hO hD
    go_simp
    refine hK.out _ _ (Ex.alloc _ _) ⟨_, rfl, ?_, ?_⟩
    · simp [size_plus]
    · refine Bk.newK _ _ _ ?_ rfl
      simp [size_plus]
  refine Steps.fin_ (fun vs x hp => ?_)
  have p0 : vs 0 = _ := hp 0 (by omega)
  have p1 : vs 1 = _ := hp 1 (by omega)
  have p2 : vs 2 = _ := hp 2 (by omega)
  have p3 : vs 3 = _ := hp 3 (by omega)
  have p4 : vs 4 = _ := hp 4 (by omega)
  have p5 : vs 5 = _ := hp 5 (by omega)
  have p6 : vs 6 = _ := hp 6 (by omega)
  have p7 := hp 7 (by omega)
  clear hp
  simp only [List.take_succ_cons, List.take_zero, List.drop_succ_cons, List.drop_zero, putAll, Nat.zero_add, Nat.reduceAdd, Act.put, List.setIfInBounds_toArray, List.set_cons_zero, List.set_cons_succ, p0, p1, p2, p3, p4, p5, p6]
  clear p0 p1 p2 p3 p4 p5 p6
  generalize vs 7 = y7 at *
  clear vs
  obtain ⟨g4, rfl, hg4, b4⟩ := p7
  replace b2 := b2.later (below_plus V x.bs x.d)
  replace be := belowP be x.bs x.d
  generalize plus V x.bs x.d = V1 at *
  have zg : w.heap.size < g4 := by omega
  refine wpList_stA (t := 77) 77 (.tmp 4) (.tmp 18) rfl rfl (msC k nu none 0 0) (msC 0 0 none 0 0) rfl (msC_one _ _ _ _ _) rfl rfl b4 (szRm27 _ _ _ _ _) ?_
  intro W4 h4 g4_
  simp only [Act.put, List.setIfInBounds_toArray, List.set_cons_zero, List.set_cons_succ]
  replace b2 := b2.grown g4_ (fun e => by injection e with e; omega)
  have b4' : Bk W4 g4 77 (msC k nu none 0 0) := h4
  replace be := below_grown be g4_ (by omega)
  clear b4 h4 g4_ HC0 HG
  have q9 := HC9.out _ be
  clear HC9
  go_upto_region 7 with (fail)
  have hO0 : Os 29 1 W4 (g4 + 1) none 0 0 (([] : List Sl).flatMap slV) := Os.nil_
  rename Bk W4 g4 77 (msC k nu none 0 0) => b4
  have hcn : n - 10 ≤ 1000000 := by omega
  clear q9 hb hb0 hcap hk wk hn p0 p9 hl1 hl2 h10 i10
  go_loopw [0, 6] (fun X I wr => ∃ i : Nat, I = .int .i64 (i : Int) ∧ i ≤ m ∧ ∃ A c E A' n' c' l, X = .slice A' n' c' ∧ (ptsI i (some s3)).2 = some l ∧ Rb w A' n' c' l ∧ n' ≤ 1000000 ∧ Bk wr w.heap.size 77 (msC 0 0 none 0 0) ∧ Bk wr g4 77 (msC k nu A i c) ∧ Os 29 1 wr (g4 + 1) A i c (E.flatMap slV) ∧ PtOk w (ptsI i (some s3)).1 E ∧ Below w.heap.size w wr) (fun _ I _ => m - (intOf I).toNat)
  case atStart => exact ⟨0, rfl, Nat.zero_le _, none, 0, [], _, _, _, s3, rfl, rfl, hRb, hcn, b2, b4, hO0, PtOk.nil_ _, be⟩
  case round =>
    clear b2 b4 hO0 be hRb hcn
    obtain ⟨i, rfl, hi, A, c, E, A', n', c', l, rfl, hq, hRb, hn', b2, b4, hO, hE, be⟩ := hrel
    have hl1 : l.length ≤ n' := Nat.le_of_eq hRb.1
    have hl2 : n' ≤ l.length := Nat.le_of_eq hRb.1.symm
    have hcap := hRb.cap
    have zW := b4.lt
    by_cases hlt : i < m
    · have ii : (i : Int) < (m : Int) := by omega
      have HT := Lib.hid (show ptsI (i + 1) (some s3) = ((ptsI i (some s3)).1 ++ [tkB (numT 2 (ptsI i (some s3)).2) (drB 2 (ptsI i (some s3)).2)], drB (numT 2 (ptsI i (some s3)).2) (drB 2 (ptsI i (some s3)).2)) from rfl)
      generalize (ptsI i (some s3)).1 = L at *
      rw [hq] at HT
      clear hq
      have HNO : (ptsI (i + 1) (some s3)).2 = none → pmS b = none := by
        intro h0
        rw [hP.out, if_neg]
        intro hh
        have := ptsI_none (s := some s3) (i + 1) (m - (i + 1)) h0
        rw [show i + 1 + (m - (i + 1)) = m by omega] at this
        rw [this] at hh
        cases hh.1
      replace HNO := Lib.hid HNO
      by_cases h2 : n' < 2
      · have i2 : (n' : Int) < 2 := by omega
        have hno : Hid (pmS b = none) := Lib.hid (HNO.out (by rw [HT.out]; simp only [drB]; rw [if_neg (by omega)]))
        have HG := Lib.hid (fun w h => refGet_out A' n' c' l 0 2 w h (by omega) (by omega) (by omega) (by omega))
        have hRw := hRb.later be
        clear HT HNO hP
        go_upto_region 9 with (fail)
        refine wp_region_lit ?_
        refine wpList_plain rfl (fun K hK => ?_); go_simp; with_reducible refine hK _ _ ?_; clear hK K
        refine wpList_plain rfl (fun K hK => ?_)
        go_simp
        refine (HG.out _ hRw).mono ?_
        rintro e V5 ⟨rfl, rfl⟩
        with_reducible refine hK _ _ ?_
        clear hK K
        iterate 2 (refine wpList_plain rfl (fun K hK => ?_); go_simp; with_reducible refine hK _ _ ?_; clear hK K)
        go_upto_region 10 with (fail)
        refine wp_region_lit ?_
        iterate 4 (refine wpList_plain rfl (fun K hK => ?_); go_simp; with_reducible refine hK _ _ ?_; clear hK K)
        iterate 5 ((with_reducible refine wpList_skip ?_ ?_); (· first | (go_simp; done) | (go_simp; intro h; cases h)); simp only [Act.put, List.setIfInBounds_toArray, List.set_cons_zero, List.set_cons_succ])
        refine wpList_plain rfl (fun K hK => ?_); go_simp; with_reducible refine hK _ _ ?_; clear hK K
        go_upto_region 11 with (fail)
        refine wp_region_lit ?_
        refine wpList_build 77 [] rfl rfl (.agg (msC 0 0 none 0 0).toArray) ?_ ?_
        · exact bdZR _
        simp only [Act.put, List.setIfInBounds_toArray, List.set_cons_zero, List.set_cons_succ]
        refine wpList_stA (t := 77) 77 (.tmp 2) (.tmp 43) rfl rfl (msC 0 0 none 0 0) (msC 0 0 none 0 0) rfl (msC_one _ _ _ _ _) rfl rfl b2 (szRm27 _ _ _ _ _) ?_
        intro W9 h9 g9
        refine wpList_plain rfl (fun K hK => ?_); go_simp; with_reducible refine hK _ _ ?_; clear hK K
        go_wp2
        refine bodyPost_agg2 Try.results23 rfl rfl h9.range vm1 vm2 (szRm27 _ _ _ _ _) rfl ?_
        exact ⟨0, 0, none, 0, 0, false, rfl, below_grown be g9 (Nat.le_refl _), .inl ⟨rfl, hno.out, rfl, rfl, rfl, rfl, rfl⟩⟩
      · have i2 : ¬ (n' : Int) < 2 := by omega
        have hz : num (l.take 2) < 65536 := numL _ 2 _ (by rw [List.length_take]; omega) (by decide)
        have wz := wrap16 hz
        have HG := Lib.hid (fun w h => dgGetF A' n' c' l 0 2 0 2 (num (l.take 2)) w h rfl rfl rfl (by omega) (by omega) (by omega))
        have hRw := hRb.later be
        have e2 : drB 2 (some l) = some (l.drop 2) := by simp only [drB]; rw [if_pos (by omega)]
        have z2 : numT 2 (some l) = num (l.take 2) := by simp only [numT, tkB]; rw [if_pos (by omega)]
        rw [e2, z2] at HT
        clear e2 z2
        generalize num (l.take 2) = z at *
        obtain ⟨y, hy⟩ : ∃ y, y = 2 + z := ⟨_, rfl⟩
        have wy : IntKind.i64.wrap (2 + (z : Int)) = (y : Int) := by rw [IntWalk.i64_in _ (by omega)]; omega
        have hzy : z = y - 2 := by omega
        have hy1 : y ≤ 2 + z := by omega
        have hy2 : 2 ≤ y := by omega
        have wyy : IntKind.i64.wrap (y : Int) = (y : Int) := IntWalk.i64_in _ (by omega)
        replace hzy := Lib.hid hzy
        clear hy
        by_cases hz2 : n' < y
        · have iz : (n' : Int) < (y : Int) := by omega
          have hno : Hid (pmS b = none) := Lib.hid (HNO.out (by rw [HT.out]; simp only [drB, List.length_drop]; rw [if_neg (by rw [hzy.out]; omega)]))
          clear HT HNO hP
          go_upto_region 9 with (fail)
          refine wp_region_lit ?_
          refine wpList_plain rfl (fun K hK => ?_); go_simp; with_reducible refine hK _ _ ?_; clear hK K
          refine wpList_plain rfl (fun K hK => ?_)
          go_simp
          refine (HG.out _ hRw).mono ?_
          rintro e V5 ⟨rfl, rfl⟩
          with_reducible refine hK _ _ ?_
          clear hK K
          iterate 2 (refine wpList_plain rfl (fun K hK => ?_); go_simp; with_reducible refine hK _ _ ?_; clear hK K)
          go_upto_region 10 with (fail)
          refine wp_region_lit ?_
          iterate 4 (refine wpList_plain rfl (fun K hK => ?_); go_simp; with_reducible refine hK _ _ ?_; clear hK K)
          iterate 5 (refine wpList_step (fun K hK => ?_); go_simp; with_reducible refine hK _ _ ?_; clear hK K)
          refine wpList_plain rfl (fun K hK => ?_); go_simp; with_reducible refine hK _ _ ?_; clear hK K
          go_upto_region 11 with (fail)
          refine wp_region_lit ?_
          refine wpList_build 77 [] rfl rfl (.agg (msC 0 0 none 0 0).toArray) ?_ ?_
          · exact bdZR _
          simp only [Act.put, List.setIfInBounds_toArray, List.set_cons_zero, List.set_cons_succ]
          refine wpList_stA (t := 77) 77 (.tmp 2) (.tmp 43) rfl rfl (msC 0 0 none 0 0) (msC 0 0 none 0 0) rfl (msC_one _ _ _ _ _) rfl rfl b2 (szRm27 _ _ _ _ _) ?_
          intro W9 h9 g9
          refine wpList_plain rfl (fun K hK => ?_); go_simp; with_reducible refine hK _ _ ?_; clear hK K
          go_wp2
          refine bodyPost_agg2 Try.results23 rfl rfl h9.range vm1 vm2 (szRm27 _ _ _ _ _) rfl ?_
          exact ⟨0, 0, none, 0, 0, false, rfl, below_grown be g9 (Nat.le_refl _), .inl ⟨rfl, hno.out, rfl, rfl, rfl, rfl, rfl⟩⟩
        · have iz : ¬ (n' : Int) < (y : Int) := by omega
          have eT : tkB z (some (l.drop 2)) = (l.drop 2).take (y - 2) := by rw [hzy.out]; simp only [tkB, List.length_drop]; rw [if_pos (by omega)]
          have eD : drB z (some (l.drop 2)) = some (l.drop y) := by rw [hzy.out]; simp only [drB, List.length_drop]; rw [if_pos (by omega), List.drop_drop, show 2 + (y - 2) = y by omega]
          rw [eT, eD] at HT
          have hE2 : PtOk w (L ++ [(l.drop 2).take (y - 2)]) (E ++ [(cutA A' c' 2 1, y - 2, c' - 2)]) := hE.snoc ((hRb.cut (k := 2) (by omega)).take (by omega))
          have hRb2 : Rb w (cutA A' c' y 1) (n' - y) (c' - y) (l.drop y) := hRb.cut (by omega)
          have hn2 : n' - y ≤ 1000000 := by omega
          clear eT eD HNO hE
          go_upto_region 9 with (fail)
          refine wp_region_lit ?_
          refine wpList_plain rfl (fun K hK => ?_); go_simp; with_reducible refine hK _ _ ?_; clear hK K
          refine wpList_plain rfl (fun K hK => ?_)
          go_simp
          refine (HG.out _ hRw).mono ?_
          rintro e V5 ⟨rfl, rfl⟩
          with_reducible refine hK _ _ ?_
          clear hK K
          iterate 2 (refine wpList_plain rfl (fun K hK => ?_); go_simp; with_reducible refine hK _ _ ?_; clear hK K)
          clear HG hRw
          go_upto_region 10 with (fail)
          refine wp_region_lit ?_
          iterate 4 (refine wpList_plain rfl (fun K hK => ?_); go_simp; with_reducible refine hK _ _ ?_; clear hK K)
          iterate 5 (refine wpList_step (fun K hK => ?_); go_simp; with_reducible refine hK _ _ ?_; clear hK K)
          refine wpList_plain rfl (fun K hK => ?_); go_simp; with_reducible refine hK _ _ ?_; clear hK K
          have iz2 : (2 : Int) ≤ (y : Int) := by omega
          have iz3 : y ≤ c' := by omega
          have iz4 : y ≤ n' := by omega
          go_upto_region 12 with (fail)
          refine wp_relS 7 67 rfl (by kernel_rfl) (by kernel_rfl) ?_
          apply Steps.one (MP.eq _) 1 rfl
          · intro o ho FA x hO hD K hK
            obtain rfl := Option.some.inj ho.symm
            clear ho
            have e4 := hO 4 (by kernel_rfl)
            simp only [eval_tmp, List.getElem?_toArray, List.getElem?_cons_succ, List.getElem?_cons_zero, Option.getD_some] at e4
            have ev4 := Lib.hid ((eval_tmp FA 4).trans e4)
            clear hO hD
            go_simp
            exact hK.out _ _ (Ex.refl _) rfl
          apply Steps.one (MP.eq _) 2 rfl
          · intro o ho FA x hO hD K hK
            obtain rfl := Option.some.inj ho.symm
            clear ho
            have ev44 : FA.eval (.tmp 44) = _ := hD 0 44 (by kernel_rfl)
            have e44 := (eval_tmp FA 44).symm.trans ev44
            replace ev44 := Lib.hid ev44
            clear hO hD
            refine wanted_if rfl ?_
            refine wp_ld1 75 (.tmp 44) rfl ev44.out (b4.later (below_plus _ _ _)) rfl Try.underlying75 rfl ?_
            exact hK.out _ _ (Ex.refl _) rfl
          apply Steps.one (MP.eq _) 3 rfl
          · intro o ho FA x hO hD K hK
            obtain rfl := Option.some.inj ho.symm
            clear ho
            have e0 := hO 0 (by kernel_rfl)
            simp only [eval_tmp, List.getElem?_toArray, List.getElem?_cons_succ, List.getElem?_cons_zero, Option.getD_some] at e0
            have ev0 := Lib.hid ((eval_tmp FA 0).trans e0)
            clear hO hD
            go_simp
            exact hK.out _ _ (Ex.refl _) rfl
          apply Steps.one (MP.eq _) 4 rfl
          · intro o ho FA x hO hD K hK
            obtain rfl := Option.some.inj ho.symm
            clear ho
            have e7 := hO 7 (by kernel_rfl)
            simp only [eval_tmp, List.getElem?_toArray, List.getElem?_cons_succ, List.getElem?_cons_zero, Option.getD_some] at e7
            have ev7 := Lib.hid ((eval_tmp FA 7).trans e7)
            clear hO hD
            go_simp
            exact hK.out _ _ (Ex.refl _) rfl
          apply Steps.one (MP.eq _) 5 rfl
          · intro o ho FA x hO hD K hK
            obtain rfl := Option.some.inj ho.symm
            clear ho
            have ev47 : FA.eval (.tmp 47) = _ := hD 3 47 (by kernel_rfl)
            have e47 := (eval_tmp FA 47).symm.trans ev47
            replace ev47 := Lib.hid ev47
            clear hO hD
            go_simp
            exact hK.out _ _ (Ex.refl _) rfl
          apply Steps.one (MP.eq _) 6 rfl
          · intro o ho FA x hO hD K hK
            obtain rfl := Option.some.inj ho.symm
            clear ho
            have ev46 : FA.eval (.tmp 46) = _ := hD 2 46 (by kernel_rfl)
            have e46 := (eval_tmp FA 46).symm.trans ev46
            replace ev46 := Lib.hid ev46
            have ev48 : FA.eval (.tmp 48) = _ := hD 4 48 (by kernel_rfl)
            have e48 := (eval_tmp FA 48).symm.trans ev48
            replace ev48 := Lib.hid ev48
            clear hO hD
            go_simp
            exact hK.out _ _ (Ex.refl _) rfl
          apply Steps.one (MP.rs 1 [.slice (cutA A' c' 2 1) (y - 2) (c' - 2)]) 7 rfl
          · intro o ho FA x hO hD K hK
            obtain rfl := Option.some.inj ho.symm
            clear ho
            have ev49 : FA.eval (.tmp 49) = _ := hD 5 49 (by kernel_rfl)
            have e49 := (eval_tmp FA 49).symm.trans ev49
            replace ev49 := Lib.hid ev49
            clear hO hD
            go_simp
            refine hK.out _ _ (Ex.alloc _ _) ⟨_, _, _, rfl, ?_⟩
            exact Rs.of_bk (n := 1) (c := 1) (Bk.newK _ _ _ (by simp [size_plus]) rfl) rfl (Nat.le_refl _)
          refine Steps.fin_ (fun vs x hp => ?_)
          have p0 : vs 0 = _ := hp 0 (by omega)
          have p1 : vs 1 = _ := hp 1 (by omega)
          have p2 : vs 2 = _ := hp 2 (by omega)
          have p3 : vs 3 = _ := hp 3 (by omega)
          have p4 : vs 4 = _ := hp 4 (by omega)
          have p5 : vs 5 = _ := hp 5 (by omega)
          have p6 := hp 6 (by omega)
          clear hp
          simp only [List.take_succ_cons, List.take_zero, List.drop_succ_cons, List.drop_zero, putAll, Nat.zero_add, Nat.reduceAdd, Act.put, List.setIfInBounds_toArray, List.set_cons_zero, List.set_cons_succ, p0, p1, p2, p3, p4, p5]
          clear p0 p1 p2 p3 p4 p5
          generalize vs 6 = y6 at *
          clear vs
          obtain ⟨A7, n7, c7, rfl, h7⟩ := p6
          obtain rfl : n7 = 1 := by have := h7.1; simp at this; omega
          have b9 := below_plus wr x.bs x.d
          replace b2 := b2.later b9
          replace b4 := b4.later b9
          replace hO := hO.later b9
          replace be := belowP be x.bs x.d
          clear b9
          generalize plus wr x.bs x.d = W at *
          have zW2 := b4.lt
          refine wpList_appS etSl rfl (.tmp 45) (.tmp 50) rfl rfl hO rfl h7 (slV_one (cutA A' c' 2 1, y - 2, c' - 2)) (by omega) (by omega) ?_
          intro A2 n2 c2 w4 hn2 hO4 hb4 hg4_
          subst hn2
          simp only [Act.put, List.setIfInBounds_toArray, List.set_cons_zero, List.set_cons_succ]
          replace b2 := b2.below hb4 (by omega)
          replace b4 := b4.below hb4 (by omega)
          replace be := be.trans (hb4.mono (by omega))
          have hO4 : Os 29 1 w4 (g4 + 1) A2 (i + 1) c2 ((E ++ [(cutA A' c' 2 1, y - 2, c' - 2)]).flatMap slV) := by rw [flat_snoc]; exact hO4
          clear hb4 hg4_ hO zW zW2 h7
          refine wpList_plain rfl (fun K hK => ?_); go_simp; with_reducible refine hK _ _ ?_; clear hK K
          refine wpList_st1 75 (.tmp 52) (.tmp 51) rfl rfl (by rfl) (by rfl) b4 (by simp [msC]) rfl (by kernel_rfl) ?_
          intro W5 h5s g5s
          simp only [Act.put, List.setIfInBounds_toArray, List.set_cons_zero, List.set_cons_succ]
          have q5 : Bk W5 g4 77 (msC k nu A2 (i + 1) c2) := h5s
          replace b2 := b2.grown g5s (fun e => by injection e with e; omega)
          replace be := below_grown be g5s (by omega)
          replace hO4 := hO4.grown g5s (fun k' hk' e => by have := (hO4.blk k' hk').1; injection e with e; omega)
          clear b4 h5s g5s
          go_upto_region 13 with (fail)
          go_wp2
          exact ⟨⟨i + 1, by go_num, by omega, A2, c2, _, _, _, _, _, rfl, by rw [HT.out], hRb2, hn2, b2, q5, hO4, by rw [HT.out]; exact hE2, be⟩, by simp [intOf]; omega⟩
    · obtain rfl : i = m := by omega
      have ii : ¬ (i : Int) < (i : Int) := by omega
      generalize (ptsI i (some s3)).1 = L at *
      by_cases hl9 : l = []
      · have hn0 : n' = 0 := by rw [hl9] at hl2; simp at hl2; omega
        subst hn0
        have hRL : RL wr A i c L := ⟨E, hE.later be, hO.rs⟩
        have HR := Lib.hid (fun W h => refRight27_any (k : Int) nu L A i c W h (by omega))
        cases hX : rightM (k : Int) L with
        | false =>
          rw [hX] at HR
          have hno : Hid (pmS b = none) := Lib.hid (by rw [hP.out, if_neg]; intro hh; rw [hX] at hh; cases hh.2)
          clear hP hX hq hl1 hl2 hl9
          go_upto_region 14 with (fail)
          refine wp_region_lit ?_
          iterate 4 (refine wpList_plain rfl (fun K hK => ?_); go_simp; with_reducible refine hK _ _ ?_; clear hK K)
          refine wpList_ldG (t := 77) 77 (.tmp 4) rfl (by go_simp) (msC k nu A i c) rfl (b4) (whole_ _) vm1 vm2 (szRm27 _ _ _ _ _) ?_
          refine wpList_step (fun K hK => ?_)
          go_simp
          refine (HR.out _ hRL).mono ?_
          rintro e V5 ⟨bs7, d7, rfl, rfl⟩
          with_reducible refine hK _ _ ?_
          clear hK K
          replace b2 := b2.later (below_plus wr bs7 d7)
          replace b4 := b4.later (below_plus wr bs7 d7)
          replace be := belowP be bs7 d7
          replace hO := hO.plus_ bs7 d7
          clear hRL
          generalize plus wr bs7 d7 = W7 at *
          refine wpList_step (fun K hK => ?_); go_simp; with_reducible refine hK _ _ ?_; clear hK K
          refine wpList_plain rfl (fun K hK => ?_); go_simp; with_reducible refine hK _ _ ?_; clear hK K
          go_upto_region 15 with (fail)
          refine wp_region_lit ?_
          refine wpList_build 77 [] rfl rfl (.agg (msC 0 0 none 0 0).toArray) ?_ ?_
          · exact bdZR _
          simp only [Act.put, List.setIfInBounds_toArray, List.set_cons_zero, List.set_cons_succ]
          refine wpList_stA (t := 77) 77 (.tmp 2) (.tmp 65) rfl rfl (msC 0 0 none 0 0) (msC 0 0 none 0 0) rfl (msC_one _ _ _ _ _) rfl rfl b2 (szRm27 _ _ _ _ _) ?_
          intro W9 h9 g9
          refine wpList_plain rfl (fun K hK => ?_); go_simp; with_reducible refine hK _ _ ?_; clear hK K
          go_wp2
          refine bodyPost_agg2 Try.results23 rfl rfl h9.range vm1 vm2 (szRm27 _ _ _ _ _) rfl ?_
          exact ⟨0, 0, none, 0, 0, false, rfl, below_grown be g9 (Nat.le_refl _), .inl ⟨rfl, hno.out, rfl, rfl, rfl, rfl, rfl⟩⟩
        | true =>
          rw [hX] at HR
          have hyes : Hid (pmS b = some (k, nu, L)) := Lib.hid (by rw [hP.out, if_pos ⟨by rw [hq, hl9], hX⟩])
          have hyr := Lib.hid hX
          have hi255 : i ≤ 255 := by omega
          clear hP hX hq hl1 hl2 hl9
          go_upto_region 14 with (fail)
          refine wp_region_lit ?_
          iterate 4 (refine wpList_plain rfl (fun K hK => ?_); go_simp; with_reducible refine hK _ _ ?_; clear hK K)
          refine wpList_ldG (t := 77) 77 (.tmp 4) rfl (by go_simp) (msC k nu A i c) rfl (b4) (whole_ _) vm1 vm2 (szRm27 _ _ _ _ _) ?_
          refine wpList_step (fun K hK => ?_)
          go_simp
          refine (HR.out _ hRL).mono ?_
          rintro e V5 ⟨bs7, d7, rfl, rfl⟩
          with_reducible refine hK _ _ ?_
          clear hK K
          replace b2 := b2.later (below_plus wr bs7 d7)
          replace b4 := b4.later (below_plus wr bs7 d7)
          replace be := belowP be bs7 d7
          replace hO := hO.plus_ bs7 d7
          clear hRL
          generalize plus wr bs7 d7 = W7 at *
          refine wpList_step (fun K hK => ?_); go_simp; with_reducible refine hK _ _ ?_; clear hK K
          refine wpList_plain rfl (fun K hK => ?_); go_simp; with_reducible refine hK _ _ ?_; clear hK K
          go_upto_region 16 with (fail)
          refine wp_region_lit ?_
          refine wpList_ldA (t := 77) 77 (.tmp 4) rfl rfl (msC k nu A i c) rfl (b4) (whole_ _) vm1 vm2 (szRm27 _ _ _ _ _) ?_
          simp only [Act.put, List.setIfInBounds_toArray, List.set_cons_zero, List.set_cons_succ]
          refine wpList_stA (t := 77) 77 (.tmp 2) (.tmp 66) rfl rfl (msC k nu A i c) (msC 0 0 none 0 0) rfl (msC_one _ _ _ _ _) rfl rfl b2 (szRm27 _ _ _ _ _) ?_
          intro W9 h9 g9
          refine wpList_plain rfl (fun K hK => ?_); go_simp; with_reducible refine hK _ _ ?_; clear hK K
          go_wp2
          refine bodyPost_agg2 Try.results23 rfl rfl h9.range vm1 vm2 (szRm27 _ _ _ _ _) rfl ?_
          exact ⟨k, nu, A, i, c, true, rfl, below_grown be g9 (Nat.le_refl _), .inr ⟨rfl, _, hyes.out, ⟨E, hE.later (below_grown be g9 (Nat.le_refl _)), (hO.grown g9 (fun k' hk' e => by have := (hO.blk k' hk').1; injection e with e; omega)).rs⟩, hi255, hyr.out⟩⟩
      · have hno : Hid (pmS b = none) := Lib.hid (by rw [hP.out, if_neg]; intro hh; rw [hq] at hh; injection hh.1 with h; exact hl9 h)
        have h0 : l.length ≠ 0 := fun h => hl9 (List.eq_nil_of_length_eq_zero h)
        have jl : (0 : Int) < (n' : Int) := by omega
        have jn : 0 < n' := by omega
        clear hP hl9 hq h0 hl1 hl2
        go_upto_region 14 with (fail)
        refine wp_region_lit ?_
        iterate 4 (refine wpList_plain rfl (fun K hK => ?_); go_simp; with_reducible refine hK _ _ ?_; clear hK K)
        iterate 3 ((with_reducible refine wpList_skip ?_ ?_); (· first | (go_simp; done) | (go_simp; intro h; cases h)); simp only [Act.put, List.setIfInBounds_toArray, List.set_cons_zero, List.set_cons_succ])
        refine wpList_plain rfl (fun K hK => ?_); go_simp; with_reducible refine hK _ _ ?_; clear hK K
        go_upto_region 15 with (fail)
        refine wp_region_lit ?_
        refine wpList_build 77 [] rfl rfl (.agg (msC 0 0 none 0 0).toArray) ?_ ?_
        · exact bdZR _
        simp only [Act.put, List.setIfInBounds_toArray, List.set_cons_zero, List.set_cons_succ]
        refine wpList_stA (t := 77) 77 (.tmp 2) (.tmp 65) rfl rfl (msC 0 0 none 0 0) (msC 0 0 none 0 0) rfl (msC_one _ _ _ _ _) rfl rfl b2 (szRm27 _ _ _ _ _) ?_
        intro W9 h9 g9
        refine wpList_plain rfl (fun K hK => ?_); go_simp; with_reducible refine hK _ _ ?_; clear hK K
        go_wp2
        refine bodyPost_agg2 Try.results23 rfl rfl h9.range vm1 vm2 (szRm27 _ _ _ _ _) rfl ?_
        exact ⟨0, 0, none, 0, 0, false, rfl, below_grown be g9 (Nat.le_refl _), .inl ⟨rfl, hno.out, rfl, rfl, rfl, rfl, rfl⟩⟩
end Go.Proofs.Ytepodflinhpejaa

/- codec.ParseOp (chapter 23). -/
namespace Go.Proofs.Ytepodflinhpejaa
open Go.RowKit
set_option linter.unusedVariables false
set_option linter.unusedSimpArgs false
attribute [local go_sem ↓] sliced_cut

attribute [local go_sem] cutA_zero

/-- an operation's cells -/
def opC (k v b e : Int) (six : Bool) (ah al pt pr : Nat) (wy : Int) (A : Option Addr) (n c : Nat) : List Value := [.int .i64 k, .int .i64 v, .int .i64 b, .int .i64 e, .bool six, .int .u64 (ah : Int), .int .u64 (al : Int), .int .u16 (pt : Int), .int .u8 (pr : Int), .int .i64 wy, .slice A n c]
/-- an operation -/
structure OpR where
  k : Int
  v : Int
  b : Int
  e : Int
  six : Bool
  ah : Nat
  al : Nat
  pt : Nat
  pr : Nat
  wy : Int
  ms : List (Int × Int)
def OpR.cells (o : OpR) (A : Option Addr) (n c : Nat) : List Value := opC o.k o.v o.b o.e o.six o.ah o.al o.pt o.pr o.wy A n c
end Go.Proofs.Ytepodflinhpejaa

/- Contracts of tcp.Parse. -/
namespace Go.Proofs.Ytepodflinhpejaa
open Go.RowKit
set_option linter.unusedVariables false
set_option linter.unusedSimpArgs false
attribute [local go_sem ↓] sliced_cut

attribute [local go_sem] cutA_zero

/-- a segment in new memory, and a second result -/
def RetSeg (w : World) (x0 x1 x2 x3 x4 x5 x6 x7 : Nat) (l l2 : List UInt8) (v : Value) (e : Ending) (w' : World) : Prop :=
  ∃ A n c A2 n2 c2 bs d, e = .returned (.tuple #[.agg #[.int .u16 x0, .int .u16 x1, .int .u32 x2, .int .u32 x3, .int .u8 x4, .int .u16 x5, .int .u16 x6, .int .u16 x7, .slice A n c, .slice A2 n2 c2], v]) ∧ w' = plus w bs d ∧ Rb (plus w bs d) A n c l ∧ Rb (plus w bs d) A2 n2 c2 l2
theorem RetSeg.mk {w w' : World} {x0 x1 x2 x3 x4 x5 x6 x7 : Nat} {l l2 : List UInt8} {A : Option Addr} {n c : Nat} {A2 : Option Addr} {n2 c2 : Nat} {v : Value} (h1 : Rb w' A n c l) (h2 : Rb w' A2 n2 c2 l2) (hb : Below w.heap.size w w') :
    RetSeg w x0 x1 x2 x3 x4 x5 x6 x7 l l2 v (.returned (.tuple #[.agg #[.int .u16 x0, .int .u16 x1, .int .u32 x2, .int .u32 x3, .int .u8 x4, .int .u16 x5, .int .u16 x6, .int .u16 x7, .slice A n c, .slice A2 n2 c2], v])) w' := by
  obtain ⟨bs, d, rfl⟩ := plus_of hb
  exact ⟨A, n, c, A2, n2, c2, bs, d, rfl, rfl, h1, h2⟩
/-- the same, the rows in new blocks -/
def RetSegF (w : World) (x0 x1 x2 x3 x4 x5 x6 x7 : Nat) (l l2 : List UInt8) (v : Value) (e : Ending) (w' : World) : Prop :=
  ∃ A n c A2 n2 c2 bs d, e = .returned (.tuple #[.agg #[.int .u16 x0, .int .u16 x1, .int .u32 x2, .int .u32 x3, .int .u8 x4, .int .u16 x5, .int .u16 x6, .int .u16 x7, .slice A n c, .slice A2 n2 c2], v]) ∧ w' = plus w bs d ∧ Rb (plus w bs d) A n c l ∧ Rb (plus w bs d) A2 n2 c2 l2 ∧ (∀ a, A = some a → w.heap.size ≤ a.block) ∧ ∀ a, A2 = some a → w.heap.size ≤ a.block
theorem Ob.freshT {w : World} {w0 base : Nat} {A : Option Addr} {n c : Nat} {l : List UInt8} (h : Ob w base A n c l) (hb : w0 ≤ base) : ∀ a, A = some a → w0 ≤ a.block := fun a ha => by
  subst ha
  have := (h.blk a.block rfl).1
  omega
theorem RetSegF.mk {w w' : World} {x0 x1 x2 x3 x4 x5 x6 x7 : Nat} {l l2 : List UInt8} {A : Option Addr} {n c : Nat} {A2 : Option Addr} {n2 c2 : Nat} {v : Value} {b1 b2 : Nat} (h1 : Ob w' b1 A n c l) (h2 : Ob w' b2 A2 n2 c2 l2) (hb : Below w.heap.size w w') (f1 : w.heap.size ≤ b1) (f2 : w.heap.size ≤ b2) :
    RetSegF w x0 x1 x2 x3 x4 x5 x6 x7 l l2 v (.returned (.tuple #[.agg #[.int .u16 x0, .int .u16 x1, .int .u32 x2, .int .u32 x3, .int .u8 x4, .int .u16 x5, .int .u16 x6, .int .u16 x7, .slice A n c, .slice A2 n2 c2], v])) w' := by
  obtain ⟨bs, d, rfl⟩ := plus_of hb
  exact ⟨A, n, c, A2, n2, c2, bs, d, rfl, rfl, h1.rb, h2.rb, h1.freshT f1, h2.freshT f2⟩
theorem RetSeg.zero {w w' : World} {v : Value} (hb : Below w.heap.size w w') : RetSeg w 0 0 0 0 0 0 0 0 [] [] v (.returned (.tuple #[.agg #[.int .u16 0, .int .u16 0, .int .u32 0, .int .u32 0, .int .u8 0, .int .u16 0, .int .u16 0, .int .u16 0, .slice none 0 0, .slice none 0 0], v])) w' := RetSeg.mk Rb.nil_ Rb.nil_ hb

end Go.Proofs.Ytepodflinhpejaa

/- The reference's reader (chapter 23): Take, Num, Addr, Members. -/
namespace Go.Proofs.Ytepodflinhpejaa
open Go.RowKit
set_option linter.unusedVariables false
set_option linter.unusedSimpArgs false
attribute [local go_sem ↓] sliced_cut

attribute [local go_sem] cutA_zero

/-- the block r is a reader in the state s -/
def RR (w : World) (r : Nat) : StB → Prop
  | none => ∃ A n c, Bk w r 100 [.slice A n c, .bool true]
  | some l => ∃ A n c, Bk w r 100 [.slice A n c, .bool false] ∧ l.length = n ∧ n ≤ c ∧ Rd w r A (bcs l)
theorem RR.bk {w : World} {r : Nat} {s : StB} (h : RR w r s) : ∃ A n c, Bk w r 100 [.slice A n c, .bool s.isNone] := by
  cases s with
  | none => exact h
  | some l =>
    obtain ⟨A, n, c, h1, _⟩ := h
    exact ⟨A, n, c, h1⟩
theorem RR.lt {w : World} {r : Nat} {s : StB} (h : RR w r s) : r < w.heap.size := by
  obtain ⟨A, n, c, h1⟩ := h.bk
  exact h1.lt
theorem RR.low {w w' : World} {r : Nat} {s : StB} (h : RR w r s) (hb : Below (r + 1) w w') : RR w' r s := by
  cases s with
  | none =>
    obtain ⟨A, n, c, h1⟩ := h
    exact ⟨A, n, c, (hb.block r (by omega)).trans h1⟩
  | some l =>
    obtain ⟨A, n, c, h1, h2, h3, h4⟩ := h
    exact ⟨A, n, c, (hb.block r (by omega)).trans h1, h2, h3, h4.below ⟨hb.os, hb.tape, hb.output, hb.size, fun k hk => hb.block k (by omega)⟩⟩
theorem RR.later {w w' : World} {r : Nat} {s : StB} (h : RR w r s) (hb : Below w.heap.size w w') : RR w' r s := h.low (hb.mono h.lt)
end Go.Proofs.Ytepodflinhpejaa

/- codec.address, the reference's place (chapter 23). -/
namespace Go.Proofs.Ytepodflinhpejaa
open Go.RowKit
set_option linter.unusedVariables false
set_option linter.unusedSimpArgs false
attribute [local go_sem ↓] sliced_cut

attribute [local go_sem] cutA_zero

def RetRb (w : World) (l : List UInt8) (e : Ending) (w' : World) : Prop := ∃ A n c bs d, e = .returned (.slice A n c) ∧ w' = plus w bs d ∧ Rb (plus w bs d) A n c l
theorem RetRb.mk {w w' : World} {l : List UInt8} {A : Option Addr} {n c : Nat} (ho : Rb w' A n c l) (hb : Below w.heap.size w w') : RetRb w l (.returned (.slice A n c)) w' := by
  obtain ⟨bs, d, rfl⟩ := plus_of hb
  exact ⟨A, n, c, bs, d, rfl, rfl, ho⟩
theorem bcs_dig1 (z : Nat) (h : z < 256) : bcs (dig z 1) = [.int .u8 (z : Int)] := by
  simp [dig, bcs]
  omega
end Go.Proofs.Ytepodflinhpejaa

/- Bytes, both (chapter 27). -/
namespace Go.Proofs.Ytepodflinhpejaa
open Go.RowKit
set_option linter.unusedVariables false
set_option linter.unusedSimpArgs false
attribute [local go_sem ↓] sliced_cut

attribute [local go_sem] cutA_zero

def ptsB (L : List (List UInt8)) : List UInt8 := L.flatMap fun l => dig l.length 2 ++ l
/-- a message's bytes -/
def mgB (k nu : Nat) (L : List (List UInt8)) : List UInt8 := dig k 1 ++ dig nu 8 ++ dig L.length 1 ++ ptsB L
theorem ptsB_snoc (L : List (List UInt8)) (l : List UInt8) : ptsB (L ++ [l]) = ptsB L ++ dig l.length 2 ++ l := by simp [ptsB]
theorem ptsB_len (L : List (List UInt8)) (h : ∀ l ∈ L, l.length ≤ 65535) : (ptsB L).length ≤ L.length * 65537 := by
  induction L with
  | nil => simp [ptsB]
  | cons a t ih =>
    have h1 := h a (by simp)
    have h2 := ih (fun l hl => h l (by simp [hl]))
    simp only [ptsB, List.flatMap_cons, List.length_append, List.length_cons, dig_length] at *
    omega
theorem rightM_facts {k : Int} {L : List (List UInt8)} (h : rightM k L = true) : (k = 1 ∨ k = 2 ∨ k = 3) ∧ L.length ≤ 16 ∧ ∀ l ∈ L, l.length ≤ 65535 := by
  unfold rightM at h
  rw [Bool.and_eq_true] at h
  refine ⟨?_, ?_, fun l hl => by simpa using List.all_eq_true.1 h.1 l hl⟩
  · by_cases h1 : k = 1
    · exact .inl h1
    · by_cases h2 : k = 2
      · exact .inr (.inl h2)
      · by_cases h3 : k = 3
        · exact .inr (.inr h3)
        · have := h.2
          simp [h1, h2, h3] at this
  · have h2 := h.2
    by_cases h1 : k = 1
    · simp [h1] at h2; omega
    · by_cases h1' : k = 2
      · simp [h1'] at h2; omega
      · by_cases h3 : k = 3
        · simp [h3] at h2; simp [h2]
        · simp [h1, h1', h3] at h2
set_option maxHeartbeats 4000000 in
set_option maxRecDepth 100000 in
theorem folBytes_no (k : Int) (nu : Nat) (L : List (List UInt8)) (A : Option Addr) (n c : Nat) (w : World) (hr : RL w A n c L) (hn : n ≤ 1000000) (hR : rightM k L = false) : Calls Try.prog 28 #[.agg (msC k nu A n c).toArray] w (RetV w (.slice none 0 0)) := by
  have HR := Lib.hid (fun w h => msgRight_any k nu L A n c w h hn)
  rw [hR] at HR
  obtain ⟨dvm1, vm1, vm2⟩ := rowFm
  have bm : Bk (w.alloc (.cells (msC k nu A n c).toArray 79)) w.heap.size 79 (msC k nu A n c) := Bk.new w 79 (msC k nu A n c).toArray
  have be : Below w.heap.size w (w.alloc (.cells (msC k nu A n c).toArray 79)) := Below.allocS (Below.refl _ _) _
  have zV : w.heap.size + 1 ≤ (w.alloc (.cells (msC k nu A n c).toArray 79)).heap.size := by simp
  go_enter Try.func28, Try.ntmps28
  go_upto_region 1 with (fail)
  generalize w.alloc (.cells (msC k nu A n c).toArray 79) = V at *
  replace hr := hr.later be
  refine wp_region_lit ?_
  refine wpList_ldA (t := 79) 79 (.tmp 1) rfl rfl (msC k nu A n c) rfl (bm) (whole_ _) vm1 vm2 (szFm _ _ _ _ _) ?_
  refine wpList_plain rfl (fun K hK => ?_)
  go_simp
  refine (HR.out _ hr).mono ?_
  rintro e V1 ⟨bs1, d1_, rfl, rfl⟩
  with_reducible refine hK _ _ ?_
  clear hK K
  refine wpList_plain rfl (fun K hK => ?_); go_simp; with_reducible refine hK _ _ ?_; clear hK K
  go_wp2
  go_ret
  exact RetV.is_ rfl (belowP be bs1 d1_)
set_option maxHeartbeats 4000000 in
set_option maxRecDepth 100000 in
theorem folBytes_yes (k nu : Nat) (L : List (List UInt8)) (A : Option Addr) (n c : Nat) (w : World) (hr : RL w A n c L) (hn : n ≤ 1000000) (hnu : nu < 18446744073709551616) (hR : rightM (k : Int) L = true) : Calls Try.prog 28 #[.agg (msC (k : Int) nu A n c).toArray] w (RetRb w (mgB k nu L)) := by
  have HR := Lib.hid (fun w h => msgRight_any (k : Int) nu L A n c w h hn)
  obtain ⟨hk3, hL16, hL6⟩ := rightM_facts hR
  rw [hR] at HR
  have hk : k < 256 := by omega
  have hLn1 : n ≤ L.length := Nat.le_of_eq hr.len
  have hLn2 : L.length ≤ n := Nat.le_of_eq hr.len.symm
  have wk : IntKind.u64.wrap (k : Int) = (k : Int) := IntWalk.u64_in _ (by omega)
  have wn : IntKind.u64.wrap (n : Int) = (n : Int) := IntWalk.u64_in _ (by omega)
  have HP1 : Hid (∀ w, Calls Try.prog 43 #[.slice none 0 0, .int .u64 (k : Int), .int .i64 1] w (RetF w (dig k 1))) := Lib.hid (fun w => put_full none 0 0 [] k 1 w Rb.nil_ (by omega) (by omega) (by omega) (by omega))
  have HP2 := Lib.hid (fun w A m l (h : Rb w A m m l) (hm : m ≤ 1000) => put_full A m m l nu 8 w h (by omega) hnu (by omega) (by omega))
  have HP3 := Lib.hid (fun w A m l (h : Rb w A m m l) (hm : m ≤ 1000) => put_full A m m l n 1 w h (by omega) (by omega) (by omega) (by omega))
  have l1 : (dig k 1).length = 1 := dig_length _ _
  have l2 : (dig nu 8).length = 8 := dig_length _ _
  have l3 : (dig n 1).length = 1 := dig_length _ _
  have hM : mgB k nu L = dig k 1 ++ dig nu 8 ++ dig n 1 ++ ptsB L := by unfold mgB; rw [show L.length = n by omega]
  obtain ⟨R, hR9⟩ : ∃ R, mgB k nu L = R := ⟨_, rfl⟩
  rw [hR9]
  rw [hR9] at hM
  replace hM := Lib.hid hM
  clear hk3 hR hR9
  have hr0 := Lib.hid hr
  obtain ⟨dvm1, vm1, vm2⟩ := rowFm
  have bm : Bk (w.alloc (.cells (msC (k : Int) nu A n c).toArray 79)) w.heap.size 79 (msC (k : Int) nu A n c) := Bk.new w 79 (msC (k : Int) nu A n c).toArray
  have be : Below w.heap.size w (w.alloc (.cells (msC (k : Int) nu A n c).toArray 79)) := Below.allocS (Below.refl _ _) _
  have zV : w.heap.size + 1 ≤ (w.alloc (.cells (msC (k : Int) nu A n c).toArray 79)).heap.size := by simp
  go_enter Try.func28, Try.ntmps28
  go_upto_region 1 with (fail)
  generalize w.alloc (.cells (msC (k : Int) nu A n c).toArray 79) = V at *
  replace hr := hr.later be
  refine wp_region_lit ?_
  refine wpList_ldA (t := 79) 79 (.tmp 1) rfl rfl (msC (k : Int) nu A n c) rfl (bm) (whole_ _) vm1 vm2 (szFm _ _ _ _ _) ?_
  refine wpList_plain rfl (fun K hK => ?_)
  go_simp
  refine (HR.out _ hr).mono ?_
  rintro e V1 ⟨bs1, d1_, rfl, rfl⟩
  with_reducible refine hK _ _ ?_
  clear hK K
  refine wpList_plain rfl (fun K hK => ?_); go_simp; with_reducible refine hK _ _ ?_; clear hK K
  replace bm := bm.later (below_plus V bs1 d1_)
  replace hr := hr.later (below_plus V bs1 d1_)
  replace be := belowP be bs1 d1_
  clear HR
  generalize plus V bs1 d1_ = V at *
  have q0 : V.cell? ⟨w.heap.size, 0, none⟩ = some (.int .i64 (k : Int)) := bm.cell 0
  go_wp2_with fail
  refine (HP1.out _).mono ?_
  rintro e V1 ⟨A2, n2, bs2, d2, rfl, rfl, ho2⟩
  replace bm := bm.later (below_plus V bs2 d2)
  replace hr := hr.later (below_plus V bs2 d2)
  have z2 := be.size
  replace be := belowP be bs2 d2
  generalize plus V bs2 d2 = W2 at *
  clear q0
  have q1 : W2.cell? ⟨w.heap.size, 1, none⟩ = some (.int .u64 (nu : Int)) := bm.cell 1
  obtain rfl : n2 = 1 := by have := ho2.rb.1; rw [l1] at this; omega
  go_wp2_with fail
  refine (HP2.out _ _ _ _ ho2.rb (by omega)).mono ?_
  rintro e V1 ⟨A3, n3, bs3, d3, rfl, rfl, ho3⟩
  replace bm := bm.later (below_plus W2 bs3 d3)
  replace hr := hr.later (below_plus W2 bs3 d3)
  have z3 := be.size
  replace be := belowP be bs3 d3
  generalize plus W2 bs3 d3 = W3 at *
  clear q1
  have q2 : W3.cell? ⟨w.heap.size, 2, none⟩ = some (.slice A n c) := bm.cell 2
  obtain rfl : n3 = 9 := by have := ho3.rb.1; rw [List.length_append, l1, l2] at this; omega
  go_wp2_with fail
  refine (HP3.out _ _ _ _ ho3.rb (by omega)).mono ?_
  rintro e V1 ⟨A4, n4, bs4, d4, rfl, rfl, ho4⟩
  replace bm := bm.later (below_plus W3 bs4 d4)
  replace hr := hr.later (below_plus W3 bs4 d4)
  have z4 := be.size
  replace be := belowP be bs4 d4
  generalize plus W3 bs4 d4 = W4 at *
  clear q2
  have q2 : W4.cell? ⟨w.heap.size, 2, none⟩ = some (.slice A n c) := bm.cell 2
  have hS0 := Lib.hid (ho4.mono z4)
  obtain rfl : n4 = 10 := by have := hS0.out.rb.1; rw [List.length_append, List.length_append, l1, l2, l3] at this; omega
  clear ho2 ho3 ho4 HP1 HP2 HP3
  have dd : (dig k 1 ++ dig nu 8 ++ dig n 1).length = 10 := by rw [List.length_append, List.length_append, l1, l2, l3]
  generalize dig k 1 ++ dig nu 8 ++ dig n 1 = D at *
  go_upto_region 7 with (fail)
  clear q2 wk l1 l2 l3 hr
  go_loopw [3, 26] (fun X I wr => ∃ i : Nat, ∃ B m d, I = .int .i64 (i : Int) ∧ i ≤ n ∧ X = .slice B m d ∧ Ob wr w.heap.size B m d (D ++ ptsB (L.take i)) ∧ Below w.heap.size w wr) (fun _ I _ => n - (intOf I).toNat)
  case atStart => exact ⟨0, A4, 10, 10, rfl, Nat.zero_le _, rfl, by simpa [ptsB] using hS0.out, be⟩
  case round =>
    obtain ⟨i, B, m, d, rfl, hi, rfl, ho, hE⟩ := hrel
    have hmm : m ≤ 10 + 1048592 := by
      have h1 := ho.rb.1
      have h2 := ptsB_len (L.take i) (fun l hl => hL6 l (List.mem_of_mem_take hl))
      rw [List.length_append, dd] at h1
      rw [List.length_take] at h2
      omega
    by_cases hlt : i < n
    · have ii : (i : Int) < (n : Int) := by omega
      have hil : i < L.length := by omega
      obtain ⟨b, o, A', n', c', rfl, hc0, hrb⟩ := hr0.out.at_ i hil
      have hc : wr.cell? ⟨b, o + i, none⟩ = some (.slice A' n' c') := (hE.cell (p := ⟨b, o + i, none⟩) (lt_of_cell hc0)).trans hc0
      clear hc0
      have hn6 := hL6 _ (List.getElem_mem hil)
      have hn1 : n' ≤ 65535 := by have := hrb.1; omega
      have wn' : IntKind.u64.wrap (n' : Int) = (n' : Int) := IntWalk.u64_in _ (by omega)
      have hsn : ptsB (L.take (i + 1)) = ptsB (L.take i) ++ dig n' 2 ++ L[i] := by rw [List.take_succ_eq_append_getElem hil, ptsB_snoc, hrb.1]
      replace hsn := Lib.hid hsn
      have HPU : Hid (∀ w, Calls Try.prog 43 #[.slice none 0 0, .int .u64 (n' : Int), .int .i64 2] w (RetF w (dig n' 2))) := Lib.hid (fun w => put_full none 0 0 [] n' 2 w Rb.nil_ (by omega) (by omega) (by omega) (by omega))
      have l2' : (dig n' 2).length = 2 := dig_length _ _
      generalize dig n' 2 = D2 at *
      go_wp2_with fail
      refine (HPU.out _).mono ?_
      rintro e V1 ⟨A5, n5, bs5, d5, rfl, rfl, ho5⟩
      obtain rfl : n5 = 2 := by have := ho5.rb.1; omega
      replace ho := ho.later (below_plus wr bs5 d5)
      replace hE := belowP hE bs5 d5
      clear hc HPU
      generalize plus wr bs5 d5 = W5 at *
      have zE := hE.size
      go_wp2_with (first
        | (at_builtin; refine wpList_app bt rfl (.tmp 30) (.tmp 34) rfl rfl ho rfl ho5.rb (by omega) zE ?_; intro A6 n6 c6 w6 ho6 hb6 hg6)
        | (at_builtin; refine wpList_app bt rfl (.tmp 36) (.tmp 37) rfl rfl ho6 rfl (hrb.later (hE.trans hb6)) (by have h1 := ho6.rb.1; have h2 := ho.rb.1; rw [List.length_append, l2'] at h1; omega) (Nat.le_trans zE hb6.size) ?_; intro A7 n7 c7 w7 ho7 hb7 hg7))
      exact ⟨⟨i + 1, A7, n7, c7, by go_num, by omega, rfl, by rw [hsn.out, ← List.append_assoc, ← List.append_assoc]; exact ho7, (hE.trans hb6).trans hb7⟩, by simp [intOf]; omega⟩
    · obtain rfl : i = n := by omega
      have ii : ¬ (i : Int) < (i : Int) := by omega
      have ho9 : Ob wr w.heap.size B m d (D ++ ptsB L) := by rw [List.take_of_length_le (by omega)] at ho; exact ho
      clear ho
      go_wp2
      go_ret
      rw [hM.out]
      exact RetRb.mk ho9.rb hE
end Go.Proofs.Ytepodflinhpejaa

/- Own rows of bytes inside regions that draw their order; equality of rings. -/
namespace Go.Proofs.Ytepodflinhpejaa
open Go.RowKit
set_option linter.unusedVariables false
set_option linter.unusedSimpArgs false

/-- an own row without room -/
def MP.fullO (base : Nat) (l : List UInt8) : MP := ⟨fun v w => ∃ A n, v = .slice A n n ∧ Ob w base A n n l, fun _ _ _ ⟨A, n, h1, h2⟩ h => ⟨A, n, h1, h2.later h.below⟩⟩
/-- append onto an own row without room: an own row, and nothing that was there is changed -/
theorem run_appFO {P : Program} (w : World) {ts ty : TypeId} (bt : BT P ts 5) {base : Nat} {A : Option Addr} {n : Nat} {l : List UInt8} (ho : Ob w base A n n l)
    {A2 : Option Addr} {n2 c2 : Nat} {l2 : List UInt8} (hr2 : Rb w A2 n2 c2 l2) (hm : n + n2 ≤ 1099511627776) (hbase : base ≤ w.heap.size) :
    ∃ A' n' c' w', (Builtin.append_ #[ts, ts] ty #[.slice A n n, .slice A2 n2 c2]).run P w = .ok (.slice A' n' c') w' ∧ Ob w' base A' n' c' (l ++ l2) ∧ Ex w w' := by
  obtain ⟨A1, n1, c1, w1, h1, h2, _⟩ := run_app (P := P) w (ty := ty) bt ho hr2 hm hbase
  obtain ⟨A3, n3, c3, w3, h3, _, h4, _⟩ := run_appF (P := P) w (ty := ty) bt ho.rb hr2 hm
  rw [h1] at h3
  injection h3 with e1 e2
  subst e2
  exact ⟨A1, n1, c1, w1, h1, h2, h4⟩
theorem rel_appO {P : Program} {Q : Exit → Act → World → Prop} {w : World} {o : Oper} {a : Act} {K : Act → World → Prop} {ts : TypeId} (bt : BT P ts 5) (s x : Operand) (base : Nat)
    (ho : o.op = .call { callee := .builtin .append, args := #[s, x], argTypes := #[ts, ts] }) {A : Option Addr} {n : Nat} {l : List UInt8} (hs : a.eval s = .slice A n n) (hr : Ob w base A n n l) (hbase : base ≤ w.heap.size)
    {A2 : Option Addr} {n2 c2 : Nat} {l2 : List UInt8} (hx : a.eval x = .slice A2 n2 c2) (hr2 : Rb w A2 n2 c2 l2) (hm : n + n2 ≤ 1099511627776)
    (h : ∀ A' n' c' w', Ex w w' → Ob w' base A' n' c' (l ++ l2) → K (a.put o.dst (.slice A' n' c')) w') : o.wp P a w K Q := by
  obtain ⟨A', n', c', w', hrun, h2, h3⟩ := run_appFO (P := P) w (ty := o.type) bt hr hr2 hm hbase
  unfold Oper.wp execOp
  simp only [ho, resolve, invoke, builtin, Sem.run_bind, Sem.run_pure, Result.andThen_ok, List.map_toArray, List.map_cons, List.map_nil, hs, hx, hrun]
  exact h A' n' c' w' h3 h2
end Go.Proofs.Ytepodflinhpejaa

/- append onto an own row of bytes: with room (in its place), without room (a new block). -/
namespace Go.Proofs.Ytepodflinhpejaa
open Go.RowKit
set_option linter.unusedVariables false
set_option linter.unusedSimpArgs false

theorem src_of {w : World} {A2 : Option Addr} {n2 c2 : Nat} {l2 : List UInt8} (hr : Rb w A2 n2 c2 l2) (h0 : 0 < n2) : ∃ ad, A2 = some ad ∧ ∀ j u, (bcs l2)[j]? = some u → w.cell? (ad.add j) = some u := by
  rcases hr.2.2 with h | ⟨b, off, h, _, hc⟩
  · have := hr.1
    rw [bcs_nil h] at this
    simp at this
    omega
  · refine ⟨_, h, fun j u hu => ?_⟩
    rw [add_plain]
    exact hc j u hu
/-- with room: the row stays where it is -/
theorem run_appIn {P : Program} (w : World) {ts ty : TypeId} (bt : BT P ts 5) {base g n c : Nat} {l : List UInt8} (ho : Ob w base (some ⟨g, 0, none⟩) n c l)
    {A2 : Option Addr} {n2 c2 : Nat} {l2 : List UInt8} (hr2 : Rb w A2 n2 c2 l2) (h0 : 0 < n2) (hm : n + n2 ≤ 1099511627776) (hroom : n + n2 ≤ c) (hbase : base ≤ w.heap.size) :
    ∃ w', (Builtin.append_ #[ts, ts] ty #[.slice (some ⟨g, 0, none⟩) n c, .slice A2 n2 c2]).run P w = .ok (.slice (some ⟨g, 0, none⟩) (n + n2) c) w' ∧ Ob w' base (some ⟨g, 0, none⟩) (n + n2) c (l ++ l2) ∧ w.grownBy w' (some g) := by
  obtain ⟨i, hi, hz0, hz1, hz2⟩ := info_parts bt.info
  obtain ⟨A1, n1, c1, w1, h1, h2, _, h3⟩ := run_app (P := P) w (ty := ty) bt ho hr2 hm hbase
  obtain ⟨ad, rfl, hcells⟩ := src_of hr2 h0
  rcases ho.2.2 with ⟨hv, _⟩ | ⟨g', cap, cur, hv, hbg, hg, hnc, hcm, hcs, htake⟩
  · cases hv
  · injection hv with e1 e2 e3
    injection e1 with e1
    injection e1 with e1
    subst e1
    subst e3
    have hr := run_append_room (P := P) w ts ty 5 i bt.sl hi g n c cur hg ad n2 c2 (bcs l2) (by rw [bcs_length, hr2.1, hz1, Nat.mul_one]) hcells (bcs_one l2) hroom (by rw [bcs_length, hr2.1, hz1, Nat.mul_one, hcs]; omega)
    rw [h1] at hr
    injection hr with e4 e5
    injection e4 with e4 e6 e7
    subst e4
    subst e6
    subst e7
    exact ⟨w1, h1, h2, h3⟩
/-- without room: a new block -/
theorem run_appNo {P : Program} (w : World) {ts ty : TypeId} (bt : BT P ts 5) {base n c : Nat} {A : Option Addr} {l : List UInt8} (ho : Ob w base A n c l)
    {A2 : Option Addr} {n2 c2 : Nat} {l2 : List UInt8} (hr2 : Rb w A2 n2 c2 l2) (h0 : 0 < n2) (hm : n + n2 ≤ 1099511627776) (hroom : A = none ∨ c < n + n2) (hbase : base ≤ w.heap.size) :
    ∃ A' n' c' w', (Builtin.append_ #[ts, ts] ty #[.slice A n c, .slice A2 n2 c2]).run P w = .ok (.slice A' n' c') w' ∧ Ob w' base A' n' c' (l ++ l2) ∧ Ex w w' := by
  obtain ⟨i, hi, hz0, hz1, hz2⟩ := info_parts bt.info
  obtain ⟨A1, n1, c1, w1, h1, h2, _, h3⟩ := run_app (P := P) w (ty := ty) bt ho hr2 hm hbase
  obtain ⟨ad, rfl, hcells⟩ := src_of hr2 h0
  have hl2 : (bcs l2).length = n2 * i.size := by rw [bcs_length, hr2.1, hz1, Nat.mul_one]
  have hex : ∀ {o : Obj}, w1 = w.drew.alloc o → Ex w w1 := fun h => by rw [h]; exact Ex.of ((Below.refl _ _).drew.alloc (Nat.le_refl _) _)
  refine ⟨A1, n1, c1, w1, h1, h2, ?_⟩
  rcases ho.2.2 with ⟨hv, hn0⟩ | ⟨g', cap, cur, hv, hbg, hg, hnc, hcm, hcs, htake⟩
  · injection hv with e1 e2 e3
    subst e1
    subst e2
    subst e3
    have hr := run_append_nil (P := P) w ts ty 5 i (.int .u8 0) bt.sl hi hz0 ad n2 c2 (bcs l2) hl2 hcells h0 (by omega) (by rw [hz2]; omega)
    rw [h1] at hr
    injection hr with e4 e5
    exact hex e5
  · injection hv with e1 e2 e3
    subst e1
    subst e3
    rcases hroom with hroom | hroom
    · cases hroom
    have hr := run_append_grow (P := P) w ts ty 5 i (.int .u8 0) bt.sl hi hz0 ⟨g', 0, none⟩ n c (bcs l) (by rw [bcs_length, ho.1, hz1, Nat.mul_one]) (ho.2.cells (g := g') rfl) ad n2 c2 (bcs l2) hl2 hcells hroom (by omega) (growslice_fits (by omega) (by rw [hz2]; omega))
    rw [h1] at hr
    injection hr with e4 e5
    exact hex e5
theorem wp_appIn {P : Program} {Q : Exit → Act → World → Prop} {w : World} {o : Oper} {a : Act} {K : Act → World → Prop} {ts : TypeId} (bt : BT P ts 5) (s x : Operand) (base g : Nat)
    (ho : o.op = .call { callee := .builtin .append, args := #[s, x], argTypes := #[ts, ts] }) {n c : Nat} {l : List UInt8} (hs : a.eval s = .slice (some ⟨g, 0, none⟩) n c) (hr : Ob w base (some ⟨g, 0, none⟩) n c l) (hbase : base ≤ w.heap.size)
    {A2 : Option Addr} {n2 c2 : Nat} {l2 : List UInt8} (hx : a.eval x = .slice A2 n2 c2) (hr2 : Rb w A2 n2 c2 l2) (h0 : 0 < n2) (hm : n + n2 ≤ 1099511627776) (hroom : n + n2 ≤ c)
    (h : ∀ w', Ob w' base (some ⟨g, 0, none⟩) (n + n2) c (l ++ l2) → w.grownBy w' (some g) → K (a.put o.dst (.slice (some ⟨g, 0, none⟩) (n + n2) c)) w') : o.wp P a w K Q := by
  obtain ⟨w', hrun, h2, h3⟩ := run_appIn (P := P) w (ty := o.type) bt hr hr2 h0 hm hroom hbase
  unfold Oper.wp execOp
  simp only [ho, resolve, invoke, builtin, Sem.run_bind, Sem.run_pure, Result.andThen_ok, List.map_toArray, List.map_cons, List.map_nil, hs, hx, hrun]
  exact h w' h2 h3
theorem wp_appNo {P : Program} {Q : Exit → Act → World → Prop} {w : World} {o : Oper} {a : Act} {K : Act → World → Prop} {ts : TypeId} (bt : BT P ts 5) (s x : Operand) (base : Nat)
    (ho : o.op = .call { callee := .builtin .append, args := #[s, x], argTypes := #[ts, ts] }) {A : Option Addr} {n c : Nat} {l : List UInt8} (hs : a.eval s = .slice A n c) (hr : Ob w base A n c l) (hbase : base ≤ w.heap.size)
    {A2 : Option Addr} {n2 c2 : Nat} {l2 : List UInt8} (hx : a.eval x = .slice A2 n2 c2) (hr2 : Rb w A2 n2 c2 l2) (h0 : 0 < n2) (hm : n + n2 ≤ 1099511627776) (hroom : A = none ∨ c < n + n2)
    (h : ∀ A' n' c' w', Ex w w' → Ob w' base A' n' c' (l ++ l2) → K (a.put o.dst (.slice A' n' c')) w') : o.wp P a w K Q := by
  obtain ⟨A', n', c', w', hrun, h2, h3⟩ := run_appNo (P := P) w (ty := o.type) bt hr hr2 h0 hm hroom hbase
  unfold Oper.wp execOp
  simp only [ho, resolve, invoke, builtin, Sem.run_bind, Sem.run_pure, Result.andThen_ok, List.map_toArray, List.map_cons, List.map_nil, hs, hx, hrun]
  exact h A' n' c' w' h3 h2
end Go.Proofs.Ytepodflinhpejaa

/- The reference's Bytes (chapter 27). -/
namespace Go.Proofs.Ytepodflinhpejaa
open Go.RowKit
set_option linter.unusedVariables false
set_option linter.unusedSimpArgs false
attribute [local go_sem ↓] sliced_cut

attribute [local go_sem] cutA_zero

set_option maxHeartbeats 4000000 in
set_option maxRecDepth 100000 in
theorem refBytesFol_yes (k nu : Nat) (L : List (List UInt8)) (A : Option Addr) (n c : Nat) (w : World) (hr : RL w A n c L) (hn : n ≤ 1000000) (hnu : nu < 18446744073709551616) (hR : rightM (k : Int) L = true) : Calls Try.prog 29 #[.agg (msC (k : Int) nu A n c).toArray] w (RetRb w (mgB k nu L)) := by
  obtain ⟨hk3, hL16, hL6⟩ := rightM_facts hR
  have hk : k < 256 := by omega
  have hLn1 : n ≤ L.length := Nat.le_of_eq hr.len
  have hLn2 : L.length ≤ n := Nat.le_of_eq hr.len.symm
  have wk : IntKind.u8.wrap (k : Int) = (k : Int) := IntWalk.u8_in _ (by omega)
  have wn : IntKind.u8.wrap (n : Int) = (n : Int) := IntWalk.u8_in _ (by omega)
  have HB8 := Lib.hid (fun w => refBytes_any nu 8 w hnu (by omega))
  have l1 : (dig k 1).length = 1 := dig_length _ _
  have l2 : (dig nu 8).length = 8 := dig_length _ _
  have l3 : (dig n 1).length = 1 := dig_length _ _
  have hb1 := Lib.hid (bcs_dig1 k (by omega))
  have hb3 := Lib.hid (bcs_dig1 n (by omega))
  have hM : mgB k nu L = dig k 1 ++ dig nu 8 ++ dig n 1 ++ ptsB L := by unfold mgB; rw [show L.length = n by omega]
  obtain ⟨R, hR9⟩ : ∃ R, mgB k nu L = R := ⟨_, rfl⟩
  rw [hR9]
  rw [hR9] at hM
  generalize dig k 1 = D1 at *
  generalize dig nu 8 = D8 at *
  generalize dig n 1 = D3 at *
  replace hM := Lib.hid hM
  clear hk3 hR hR9
  have hr0 := Lib.hid hr
  obtain ⟨dvm1, vm1, vm2⟩ := rowRm27
  have bm : Bk (w.alloc (.cells (msC (k : Int) nu A n c).toArray 77)) w.heap.size 77 (msC (k : Int) nu A n c) := Bk.new w 77 (msC (k : Int) nu A n c).toArray
  have be : Below w.heap.size w (w.alloc (.cells (msC (k : Int) nu A n c).toArray 77)) := Below.allocS (Below.refl _ _) _
  have zV : w.heap.size + 1 ≤ (w.alloc (.cells (msC (k : Int) nu A n c).toArray 77)).heap.size := by simp
  go_enter Try.func29, Try.ntmps29
  go_upto_region 1 with (fail)
  generalize w.alloc (.cells (msC (k : Int) nu A n c).toArray 77) = V at *
  have hV := be
  have bm0 := bm
  clear hr
  refine wp_relS 13 43 rfl (by kernel_rfl) (by kernel_rfl) ?_
  apply Steps.one (MP.eq _) 1 rfl
  · intro o ho FA x hO hD K hK
    obtain rfl := Option.some.inj ho.symm
    clear ho
    have e1 := hO 1 (by kernel_rfl)
    simp only [eval_tmp, List.getElem?_toArray, List.getElem?_cons_succ, List.getElem?_cons_zero, Option.getD_some] at e1
    have ev1 := Lib.hid ((eval_tmp FA 1).trans e1)
    clear hO hD
    go_simp
    exact hK.out _ _ (Ex.refl _) rfl
  apply Steps.one (MP.eq _) 2 rfl
  · intro o ho FA x hO hD K hK
    obtain rfl := Option.some.inj ho.symm
    clear ho
    have ev5 : FA.eval (.tmp 5) = _ := hD 0 5 (by kernel_rfl)
    have e5 := (eval_tmp FA 5).symm.trans ev5
    replace ev5 := Lib.hid ev5
    clear hO hD
    refine wanted_if rfl ?_
    refine wp_ld1 3 (.tmp 5) rfl ev5.out (bm.later (below_plus _ _ _)) rfl Try.underlying3 rfl ?_
    exact hK.out _ _ (Ex.refl _) rfl
  apply Steps.one (MP.eq _) 3 rfl
  · intro o ho FA x hO hD K hK
    obtain rfl := Option.some.inj ho.symm
    clear ho
    have ev6 : FA.eval (.tmp 6) = _ := hD 1 6 (by kernel_rfl)
    have e6 := (eval_tmp FA 6).symm.trans ev6
    replace ev6 := Lib.hid ev6
    clear hO hD
    go_simp
    exact hK.out _ _ (Ex.refl _) rfl
  apply Steps.one (MP.fullO V.heap.size D1) 4 rfl
  · intro o ho FA x hO hD K hK
    obtain rfl := Option.some.inj ho.symm
    clear ho
    have ev7 : FA.eval (.tmp 7) = _ := hD 2 7 (by kernel_rfl)
    have e7 := (eval_tmp FA 7).symm.trans ev7
    replace ev7 := Lib.hid ev7
    clear hO hD
    go_simp
    exact hK.out _ _ (Ex.alloc _ _) ⟨_, _, rfl, Ob.of_bk (by rw [hb1.out]; exact Bk.newK _ _ _ (by simp [size_plus]) rfl) (by simp [size_plus]) (by assumption) (by simp [maxLen])⟩
  apply Steps.one (MP.eq _) 5 rfl
  · intro o ho FA x hO hD K hK
    obtain rfl := Option.some.inj ho.symm
    clear ho
    have e1 := hO 1 (by kernel_rfl)
    simp only [eval_tmp, List.getElem?_toArray, List.getElem?_cons_succ, List.getElem?_cons_zero, Option.getD_some] at e1
    have ev1 := Lib.hid ((eval_tmp FA 1).trans e1)
    clear hO hD
    go_simp
    exact hK.out _ _ (Ex.refl _) rfl
  apply Steps.one (MP.eq _) 6 rfl
  · intro o ho FA x hO hD K hK
    obtain rfl := Option.some.inj ho.symm
    clear ho
    have ev9 : FA.eval (.tmp 9) = _ := hD 4 9 (by kernel_rfl)
    have e9 := (eval_tmp FA 9).symm.trans ev9
    replace ev9 := Lib.hid ev9
    clear hO hD
    refine wanted_if rfl ?_
    refine wp_ld1 22 (.tmp 9) rfl ev9.out (bm.later (below_plus _ _ _)) rfl Try.underlying22 rfl ?_
    exact hK.out _ _ (Ex.refl _) rfl
  apply Steps.one (MP.rb D8) 7 rfl
  · intro o ho FA x hO hD K hK
    obtain rfl := Option.some.inj ho.symm
    clear ho
    have ev10 : FA.eval (.tmp 10) = _ := hD 5 10 (by kernel_rfl)
    have e10 := (eval_tmp FA 10).symm.trans ev10
    replace ev10 := Lib.hid ev10
    clear hO hD
    go_simp
    refine (HB8.out _).mono ?_
    rintro e w1 ⟨A2, n2, c2, bs2, d2, rfl, rfl, ho2⟩
    exact hK.out _ _ (Ex.plus_ _ _ _) ⟨_, _, _, rfl, ho2.rb⟩
  apply Steps.one (MP.ob V.heap.size (D1 ++ D8)) 8 rfl
  · intro o ho FA x hO hD K hK
    obtain rfl := Option.some.inj ho.symm
    clear ho
    have f8 := hD 3 8 (by kernel_rfl)
    generalize eu8 : FA.eval (.tmp 8) = u8 at f8
    have e8 := (eval_tmp FA 8).symm.trans eu8
    have ev8 := Lib.hid eu8
    clear eu8
    have f11 := hD 6 11 (by kernel_rfl)
    generalize eu11 : FA.eval (.tmp 11) = u11 at f11
    have e11 := (eval_tmp FA 11).symm.trans eu11
    have ev11 := Lib.hid eu11
    clear eu11
    clear hO hD
    obtain ⟨A1, n1, rfl, ho1⟩ := f8
    obtain ⟨A2, n2, c2, rfl, hr2⟩ := f11
    refine wanted_if rfl ?_
    refine rel_appO bt (.tmp 8) (.tmp 11) V.heap.size rfl ev8.out ho1 (by simp [size_plus]) ev11.out hr2 (by have h1 := ho1.rb.1; have h2 := hr2.1; omega) ?_
    intro A' n' c' w' hex ho
    exact hK.out _ _ hex ⟨_, _, _, rfl, ho⟩
  apply Steps.one (MP.eq _) 9 rfl
  · intro o ho FA x hO hD K hK
    obtain rfl := Option.some.inj ho.symm
    clear ho
    have e1 := hO 1 (by kernel_rfl)
    simp only [eval_tmp, List.getElem?_toArray, List.getElem?_cons_succ, List.getElem?_cons_zero, Option.getD_some] at e1
    have ev1 := Lib.hid ((eval_tmp FA 1).trans e1)
    clear hO hD
    go_simp
    exact hK.out _ _ (Ex.refl _) rfl
  apply Steps.one (MP.eq _) 10 rfl
  · intro o ho FA x hO hD K hK
    obtain rfl := Option.some.inj ho.symm
    clear ho
    have ev13 : FA.eval (.tmp 13) = _ := hD 8 13 (by kernel_rfl)
    have e13 := (eval_tmp FA 13).symm.trans ev13
    replace ev13 := Lib.hid ev13
    clear hO hD
    refine wanted_if rfl ?_
    refine wp_ld1 75 (.tmp 13) rfl ev13.out (bm.later (below_plus _ _ _)) rfl Try.underlying75 rfl ?_
    exact hK.out _ _ (Ex.refl _) rfl
  apply Steps.one (MP.eq _) 11 rfl
  · intro o ho FA x hO hD K hK
    obtain rfl := Option.some.inj ho.symm
    clear ho
    have ev14 : FA.eval (.tmp 14) = _ := hD 9 14 (by kernel_rfl)
    have e14 := (eval_tmp FA 14).symm.trans ev14
    replace ev14 := Lib.hid ev14
    clear hO hD
    go_simp
    exact hK.out _ _ (Ex.refl _) rfl
  apply Steps.one (MP.eq _) 12 rfl
  · intro o ho FA x hO hD K hK
    obtain rfl := Option.some.inj ho.symm
    clear ho
    have ev15 : FA.eval (.tmp 15) = _ := hD 10 15 (by kernel_rfl)
    have e15 := (eval_tmp FA 15).symm.trans ev15
    replace ev15 := Lib.hid ev15
    clear hO hD
    go_simp
    exact hK.out _ _ (Ex.refl _) rfl
  apply Steps.one (MP.rb D3) 13 rfl
  · intro o ho FA x hO hD K hK
    obtain rfl := Option.some.inj ho.symm
    clear ho
    have ev16 : FA.eval (.tmp 16) = _ := hD 11 16 (by kernel_rfl)
    have e16 := (eval_tmp FA 16).symm.trans ev16
    replace ev16 := Lib.hid ev16
    clear hO hD
    go_simp
    exact hK.out _ _ (Ex.alloc _ _) ⟨_, _, _, rfl, (Ob.rb (base := 0) (Ob.of_bk (by rw [hb3.out]; exact Bk.newK _ _ _ (by simp [size_plus]) rfl) (Nat.zero_le _) (by assumption) (by simp [maxLen])))⟩
  refine Steps.fin_ (fun vs x hp => ?_)
  have p0 : vs 0 = _ := hp 0 (by omega)
  have p1 : vs 1 = _ := hp 1 (by omega)
  have p2 : vs 2 = _ := hp 2 (by omega)
  have p3 := hp 3 (by omega)
  have p4 : vs 4 = _ := hp 4 (by omega)
  have p5 : vs 5 = _ := hp 5 (by omega)
  have p6 := hp 6 (by omega)
  have p7 := hp 7 (by omega)
  have p8 : vs 8 = _ := hp 8 (by omega)
  have p9 : vs 9 = _ := hp 9 (by omega)
  have p10 : vs 10 = _ := hp 10 (by omega)
  have p11 : vs 11 = _ := hp 11 (by omega)
  have p12 := hp 12 (by omega)
  clear hp
  simp only [List.take_succ_cons, List.take_zero, List.drop_succ_cons, List.drop_zero, putAll, Nat.zero_add, Nat.reduceAdd, Act.put, List.setIfInBounds_toArray, List.set_cons_zero, List.set_cons_succ, p0, p1, p2, p4, p5, p8, p9, p10, p11]
  clear p0 p1 p2 p4 p5 p8 p9 p10 p11
  generalize vs 3 = y3 at *
  generalize vs 6 = y6 at *
  generalize vs 7 = y7 at *
  generalize vs 12 = y12 at *
  clear vs
  obtain ⟨A1, n1, c1, rfl, ho1⟩ := p7
  obtain ⟨A3, n3, c3, rfl, hr3⟩ := p12
  clear p3 p6
  replace bm := bm.later (below_plus V x.bs x.d)
  have hE := below_plus V x.bs x.d
  generalize plus V x.bs x.d = W at *
  refine wpList_app bt rfl (.tmp 12) (.tmp 17) rfl rfl ho1 rfl hr3 (by have h1 := ho1.rb.1; have h2 := hr3.1; rw [List.length_append] at h1; omega) hE.size ?_
  intro A4 n4 c4 W4 ho4 hb4 hg4
  simp only [Act.put, List.setIfInBounds_toArray, List.set_cons_zero, List.set_cons_succ]
  refine wpList_plain rfl (fun K hK => ?_); go_simp; with_reducible refine hK _ _ ?_; clear hK K
  replace hE := hE.trans hb4
  have dd : (D1 ++ D8 ++ D3).length = 10 := by rw [List.length_append, List.length_append, l1, l2, l3]
  clear ho1 hr3 hb4 hg4 l1 l2 l3 hb1 hb3 HB8 wk wn
  generalize D1 ++ D8 ++ D3 = D at *
  have hS0 := Lib.hid ho4
  have hbm := Lib.hid (fun W' (h : Below V.heap.size V W') => bm0.later h)
  clear ho4 bm
  go_upto_region 3 with (fail)
  go_loopw [3, 4] (fun X I wr => ∃ i : Nat, ∃ B m d, I = .int .i64 (i : Int) ∧ i ≤ n ∧ X = .slice B m d ∧ Ob wr V.heap.size B m d (D ++ ptsB (L.take i)) ∧ Below V.heap.size V wr) (fun _ I _ => n - (intOf I).toNat)
  case atStart => exact ⟨0, A4, n4, c4, rfl, Nat.zero_le _, rfl, by simpa [ptsB] using hS0.out, hE⟩
  case round =>
    clear hE
    obtain ⟨i, B, m, d, rfl, hi, rfl, ho, hE⟩ := hrel
    have bm := hbm.out _ hE
    have q2 : wr.cell? ⟨w.heap.size, 2, none⟩ = some (.slice A n c) := bm.cell 2
    have hmm : m ≤ 10 + 1048592 := by
      have h1 := ho.rb.1
      have h2 := ptsB_len (L.take i) (fun l hl => hL6 l (List.mem_of_mem_take hl))
      rw [List.length_append, dd] at h1
      rw [List.length_take] at h2
      omega
    have zE := hE.size
    by_cases hlt : i < n
    · have ii : (i : Int) < (n : Int) := by omega
      have hil : i < L.length := by omega
      obtain ⟨b, o, A', n', c', rfl, hc0, hrb⟩ := hr0.out.at_ i hil
      have HC := Lib.hid (fun W' (h : Below V.heap.size V W') => ((hV.trans (h.mono hV.size)).cell (p := ⟨b, o + i, none⟩) (lt_of_cell hc0)).trans hc0)
      clear hc0
      have hn6 := hL6 _ (List.getElem_mem hil)
      have hn1 : n' ≤ 65535 := by have := hrb.1; omega
      have wn' : IntKind.u64.wrap (n' : Int) = (n' : Int) := IntWalk.u64_in _ (by omega)
      have hsn : D ++ ptsB (L.take (i + 1)) = (D ++ ptsB (L.take i)) ++ dig n' 2 ++ L[i] := by rw [List.take_succ_eq_append_getElem hil, ptsB_snoc, hrb.1]; simp only [List.append_assoc]
      replace hsn := Lib.hid hsn
      have HB2 := Lib.hid (fun w => refBytes_any n' 2 w (by omega) (by omega))
      have l2' : (dig n' 2).length = 2 := dig_length _ _
      generalize dig n' 2 = D2 at *
      generalize D ++ ptsB (L.take i) = X at *
      have hXl := ho.rb.1
      have hXl1 : X.length ≤ m := by omega
      clear hXl hS0
      go_upto_region 5 with (fail)
      clear q2
      by_cases hroom : B ≠ none ∧ m + 2 ≤ d
      · obtain ⟨hB, hroom⟩ := hroom
        obtain ⟨g, rfl, hg, hgl⟩ : ∃ g, B = some ⟨g, 0, none⟩ ∧ V.heap.size ≤ g ∧ g < wr.heap.size := by
          rcases ho.2.2 with ⟨hv, _⟩ | ⟨g', cap, cur, hv, hbg, hgg, _⟩
          · injection hv with e1
            exact absurd e1 hB
          · injection hv with e1
            exact ⟨g', e1, hbg, (Array.getElem?_eq_some_iff.1 hgg).1⟩
        have hDr : ∀ b, (fun b => b = g) b → b < wr.heap.size := fun b hb => by have : b = g := hb; omega
        have zV : w.heap.size < V.heap.size := bm0.lt
        have hd19 : m + 2 ≤ 1099511627776 := by omega
        clear hB
        refine wp_suS (fun b => b = g) 15 43 2 [9] rfl (by kernel_rfl) (by kernel_rfl) (fun k w' => if k = 0 then Ob w' V.heap.size (some ⟨g, 0, none⟩) m d X else Ob w' V.heap.size (some ⟨g, 0, none⟩) (m + 2) d (X ++ D2)) (fun k w w' h h' => by by_cases h0 : k = 0 <;> simp only [h0, if_true, if_false] at h ⊢ <;> exact h.later h'.below) (ho) ?_
        apply StepsC.one (MC.eq _) 1 rfl (by decide)
        · intro o ho FA w' hC hO hD K hK
          obtain rfl := Option.some.inj ho.symm
          clear ho
          have e3 := hO 3 (by kernel_rfl)
          simp only [eval_tmp, List.getElem?_toArray, List.getElem?_cons_succ, List.getElem?_cons_zero, Option.getD_some] at e3
          have ev3 := Lib.hid ((eval_tmp FA 3).trans e3)
          clear hO hD
          go_simp
          exact hK.out _ _ (Ex.refl _) rfl
        apply StepsC.one (MC.eq _) 2 rfl (by decide)
        · intro o ho FA w' hC hO hD K hK
          obtain rfl := Option.some.inj ho.symm
          clear ho
          have e1 := hO 1 (by kernel_rfl)
          simp only [eval_tmp, List.getElem?_toArray, List.getElem?_cons_succ, List.getElem?_cons_zero, Option.getD_some] at e1
          have ev1 := Lib.hid ((eval_tmp FA 1).trans e1)
          clear hO hD
          go_simp
          exact hK.out _ _ (Ex.refl _) rfl
        apply StepsC.one (MC.eq _) 3 rfl (by decide)
        · intro o ho FA w' hC hO hD K hK
          obtain rfl := Option.some.inj ho.symm
          clear ho
          have ev27 : FA.eval (.tmp 27) = _ := hD 1 27 (by kernel_rfl)
          have e27 := (eval_tmp FA 27).symm.trans ev27
          replace ev27 := Lib.hid ev27
          clear hO hD
          refine wanted_if rfl ?_
          refine wp_ld1 75 (.tmp 27) rfl ev27.out (bm.chg hC (fun e => by have e : w.heap.size = g := e; omega)) rfl Try.underlying75 rfl ?_
          exact hK.out _ _ (Ex.refl _) rfl
        apply StepsC.one (MC.eq _) 4 rfl (by decide)
        · intro o ho FA w' hC hO hD K hK
          obtain rfl := Option.some.inj ho.symm
          clear ho
          have e4 := hO 4 (by kernel_rfl)
          simp only [eval_tmp, List.getElem?_toArray, List.getElem?_cons_succ, List.getElem?_cons_zero, Option.getD_some] at e4
          have ev4 := Lib.hid ((eval_tmp FA 4).trans e4)
          clear hO hD
          go_simp
          exact hK.out _ _ (Ex.refl _) rfl
        apply StepsC.one (MC.eq _) 5 rfl (by decide)
        · intro o ho FA w' hC hO hD K hK
          obtain rfl := Option.some.inj ho.symm
          clear ho
          have ev28 : FA.eval (.tmp 28) = _ := hD 2 28 (by kernel_rfl)
          have e28 := (eval_tmp FA 28).symm.trans ev28
          replace ev28 := Lib.hid ev28
          have ev29 : FA.eval (.tmp 29) = _ := hD 3 29 (by kernel_rfl)
          have e29 := (eval_tmp FA 29).symm.trans ev29
          replace ev29 := Lib.hid ev29
          clear hO hD
          go_simp
          exact hK.out _ _ (Ex.refl _) rfl
        apply StepsC.one (MC.eq _) 6 rfl (by decide)
        · intro o ho FA w' hC hO hD K hK
          obtain rfl := Option.some.inj ho.symm
          clear ho
          have ev30 : FA.eval (.tmp 30) = _ := hD 4 30 (by kernel_rfl)
          have e30 := (eval_tmp FA 30).symm.trans ev30
          replace ev30 := Lib.hid ev30
          clear hO hD
          have q9 := HC.out _ (hE.trans (hC.below (B := V.heap.size) (fun b hb => by have : b = g := hb; omega) hE.size))
          go_simp
          exact hK.out _ _ (Ex.refl _) rfl
        apply StepsC.one (MC.eq _) 7 rfl (by decide)
        · intro o ho FA w' hC hO hD K hK
          obtain rfl := Option.some.inj ho.symm
          clear ho
          have ev31 : FA.eval (.tmp 31) = _ := hD 5 31 (by kernel_rfl)
          have e31 := (eval_tmp FA 31).symm.trans ev31
          replace ev31 := Lib.hid ev31
          clear hO hD
          go_simp
          exact hK.out _ _ (Ex.refl _) rfl
        apply StepsC.one (MC.eq _) 8 rfl (by decide)
        · intro o ho FA w' hC hO hD K hK
          obtain rfl := Option.some.inj ho.symm
          clear ho
          have ev32 : FA.eval (.tmp 32) = _ := hD 6 32 (by kernel_rfl)
          have e32 := (eval_tmp FA 32).symm.trans ev32
          replace ev32 := Lib.hid ev32
          clear hO hD
          go_simp
          exact hK.out _ _ (Ex.refl _) rfl
        apply StepsC.one (MC.rbN wr.heap.size hDr D2) 9 rfl (by decide)
        · intro o ho FA w' hC hO hD K hK
          obtain rfl := Option.some.inj ho.symm
          clear ho
          have ev33 : FA.eval (.tmp 33) = _ := hD 7 33 (by kernel_rfl)
          have e33 := (eval_tmp FA 33).symm.trans ev33
          replace ev33 := Lib.hid ev33
          clear hO hD
          go_simp
          refine (HB2.out _).mono ?_
          rintro e w1 ⟨A2, n2, c2, bs2, d2, rfl, rfl, ho2⟩
          exact hK.out _ _ (Ex.plus_ _ _ _) ⟨_, _, _, rfl, ho2.rb, fun a ha => Nat.le_trans hC.size (ho2.blk _ (by rw [ha]; rfl)).1⟩
        apply StepsC.mov (MC.eq (.slice (some ⟨g, 0, none⟩) (m + 2) d)) 10 0 rfl rfl rfl
        · intro o ho FA w' hC hO hD hS K hK
          obtain rfl := Option.some.inj ho.symm
          clear ho
          have ev26 : FA.eval (.tmp 26) = _ := hD 0 26 (by kernel_rfl)
          have e26 := (eval_tmp FA 26).symm.trans ev26
          replace ev26 := Lib.hid ev26
          have f34 := hD 8 34 (by kernel_rfl)
          generalize eu34 : FA.eval (.tmp 34) = u34 at f34
          have e34 := (eval_tmp FA 34).symm.trans eu34
          have ev34 := Lib.hid eu34
          clear eu34
          clear hO hD
          obtain ⟨A2, n2, c2, rfl, hr2, -⟩ := f34
          obtain rfl : n2 = 2 := by have := hr2.1; omega
          refine wanted_if rfl ?_
          refine wp_appIn bt (.tmp 26) (.tmp 34) V.heap.size g rfl ev26.out hS (Nat.le_trans hE.size hC.size) ev34.out hr2 (by omega) (by omega) hroom ?_
          intro w'' h2 hg
          exact hK.out _ _ (Chg.one hg rfl) h2 rfl
        apply StepsC.one (MC.eq _) 11 rfl (by decide)
        · intro o ho FA w' hC hO hD K hK
          obtain rfl := Option.some.inj ho.symm
          clear ho
          have e1 := hO 1 (by kernel_rfl)
          simp only [eval_tmp, List.getElem?_toArray, List.getElem?_cons_succ, List.getElem?_cons_zero, Option.getD_some] at e1
          have ev1 := Lib.hid ((eval_tmp FA 1).trans e1)
          clear hO hD
          go_simp
          exact hK.out _ _ (Ex.refl _) rfl
        apply StepsC.one (MC.eq _) 12 rfl (by decide)
        · intro o ho FA w' hC hO hD K hK
          obtain rfl := Option.some.inj ho.symm
          clear ho
          have ev36 : FA.eval (.tmp 36) = _ := hD 10 36 (by kernel_rfl)
          have e36 := (eval_tmp FA 36).symm.trans ev36
          replace ev36 := Lib.hid ev36
          clear hO hD
          refine wanted_if rfl ?_
          refine wp_ld1 75 (.tmp 36) rfl ev36.out (bm.chg hC (fun e => by have e : w.heap.size = g := e; omega)) rfl Try.underlying75 rfl ?_
          exact hK.out _ _ (Ex.refl _) rfl
        apply StepsC.one (MC.eq _) 13 rfl (by decide)
        · intro o ho FA w' hC hO hD K hK
          obtain rfl := Option.some.inj ho.symm
          clear ho
          have e4 := hO 4 (by kernel_rfl)
          simp only [eval_tmp, List.getElem?_toArray, List.getElem?_cons_succ, List.getElem?_cons_zero, Option.getD_some] at e4
          have ev4 := Lib.hid ((eval_tmp FA 4).trans e4)
          clear hO hD
          go_simp
          exact hK.out _ _ (Ex.refl _) rfl
        apply StepsC.one (MC.eq _) 14 rfl (by decide)
        · intro o ho FA w' hC hO hD K hK
          obtain rfl := Option.some.inj ho.symm
          clear ho
          have ev37 : FA.eval (.tmp 37) = _ := hD 11 37 (by kernel_rfl)
          have e37 := (eval_tmp FA 37).symm.trans ev37
          replace ev37 := Lib.hid ev37
          have ev38 : FA.eval (.tmp 38) = _ := hD 12 38 (by kernel_rfl)
          have e38 := (eval_tmp FA 38).symm.trans ev38
          replace ev38 := Lib.hid ev38
          clear hO hD
          go_simp
          exact hK.out _ _ (Ex.refl _) rfl
        apply StepsC.one (MC.eq _) 15 rfl (by decide)
        · intro o ho FA w' hC hO hD K hK
          obtain rfl := Option.some.inj ho.symm
          clear ho
          have ev39 : FA.eval (.tmp 39) = _ := hD 13 39 (by kernel_rfl)
          have e39 := (eval_tmp FA 39).symm.trans ev39
          replace ev39 := Lib.hid ev39
          clear hO hD
          have q9 := HC.out _ (hE.trans (hC.below (B := V.heap.size) (fun b hb => by have : b = g := hb; omega) hE.size))
          go_simp
          exact hK.out _ _ (Ex.refl _) rfl
        refine StepsC.fin_ (fun vs w' hC hS hp => ?_)
        have p0 : vs 0 = _ := hp 0 (by omega) rfl
        have p1 : vs 1 = _ := hp 1 (by omega) rfl
        have p2 : vs 2 = _ := hp 2 (by omega) rfl
        have p3 : vs 3 = _ := hp 3 (by omega) rfl
        have p4 : vs 4 = _ := hp 4 (by omega) rfl
        have p5 : vs 5 = _ := hp 5 (by omega) rfl
        have p6 : vs 6 = _ := hp 6 (by omega) rfl
        have p7 : vs 7 = _ := hp 7 (by omega) rfl
        have p8 := hp 8 (by omega) rfl
        have p9 : vs 9 = _ := hp 9 (by omega) rfl
        have p10 : vs 10 = _ := hp 10 (by omega) rfl
        have p11 : vs 11 = _ := hp 11 (by omega) rfl
        have p12 : vs 12 = _ := hp 12 (by omega) rfl
        have p13 : vs 13 = _ := hp 13 (by omega) rfl
        have p14 : vs 14 = _ := hp 14 (by omega) rfl
        clear hp
        simp only [List.take_succ_cons, List.take_zero, List.drop_succ_cons, List.drop_zero, putAll, Nat.zero_add, Nat.reduceAdd, Act.put, List.setIfInBounds_toArray, List.set_cons_zero, List.set_cons_succ, p0, p1, p2, p3, p4, p5, p6, p7, p9, p10, p11, p12, p13, p14]
        clear p0 p1 p2 p3 p4 p5 p6 p7 p9 p10 p11 p12 p13 p14
        generalize vs 8 = y8 at *
        clear vs
        have ho9 : Ob w' V.heap.size (some ⟨g, 0, none⟩) (m + 2) d (X ++ D2) := hS
        replace hE := hE.trans (hC.below (B := V.heap.size) (fun b hb => by have : b = g := hb; omega) hE.size)
        clear p8 hS hC ho
        refine wpList_app bt rfl (.tmp 35) (.tmp 40) rfl rfl ho9 rfl (hrb.later (hV.trans (hE.mono hV.size))) (by have h1 := ho9.rb.1; have h2 := hrb.1; rw [List.length_append] at h1; omega) hE.size ?_
        intro A7 n7 c7 w7 ho7 hb7 hg7
        simp only [Act.put, List.setIfInBounds_toArray, List.set_cons_zero, List.set_cons_succ]
        refine wpList_plain rfl (fun K hK => ?_); go_simp; with_reducible refine hK _ _ ?_; clear hK K
        go_wp2
        exact ⟨⟨i + 1, A7, n7, c7, by go_num, by omega, rfl, by rw [hsn.out]; exact ho7, hE.trans hb7⟩, by simp [intOf]; omega⟩
      · have hno : B = none ∨ d < m + 2 := by
          by_cases hB : B = none
          · exact .inl hB
          · exact .inr (by have : ¬ m + 2 ≤ d := fun h => hroom ⟨hB, h⟩; omega)
        clear hroom
        rcases hno with rfl | hno
        all_goals
          refine wp_relS 15 43 rfl (by kernel_rfl) (by kernel_rfl) ?_
          apply Steps.one (MP.eq _) 1 rfl
          · intro o ho FA x hO hD K hK
            obtain rfl := Option.some.inj ho.symm
            clear ho
            have e3 := hO 3 (by kernel_rfl)
            simp only [eval_tmp, List.getElem?_toArray, List.getElem?_cons_succ, List.getElem?_cons_zero, Option.getD_some] at e3
            have ev3 := Lib.hid ((eval_tmp FA 3).trans e3)
            clear hO hD
            go_simp
            exact hK.out _ _ (Ex.refl _) rfl
          apply Steps.one (MP.eq _) 2 rfl
          · intro o ho FA x hO hD K hK
            obtain rfl := Option.some.inj ho.symm
            clear ho
            have e1 := hO 1 (by kernel_rfl)
            simp only [eval_tmp, List.getElem?_toArray, List.getElem?_cons_succ, List.getElem?_cons_zero, Option.getD_some] at e1
            have ev1 := Lib.hid ((eval_tmp FA 1).trans e1)
            clear hO hD
            go_simp
            exact hK.out _ _ (Ex.refl _) rfl
          apply Steps.one (MP.eq _) 3 rfl
          · intro o ho FA x hO hD K hK
            obtain rfl := Option.some.inj ho.symm
            clear ho
            have ev27 : FA.eval (.tmp 27) = _ := hD 1 27 (by kernel_rfl)
            have e27 := (eval_tmp FA 27).symm.trans ev27
            replace ev27 := Lib.hid ev27
            clear hO hD
            refine wanted_if rfl ?_
            refine wp_ld1 75 (.tmp 27) rfl ev27.out (bm.later (below_plus _ _ _)) rfl Try.underlying75 rfl ?_
            exact hK.out _ _ (Ex.refl _) rfl
          apply Steps.one (MP.eq _) 4 rfl
          · intro o ho FA x hO hD K hK
            obtain rfl := Option.some.inj ho.symm
            clear ho
            have e4 := hO 4 (by kernel_rfl)
            simp only [eval_tmp, List.getElem?_toArray, List.getElem?_cons_succ, List.getElem?_cons_zero, Option.getD_some] at e4
            have ev4 := Lib.hid ((eval_tmp FA 4).trans e4)
            clear hO hD
            go_simp
            exact hK.out _ _ (Ex.refl _) rfl
          apply Steps.one (MP.eq _) 5 rfl
          · intro o ho FA x hO hD K hK
            obtain rfl := Option.some.inj ho.symm
            clear ho
            have ev28 : FA.eval (.tmp 28) = _ := hD 2 28 (by kernel_rfl)
            have e28 := (eval_tmp FA 28).symm.trans ev28
            replace ev28 := Lib.hid ev28
            have ev29 : FA.eval (.tmp 29) = _ := hD 3 29 (by kernel_rfl)
            have e29 := (eval_tmp FA 29).symm.trans ev29
            replace ev29 := Lib.hid ev29
            clear hO hD
            go_simp
            exact hK.out _ _ (Ex.refl _) rfl
          apply Steps.one (MP.eq _) 6 rfl
          · intro o ho FA x hO hD K hK
            obtain rfl := Option.some.inj ho.symm
            clear ho
            have ev30 : FA.eval (.tmp 30) = _ := hD 4 30 (by kernel_rfl)
            have e30 := (eval_tmp FA 30).symm.trans ev30
            replace ev30 := Lib.hid ev30
            clear hO hD
            have q9 := HC.out _ (belowP hE x.bs x.d)
            go_simp
            exact hK.out _ _ (Ex.refl _) rfl
          apply Steps.one (MP.eq _) 7 rfl
          · intro o ho FA x hO hD K hK
            obtain rfl := Option.some.inj ho.symm
            clear ho
            have ev31 : FA.eval (.tmp 31) = _ := hD 5 31 (by kernel_rfl)
            have e31 := (eval_tmp FA 31).symm.trans ev31
            replace ev31 := Lib.hid ev31
            clear hO hD
            go_simp
            exact hK.out _ _ (Ex.refl _) rfl
          apply Steps.one (MP.eq _) 8 rfl
          · intro o ho FA x hO hD K hK
            obtain rfl := Option.some.inj ho.symm
            clear ho
            have ev32 : FA.eval (.tmp 32) = _ := hD 6 32 (by kernel_rfl)
            have e32 := (eval_tmp FA 32).symm.trans ev32
            replace ev32 := Lib.hid ev32
            clear hO hD
            go_simp
            exact hK.out _ _ (Ex.refl _) rfl
          apply Steps.one (MP.rb D2) 9 rfl
          · intro o ho FA x hO hD K hK
            obtain rfl := Option.some.inj ho.symm
            clear ho
            have ev33 : FA.eval (.tmp 33) = _ := hD 7 33 (by kernel_rfl)
            have e33 := (eval_tmp FA 33).symm.trans ev33
            replace ev33 := Lib.hid ev33
            clear hO hD
            go_simp
            refine (HB2.out _).mono ?_
            rintro e w1 ⟨A2, n2, c2, bs2, d2, rfl, rfl, ho2⟩
            exact hK.out _ _ (Ex.plus_ _ _ _) ⟨_, _, _, rfl, ho2.rb⟩
          apply Steps.one (MP.ob V.heap.size (X ++ D2)) 10 rfl
          · intro o ho FA x hO hD K hK
            obtain rfl := Option.some.inj ho.symm
            clear ho
            have ev26 : FA.eval (.tmp 26) = _ := hD 0 26 (by kernel_rfl)
            have e26 := (eval_tmp FA 26).symm.trans ev26
            replace ev26 := Lib.hid ev26
            have f34 := hD 8 34 (by kernel_rfl)
            generalize eu34 : FA.eval (.tmp 34) = u34 at f34
            have e34 := (eval_tmp FA 34).symm.trans eu34
            have ev34 := Lib.hid eu34
            clear eu34
            clear hO hD
            obtain ⟨A2, n2, c2, rfl, hr2⟩ := f34
            refine wanted_if rfl ?_
            refine wp_appNo bt (.tmp 26) (.tmp 34) V.heap.size rfl ev26.out (ho.plus_ _ _) (by simp [size_plus]; omega) ev34.out hr2 (by have h2 := hr2.1; omega) (by have h2 := hr2.1; omega) (by have h2 := hr2.1; first | (left; rfl) | (right; omega)) ?_
            intro A' n' c' w' hex ho
            exact hK.out _ _ hex ⟨_, _, _, rfl, ho⟩
          apply Steps.one (MP.eq _) 11 rfl
          · intro o ho FA x hO hD K hK
            obtain rfl := Option.some.inj ho.symm
            clear ho
            have e1 := hO 1 (by kernel_rfl)
            simp only [eval_tmp, List.getElem?_toArray, List.getElem?_cons_succ, List.getElem?_cons_zero, Option.getD_some] at e1
            have ev1 := Lib.hid ((eval_tmp FA 1).trans e1)
            clear hO hD
            go_simp
            exact hK.out _ _ (Ex.refl _) rfl
          apply Steps.one (MP.eq _) 12 rfl
          · intro o ho FA x hO hD K hK
            obtain rfl := Option.some.inj ho.symm
            clear ho
            have ev36 : FA.eval (.tmp 36) = _ := hD 10 36 (by kernel_rfl)
            have e36 := (eval_tmp FA 36).symm.trans ev36
            replace ev36 := Lib.hid ev36
            clear hO hD
            refine wanted_if rfl ?_
            refine wp_ld1 75 (.tmp 36) rfl ev36.out (bm.later (below_plus _ _ _)) rfl Try.underlying75 rfl ?_
            exact hK.out _ _ (Ex.refl _) rfl
          apply Steps.one (MP.eq _) 13 rfl
          · intro o ho FA x hO hD K hK
            obtain rfl := Option.some.inj ho.symm
            clear ho
            have e4 := hO 4 (by kernel_rfl)
            simp only [eval_tmp, List.getElem?_toArray, List.getElem?_cons_succ, List.getElem?_cons_zero, Option.getD_some] at e4
            have ev4 := Lib.hid ((eval_tmp FA 4).trans e4)
            clear hO hD
            go_simp
            exact hK.out _ _ (Ex.refl _) rfl
          apply Steps.one (MP.eq _) 14 rfl
          · intro o ho FA x hO hD K hK
            obtain rfl := Option.some.inj ho.symm
            clear ho
            have ev37 : FA.eval (.tmp 37) = _ := hD 11 37 (by kernel_rfl)
            have e37 := (eval_tmp FA 37).symm.trans ev37
            replace ev37 := Lib.hid ev37
            have ev38 : FA.eval (.tmp 38) = _ := hD 12 38 (by kernel_rfl)
            have e38 := (eval_tmp FA 38).symm.trans ev38
            replace ev38 := Lib.hid ev38
            clear hO hD
            go_simp
            exact hK.out _ _ (Ex.refl _) rfl
          apply Steps.one (MP.eq _) 15 rfl
          · intro o ho FA x hO hD K hK
            obtain rfl := Option.some.inj ho.symm
            clear ho
            have ev39 : FA.eval (.tmp 39) = _ := hD 13 39 (by kernel_rfl)
            have e39 := (eval_tmp FA 39).symm.trans ev39
            replace ev39 := Lib.hid ev39
            clear hO hD
            have q9 := HC.out _ (belowP hE x.bs x.d)
            go_simp
            exact hK.out _ _ (Ex.refl _) rfl
          refine Steps.fin_ (fun vs x hp => ?_)
          have p0 : vs 0 = _ := hp 0 (by omega)
          have p1 : vs 1 = _ := hp 1 (by omega)
          have p2 : vs 2 = _ := hp 2 (by omega)
          have p3 : vs 3 = _ := hp 3 (by omega)
          have p4 : vs 4 = _ := hp 4 (by omega)
          have p5 : vs 5 = _ := hp 5 (by omega)
          have p6 : vs 6 = _ := hp 6 (by omega)
          have p7 : vs 7 = _ := hp 7 (by omega)
          have p8 := hp 8 (by omega)
          have p9 := hp 9 (by omega)
          have p10 : vs 10 = _ := hp 10 (by omega)
          have p11 : vs 11 = _ := hp 11 (by omega)
          have p12 : vs 12 = _ := hp 12 (by omega)
          have p13 : vs 13 = _ := hp 13 (by omega)
          have p14 : vs 14 = _ := hp 14 (by omega)
          clear hp
          simp only [List.take_succ_cons, List.take_zero, List.drop_succ_cons, List.drop_zero, putAll, Nat.zero_add, Nat.reduceAdd, Act.put, List.setIfInBounds_toArray, List.set_cons_zero, List.set_cons_succ, p0, p1, p2, p3, p4, p5, p6, p7, p10, p11, p12, p13, p14]
          clear p0 p1 p2 p3 p4 p5 p6 p7 p10 p11 p12 p13 p14
          generalize vs 8 = y8 at *
          generalize vs 9 = y9 at *
          clear vs
          obtain ⟨A8, n8, c8, rfl, ho9⟩ := p9
          clear p8
          clear ho
          replace hE := belowP hE x.bs x.d
          generalize plus wr x.bs x.d = W5 at *
          refine wpList_app bt rfl (.tmp 35) (.tmp 40) rfl rfl ho9 rfl (hrb.later (hV.trans (hE.mono hV.size))) (by have h1 := ho9.rb.1; have h2 := hrb.1; rw [List.length_append] at h1; omega) hE.size ?_
          intro A7 n7 c7 w7 ho7 hb7 hg7
          simp only [Act.put, List.setIfInBounds_toArray, List.set_cons_zero, List.set_cons_succ]
          refine wpList_plain rfl (fun K hK => ?_); go_simp; with_reducible refine hK _ _ ?_; clear hK K
          go_wp2
          exact ⟨⟨i + 1, A7, n7, c7, by go_num, by omega, rfl, by rw [hsn.out]; exact ho7, hE.trans hb7⟩, by simp [intOf]; omega⟩
    · obtain rfl : i = n := by omega
      have ii : ¬ (i : Int) < (i : Int) := by omega
      have ho9 : Ob wr V.heap.size B m d (D ++ ptsB L) := by rw [List.take_of_length_le (by omega)] at ho; exact ho
      clear ho
      go_wp2
      go_ret
      rw [hM.out]
      exact RetRb.mk ho9.rb (hV.trans (hE.mono hV.size))
end Go.Proofs.Ytepodflinhpejaa

/- Plain: what is written is read as it was (chapter 23). -/
namespace Go.Proofs.Ytepodflinhpejaa
open Go.RowKit
set_option linter.unusedVariables false

theorem tk_app (x r : List UInt8) (n : Nat) (h : x.length = n) : tkB n (some (x ++ r)) = x ∧ drB n (some (x ++ r)) = some r := by
  subst h
  constructor
  · simp [tkB]
  · simp [drB]
theorem numT_dig (x s : Nat) (r : List UInt8) (h : x < 256 ^ s) : numT s (some (dig x s ++ r)) = x := by
  unfold numT
  rw [(tk_app (dig x s) r s (dig_length _ _)).1, numDig x s h]
theorem drB_dig (x s : Nat) (r : List UInt8) : drB s (some (dig x s ++ r)) = some r := (tk_app (dig x s) r s (dig_length _ _)).2
end Go.Proofs.Ytepodflinhpejaa

/- Parse turns Bytes back; awake (chapter 27). -/
namespace Go.Proofs.Ytepodflinhpejaa
open Go.RowKit
set_option linter.unusedVariables false
set_option linter.unusedSimpArgs false
attribute [local go_sem ↓] sliced_cut

attribute [local go_sem] cutA_zero

theorem pts_step (L : List (List UInt8)) (h : ∀ l ∈ L, l.length ≤ 65535) : ∀ i, i ≤ L.length → ptsI i (some (ptsB L)) = (L.take i, some (ptsB (L.drop i))) := by
  intro i
  induction i with
  | zero => intro _; simp [ptsI]
  | succ i ih =>
    intro hi
    have hil : i < L.length := by omega
    have e := ih (by omega)
    have h6 := h _ (List.getElem_mem hil)
    have hd : ptsB (L.drop i) = dig L[i].length 2 ++ (L[i] ++ ptsB (L.drop (i + 1))) := by
      unfold ptsB
      rw [List.drop_eq_getElem_cons hil, List.flatMap_cons, List.append_assoc]
    have h1 : numT 2 (some (ptsB (L.drop i))) = L[i].length := by rw [hd]; exact numT_dig _ 2 _ (by omega)
    have h2 : drB 2 (some (ptsB (L.drop i))) = some (L[i] ++ ptsB (L.drop (i + 1))) := by rw [hd]; exact drB_dig _ 2 _
    have h3 := tk_app L[i] (ptsB (L.drop (i + 1))) L[i].length rfl
    show ((ptsI i (some (ptsB L))).1 ++ [tkB (numT 2 (ptsI i (some (ptsB L))).2) (drB 2 (ptsI i (some (ptsB L))).2)], drB (numT 2 (ptsI i (some (ptsB L))).2) (drB 2 (ptsI i (some (ptsB L))).2)) = _
    rw [e]
    simp only []
    rw [h1, h2, h3.1, h3.2, List.take_succ_eq_append_getElem hil]
theorem pmS_mgB (k nu : Nat) (L : List (List UInt8)) (hk : k < 256) (hnu : nu < 18446744073709551616) (hR : rightM (k : Int) L = true) : pmS (mgB k nu L) = some (k, nu, L) := by
  obtain ⟨_, h16, h6⟩ := rightM_facts hR
  have e0 : mgB k nu L = dig k 1 ++ (dig nu 8 ++ (dig L.length 1 ++ ptsB L)) := by simp [mgB]
  have n0 : numT 1 (some (mgB k nu L)) = k := by rw [e0]; exact numT_dig _ 1 _ (by omega)
  have d0 : drB 1 (some (mgB k nu L)) = some (dig nu 8 ++ (dig L.length 1 ++ ptsB L)) := by rw [e0]; exact drB_dig _ 1 _
  have n1 : numT 8 (some (dig nu 8 ++ (dig L.length 1 ++ ptsB L))) = nu := numT_dig _ 8 _ hnu
  have d1 : drB 8 (some (dig nu 8 ++ (dig L.length 1 ++ ptsB L))) = some (dig L.length 1 ++ ptsB L) := drB_dig _ 8 _
  have n2 : numT 1 (some (dig L.length 1 ++ ptsB L)) = L.length := numT_dig _ 1 _ (by omega)
  have d2 : drB 1 (some (dig L.length 1 ++ ptsB L)) = some (ptsB L) := drB_dig _ 1 _
  have hp := pts_step L h6 L.length (Nat.le_refl _)
  unfold pmS restM
  rw [d0, d1, d2, n0, n1, n2, hp]
  rw [List.take_of_length_le (Nat.le_refl _), List.drop_of_length_le (Nat.le_refl _)]
  rw [if_pos ⟨rfl, hR⟩]
theorem mgB_len (k nu : Nat) (L : List (List UInt8)) (hR : rightM (k : Int) L = true) (h4 : ∀ l ∈ L, l.length ≤ 4000) : (mgB k nu L).length ≤ 1000000 := by
  obtain ⟨_, h16, h6⟩ := rightM_facts hR
  have : (ptsB L).length ≤ L.length * 4002 := by
    clear hR h16 h6
    induction L with
    | nil => simp [ptsB]
    | cons a t ih =>
      have h1 := h4 a (by simp)
      have h2 := ih (fun l hl => h4 l (by simp [hl]))
      simp only [ptsB, List.flatMap_cons, List.length_append, List.length_cons, dig_length] at *
      omega
  unfold mgB
  simp only [List.length_append, dig_length]
  omega
set_option maxRecDepth 100000 in
theorem bdFw (w : World) : (Instr.build 133 #[]).run Try.prog w = .ok (.agg #[.pointer none]) w := by kernel_rfl
set_option maxRecDepth 100000 in
theorem bdM1 (A : Option Addr) (n c : Nat) (w : World) : (Instr.build 79 #[(0, .int .i64 1), (2, .slice A n c)]).run Try.prog w = .ok (.agg (msC 1 0 A n c).toArray) w := by kernel_rfl
theorem oneL (w : World) : RL ((w.alloc (.cells #[.int .u8 1] 5)).alloc (.cells #[.slice (some ⟨w.heap.size, 0, none⟩) 1 1] 29)) (some ⟨w.heap.size + 1, 0, none⟩) 1 1 [[1]] := by
  refine ⟨[(some ⟨w.heap.size, 0, none⟩, 1, 1)], ⟨rfl, fun i h1 h2 => ?_⟩, Rs.of_bk (n := 1) (c := 1) (Bk.newK _ _ _ (by simp) rfl) rfl (Nat.le_refl _)⟩
  have hi : i = 0 := by simp at h1; omega
  subst hi
  exact (Rb.litW (W := w) #[.int .u8 1] [1] rfl rfl (by decide) rfl).alloc _
set_option maxHeartbeats 4000000 in
set_option maxRecDepth 100000 in
theorem awake27 (w : World) : Calls Try.prog 21 #[] w (RetV w (.bool true)) := by
  go_enter Try.func21, Try.ntmps21
  go_upto_region 1 with (fail)
  refine wp_region_lit ?_
  refine wpList_build 133 [] rfl rfl (.agg #[.pointer none]) ?_ ?_
  · exact bdFw _
  iterate 2 (refine wpList_plain rfl (fun K hK => ?_); go_simp; with_reducible refine hK _ _ ?_; clear hK K)
  have bf : Bk (w.alloc (.cells #[.pointer none] 133)) w.heap.size 133 [.pointer none] := Bk.new w 133 #[.pointer none]
  have be : Below w.heap.size w (w.alloc (.cells #[.pointer none] 133)) := Below.allocS (Below.refl _ _) _
  generalize w.alloc (.cells #[.pointer none] 133) = V at *
  have hL := oneL V
  have bl : Below V.heap.size V ((V.alloc (.cells #[.int .u8 1] 5)).alloc (.cells #[.slice (some ⟨V.heap.size, 0, none⟩) 1 1] 29)) := Below.allocS (Below.allocS (Below.refl _ _) _) _
  have bf2 := bf.later bl
  have be2 := be.trans (bl.mono be.size)
  clear bf be bl
  go_upto_region 2 with (fail)
  refine wp_region_lit ?_
  iterate 3 (refine wpList_plain rfl (fun K hK => ?_); go_simp; with_reducible refine hK _ _ ?_; clear hK K)
  generalize (V.alloc (.cells #[.int .u8 1] 5)).alloc (.cells #[.slice (some ⟨V.heap.size, 0, none⟩) 1 1] 29) = W at *
  refine wpList_build 79 [(0, .const (.int .i64 1)), (2, .tmp 6)] rfl rfl (.agg (msC 1 0 (some ⟨V.heap.size + 1, 0, none⟩) 1 1).toArray) ?_ ?_
  · exact bdM1 _ _ _ _
  refine wpList_plain rfl (fun K hK => ?_)
  go_simp
  refine (recNone w.heap.size 0 [[1]] _ 1 1 _ bf2 hL (by decide) rfl).mono ?_
  rintro e V1 ⟨bs1, d1, rfl, rfl⟩
  with_reducible refine hK _ _ ?_
  clear hK K
  iterate 2 (refine wpList_plain rfl (fun K hK => ?_); go_simp; with_reducible refine hK _ _ ?_; clear hK K)
  iterate 2 (refine wpList_step (fun K hK => ?_); go_simp; with_reducible refine hK _ _ ?_; clear hK K)
  refine wpList_step (fun K hK => ?_)
  go_simp
  refine (recAck w.heap.size _).mono ?_
  rintro e V2 ⟨bs2, d2, rfl, rfl⟩
  with_reducible refine hK _ _ ?_
  clear hK K
  refine wpList_step (fun K hK => ?_); go_simp; with_reducible refine hK _ _ ?_; clear hK K
  iterate 2 (refine wpList_plain rfl (fun K hK => ?_); go_simp; with_reducible refine hK _ _ ?_; clear hK K)
  go_wp2
  go_ret
  exact RetV.is_ rfl (belowP (belowP be2 _ _) _ _)
end Go.Proofs.Ytepodflinhpejaa

/- FollowBytes' walk (chapter 27). -/
namespace Go.Proofs.Ytepodflinhpejaa
open Go.RowKit
set_option linter.unusedVariables false
set_option linter.unusedSimpArgs false
attribute [local go_sem ↓] sliced_cut

attribute [local go_sem] cutA_zero

def pmK (b : List UInt8) (k nu : Nat) (L : List (List UInt8)) (ok : Bool) : Prop := (ok = false ∧ pmS b = none ∧ k = 0 ∧ nu = 0 ∧ L = []) ∨ (ok = true ∧ pmS b = some (k, nu, L))
theorem pmK_same {b : List UInt8} {k nu k' nu' : Nat} {L L' : List (List UInt8)} {ok ok' : Bool} (h : pmK b k nu L ok) (h' : pmK b k' nu' L' ok') : k = k' ∧ nu = nu' ∧ L = L' ∧ ok = ok' := by
  rcases h with ⟨h1, h2, h3, h4, h5⟩ | ⟨h1, h2⟩ <;> rcases h' with ⟨g1, g2, g3, g4, g5⟩ | ⟨g1, g2⟩
  · exact ⟨by omega, by omega, by rw [h5, g5], by rw [h1, g1]⟩
  · rw [h2] at g2; cases g2
  · rw [h2] at g2; cases g2
  · rw [h2] at g2; injection g2 with g2; injection g2 with e1 e2; injection e2 with e2 e3; exact ⟨e1, e2, e3, by rw [h1, g1]⟩
theorem pmK_is {b : List UInt8} {k nu k' nu' : Nat} {L L' : List (List UInt8)} {ok : Bool} (h : pmK b k nu L ok) (h' : pmS b = some (k', nu', L')) : k' = k ∧ nu' = nu ∧ L' = L ∧ ok = true := by
  rcases h with ⟨h1, h2, _⟩ | ⟨h1, h2⟩
  · rw [h2] at h'; cases h'
  · rw [h2] at h'; injection h' with g2; injection g2 with e1 e2; injection e2 with e2 e3; exact ⟨e1.symm, e2.symm, e3.symm, h1⟩
theorem RetPM.out {w : World} {b : List UInt8} {F : Bool → Value} {e : Ending} {w' : World} (h : RetPM w b F e w') : ∃ k nu A n c ok L bs d, e = .returned (.tuple #[.agg (msC ((k : Nat) : Int) nu A n c).toArray, F ok]) ∧ w' = plus w bs d ∧ RL (plus w bs d) A n c L ∧ n ≤ 255 ∧ pmK b k nu L ok := by
  obtain ⟨k, nu, A, n, c, ok, rfl, hb, h⟩ := h
  obtain ⟨bs, d, rfl⟩ := plus_of hb
  rcases h with ⟨h1, h2, rfl, rfl, rfl, rfl, rfl⟩ | ⟨h1, L, h2, h3, h4, h5⟩
  · exact ⟨0, 0, none, 0, 0, ok, [], bs, d, rfl, rfl, ⟨[], PtOk.nil_ _, Rs.nil_⟩, by omega, .inl ⟨h1, h2, rfl, rfl, rfl⟩⟩
  · exact ⟨k, nu, A, n, c, ok, L, bs, d, rfl, rfl, h3, h4, .inr ⟨h1, h2⟩⟩
set_option maxHeartbeats 4000000 in
set_option maxRecDepth 100000 in
theorem followBytes_walk (k : Int) (nu : Nat) (L : List (List UInt8)) (A : Option Addr) (n c : Nat) (B : Option Addr) (m cb : Nat) (b : List UInt8) (w : World) (hnu : nu < 18446744073709551616) (hr : RL w A n c L) (hn : n ≤ 9223372036854775807) (hpl : ∀ l ∈ L, l.length ≤ 9223372036854775807) (hb : Rb w B m cb b) (hm : m ≤ 9223372036854775807) : Calls Try.prog 5 #[.agg (msC k nu A n c).toArray, .slice B m cb] w (RetV w (.bool true)) := by
  obtain ⟨dvm1, vm1, vm2⟩ := rowFm
  have HL := Lib.hid (fun w h => light27 k nu L A n c w h hn hpl)
  obtain ⟨dvr1, vr1, vr2⟩ := rowRm27
  have b0 : Bk (w.alloc (.cells (msC k nu A n c).toArray 77)) w.heap.size 77 (msC k nu A n c) := Bk.new w 77 (msC k nu A n c).toArray
  have be : Below w.heap.size w (w.alloc (.cells (msC k nu A n c).toArray 77)) := Below.allocS (Below.refl _ _) _
  have zV : w.heap.size + 1 ≤ (w.alloc (.cells (msC k nu A n c).toArray 77)).heap.size := by simp
  go_enter Try.func5, Try.ntmps5
  go_upto_region 1 with (fail)
  generalize w.alloc (.cells (msC k nu A n c).toArray 77) = V at *
  replace hr := hr.later be
  replace hb := hb.later be
  obtain ⟨X, hX⟩ : ∃ X, lightM L = X := ⟨_, rfl⟩
  rw [hX] at HL
  cases X
  · clear hX
    refine wp_region_lit ?_
    refine wpList_ldA (t := 77) 77 (.tmp 2) rfl rfl (msC k nu A n c) rfl (b0) (whole_ _) vr1 vr2 (szRm27 _ _ _ _ _) ?_
    refine wpList_plain rfl (fun K hK => ?_)
    go_simp
    refine (HL.out _ hr).mono ?_
    rintro e V1 ⟨bs1, d1, rfl, rfl⟩
    with_reducible refine hK _ _ ?_
    clear hK K
    have b4 := below_plus V bs1 d1
    replace b0 := b0.later b4
    replace hr := hr.later b4
    replace hb := hb.later b4
    replace be := belowP be bs1 d1
    clear b4
    generalize plus V bs1 d1 = V0 at *
    iterate 2 (refine wpList_plain rfl (fun K hK => ?_); go_simp; with_reducible refine hK _ _ ?_; clear hK K)
    iterate 3 ((with_reducible refine wpList_skip ?_ ?_); (· first | (go_simp; done) | (go_simp; intro h; cases h)); simp only [Act.put, List.setIfInBounds_toArray, List.set_cons_zero, List.set_cons_succ])
    refine wpList_plain rfl (fun K hK => ?_); go_simp; with_reducible refine hK _ _ ?_; clear hK K
    go_wp2_with (go_at_call 21; refine (awake27 _).mono ?_; rintro e w1 ⟨bs3, d3, rfl, rfl⟩)
    go_ret
    exact RetV.mk (belowP be bs3 d3)
  · obtain ⟨hL30, hl4⟩ := lightM_yes hX
    have hn30 : n ≤ 30 := by have := hr.len; omega
    clear hX hpl hn
    refine wp_region_lit ?_
    refine wpList_ldA (t := 77) 77 (.tmp 2) rfl rfl (msC k nu A n c) rfl (b0) (whole_ _) vr1 vr2 (szRm27 _ _ _ _ _) ?_
    refine wpList_plain rfl (fun K hK => ?_)
    go_simp
    refine (HL.out _ hr).mono ?_
    rintro e V1 ⟨bs1, d1, rfl, rfl⟩
    with_reducible refine hK _ _ ?_
    clear hK K
    have b4 := below_plus V bs1 d1
    replace b0 := b0.later b4
    replace hr := hr.later b4
    replace hb := hb.later b4
    replace be := belowP be bs1 d1
    clear b4
    generalize plus V bs1 d1 = V0 at *
    iterate 2 (refine wpList_plain rfl (fun K hK => ?_); go_simp; with_reducible refine hK _ _ ?_; clear hK K)
    iterate 3 (refine wpList_step (fun K hK => ?_); go_simp; with_reducible refine hK _ _ ?_; clear hK K)
    refine wpList_plain rfl (fun K hK => ?_); go_simp; with_reducible refine hK _ _ ?_; clear hK K
    by_cases h3 : 3000 < m
    · have i3 : (3000 : Int) < (m : Int) := by omega
      go_wp2_with (go_at_call 21; refine (awake27 _).mono ?_; rintro e w1 ⟨bs3, d3, rfl, rfl⟩)
      go_ret
      exact RetV.mk (belowP be bs3 d3)
    · have i3 : ¬ (3000 : Int) < (m : Int) := by omega
      clear HL
      go_upto_region 3 with (fail)
      refine wp_region_lit ?_
      refine wpList_plain rfl (fun K hK => ?_); go_simp; with_reducible refine hK _ _ ?_; clear hK K
      refine wpList_plain rfl (fun K hK => ?_)
      go_simp
      refine ((parseFol_any b B m cb V0 hb (by omega)).mono (fun _ _ h => h.out)).mono ?_
      rintro e W1 ⟨k1, nu1, A1, n1, c1, ok1, L1, bs2, d2, rfl, rfl, hx1, hn1, hp1⟩
      with_reducible refine hK _ _ ?_
      clear hK K
      have b4 := below_plus V0 bs2 d2
      replace b0 := b0.later b4
      replace hr := hr.later b4
      replace hb := hb.later b4
      replace be := belowP be bs2 d2
      clear b4
      generalize plus V0 bs2 d2 = V1 at *
      iterate 4 (refine wpList_plain rfl (fun K hK => ?_); go_simp; with_reducible refine hK _ _ ?_; clear hK K)
      refine wpList_stA (t := 79) 79 (.tmp 5) (.tmp 24) rfl rfl (msC (k1 : Int) nu1 A1 n1 c1) (msC 0 0 none 0 0) rfl (msC_one _ _ _ _ _) rfl rfl (Bk.new _ _ _) (szFm _ _ _ _ _) ?_
      intro V2 h2 g2
      refine wpList_plain rfl (fun K hK => ?_); go_simp; with_reducible refine hK _ _ ?_; clear hK K
      have b5 : Bk V2 V1.heap.size 79 (msC (k1 : Int) nu1 A1 n1 c1) := h2
      have z5 : w.heap.size < V1.heap.size := b0.lt
      have bx : Below V1.heap.size V1 V2 := below_grown (Below.allocS (Below.refl _ _) _) g2 (Nat.le_refl _)
      replace b0 := b0.later bx
      replace hr := hr.later bx
      replace hb := hb.later bx
      replace hx1 := hx1.later bx
      replace be := be.trans (bx.mono be.size)
      clear h2 g2 bx
      generalize V1.heap.size = g5 at *
      go_upto_region 4 with (fail)
      refine wp_region_lit ?_
      refine wpList_plain rfl (fun K hK => ?_); go_simp; with_reducible refine hK _ _ ?_; clear hK K
      refine wpList_plain rfl (fun K hK => ?_)
      go_simp
      refine ((refParseFol_any b B m cb V2 hb (by omega)).mono (fun _ _ h => h.out)).mono ?_
      rintro e W1 ⟨q2, qn2, A2, n2, c2, qk2, qL2, bs3, d3, rfl, rfl, hx2, hn2, hp2⟩
      with_reducible refine hK _ _ ?_
      clear hK K
      obtain ⟨rfl, rfl, rfl, rfl⟩ := pmK_same hp1 hp2
      have b4 := below_plus V2 bs3 d3
      replace b0 := b0.later b4
      replace b5 := b5.later b4
      replace hr := hr.later b4
      replace hb := hb.later b4
      replace hx1 := hx1.later b4
      replace be := belowP be bs3 d3
      clear b4
      generalize plus V2 bs3 d3 = V3 at *
      iterate 4 (refine wpList_plain rfl (fun K hK => ?_); go_simp; with_reducible refine hK _ _ ?_; clear hK K)
      refine wpList_stA (t := 77) 77 (.tmp 7) (.tmp 29) rfl rfl (msC (k1 : Int) nu1 A2 n2 c2) (msC 0 0 none 0 0) rfl (msC_one _ _ _ _ _) rfl rfl (Bk.new _ _ _) (szRm27 _ _ _ _ _) ?_
      intro V4 h4 g4
      refine wpList_plain rfl (fun K hK => ?_); go_simp; with_reducible refine hK _ _ ?_; clear hK K
      have b7 : Bk V4 V3.heap.size 77 (msC (k1 : Int) nu1 A2 n2 c2) := h4
      have bx : Below V3.heap.size V3 V4 := below_grown (Below.allocS (Below.refl _ _) _) g4 (Nat.le_refl _)
      replace b0 := b0.later bx
      replace b5 := b5.later bx
      replace hr := hr.later bx
      replace hb := hb.later bx
      replace hx1 := hx1.later bx
      replace hx2 := hx2.later bx
      replace be := be.trans (bx.mono be.size)
      clear h4 g4 bx
      generalize V3.heap.size = g7 at *
      obtain rfl : n2 = n1 := by have e1 := hx1.len; have e2 := hx2.len; omega
      obtain ⟨rb, hrb⟩ : ∃ rb, rightM k L = rb := ⟨_, rfl⟩
      have HR1 := Lib.hid (fun W (h : RL W A n c L) => msgRight_any k nu L A n c W h (by omega))
      have HR2 := Lib.hid (fun W (h : RL W A n c L) => refRight27_any k nu L A n c W h (by omega))
      rw [hrb] at HR1 HR2
      have hRB := Lib.hid hrb
      have HIS := Lib.hid (fun W (h : Below V4.heap.size V4 W) => is27 (k1 : Int) nu1 L1 A1 A2 n2 c1 c2 W (hx1.later h) (hx2.later h) (by omega))
      clear hrb hp1 hp2 hx1 hx2
      go_upto_region 5 with (fail)
      cases ok1
      · simp only [cond_false]
        refine wp_relS 26 92 rfl (by kernel_rfl) (by kernel_rfl) ?_
        apply Steps.one (MP.eq _) 1 rfl
        · intro o ho FA x hO hD K hK
          obtain rfl := Option.some.inj ho.symm
          clear ho
          have e5 := hO 5 (by kernel_rfl)
          simp only [eval_tmp, List.getElem?_toArray, List.getElem?_cons_succ, List.getElem?_cons_zero, Option.getD_some] at e5
          have ev5 := Lib.hid ((eval_tmp FA 5).trans e5)
          clear hO hD
          refine wanted_if rfl ?_
          refine wp_ldA 79 (.tmp 5) rfl (msC (k1 : Int) nu1 A1 n2 c1) ev5.out (b5.later (below_plus _ _ _)) (whole_ _) vm1 vm2 (szFm _ _ _ _ _) ?_
          exact hK.out _ _ (Ex.refl _) rfl
        apply Steps.one (MP.eq _) 2 rfl
        · intro o ho FA x hO hD K hK
          obtain rfl := Option.some.inj ho.symm
          clear ho
          have e7 := hO 7 (by kernel_rfl)
          simp only [eval_tmp, List.getElem?_toArray, List.getElem?_cons_succ, List.getElem?_cons_zero, Option.getD_some] at e7
          have ev7 := Lib.hid ((eval_tmp FA 7).trans e7)
          clear hO hD
          refine wanted_if rfl ?_
          refine wp_ldA 77 (.tmp 7) rfl (msC (k1 : Int) nu1 A2 n2 c2) ev7.out (b7.later (below_plus _ _ _)) (whole_ _) vr1 vr2 (szRm27 _ _ _ _ _) ?_
          exact hK.out _ _ (Ex.refl _) rfl
        apply Steps.one (MP.eq (.bool true)) 3 rfl
        · intro o ho FA x hO hD K hK
          obtain rfl := Option.some.inj ho.symm
          clear ho
          have ev31 : FA.eval (.tmp 31) = _ := hD 0 31 (by kernel_rfl)
          have e31 := (eval_tmp FA 31).symm.trans ev31
          replace ev31 := Lib.hid ev31
          have ev32 : FA.eval (.tmp 32) = _ := hD 1 32 (by kernel_rfl)
          have e32 := (eval_tmp FA 32).symm.trans ev32
          replace ev32 := Lib.hid ev32
          clear hO hD
          go_simp
          refine (HIS.out _ (below_plus _ _ _)).mono ?_
          rintro e w1 ⟨bs9, d9, rfl, rfl⟩
          exact hK.out _ _ (Ex.plus_ _ _ _) rfl
        apply Steps.one (MP.eq _) 4 rfl
        · intro o ho FA x hO hD K hK
          obtain rfl := Option.some.inj ho.symm
          clear ho
          have ev33 : FA.eval (.tmp 33) = _ := hD 2 33 (by kernel_rfl)
          have e33 := (eval_tmp FA 33).symm.trans ev33
          replace ev33 := Lib.hid ev33
          clear hO hD
          go_simp
          exact hK.out _ _ (Ex.refl _) rfl
        apply Steps.one (MP.eq _) 5 rfl
        · intro o ho FA x hO hD K hK
          obtain rfl := Option.some.inj ho.symm
          clear ho
          have ev34 : FA.eval (.tmp 34) = _ := hD 3 34 (by kernel_rfl)
          have e34 := (eval_tmp FA 34).symm.trans ev34
          replace ev34 := Lib.hid ev34
          clear hO hD
          go_simp
          exact hK.out _ _ (Ex.refl _) rfl
        apply Steps.one (MP.eq _) 6 rfl
        · intro o ho FA x hO hD K hK
          obtain rfl := Option.some.inj ho.symm
          clear ho
          have e6 := hO 6 (by kernel_rfl)
          simp only [eval_tmp, List.getElem?_toArray, List.getElem?_cons_succ, List.getElem?_cons_zero, Option.getD_some] at e6
          have ev6 := Lib.hid ((eval_tmp FA 6).trans e6)
          have ev35 : FA.eval (.tmp 35) = _ := hD 4 35 (by kernel_rfl)
          have e35 := (eval_tmp FA 35).symm.trans ev35
          replace ev35 := Lib.hid ev35
          first | have ge35 := slot_of e35 | have ge35 := slot_un e35
          clear hO hD
          first | (go_simp; exact hK.out _ _ (Ex.refl _) rfl) | (rcases ge35 with ge35 | ge35 <;> (go_simp; exact hK.out _ _ (Ex.refl _) rfl))
        apply Steps.one (MP.eq _) 7 rfl
        · intro o ho FA x hO hD K hK
          obtain rfl := Option.some.inj ho.symm
          clear ho
          have ev36 : FA.eval (.tmp 36) = _ := hD 5 36 (by kernel_rfl)
          have e36 := (eval_tmp FA 36).symm.trans ev36
          replace ev36 := Lib.hid ev36
          have ev35 : FA.eval (.tmp 35) = _ := hD 4 35 (by kernel_rfl)
          have e35 := (eval_tmp FA 35).symm.trans ev35
          replace ev35 := Lib.hid ev35
          first | have ge35 := slot_of e35 | have ge35 := slot_un e35
          clear hO hD
          first | (go_simp; exact hK.out _ _ (Ex.refl _) rfl) | (rcases ge35 with ge35 | ge35 <;> (go_simp; exact hK.out _ _ (Ex.refl _) rfl))
        apply Steps.one (MP.eq _) 8 rfl
        · intro o ho FA x hO hD K hK
          obtain rfl := Option.some.inj ho.symm
          clear ho
          have e8 := hO 8 (by kernel_rfl)
          simp only [eval_tmp, List.getElem?_toArray, List.getElem?_cons_succ, List.getElem?_cons_zero, Option.getD_some] at e8
          have ev8 := Lib.hid ((eval_tmp FA 8).trans e8)
          have ev35 : FA.eval (.tmp 35) = _ := hD 4 35 (by kernel_rfl)
          have e35 := (eval_tmp FA 35).symm.trans ev35
          replace ev35 := Lib.hid ev35
          first | have ge35 := slot_of e35 | have ge35 := slot_un e35
          clear hO hD
          first | (go_simp; exact hK.out _ _ (Ex.refl _) rfl) | (rcases ge35 with ge35 | ge35 <;> (go_simp; exact hK.out _ _ (Ex.refl _) rfl))
        apply Steps.one (MP.eq _) 9 rfl
        · intro o ho FA x hO hD K hK
          obtain rfl := Option.some.inj ho.symm
          clear ho
          have ev37 : FA.eval (.tmp 37) = _ := hD 6 37 (by kernel_rfl)
          have e37 := (eval_tmp FA 37).symm.trans ev37
          replace ev37 := Lib.hid ev37
          have ev38 : FA.eval (.tmp 38) = _ := hD 7 38 (by kernel_rfl)
          have e38 := (eval_tmp FA 38).symm.trans ev38
          replace ev38 := Lib.hid ev38
          have ev35 : FA.eval (.tmp 35) = _ := hD 4 35 (by kernel_rfl)
          have e35 := (eval_tmp FA 35).symm.trans ev35
          replace ev35 := Lib.hid ev35
          first | have ge35 := slot_of e35 | have ge35 := slot_un e35
          clear hO hD
          first | (go_simp; exact hK.out _ _ (Ex.refl _) rfl) | (rcases ge35 with ge35 | ge35 <;> (go_simp; exact hK.out _ _ (Ex.refl _) rfl))
        apply Steps.one (MP.eq _) 10 rfl
        · intro o ho FA x hO hD K hK
          obtain rfl := Option.some.inj ho.symm
          clear ho
          have ev35 : FA.eval (.tmp 35) = _ := hD 4 35 (by kernel_rfl)
          have e35 := (eval_tmp FA 35).symm.trans ev35
          replace ev35 := Lib.hid ev35
          have ev39 : FA.eval (.tmp 39) = _ := hD 8 39 (by kernel_rfl)
          have e39 := (eval_tmp FA 39).symm.trans ev39
          replace ev39 := Lib.hid ev39
          clear hO hD
          go_simp
          exact hK.out _ _ (Ex.refl _) rfl
        apply Steps.one (MP.eq _) 11 rfl
        · intro o ho FA x hO hD K hK
          obtain rfl := Option.some.inj ho.symm
          clear ho
          have ev40 : FA.eval (.tmp 40) = _ := hD 9 40 (by kernel_rfl)
          have e40 := (eval_tmp FA 40).symm.trans ev40
          replace ev40 := Lib.hid ev40
          clear hO hD
          go_simp
          exact hK.out _ _ (Ex.refl _) rfl
        apply Steps.one (MP.eq _) 12 rfl
        · intro o ho FA x hO hD K hK
          obtain rfl := Option.some.inj ho.symm
          clear ho
          have e8 := hO 8 (by kernel_rfl)
          simp only [eval_tmp, List.getElem?_toArray, List.getElem?_cons_succ, List.getElem?_cons_zero, Option.getD_some] at e8
          have ev8 := Lib.hid ((eval_tmp FA 8).trans e8)
          have ev41 : FA.eval (.tmp 41) = _ := hD 10 41 (by kernel_rfl)
          have e41 := (eval_tmp FA 41).symm.trans ev41
          replace ev41 := Lib.hid ev41
          first | have ge41 := slot_of e41 | have ge41 := slot_un e41
          clear hO hD
          first | (go_simp; exact hK.out _ _ (Ex.refl _) rfl) | (rcases ge41 with ge41 | ge41 <;> (go_simp; exact hK.out _ _ (Ex.refl _) rfl))
        apply Steps.one (MP.eq _) 13 rfl
        · intro o ho FA x hO hD K hK
          obtain rfl := Option.some.inj ho.symm
          clear ho
          have ev42 : FA.eval (.tmp 42) = _ := hD 11 42 (by kernel_rfl)
          have e42 := (eval_tmp FA 42).symm.trans ev42
          replace ev42 := Lib.hid ev42
          have ev41 : FA.eval (.tmp 41) = _ := hD 10 41 (by kernel_rfl)
          have e41 := (eval_tmp FA 41).symm.trans ev41
          replace ev41 := Lib.hid ev41
          first | have ge41 := slot_of e41 | have ge41 := slot_un e41
          clear hO hD
          first | (go_simp; exact hK.out _ _ (Ex.refl _) rfl) | (rcases ge41 with ge41 | ge41 <;> (go_simp; exact hK.out _ _ (Ex.refl _) rfl))
        apply Steps.one (MP.eq _) 14 rfl
        · intro o ho FA x hO hD K hK
          obtain rfl := Option.some.inj ho.symm
          clear ho
          have ev43 : FA.eval (.tmp 43) = _ := hD 12 43 (by kernel_rfl)
          have e43 := (eval_tmp FA 43).symm.trans ev43
          replace ev43 := Lib.hid ev43
          have ev41 : FA.eval (.tmp 41) = _ := hD 10 41 (by kernel_rfl)
          have e41 := (eval_tmp FA 41).symm.trans ev41
          replace ev41 := Lib.hid ev41
          first | have ge41 := slot_of e41 | have ge41 := slot_un e41
          clear hO hD
          first | (go_simp; exact hK.out _ _ (Ex.refl _) rfl) | (rcases ge41 with ge41 | ge41 <;> (go_simp; exact hK.out _ _ (Ex.refl _) rfl))
        apply Steps.one (MP.eq _) 15 rfl
        · intro o ho FA x hO hD K hK
          obtain rfl := Option.some.inj ho.symm
          clear ho
          have e6 := hO 6 (by kernel_rfl)
          simp only [eval_tmp, List.getElem?_toArray, List.getElem?_cons_succ, List.getElem?_cons_zero, Option.getD_some] at e6
          have ev6 := Lib.hid ((eval_tmp FA 6).trans e6)
          have ev44 : FA.eval (.tmp 44) = _ := hD 13 44 (by kernel_rfl)
          have e44 := (eval_tmp FA 44).symm.trans ev44
          replace ev44 := Lib.hid ev44
          first | have ge44 := slot_of e44 | have ge44 := slot_un e44
          clear hO hD
          first | (go_simp; exact hK.out _ _ (Ex.refl _) rfl) | (rcases ge44 with ge44 | ge44 <;> (go_simp; exact hK.out _ _ (Ex.refl _) rfl))
        apply Steps.one (MP.eq _) 16 rfl
        · intro o ho FA x hO hD K hK
          obtain rfl := Option.some.inj ho.symm
          clear ho
          have ev45 : FA.eval (.tmp 45) = _ := hD 14 45 (by kernel_rfl)
          have e45 := (eval_tmp FA 45).symm.trans ev45
          replace ev45 := Lib.hid ev45
          have ev44 : FA.eval (.tmp 44) = _ := hD 13 44 (by kernel_rfl)
          have e44 := (eval_tmp FA 44).symm.trans ev44
          replace ev44 := Lib.hid ev44
          first | have ge44 := slot_of e44 | have ge44 := slot_un e44
          clear hO hD
          first | (go_simp; exact hK.out _ _ (Ex.refl _) rfl) | (rcases ge44 with ge44 | ge44 <;> (go_simp; exact hK.out _ _ (Ex.refl _) rfl))
        apply Steps.one (MP.eq _) 17 rfl
        · intro o ho FA x hO hD K hK
          obtain rfl := Option.some.inj ho.symm
          clear ho
          have ev44 : FA.eval (.tmp 44) = _ := hD 13 44 (by kernel_rfl)
          have e44 := (eval_tmp FA 44).symm.trans ev44
          replace ev44 := Lib.hid ev44
          have ev46 : FA.eval (.tmp 46) = _ := hD 15 46 (by kernel_rfl)
          have e46 := (eval_tmp FA 46).symm.trans ev46
          replace ev46 := Lib.hid ev46
          have ev41 : FA.eval (.tmp 41) = _ := hD 10 41 (by kernel_rfl)
          have e41 := (eval_tmp FA 41).symm.trans ev41
          replace ev41 := Lib.hid ev41
          first | have ge41 := slot_of e41 | have ge41 := slot_un e41
          clear hO hD
          first | (go_simp; exact hK.out _ _ (Ex.refl _) rfl) | (rcases ge41 with ge41 | ge41 <;> (go_simp; exact hK.out _ _ (Ex.refl _) rfl))
        apply Steps.one (MP.eq _) 18 rfl
        · intro o ho FA x hO hD K hK
          obtain rfl := Option.some.inj ho.symm
          clear ho
          have ev41 : FA.eval (.tmp 41) = _ := hD 10 41 (by kernel_rfl)
          have e41 := (eval_tmp FA 41).symm.trans ev41
          replace ev41 := Lib.hid ev41
          have ev47 : FA.eval (.tmp 47) = _ := hD 16 47 (by kernel_rfl)
          have e47 := (eval_tmp FA 47).symm.trans ev47
          replace ev47 := Lib.hid ev47
          clear hO hD
          go_simp
          exact hK.out _ _ (Ex.refl _) rfl
        apply Steps.one (MP.eq _) 19 rfl
        · intro o ho FA x hO hD K hK
          obtain rfl := Option.some.inj ho.symm
          clear ho
          have ev48 : FA.eval (.tmp 48) = _ := hD 17 48 (by kernel_rfl)
          have e48 := (eval_tmp FA 48).symm.trans ev48
          replace ev48 := Lib.hid ev48
          clear hO hD
          go_simp
          exact hK.out _ _ (Ex.refl _) rfl
        apply Steps.one (MP.eq _) 20 rfl
        · intro o ho FA x hO hD K hK
          obtain rfl := Option.some.inj ho.symm
          clear ho
          have e2 := hO 2 (by kernel_rfl)
          simp only [eval_tmp, List.getElem?_toArray, List.getElem?_cons_succ, List.getElem?_cons_zero, Option.getD_some] at e2
          have ev2 := Lib.hid ((eval_tmp FA 2).trans e2)
          have ev49 : FA.eval (.tmp 49) = _ := hD 18 49 (by kernel_rfl)
          have e49 := (eval_tmp FA 49).symm.trans ev49
          replace ev49 := Lib.hid ev49
          first | have ge49 := slot_of e49 | have ge49 := slot_un e49
          clear hO hD
          first | (refine wanted_ifG ?_ ?_; (· go_simp); refine wp_ldA 77 (.tmp 2) rfl (msC k nu A n c) ev2.out (b0.later (below_plus _ _ _)) (whole_ _) vr1 vr2 (szRm27 _ _ _ _ _) ?_; exact hK.out _ _ (Ex.refl _) rfl) | (go_simp; exact hK.out _ _ (Ex.refl _) rfl) | (rcases ge49 with ge49 | ge49 <;> (go_simp; exact hK.out _ _ (Ex.refl _) rfl))
        apply Steps.one (MP.eq (.agg (msC k nu A n c).toArray)) 21 rfl
        · intro o ho FA x hO hD K hK
          obtain rfl := Option.some.inj ho.symm
          clear ho
          have ev50 : FA.eval (.tmp 50) = _ := hD 19 50 (by kernel_rfl)
          have e50 := (eval_tmp FA 50).symm.trans ev50
          replace ev50 := Lib.hid ev50
          have ev49 : FA.eval (.tmp 49) = _ := hD 18 49 (by kernel_rfl)
          have e49 := (eval_tmp FA 49).symm.trans ev49
          replace ev49 := Lib.hid ev49
          first | have ge49 := slot_of e49 | have ge49 := slot_un e49
          clear hO hD
          refine wanted_ifG (by go_simp) ?_
          go_simp
          refine (to27 k nu A n c _).mono ?_
          rintro e w1 ⟨bs9, d9, rfl, rfl⟩
          exact hK.out _ _ (Ex.plus_ _ _ _) rfl
        apply Steps.one (MP.eq (.bool rb)) 22 rfl
        · intro o ho FA x hO hD K hK
          obtain rfl := Option.some.inj ho.symm
          clear ho
          have ev51 : FA.eval (.tmp 51) = _ := hD 20 51 (by kernel_rfl)
          have e51 := (eval_tmp FA 51).symm.trans ev51
          replace ev51 := Lib.hid ev51
          have ev49 : FA.eval (.tmp 49) = _ := hD 18 49 (by kernel_rfl)
          have e49 := (eval_tmp FA 49).symm.trans ev49
          replace ev49 := Lib.hid ev49
          first | have ge49 := slot_of e49 | have ge49 := slot_un e49
          clear hO hD
          refine wanted_ifG (by go_simp) ?_
          go_simp
          refine (HR1.out _ (hr.later (below_plus _ _ _))).mono ?_
          rintro e w1 ⟨bs9, d9, rfl, rfl⟩
          exact hK.out _ _ (Ex.plus_ _ _ _) rfl
        apply Steps.one (MP.eq _) 23 rfl
        · intro o ho FA x hO hD K hK
          obtain rfl := Option.some.inj ho.symm
          clear ho
          have e2 := hO 2 (by kernel_rfl)
          simp only [eval_tmp, List.getElem?_toArray, List.getElem?_cons_succ, List.getElem?_cons_zero, Option.getD_some] at e2
          have ev2 := Lib.hid ((eval_tmp FA 2).trans e2)
          have ev49 : FA.eval (.tmp 49) = _ := hD 18 49 (by kernel_rfl)
          have e49 := (eval_tmp FA 49).symm.trans ev49
          replace ev49 := Lib.hid ev49
          first | have ge49 := slot_of e49 | have ge49 := slot_un e49
          clear hO hD
          first | (refine wanted_ifG ?_ ?_; (· go_simp); refine wp_ldA 77 (.tmp 2) rfl (msC k nu A n c) ev2.out (b0.later (below_plus _ _ _)) (whole_ _) vr1 vr2 (szRm27 _ _ _ _ _) ?_; exact hK.out _ _ (Ex.refl _) rfl) | (go_simp; exact hK.out _ _ (Ex.refl _) rfl) | (rcases ge49 with ge49 | ge49 <;> (go_simp; exact hK.out _ _ (Ex.refl _) rfl))
        apply Steps.one (MP.eq (.bool rb)) 24 rfl
        · intro o ho FA x hO hD K hK
          obtain rfl := Option.some.inj ho.symm
          clear ho
          have ev53 : FA.eval (.tmp 53) = _ := hD 22 53 (by kernel_rfl)
          have e53 := (eval_tmp FA 53).symm.trans ev53
          replace ev53 := Lib.hid ev53
          have ev49 : FA.eval (.tmp 49) = _ := hD 18 49 (by kernel_rfl)
          have e49 := (eval_tmp FA 49).symm.trans ev49
          replace ev49 := Lib.hid ev49
          first | have ge49 := slot_of e49 | have ge49 := slot_un e49
          clear hO hD
          refine wanted_ifG (by go_simp) ?_
          go_simp
          refine (HR2.out _ (hr.later (below_plus _ _ _))).mono ?_
          rintro e w1 ⟨bs9, d9, rfl, rfl⟩
          exact hK.out _ _ (Ex.plus_ _ _ _) rfl
        apply Steps.one (MP.eq _) 25 rfl
        · intro o ho FA x hO hD K hK
          obtain rfl := Option.some.inj ho.symm
          clear ho
          have ev52 : FA.eval (.tmp 52) = _ := hD 21 52 (by kernel_rfl)
          have e52 := (eval_tmp FA 52).symm.trans ev52
          replace ev52 := Lib.hid ev52
          have ev54 : FA.eval (.tmp 54) = _ := hD 23 54 (by kernel_rfl)
          have e54 := (eval_tmp FA 54).symm.trans ev54
          replace ev54 := Lib.hid ev54
          have ev49 : FA.eval (.tmp 49) = _ := hD 18 49 (by kernel_rfl)
          have e49 := (eval_tmp FA 49).symm.trans ev49
          replace ev49 := Lib.hid ev49
          first | have ge49 := slot_of e49 | have ge49 := slot_un e49
          clear hO hD
          first | (go_simp; exact hK.out _ _ (Ex.refl _) rfl) | (rcases ge49 with ge49 | ge49 <;> (go_simp; exact hK.out _ _ (Ex.refl _) rfl))
        apply Steps.one (MP.eq _) 26 rfl
        · intro o ho FA x hO hD K hK
          obtain rfl := Option.some.inj ho.symm
          clear ho
          have ev49 : FA.eval (.tmp 49) = _ := hD 18 49 (by kernel_rfl)
          have e49 := (eval_tmp FA 49).symm.trans ev49
          replace ev49 := Lib.hid ev49
          have ev55 : FA.eval (.tmp 55) = _ := hD 24 55 (by kernel_rfl)
          have e55 := (eval_tmp FA 55).symm.trans ev55
          replace ev55 := Lib.hid ev55
          clear hO hD
          go_simp
          exact hK.out _ _ (Ex.refl _) rfl
        refine Steps.fin_ (fun vs x hp => ?_)
        have p0 : vs 0 = _ := hp 0 (by omega)
        have p1 : vs 1 = _ := hp 1 (by omega)
        have p2 : vs 2 = _ := hp 2 (by omega)
        have p3 : vs 3 = _ := hp 3 (by omega)
        have p4 : vs 4 = _ := hp 4 (by omega)
        have p5 : vs 5 = _ := hp 5 (by omega)
        have p6 : vs 6 = _ := hp 6 (by omega)
        have p7 : vs 7 = _ := hp 7 (by omega)
        have p8 : vs 8 = _ := hp 8 (by omega)
        have p9 : vs 9 = _ := hp 9 (by omega)
        have p10 : vs 10 = _ := hp 10 (by omega)
        have p11 : vs 11 = _ := hp 11 (by omega)
        have p12 : vs 12 = _ := hp 12 (by omega)
        have p13 : vs 13 = _ := hp 13 (by omega)
        have p14 : vs 14 = _ := hp 14 (by omega)
        have p15 : vs 15 = _ := hp 15 (by omega)
        have p16 : vs 16 = _ := hp 16 (by omega)
        have p17 : vs 17 = _ := hp 17 (by omega)
        have p18 : vs 18 = _ := hp 18 (by omega)
        have p19 : vs 19 = _ := hp 19 (by omega)
        have p20 : vs 20 = _ := hp 20 (by omega)
        have p21 : vs 21 = _ := hp 21 (by omega)
        have p22 : vs 22 = _ := hp 22 (by omega)
        have p23 : vs 23 = _ := hp 23 (by omega)
        have p24 : vs 24 = _ := hp 24 (by omega)
        have p25 : vs 25 = _ := hp 25 (by omega)
        clear hp
        simp only [List.take_succ_cons, List.take_zero, List.drop_succ_cons, List.drop_zero, putAll, Nat.zero_add, Nat.reduceAdd, Act.put, List.setIfInBounds_toArray, List.set_cons_zero, List.set_cons_succ, p0, p1, p2, p3, p4, p5, p6, p7, p8, p9, p10, p11, p12, p13, p14, p15, p16, p17, p18, p19, p20, p21, p22, p23, p24, p25]
        clear p0 p1 p2 p3 p4 p5 p6 p7 p8 p9 p10 p11 p12 p13 p14 p15 p16 p17 p18 p19 p20 p21 p22 p23 p24 p25
        clear vs
        replace b0 := b0.later (below_plus V4 x.bs x.d)
        replace hr := hr.later (below_plus V4 x.bs x.d)
        replace be := belowP be x.bs x.d
        clear b5 b7 HIS HR1 hb
        generalize plus V4 x.bs x.d = V5 at *
        cases rb
        · go_upto_region 7 with (fail)
          refine wp_region_lit ?_
          refine wpList_ldA (t := 77) 77 (.tmp 2) rfl rfl (msC k nu A n c) rfl (b0) (whole_ _) vr1 vr2 (szRm27 _ _ _ _ _) ?_
          refine wpList_plain rfl (fun K hK => ?_)
          go_simp
          refine (to27 _ _ _ _ _ _).mono ?_
          rintro e W1 ⟨bs7, d7, rfl, rfl⟩
          with_reducible refine hK _ _ ?_
          clear hK K
          have b4 := below_plus V5 bs7 d7
          replace b0 := b0.later b4
          replace hr := hr.later b4
          replace be := belowP be bs7 d7
          clear b4
          generalize plus V5 bs7 d7 = V6 at *
          refine wpList_plain rfl (fun K hK => ?_)
          go_simp
          refine (folBytes_no k nu L A n c V6 hr (by omega) hRB.out).mono ?_
          rintro e W1 ⟨bs8, d8, rfl, rfl⟩
          with_reducible refine hK _ _ ?_
          clear hK K
          have b4 := below_plus V6 bs8 d8
          replace b0 := b0.later b4
          replace hr := hr.later b4
          replace be := belowP be bs8 d8
          clear b4
          generalize plus V6 bs8 d8 = V7 at *
          refine wpList_plain rfl (fun K hK => ?_); go_simp; with_reducible refine hK _ _ ?_; clear hK K
          go_upto_region 8 with (fail)
          refine wp_region_lit ?_
          refine wpList_ldA (t := 77) 77 (.tmp 2) rfl rfl (msC k nu A n c) rfl (b0) (whole_ _) vr1 vr2 (szRm27 _ _ _ _ _) ?_
          refine wpList_plain rfl (fun K hK => ?_)
          go_simp
          refine (HR2.out _ hr).mono ?_
          rintro e W1 ⟨bs9, d9, rfl, rfl⟩
          with_reducible refine hK _ _ ?_
          clear hK K
          have b4 := below_plus V7 bs9 d9
          replace b0 := b0.later b4
          replace hr := hr.later b4
          replace be := belowP be bs9 d9
          clear b4
          generalize plus V7 bs9 d9 = V8 at *
          refine wpList_plain rfl (fun K hK => ?_); go_simp; with_reducible refine hK _ _ ?_; clear hK K
          go_wp2_with (go_at_call 21; refine (awake27 _).mono ?_; rintro e w1 ⟨bs3, d3, rfl, rfl⟩)
          go_ret
          exact RetV.mk (belowP be bs3 d3)
        · obtain ⟨kn, rfl, hkn⟩ : ∃ kn : Nat, k = (kn : Int) ∧ kn < 256 := by
            obtain ⟨h3, -, -⟩ := rightM_facts hRB.out
            exact ⟨k.toNat, by omega, by omega⟩
          have HPM := Lib.hid (pmS_mgB kn nu L hkn hnu hRB.out)
          have hRl := mgB_len kn nu L hRB.out hl4
          have HRB := Lib.hid (fun W (h : RL W A n c L) => refBytesFol_yes kn nu L A n c W h (by omega) hnu hRB.out)
          have HFB := Lib.hid (fun W (h : RL W A n c L) => folBytes_yes kn nu L A n c W h (by omega) hnu hRB.out)
          generalize mgB kn nu L = R at *
          go_upto_region 7 with (fail)
          refine wp_region_lit ?_
          refine wpList_ldA (t := 77) 77 (.tmp 2) rfl rfl (msC (kn : Int) nu A n c) rfl (b0) (whole_ _) vr1 vr2 (szRm27 _ _ _ _ _) ?_
          refine wpList_plain rfl (fun K hK => ?_)
          go_simp
          refine (to27 _ _ _ _ _ _).mono ?_
          rintro e W1 ⟨bs7, d7, rfl, rfl⟩
          with_reducible refine hK _ _ ?_
          clear hK K
          have b4 := below_plus V5 bs7 d7
          replace b0 := b0.later b4
          replace hr := hr.later b4
          replace be := belowP be bs7 d7
          clear b4
          generalize plus V5 bs7 d7 = V6 at *
          refine wpList_plain rfl (fun K hK => ?_)
          go_simp
          refine (HFB.out V6 hr).mono ?_
          rintro e W1 ⟨A9, n9, c9, bs8, d8, rfl, rfl, h9⟩
          with_reducible refine hK _ _ ?_
          clear hK K
          have b4 := below_plus V6 bs8 d8
          replace b0 := b0.later b4
          replace hr := hr.later b4
          replace be := belowP be bs8 d8
          clear b4
          generalize plus V6 bs8 d8 = V7 at *
          refine wpList_plain rfl (fun K hK => ?_); go_simp; with_reducible refine hK _ _ ?_; clear hK K
          go_upto_region 8 with (fail)
          refine wp_region_lit ?_
          refine wpList_ldA (t := 77) 77 (.tmp 2) rfl rfl (msC (kn : Int) nu A n c) rfl (b0) (whole_ _) vr1 vr2 (szRm27 _ _ _ _ _) ?_
          refine wpList_plain rfl (fun K hK => ?_)
          go_simp
          refine (HR2.out _ hr).mono ?_
          rintro e W1 ⟨bs9, d9, rfl, rfl⟩
          with_reducible refine hK _ _ ?_
          clear hK K
          have b4 := below_plus V7 bs9 d9
          replace b0 := b0.later b4
          replace hr := hr.later b4
          replace h9 := h9.later b4
          replace be := belowP be bs9 d9
          clear b4
          generalize plus V7 bs9 d9 = V8 at *
          refine wpList_plain rfl (fun K hK => ?_); go_simp; with_reducible refine hK _ _ ?_; clear hK K
          have hn9 : n9 ≤ 1000000 := by have := h9.1; omega
          clear HR2 HFB hRl
          go_upto_region 10 with (fail)
          refine wp_region_lit ?_
          refine wpList_plain rfl (fun K hK => ?_); go_simp; with_reducible refine hK _ _ ?_; clear hK K
          refine wpList_plain rfl (fun K hK => ?_)
          go_simp
          refine ((parseFol_any _ A9 n9 c9 V8 h9 (by omega)).mono (fun _ _ h => h.out)).mono ?_
          rintro e W1 ⟨q3, qn3, A3, n3, c3, qk3, qL3, bs3, d3, rfl, rfl, hx3, hn3, hp3⟩
          with_reducible refine hK _ _ ?_
          clear hK K
          obtain ⟨rfl, rfl, rfl, rfl⟩ := pmK_is hp3 HPM.out
          simp only [cond_true] at *
          have b4 := below_plus V8 bs3 d3
          replace b0 := b0.later b4
          replace hr := hr.later b4
          replace h9 := h9.later b4
          replace be := belowP be bs3 d3
          clear b4
          generalize plus V8 bs3 d3 = V9 at *
          iterate 4 (refine wpList_plain rfl (fun K hK => ?_); go_simp; with_reducible refine hK _ _ ?_; clear hK K)
          refine wpList_stA (t := 79) 79 (.tmp 10) (.tmp 72) rfl rfl (msC (kn : Int) nu A3 n3 c3) (msC 0 0 none 0 0) rfl (msC_one _ _ _ _ _) rfl rfl (Bk.new _ _ _) (szFm _ _ _ _ _) ?_
          intro V10 h10 g10
          refine wpList_plain rfl (fun K hK => ?_); go_simp; with_reducible refine hK _ _ ?_; clear hK K
          obtain rfl : n = n3 := by have e1 := hx3.len; have e2 := hr.len; omega
          have b10 : Bk V10 V9.heap.size 79 (msC (kn : Int) nu A3 n c3) := h10
          have bx : Below V9.heap.size V9 V10 := below_grown (Below.allocS (Below.refl _ _) _) g10 (Nat.le_refl _)
          replace b0 := b0.later bx
          replace hr := hr.later bx
          replace h9 := h9.later bx
          replace hx3 := hx3.later bx
          replace be := be.trans (bx.mono be.size)
          clear bx h10 g10
          generalize V9.heap.size = gA at *
          have HIS2 := Lib.hid (fun W (h : Below V10.heap.size V10 W) => is27 (kn : Int) nu L A3 A n c3 c W (hx3.later h) (hr.later h) (by omega))
          go_upto_region 11 with (fail)
          refine wp_relS 19 92 rfl (by kernel_rfl) (by kernel_rfl) ?_
          apply Steps.one (MP.eq _) 1 rfl
          · intro o ho FA x hO hD K hK
            obtain rfl := Option.some.inj ho.symm
            clear ho
            have e9 := hO 9 (by kernel_rfl)
            simp only [eval_tmp, List.getElem?_toArray, List.getElem?_cons_succ, List.getElem?_cons_zero, Option.getD_some] at e9
            have ev9 := Lib.hid ((eval_tmp FA 9).trans e9)
            clear hO hD
            go_simp
            exact hK.out _ _ (Ex.refl _) rfl
          apply Steps.one (MP.eq _) 2 rfl
          · intro o ho FA x hO hD K hK
            obtain rfl := Option.some.inj ho.symm
            clear ho
            have ev74 : FA.eval (.tmp 74) = _ := hD 0 74 (by kernel_rfl)
            have e74 := (eval_tmp FA 74).symm.trans ev74
            replace ev74 := Lib.hid ev74
            clear hO hD
            have es := run_str bt Try.underlying9 (h9.plus_ x.bs x.d)
            go_simp
            exact hK.out _ _ (Ex.refl _) rfl
          apply Steps.one (MP.eq _) 3 rfl
          · intro o ho FA x hO hD K hK
            obtain rfl := Option.some.inj ho.symm
            clear ho
            have e2 := hO 2 (by kernel_rfl)
            simp only [eval_tmp, List.getElem?_toArray, List.getElem?_cons_succ, List.getElem?_cons_zero, Option.getD_some] at e2
            have ev2 := Lib.hid ((eval_tmp FA 2).trans e2)
            clear hO hD
            refine wanted_if rfl ?_
            refine wp_ldA 77 (.tmp 2) rfl (msC (kn : Int) nu A n c) ev2.out (b0.later (below_plus _ _ _)) (whole_ _) vr1 vr2 (szRm27 _ _ _ _ _) ?_
            exact hK.out _ _ (Ex.refl _) rfl
          apply Steps.one (MP.rb R) 4 rfl
          · intro o ho FA x hO hD K hK
            obtain rfl := Option.some.inj ho.symm
            clear ho
            have ev76 : FA.eval (.tmp 76) = _ := hD 2 76 (by kernel_rfl)
            have e76 := (eval_tmp FA 76).symm.trans ev76
            replace ev76 := Lib.hid ev76
            clear hO hD
            go_simp
            refine (HRB.out _ (hr.later (below_plus _ _ _))).mono ?_
            rintro e w1 ⟨A8, n8, c8, bs8, d8, rfl, rfl, h8⟩
            exact hK.out _ _ (Ex.plus_ _ _ _) ⟨_, _, _, rfl, h8⟩
          apply Steps.one (MP.eq _) 5 rfl
          · intro o ho FA x hO hD K hK
            obtain rfl := Option.some.inj ho.symm
            clear ho
            have f77 := hD 3 77 (by kernel_rfl)
            generalize eu77 : FA.eval (.tmp 77) = u77 at f77
            have e77 := (eval_tmp FA 77).symm.trans eu77
            have ev77 := Lib.hid eu77
            clear eu77
            clear hO hD
            obtain ⟨A1, n1, c1, rfl, hr1⟩ := f77
            have es := run_str bt Try.underlying9 hr1
            go_simp
            exact hK.out _ _ (Ex.refl _) rfl
          apply Steps.one (MP.eq _) 6 rfl
          · intro o ho FA x hO hD K hK
            obtain rfl := Option.some.inj ho.symm
            clear ho
            have ev75 : FA.eval (.tmp 75) = _ := hD 1 75 (by kernel_rfl)
            have e75 := (eval_tmp FA 75).symm.trans ev75
            replace ev75 := Lib.hid ev75
            have ev78 : FA.eval (.tmp 78) = _ := hD 4 78 (by kernel_rfl)
            have e78 := (eval_tmp FA 78).symm.trans ev78
            replace ev78 := Lib.hid ev78
            clear hO hD
            go_simp
            exact hK.out _ _ (Ex.refl _) rfl
          apply Steps.one (MP.eq _) 7 rfl
          · intro o ho FA x hO hD K hK
            obtain rfl := Option.some.inj ho.symm
            clear ho
            have ev79 : FA.eval (.tmp 79) = _ := hD 5 79 (by kernel_rfl)
            have e79 := (eval_tmp FA 79).symm.trans ev79
            replace ev79 := Lib.hid ev79
            clear hO hD
            go_simp
            exact hK.out _ _ (Ex.refl _) rfl
          apply Steps.one (MP.eq _) 8 rfl
          · intro o ho FA x hO hD K hK
            obtain rfl := Option.some.inj ho.symm
            clear ho
            have e10 := hO 10 (by kernel_rfl)
            simp only [eval_tmp, List.getElem?_toArray, List.getElem?_cons_succ, List.getElem?_cons_zero, Option.getD_some] at e10
            have ev10 := Lib.hid ((eval_tmp FA 10).trans e10)
            have ev80 : FA.eval (.tmp 80) = _ := hD 6 80 (by kernel_rfl)
            have e80 := (eval_tmp FA 80).symm.trans ev80
            replace ev80 := Lib.hid ev80
            first | have ge80 := slot_of e80 | have ge80 := slot_un e80
            clear hO hD
            first | (refine wanted_ifG ?_ ?_; (· go_simp); refine wp_ldA 79 (.tmp 10) rfl (msC (kn : Int) nu A3 n c3) ev10.out (b10.later (below_plus _ _ _)) (whole_ _) vm1 vm2 (szFm _ _ _ _ _) ?_; exact hK.out _ _ (Ex.refl _) rfl) | (go_simp; exact hK.out _ _ (Ex.refl _) rfl) | (rcases ge80 with ge80 | ge80 <;> (go_simp; exact hK.out _ _ (Ex.refl _) rfl))
          apply Steps.one (MP.eq _) 9 rfl
          · intro o ho FA x hO hD K hK
            obtain rfl := Option.some.inj ho.symm
            clear ho
            have e2 := hO 2 (by kernel_rfl)
            simp only [eval_tmp, List.getElem?_toArray, List.getElem?_cons_succ, List.getElem?_cons_zero, Option.getD_some] at e2
            have ev2 := Lib.hid ((eval_tmp FA 2).trans e2)
            have ev80 : FA.eval (.tmp 80) = _ := hD 6 80 (by kernel_rfl)
            have e80 := (eval_tmp FA 80).symm.trans ev80
            replace ev80 := Lib.hid ev80
            first | have ge80 := slot_of e80 | have ge80 := slot_un e80
            clear hO hD
            first | (refine wanted_ifG ?_ ?_; (· go_simp); refine wp_ldA 77 (.tmp 2) rfl (msC (kn : Int) nu A n c) ev2.out (b0.later (below_plus _ _ _)) (whole_ _) vr1 vr2 (szRm27 _ _ _ _ _) ?_; exact hK.out _ _ (Ex.refl _) rfl) | (go_simp; exact hK.out _ _ (Ex.refl _) rfl) | (rcases ge80 with ge80 | ge80 <;> (go_simp; exact hK.out _ _ (Ex.refl _) rfl))
          apply Steps.one (MP.eq (.bool true)) 10 rfl
          · intro o ho FA x hO hD K hK
            obtain rfl := Option.some.inj ho.symm
            clear ho
            have ev81 : FA.eval (.tmp 81) = _ := hD 7 81 (by kernel_rfl)
            have e81 := (eval_tmp FA 81).symm.trans ev81
            replace ev81 := Lib.hid ev81
            have ev82 : FA.eval (.tmp 82) = _ := hD 8 82 (by kernel_rfl)
            have e82 := (eval_tmp FA 82).symm.trans ev82
            replace ev82 := Lib.hid ev82
            have ev80 : FA.eval (.tmp 80) = _ := hD 6 80 (by kernel_rfl)
            have e80 := (eval_tmp FA 80).symm.trans ev80
            replace ev80 := Lib.hid ev80
            first | have ge80 := slot_of e80 | have ge80 := slot_un e80
            clear hO hD
            refine wanted_ifG (by go_simp) ?_
            go_simp
            refine (HIS2.out _ (below_plus _ _ _)).mono ?_
            rintro e w1 ⟨bs9, d9, rfl, rfl⟩
            exact hK.out _ _ (Ex.plus_ _ _ _) rfl
          apply Steps.one (MP.eq _) 11 rfl
          · intro o ho FA x hO hD K hK
            obtain rfl := Option.some.inj ho.symm
            clear ho
            have ev80 : FA.eval (.tmp 80) = _ := hD 6 80 (by kernel_rfl)
            have e80 := (eval_tmp FA 80).symm.trans ev80
            replace ev80 := Lib.hid ev80
            have ev83 : FA.eval (.tmp 83) = _ := hD 9 83 (by kernel_rfl)
            have e83 := (eval_tmp FA 83).symm.trans ev83
            replace ev83 := Lib.hid ev83
            clear hO hD
            go_simp
            exact hK.out _ _ (Ex.refl _) rfl
          apply Steps.one (MP.eq _) 12 rfl
          · intro o ho FA x hO hD K hK
            obtain rfl := Option.some.inj ho.symm
            clear ho
            have ev84 : FA.eval (.tmp 84) = _ := hD 10 84 (by kernel_rfl)
            have e84 := (eval_tmp FA 84).symm.trans ev84
            replace ev84 := Lib.hid ev84
            clear hO hD
            go_simp
            exact hK.out _ _ (Ex.refl _) rfl
          apply Steps.one (MP.eq _) 13 rfl
          · intro o ho FA x hO hD K hK
            obtain rfl := Option.some.inj ho.symm
            clear ho
            have e11 := hO 11 (by kernel_rfl)
            simp only [eval_tmp, List.getElem?_toArray, List.getElem?_cons_succ, List.getElem?_cons_zero, Option.getD_some] at e11
            have ev11 := Lib.hid ((eval_tmp FA 11).trans e11)
            have ev85 : FA.eval (.tmp 85) = _ := hD 11 85 (by kernel_rfl)
            have e85 := (eval_tmp FA 85).symm.trans ev85
            replace ev85 := Lib.hid ev85
            first | have ge85 := slot_of e85 | have ge85 := slot_un e85
            clear hO hD
            first | (go_simp; exact hK.out _ _ (Ex.refl _) rfl) | (rcases ge85 with ge85 | ge85 <;> (go_simp; exact hK.out _ _ (Ex.refl _) rfl))
          apply Steps.one (MP.eq _) 14 rfl
          · intro o ho FA x hO hD K hK
            obtain rfl := Option.some.inj ho.symm
            clear ho
            have ev86 : FA.eval (.tmp 86) = _ := hD 12 86 (by kernel_rfl)
            have e86 := (eval_tmp FA 86).symm.trans ev86
            replace ev86 := Lib.hid ev86
            have ev85 : FA.eval (.tmp 85) = _ := hD 11 85 (by kernel_rfl)
            have e85 := (eval_tmp FA 85).symm.trans ev85
            replace ev85 := Lib.hid ev85
            first | have ge85 := slot_of e85 | have ge85 := slot_un e85
            clear hO hD
            first | (go_simp; exact hK.out _ _ (Ex.refl _) rfl) | (rcases ge85 with ge85 | ge85 <;> (go_simp; exact hK.out _ _ (Ex.refl _) rfl))
          apply Steps.one (MP.eq _) 15 rfl
          · intro o ho FA x hO hD K hK
            obtain rfl := Option.some.inj ho.symm
            clear ho
            have ev85 : FA.eval (.tmp 85) = _ := hD 11 85 (by kernel_rfl)
            have e85 := (eval_tmp FA 85).symm.trans ev85
            replace ev85 := Lib.hid ev85
            have ev87 : FA.eval (.tmp 87) = _ := hD 13 87 (by kernel_rfl)
            have e87 := (eval_tmp FA 87).symm.trans ev87
            replace ev87 := Lib.hid ev87
            clear hO hD
            go_simp
            exact hK.out _ _ (Ex.refl _) rfl
          apply Steps.one (MP.eq _) 16 rfl
          · intro o ho FA x hO hD K hK
            obtain rfl := Option.some.inj ho.symm
            clear ho
            have ev88 : FA.eval (.tmp 88) = _ := hD 14 88 (by kernel_rfl)
            have e88 := (eval_tmp FA 88).symm.trans ev88
            replace ev88 := Lib.hid ev88
            clear hO hD
            go_simp
            exact hK.out _ _ (Ex.refl _) rfl
          apply Steps.one (MP.eq (.bool true)) 17 rfl
          · intro o ho FA x hO hD K hK
            obtain rfl := Option.some.inj ho.symm
            clear ho
            have ev89 : FA.eval (.tmp 89) = _ := hD 15 89 (by kernel_rfl)
            have e89 := (eval_tmp FA 89).symm.trans ev89
            replace ev89 := Lib.hid ev89
            first | have ge89 := slot_of e89 | have ge89 := slot_un e89
            clear hO hD
            refine wanted_ifG (by go_simp) ?_
            go_simp
            refine (awake27 _).mono ?_
            rintro e w1 ⟨bs9, d9, rfl, rfl⟩
            exact hK.out _ _ (Ex.plus_ _ _ _) rfl
          apply Steps.one (MP.eq _) 18 rfl
          · intro o ho FA x hO hD K hK
            obtain rfl := Option.some.inj ho.symm
            clear ho
            have ev89 : FA.eval (.tmp 89) = _ := hD 15 89 (by kernel_rfl)
            have e89 := (eval_tmp FA 89).symm.trans ev89
            replace ev89 := Lib.hid ev89
            have ev90 : FA.eval (.tmp 90) = _ := hD 16 90 (by kernel_rfl)
            have e90 := (eval_tmp FA 90).symm.trans ev90
            replace ev90 := Lib.hid ev90
            clear hO hD
            go_simp
            exact hK.out _ _ (Ex.refl _) rfl
          apply Steps.one (MP.eq _) 19 rfl
          · intro o ho FA x hO hD K hK
            obtain rfl := Option.some.inj ho.symm
            clear ho
            have ev91 : FA.eval (.tmp 91) = _ := hD 17 91 (by kernel_rfl)
            have e91 := (eval_tmp FA 91).symm.trans ev91
            replace ev91 := Lib.hid ev91
            clear hO hD
            go_simp
            exact hK.out _ _ (Ex.refl _) rfl
          refine Steps.fin_ (fun vs x hp => ?_)
          have p0 : vs 0 = _ := hp 0 (by omega)
          have p1 : vs 1 = _ := hp 1 (by omega)
          have p2 : vs 2 = _ := hp 2 (by omega)
          have p3 := hp 3 (by omega)
          have p4 : vs 4 = _ := hp 4 (by omega)
          have p5 : vs 5 = _ := hp 5 (by omega)
          have p6 : vs 6 = _ := hp 6 (by omega)
          have p7 : vs 7 = _ := hp 7 (by omega)
          have p8 : vs 8 = _ := hp 8 (by omega)
          have p9 : vs 9 = _ := hp 9 (by omega)
          have p10 : vs 10 = _ := hp 10 (by omega)
          have p11 : vs 11 = _ := hp 11 (by omega)
          have p12 : vs 12 = _ := hp 12 (by omega)
          have p13 : vs 13 = _ := hp 13 (by omega)
          have p14 : vs 14 = _ := hp 14 (by omega)
          have p15 : vs 15 = _ := hp 15 (by omega)
          have p16 : vs 16 = _ := hp 16 (by omega)
          have p17 : vs 17 = _ := hp 17 (by omega)
          have p18 : vs 18 = _ := hp 18 (by omega)
          clear hp
          simp only [List.take_succ_cons, List.take_zero, List.drop_succ_cons, List.drop_zero, putAll, Nat.zero_add, Nat.reduceAdd, Act.put, List.setIfInBounds_toArray, List.set_cons_zero, List.set_cons_succ, p0, p1, p2, p4, p5, p6, p7, p8, p9, p10, p11, p12, p13, p14, p15, p16, p17, p18]
          clear p0 p1 p2 p4 p5 p6 p7 p8 p9 p10 p11 p12 p13 p14 p15 p16 p17 p18
          generalize vs 3 = y3 at *
          clear vs
          go_wp2
          go_ret
          exact RetV.mk (belowP be _ _)
      · simp only [cond_true]
        refine wp_relS 26 92 rfl (by kernel_rfl) (by kernel_rfl) ?_
        apply Steps.one (MP.eq _) 1 rfl
        · intro o ho FA x hO hD K hK
          obtain rfl := Option.some.inj ho.symm
          clear ho
          have e5 := hO 5 (by kernel_rfl)
          simp only [eval_tmp, List.getElem?_toArray, List.getElem?_cons_succ, List.getElem?_cons_zero, Option.getD_some] at e5
          have ev5 := Lib.hid ((eval_tmp FA 5).trans e5)
          clear hO hD
          refine wanted_if rfl ?_
          refine wp_ldA 79 (.tmp 5) rfl (msC (k1 : Int) nu1 A1 n2 c1) ev5.out (b5.later (below_plus _ _ _)) (whole_ _) vm1 vm2 (szFm _ _ _ _ _) ?_
          exact hK.out _ _ (Ex.refl _) rfl
        apply Steps.one (MP.eq _) 2 rfl
        · intro o ho FA x hO hD K hK
          obtain rfl := Option.some.inj ho.symm
          clear ho
          have e7 := hO 7 (by kernel_rfl)
          simp only [eval_tmp, List.getElem?_toArray, List.getElem?_cons_succ, List.getElem?_cons_zero, Option.getD_some] at e7
          have ev7 := Lib.hid ((eval_tmp FA 7).trans e7)
          clear hO hD
          refine wanted_if rfl ?_
          refine wp_ldA 77 (.tmp 7) rfl (msC (k1 : Int) nu1 A2 n2 c2) ev7.out (b7.later (below_plus _ _ _)) (whole_ _) vr1 vr2 (szRm27 _ _ _ _ _) ?_
          exact hK.out _ _ (Ex.refl _) rfl
        apply Steps.one (MP.eq (.bool true)) 3 rfl
        · intro o ho FA x hO hD K hK
          obtain rfl := Option.some.inj ho.symm
          clear ho
          have ev31 : FA.eval (.tmp 31) = _ := hD 0 31 (by kernel_rfl)
          have e31 := (eval_tmp FA 31).symm.trans ev31
          replace ev31 := Lib.hid ev31
          have ev32 : FA.eval (.tmp 32) = _ := hD 1 32 (by kernel_rfl)
          have e32 := (eval_tmp FA 32).symm.trans ev32
          replace ev32 := Lib.hid ev32
          clear hO hD
          go_simp
          refine (HIS.out _ (below_plus _ _ _)).mono ?_
          rintro e w1 ⟨bs9, d9, rfl, rfl⟩
          exact hK.out _ _ (Ex.plus_ _ _ _) rfl
        apply Steps.one (MP.eq _) 4 rfl
        · intro o ho FA x hO hD K hK
          obtain rfl := Option.some.inj ho.symm
          clear ho
          have ev33 : FA.eval (.tmp 33) = _ := hD 2 33 (by kernel_rfl)
          have e33 := (eval_tmp FA 33).symm.trans ev33
          replace ev33 := Lib.hid ev33
          clear hO hD
          go_simp
          exact hK.out _ _ (Ex.refl _) rfl
        apply Steps.one (MP.eq _) 5 rfl
        · intro o ho FA x hO hD K hK
          obtain rfl := Option.some.inj ho.symm
          clear ho
          have ev34 : FA.eval (.tmp 34) = _ := hD 3 34 (by kernel_rfl)
          have e34 := (eval_tmp FA 34).symm.trans ev34
          replace ev34 := Lib.hid ev34
          clear hO hD
          go_simp
          exact hK.out _ _ (Ex.refl _) rfl
        apply Steps.one (MP.eq _) 6 rfl
        · intro o ho FA x hO hD K hK
          obtain rfl := Option.some.inj ho.symm
          clear ho
          have e6 := hO 6 (by kernel_rfl)
          simp only [eval_tmp, List.getElem?_toArray, List.getElem?_cons_succ, List.getElem?_cons_zero, Option.getD_some] at e6
          have ev6 := Lib.hid ((eval_tmp FA 6).trans e6)
          have ev35 : FA.eval (.tmp 35) = _ := hD 4 35 (by kernel_rfl)
          have e35 := (eval_tmp FA 35).symm.trans ev35
          replace ev35 := Lib.hid ev35
          first | have ge35 := slot_of e35 | have ge35 := slot_un e35
          clear hO hD
          first | (go_simp; exact hK.out _ _ (Ex.refl _) rfl) | (rcases ge35 with ge35 | ge35 <;> (go_simp; exact hK.out _ _ (Ex.refl _) rfl))
        apply Steps.one (MP.eq _) 7 rfl
        · intro o ho FA x hO hD K hK
          obtain rfl := Option.some.inj ho.symm
          clear ho
          have ev36 : FA.eval (.tmp 36) = _ := hD 5 36 (by kernel_rfl)
          have e36 := (eval_tmp FA 36).symm.trans ev36
          replace ev36 := Lib.hid ev36
          have ev35 : FA.eval (.tmp 35) = _ := hD 4 35 (by kernel_rfl)
          have e35 := (eval_tmp FA 35).symm.trans ev35
          replace ev35 := Lib.hid ev35
          first | have ge35 := slot_of e35 | have ge35 := slot_un e35
          clear hO hD
          first | (go_simp; exact hK.out _ _ (Ex.refl _) rfl) | (rcases ge35 with ge35 | ge35 <;> (go_simp; exact hK.out _ _ (Ex.refl _) rfl))
        apply Steps.one (MP.eq _) 8 rfl
        · intro o ho FA x hO hD K hK
          obtain rfl := Option.some.inj ho.symm
          clear ho
          have e8 := hO 8 (by kernel_rfl)
          simp only [eval_tmp, List.getElem?_toArray, List.getElem?_cons_succ, List.getElem?_cons_zero, Option.getD_some] at e8
          have ev8 := Lib.hid ((eval_tmp FA 8).trans e8)
          have ev35 : FA.eval (.tmp 35) = _ := hD 4 35 (by kernel_rfl)
          have e35 := (eval_tmp FA 35).symm.trans ev35
          replace ev35 := Lib.hid ev35
          first | have ge35 := slot_of e35 | have ge35 := slot_un e35
          clear hO hD
          first | (go_simp; exact hK.out _ _ (Ex.refl _) rfl) | (rcases ge35 with ge35 | ge35 <;> (go_simp; exact hK.out _ _ (Ex.refl _) rfl))
        apply Steps.one (MP.eq _) 9 rfl
        · intro o ho FA x hO hD K hK
          obtain rfl := Option.some.inj ho.symm
          clear ho
          have ev37 : FA.eval (.tmp 37) = _ := hD 6 37 (by kernel_rfl)
          have e37 := (eval_tmp FA 37).symm.trans ev37
          replace ev37 := Lib.hid ev37
          have ev38 : FA.eval (.tmp 38) = _ := hD 7 38 (by kernel_rfl)
          have e38 := (eval_tmp FA 38).symm.trans ev38
          replace ev38 := Lib.hid ev38
          have ev35 : FA.eval (.tmp 35) = _ := hD 4 35 (by kernel_rfl)
          have e35 := (eval_tmp FA 35).symm.trans ev35
          replace ev35 := Lib.hid ev35
          first | have ge35 := slot_of e35 | have ge35 := slot_un e35
          clear hO hD
          first | (go_simp; exact hK.out _ _ (Ex.refl _) rfl) | (rcases ge35 with ge35 | ge35 <;> (go_simp; exact hK.out _ _ (Ex.refl _) rfl))
        apply Steps.one (MP.eq _) 10 rfl
        · intro o ho FA x hO hD K hK
          obtain rfl := Option.some.inj ho.symm
          clear ho
          have ev35 : FA.eval (.tmp 35) = _ := hD 4 35 (by kernel_rfl)
          have e35 := (eval_tmp FA 35).symm.trans ev35
          replace ev35 := Lib.hid ev35
          have ev39 : FA.eval (.tmp 39) = _ := hD 8 39 (by kernel_rfl)
          have e39 := (eval_tmp FA 39).symm.trans ev39
          replace ev39 := Lib.hid ev39
          clear hO hD
          go_simp
          exact hK.out _ _ (Ex.refl _) rfl
        apply Steps.one (MP.eq _) 11 rfl
        · intro o ho FA x hO hD K hK
          obtain rfl := Option.some.inj ho.symm
          clear ho
          have ev40 : FA.eval (.tmp 40) = _ := hD 9 40 (by kernel_rfl)
          have e40 := (eval_tmp FA 40).symm.trans ev40
          replace ev40 := Lib.hid ev40
          clear hO hD
          go_simp
          exact hK.out _ _ (Ex.refl _) rfl
        apply Steps.one (MP.eq _) 12 rfl
        · intro o ho FA x hO hD K hK
          obtain rfl := Option.some.inj ho.symm
          clear ho
          have e8 := hO 8 (by kernel_rfl)
          simp only [eval_tmp, List.getElem?_toArray, List.getElem?_cons_succ, List.getElem?_cons_zero, Option.getD_some] at e8
          have ev8 := Lib.hid ((eval_tmp FA 8).trans e8)
          have ev41 : FA.eval (.tmp 41) = _ := hD 10 41 (by kernel_rfl)
          have e41 := (eval_tmp FA 41).symm.trans ev41
          replace ev41 := Lib.hid ev41
          first | have ge41 := slot_of e41 | have ge41 := slot_un e41
          clear hO hD
          first | (go_simp; exact hK.out _ _ (Ex.refl _) rfl) | (rcases ge41 with ge41 | ge41 <;> (go_simp; exact hK.out _ _ (Ex.refl _) rfl))
        apply Steps.one (MP.eq _) 13 rfl
        · intro o ho FA x hO hD K hK
          obtain rfl := Option.some.inj ho.symm
          clear ho
          have ev42 : FA.eval (.tmp 42) = _ := hD 11 42 (by kernel_rfl)
          have e42 := (eval_tmp FA 42).symm.trans ev42
          replace ev42 := Lib.hid ev42
          have ev41 : FA.eval (.tmp 41) = _ := hD 10 41 (by kernel_rfl)
          have e41 := (eval_tmp FA 41).symm.trans ev41
          replace ev41 := Lib.hid ev41
          first | have ge41 := slot_of e41 | have ge41 := slot_un e41
          clear hO hD
          first | (go_simp; exact hK.out _ _ (Ex.refl _) rfl) | (rcases ge41 with ge41 | ge41 <;> (go_simp; exact hK.out _ _ (Ex.refl _) rfl))
        apply Steps.one (MP.eq _) 14 rfl
        · intro o ho FA x hO hD K hK
          obtain rfl := Option.some.inj ho.symm
          clear ho
          have ev43 : FA.eval (.tmp 43) = _ := hD 12 43 (by kernel_rfl)
          have e43 := (eval_tmp FA 43).symm.trans ev43
          replace ev43 := Lib.hid ev43
          have ev41 : FA.eval (.tmp 41) = _ := hD 10 41 (by kernel_rfl)
          have e41 := (eval_tmp FA 41).symm.trans ev41
          replace ev41 := Lib.hid ev41
          first | have ge41 := slot_of e41 | have ge41 := slot_un e41
          clear hO hD
          first | (go_simp; exact hK.out _ _ (Ex.refl _) rfl) | (rcases ge41 with ge41 | ge41 <;> (go_simp; exact hK.out _ _ (Ex.refl _) rfl))
        apply Steps.one (MP.eq _) 15 rfl
        · intro o ho FA x hO hD K hK
          obtain rfl := Option.some.inj ho.symm
          clear ho
          have e6 := hO 6 (by kernel_rfl)
          simp only [eval_tmp, List.getElem?_toArray, List.getElem?_cons_succ, List.getElem?_cons_zero, Option.getD_some] at e6
          have ev6 := Lib.hid ((eval_tmp FA 6).trans e6)
          have ev44 : FA.eval (.tmp 44) = _ := hD 13 44 (by kernel_rfl)
          have e44 := (eval_tmp FA 44).symm.trans ev44
          replace ev44 := Lib.hid ev44
          first | have ge44 := slot_of e44 | have ge44 := slot_un e44
          clear hO hD
          first | (go_simp; exact hK.out _ _ (Ex.refl _) rfl) | (rcases ge44 with ge44 | ge44 <;> (go_simp; exact hK.out _ _ (Ex.refl _) rfl))
        apply Steps.one (MP.eq _) 16 rfl
        · intro o ho FA x hO hD K hK
          obtain rfl := Option.some.inj ho.symm
          clear ho
          have ev45 : FA.eval (.tmp 45) = _ := hD 14 45 (by kernel_rfl)
          have e45 := (eval_tmp FA 45).symm.trans ev45
          replace ev45 := Lib.hid ev45
          have ev44 : FA.eval (.tmp 44) = _ := hD 13 44 (by kernel_rfl)
          have e44 := (eval_tmp FA 44).symm.trans ev44
          replace ev44 := Lib.hid ev44
          first | have ge44 := slot_of e44 | have ge44 := slot_un e44
          clear hO hD
          first | (go_simp; exact hK.out _ _ (Ex.refl _) rfl) | (rcases ge44 with ge44 | ge44 <;> (go_simp; exact hK.out _ _ (Ex.refl _) rfl))
        apply Steps.one (MP.eq _) 17 rfl
        · intro o ho FA x hO hD K hK
          obtain rfl := Option.some.inj ho.symm
          clear ho
          have ev44 : FA.eval (.tmp 44) = _ := hD 13 44 (by kernel_rfl)
          have e44 := (eval_tmp FA 44).symm.trans ev44
          replace ev44 := Lib.hid ev44
          have ev46 : FA.eval (.tmp 46) = _ := hD 15 46 (by kernel_rfl)
          have e46 := (eval_tmp FA 46).symm.trans ev46
          replace ev46 := Lib.hid ev46
          have ev41 : FA.eval (.tmp 41) = _ := hD 10 41 (by kernel_rfl)
          have e41 := (eval_tmp FA 41).symm.trans ev41
          replace ev41 := Lib.hid ev41
          first | have ge41 := slot_of e41 | have ge41 := slot_un e41
          clear hO hD
          first | (go_simp; exact hK.out _ _ (Ex.refl _) rfl) | (rcases ge41 with ge41 | ge41 <;> (go_simp; exact hK.out _ _ (Ex.refl _) rfl))
        apply Steps.one (MP.eq _) 18 rfl
        · intro o ho FA x hO hD K hK
          obtain rfl := Option.some.inj ho.symm
          clear ho
          have ev41 : FA.eval (.tmp 41) = _ := hD 10 41 (by kernel_rfl)
          have e41 := (eval_tmp FA 41).symm.trans ev41
          replace ev41 := Lib.hid ev41
          have ev47 : FA.eval (.tmp 47) = _ := hD 16 47 (by kernel_rfl)
          have e47 := (eval_tmp FA 47).symm.trans ev47
          replace ev47 := Lib.hid ev47
          clear hO hD
          go_simp
          exact hK.out _ _ (Ex.refl _) rfl
        apply Steps.one (MP.eq _) 19 rfl
        · intro o ho FA x hO hD K hK
          obtain rfl := Option.some.inj ho.symm
          clear ho
          have ev48 : FA.eval (.tmp 48) = _ := hD 17 48 (by kernel_rfl)
          have e48 := (eval_tmp FA 48).symm.trans ev48
          replace ev48 := Lib.hid ev48
          clear hO hD
          go_simp
          exact hK.out _ _ (Ex.refl _) rfl
        apply Steps.one (MP.eq _) 20 rfl
        · intro o ho FA x hO hD K hK
          obtain rfl := Option.some.inj ho.symm
          clear ho
          have e2 := hO 2 (by kernel_rfl)
          simp only [eval_tmp, List.getElem?_toArray, List.getElem?_cons_succ, List.getElem?_cons_zero, Option.getD_some] at e2
          have ev2 := Lib.hid ((eval_tmp FA 2).trans e2)
          have ev49 : FA.eval (.tmp 49) = _ := hD 18 49 (by kernel_rfl)
          have e49 := (eval_tmp FA 49).symm.trans ev49
          replace ev49 := Lib.hid ev49
          first | have ge49 := slot_of e49 | have ge49 := slot_un e49
          clear hO hD
          first | (refine wanted_ifG ?_ ?_; (· go_simp); refine wp_ldA 77 (.tmp 2) rfl (msC k nu A n c) ev2.out (b0.later (below_plus _ _ _)) (whole_ _) vr1 vr2 (szRm27 _ _ _ _ _) ?_; exact hK.out _ _ (Ex.refl _) rfl) | (go_simp; exact hK.out _ _ (Ex.refl _) rfl) | (rcases ge49 with ge49 | ge49 <;> (go_simp; exact hK.out _ _ (Ex.refl _) rfl))
        apply Steps.one (MP.eq (.agg (msC k nu A n c).toArray)) 21 rfl
        · intro o ho FA x hO hD K hK
          obtain rfl := Option.some.inj ho.symm
          clear ho
          have ev50 : FA.eval (.tmp 50) = _ := hD 19 50 (by kernel_rfl)
          have e50 := (eval_tmp FA 50).symm.trans ev50
          replace ev50 := Lib.hid ev50
          have ev49 : FA.eval (.tmp 49) = _ := hD 18 49 (by kernel_rfl)
          have e49 := (eval_tmp FA 49).symm.trans ev49
          replace ev49 := Lib.hid ev49
          first | have ge49 := slot_of e49 | have ge49 := slot_un e49
          clear hO hD
          refine wanted_ifG (by go_simp) ?_
          go_simp
          refine (to27 k nu A n c _).mono ?_
          rintro e w1 ⟨bs9, d9, rfl, rfl⟩
          exact hK.out _ _ (Ex.plus_ _ _ _) rfl
        apply Steps.one (MP.eq (.bool rb)) 22 rfl
        · intro o ho FA x hO hD K hK
          obtain rfl := Option.some.inj ho.symm
          clear ho
          have ev51 : FA.eval (.tmp 51) = _ := hD 20 51 (by kernel_rfl)
          have e51 := (eval_tmp FA 51).symm.trans ev51
          replace ev51 := Lib.hid ev51
          have ev49 : FA.eval (.tmp 49) = _ := hD 18 49 (by kernel_rfl)
          have e49 := (eval_tmp FA 49).symm.trans ev49
          replace ev49 := Lib.hid ev49
          first | have ge49 := slot_of e49 | have ge49 := slot_un e49
          clear hO hD
          refine wanted_ifG (by go_simp) ?_
          go_simp
          refine (HR1.out _ (hr.later (below_plus _ _ _))).mono ?_
          rintro e w1 ⟨bs9, d9, rfl, rfl⟩
          exact hK.out _ _ (Ex.plus_ _ _ _) rfl
        apply Steps.one (MP.eq _) 23 rfl
        · intro o ho FA x hO hD K hK
          obtain rfl := Option.some.inj ho.symm
          clear ho
          have e2 := hO 2 (by kernel_rfl)
          simp only [eval_tmp, List.getElem?_toArray, List.getElem?_cons_succ, List.getElem?_cons_zero, Option.getD_some] at e2
          have ev2 := Lib.hid ((eval_tmp FA 2).trans e2)
          have ev49 : FA.eval (.tmp 49) = _ := hD 18 49 (by kernel_rfl)
          have e49 := (eval_tmp FA 49).symm.trans ev49
          replace ev49 := Lib.hid ev49
          first | have ge49 := slot_of e49 | have ge49 := slot_un e49
          clear hO hD
          first | (refine wanted_ifG ?_ ?_; (· go_simp); refine wp_ldA 77 (.tmp 2) rfl (msC k nu A n c) ev2.out (b0.later (below_plus _ _ _)) (whole_ _) vr1 vr2 (szRm27 _ _ _ _ _) ?_; exact hK.out _ _ (Ex.refl _) rfl) | (go_simp; exact hK.out _ _ (Ex.refl _) rfl) | (rcases ge49 with ge49 | ge49 <;> (go_simp; exact hK.out _ _ (Ex.refl _) rfl))
        apply Steps.one (MP.eq (.bool rb)) 24 rfl
        · intro o ho FA x hO hD K hK
          obtain rfl := Option.some.inj ho.symm
          clear ho
          have ev53 : FA.eval (.tmp 53) = _ := hD 22 53 (by kernel_rfl)
          have e53 := (eval_tmp FA 53).symm.trans ev53
          replace ev53 := Lib.hid ev53
          have ev49 : FA.eval (.tmp 49) = _ := hD 18 49 (by kernel_rfl)
          have e49 := (eval_tmp FA 49).symm.trans ev49
          replace ev49 := Lib.hid ev49
          first | have ge49 := slot_of e49 | have ge49 := slot_un e49
          clear hO hD
          refine wanted_ifG (by go_simp) ?_
          go_simp
          refine (HR2.out _ (hr.later (below_plus _ _ _))).mono ?_
          rintro e w1 ⟨bs9, d9, rfl, rfl⟩
          exact hK.out _ _ (Ex.plus_ _ _ _) rfl
        apply Steps.one (MP.eq _) 25 rfl
        · intro o ho FA x hO hD K hK
          obtain rfl := Option.some.inj ho.symm
          clear ho
          have ev52 : FA.eval (.tmp 52) = _ := hD 21 52 (by kernel_rfl)
          have e52 := (eval_tmp FA 52).symm.trans ev52
          replace ev52 := Lib.hid ev52
          have ev54 : FA.eval (.tmp 54) = _ := hD 23 54 (by kernel_rfl)
          have e54 := (eval_tmp FA 54).symm.trans ev54
          replace ev54 := Lib.hid ev54
          have ev49 : FA.eval (.tmp 49) = _ := hD 18 49 (by kernel_rfl)
          have e49 := (eval_tmp FA 49).symm.trans ev49
          replace ev49 := Lib.hid ev49
          first | have ge49 := slot_of e49 | have ge49 := slot_un e49
          clear hO hD
          first | (go_simp; exact hK.out _ _ (Ex.refl _) rfl) | (rcases ge49 with ge49 | ge49 <;> (go_simp; exact hK.out _ _ (Ex.refl _) rfl))
        apply Steps.one (MP.eq _) 26 rfl
        · intro o ho FA x hO hD K hK
          obtain rfl := Option.some.inj ho.symm
          clear ho
          have ev49 : FA.eval (.tmp 49) = _ := hD 18 49 (by kernel_rfl)
          have e49 := (eval_tmp FA 49).symm.trans ev49
          replace ev49 := Lib.hid ev49
          have ev55 : FA.eval (.tmp 55) = _ := hD 24 55 (by kernel_rfl)
          have e55 := (eval_tmp FA 55).symm.trans ev55
          replace ev55 := Lib.hid ev55
          clear hO hD
          go_simp
          exact hK.out _ _ (Ex.refl _) rfl
        refine Steps.fin_ (fun vs x hp => ?_)
        have p0 : vs 0 = _ := hp 0 (by omega)
        have p1 : vs 1 = _ := hp 1 (by omega)
        have p2 : vs 2 = _ := hp 2 (by omega)
        have p3 : vs 3 = _ := hp 3 (by omega)
        have p4 : vs 4 = _ := hp 4 (by omega)
        have p5 : vs 5 = _ := hp 5 (by omega)
        have p6 : vs 6 = _ := hp 6 (by omega)
        have p7 : vs 7 = _ := hp 7 (by omega)
        have p8 : vs 8 = _ := hp 8 (by omega)
        have p9 : vs 9 = _ := hp 9 (by omega)
        have p10 : vs 10 = _ := hp 10 (by omega)
        have p11 : vs 11 = _ := hp 11 (by omega)
        have p12 : vs 12 = _ := hp 12 (by omega)
        have p13 : vs 13 = _ := hp 13 (by omega)
        have p14 : vs 14 = _ := hp 14 (by omega)
        have p15 : vs 15 = _ := hp 15 (by omega)
        have p16 : vs 16 = _ := hp 16 (by omega)
        have p17 : vs 17 = _ := hp 17 (by omega)
        have p18 : vs 18 = _ := hp 18 (by omega)
        have p19 : vs 19 = _ := hp 19 (by omega)
        have p20 : vs 20 = _ := hp 20 (by omega)
        have p21 : vs 21 = _ := hp 21 (by omega)
        have p22 : vs 22 = _ := hp 22 (by omega)
        have p23 : vs 23 = _ := hp 23 (by omega)
        have p24 : vs 24 = _ := hp 24 (by omega)
        have p25 : vs 25 = _ := hp 25 (by omega)
        clear hp
        simp only [List.take_succ_cons, List.take_zero, List.drop_succ_cons, List.drop_zero, putAll, Nat.zero_add, Nat.reduceAdd, Act.put, List.setIfInBounds_toArray, List.set_cons_zero, List.set_cons_succ, p0, p1, p2, p3, p4, p5, p6, p7, p8, p9, p10, p11, p12, p13, p14, p15, p16, p17, p18, p19, p20, p21, p22, p23, p24, p25]
        clear p0 p1 p2 p3 p4 p5 p6 p7 p8 p9 p10 p11 p12 p13 p14 p15 p16 p17 p18 p19 p20 p21 p22 p23 p24 p25
        clear vs
        replace b0 := b0.later (below_plus V4 x.bs x.d)
        replace hr := hr.later (below_plus V4 x.bs x.d)
        replace be := belowP be x.bs x.d
        clear b5 b7 HIS HR1 hb
        generalize plus V4 x.bs x.d = V5 at *
        cases rb
        · go_upto_region 7 with (fail)
          refine wp_region_lit ?_
          refine wpList_ldA (t := 77) 77 (.tmp 2) rfl rfl (msC k nu A n c) rfl (b0) (whole_ _) vr1 vr2 (szRm27 _ _ _ _ _) ?_
          refine wpList_plain rfl (fun K hK => ?_)
          go_simp
          refine (to27 _ _ _ _ _ _).mono ?_
          rintro e W1 ⟨bs7, d7, rfl, rfl⟩
          with_reducible refine hK _ _ ?_
          clear hK K
          have b4 := below_plus V5 bs7 d7
          replace b0 := b0.later b4
          replace hr := hr.later b4
          replace be := belowP be bs7 d7
          clear b4
          generalize plus V5 bs7 d7 = V6 at *
          refine wpList_plain rfl (fun K hK => ?_)
          go_simp
          refine (folBytes_no k nu L A n c V6 hr (by omega) hRB.out).mono ?_
          rintro e W1 ⟨bs8, d8, rfl, rfl⟩
          with_reducible refine hK _ _ ?_
          clear hK K
          have b4 := below_plus V6 bs8 d8
          replace b0 := b0.later b4
          replace hr := hr.later b4
          replace be := belowP be bs8 d8
          clear b4
          generalize plus V6 bs8 d8 = V7 at *
          refine wpList_plain rfl (fun K hK => ?_); go_simp; with_reducible refine hK _ _ ?_; clear hK K
          go_upto_region 8 with (fail)
          refine wp_region_lit ?_
          refine wpList_ldA (t := 77) 77 (.tmp 2) rfl rfl (msC k nu A n c) rfl (b0) (whole_ _) vr1 vr2 (szRm27 _ _ _ _ _) ?_
          refine wpList_plain rfl (fun K hK => ?_)
          go_simp
          refine (HR2.out _ hr).mono ?_
          rintro e W1 ⟨bs9, d9, rfl, rfl⟩
          with_reducible refine hK _ _ ?_
          clear hK K
          have b4 := below_plus V7 bs9 d9
          replace b0 := b0.later b4
          replace hr := hr.later b4
          replace be := belowP be bs9 d9
          clear b4
          generalize plus V7 bs9 d9 = V8 at *
          refine wpList_plain rfl (fun K hK => ?_); go_simp; with_reducible refine hK _ _ ?_; clear hK K
          go_wp2_with (go_at_call 21; refine (awake27 _).mono ?_; rintro e w1 ⟨bs3, d3, rfl, rfl⟩)
          go_ret
          exact RetV.mk (belowP be bs3 d3)
        · obtain ⟨kn, rfl, hkn⟩ : ∃ kn : Nat, k = (kn : Int) ∧ kn < 256 := by
            obtain ⟨h3, -, -⟩ := rightM_facts hRB.out
            exact ⟨k.toNat, by omega, by omega⟩
          have HPM := Lib.hid (pmS_mgB kn nu L hkn hnu hRB.out)
          have hRl := mgB_len kn nu L hRB.out hl4
          have HRB := Lib.hid (fun W (h : RL W A n c L) => refBytesFol_yes kn nu L A n c W h (by omega) hnu hRB.out)
          have HFB := Lib.hid (fun W (h : RL W A n c L) => folBytes_yes kn nu L A n c W h (by omega) hnu hRB.out)
          generalize mgB kn nu L = R at *
          go_upto_region 7 with (fail)
          refine wp_region_lit ?_
          refine wpList_ldA (t := 77) 77 (.tmp 2) rfl rfl (msC (kn : Int) nu A n c) rfl (b0) (whole_ _) vr1 vr2 (szRm27 _ _ _ _ _) ?_
          refine wpList_plain rfl (fun K hK => ?_)
          go_simp
          refine (to27 _ _ _ _ _ _).mono ?_
          rintro e W1 ⟨bs7, d7, rfl, rfl⟩
          with_reducible refine hK _ _ ?_
          clear hK K
          have b4 := below_plus V5 bs7 d7
          replace b0 := b0.later b4
          replace hr := hr.later b4
          replace be := belowP be bs7 d7
          clear b4
          generalize plus V5 bs7 d7 = V6 at *
          refine wpList_plain rfl (fun K hK => ?_)
          go_simp
          refine (HFB.out V6 hr).mono ?_
          rintro e W1 ⟨A9, n9, c9, bs8, d8, rfl, rfl, h9⟩
          with_reducible refine hK _ _ ?_
          clear hK K
          have b4 := below_plus V6 bs8 d8
          replace b0 := b0.later b4
          replace hr := hr.later b4
          replace be := belowP be bs8 d8
          clear b4
          generalize plus V6 bs8 d8 = V7 at *
          refine wpList_plain rfl (fun K hK => ?_); go_simp; with_reducible refine hK _ _ ?_; clear hK K
          go_upto_region 8 with (fail)
          refine wp_region_lit ?_
          refine wpList_ldA (t := 77) 77 (.tmp 2) rfl rfl (msC (kn : Int) nu A n c) rfl (b0) (whole_ _) vr1 vr2 (szRm27 _ _ _ _ _) ?_
          refine wpList_plain rfl (fun K hK => ?_)
          go_simp
          refine (HR2.out _ hr).mono ?_
          rintro e W1 ⟨bs9, d9, rfl, rfl⟩
          with_reducible refine hK _ _ ?_
          clear hK K
          have b4 := below_plus V7 bs9 d9
          replace b0 := b0.later b4
          replace hr := hr.later b4
          replace h9 := h9.later b4
          replace be := belowP be bs9 d9
          clear b4
          generalize plus V7 bs9 d9 = V8 at *
          refine wpList_plain rfl (fun K hK => ?_); go_simp; with_reducible refine hK _ _ ?_; clear hK K
          have hn9 : n9 ≤ 1000000 := by have := h9.1; omega
          clear HR2 HFB hRl
          go_upto_region 10 with (fail)
          refine wp_region_lit ?_
          refine wpList_plain rfl (fun K hK => ?_); go_simp; with_reducible refine hK _ _ ?_; clear hK K
          refine wpList_plain rfl (fun K hK => ?_)
          go_simp
          refine ((parseFol_any _ A9 n9 c9 V8 h9 (by omega)).mono (fun _ _ h => h.out)).mono ?_
          rintro e W1 ⟨q3, qn3, A3, n3, c3, qk3, qL3, bs3, d3, rfl, rfl, hx3, hn3, hp3⟩
          with_reducible refine hK _ _ ?_
          clear hK K
          obtain ⟨rfl, rfl, rfl, rfl⟩ := pmK_is hp3 HPM.out
          simp only [cond_true] at *
          have b4 := below_plus V8 bs3 d3
          replace b0 := b0.later b4
          replace hr := hr.later b4
          replace h9 := h9.later b4
          replace be := belowP be bs3 d3
          clear b4
          generalize plus V8 bs3 d3 = V9 at *
          iterate 4 (refine wpList_plain rfl (fun K hK => ?_); go_simp; with_reducible refine hK _ _ ?_; clear hK K)
          refine wpList_stA (t := 79) 79 (.tmp 10) (.tmp 72) rfl rfl (msC (kn : Int) nu A3 n3 c3) (msC 0 0 none 0 0) rfl (msC_one _ _ _ _ _) rfl rfl (Bk.new _ _ _) (szFm _ _ _ _ _) ?_
          intro V10 h10 g10
          refine wpList_plain rfl (fun K hK => ?_); go_simp; with_reducible refine hK _ _ ?_; clear hK K
          obtain rfl : n = n3 := by have e1 := hx3.len; have e2 := hr.len; omega
          have b10 : Bk V10 V9.heap.size 79 (msC (kn : Int) nu A3 n c3) := h10
          have bx : Below V9.heap.size V9 V10 := below_grown (Below.allocS (Below.refl _ _) _) g10 (Nat.le_refl _)
          replace b0 := b0.later bx
          replace hr := hr.later bx
          replace h9 := h9.later bx
          replace hx3 := hx3.later bx
          replace be := be.trans (bx.mono be.size)
          clear bx h10 g10
          generalize V9.heap.size = gA at *
          have HIS2 := Lib.hid (fun W (h : Below V10.heap.size V10 W) => is27 (kn : Int) nu L A3 A n c3 c W (hx3.later h) (hr.later h) (by omega))
          go_upto_region 11 with (fail)
          refine wp_relS 19 92 rfl (by kernel_rfl) (by kernel_rfl) ?_
          apply Steps.one (MP.eq _) 1 rfl
          · intro o ho FA x hO hD K hK
            obtain rfl := Option.some.inj ho.symm
            clear ho
            have e9 := hO 9 (by kernel_rfl)
            simp only [eval_tmp, List.getElem?_toArray, List.getElem?_cons_succ, List.getElem?_cons_zero, Option.getD_some] at e9
            have ev9 := Lib.hid ((eval_tmp FA 9).trans e9)
            clear hO hD
            go_simp
            exact hK.out _ _ (Ex.refl _) rfl
          apply Steps.one (MP.eq _) 2 rfl
          · intro o ho FA x hO hD K hK
            obtain rfl := Option.some.inj ho.symm
            clear ho
            have ev74 : FA.eval (.tmp 74) = _ := hD 0 74 (by kernel_rfl)
            have e74 := (eval_tmp FA 74).symm.trans ev74
            replace ev74 := Lib.hid ev74
            clear hO hD
            have es := run_str bt Try.underlying9 (h9.plus_ x.bs x.d)
            go_simp
            exact hK.out _ _ (Ex.refl _) rfl
          apply Steps.one (MP.eq _) 3 rfl
          · intro o ho FA x hO hD K hK
            obtain rfl := Option.some.inj ho.symm
            clear ho
            have e2 := hO 2 (by kernel_rfl)
            simp only [eval_tmp, List.getElem?_toArray, List.getElem?_cons_succ, List.getElem?_cons_zero, Option.getD_some] at e2
            have ev2 := Lib.hid ((eval_tmp FA 2).trans e2)
            clear hO hD
            refine wanted_if rfl ?_
            refine wp_ldA 77 (.tmp 2) rfl (msC (kn : Int) nu A n c) ev2.out (b0.later (below_plus _ _ _)) (whole_ _) vr1 vr2 (szRm27 _ _ _ _ _) ?_
            exact hK.out _ _ (Ex.refl _) rfl
          apply Steps.one (MP.rb R) 4 rfl
          · intro o ho FA x hO hD K hK
            obtain rfl := Option.some.inj ho.symm
            clear ho
            have ev76 : FA.eval (.tmp 76) = _ := hD 2 76 (by kernel_rfl)
            have e76 := (eval_tmp FA 76).symm.trans ev76
            replace ev76 := Lib.hid ev76
            clear hO hD
            go_simp
            refine (HRB.out _ (hr.later (below_plus _ _ _))).mono ?_
            rintro e w1 ⟨A8, n8, c8, bs8, d8, rfl, rfl, h8⟩
            exact hK.out _ _ (Ex.plus_ _ _ _) ⟨_, _, _, rfl, h8⟩
          apply Steps.one (MP.eq _) 5 rfl
          · intro o ho FA x hO hD K hK
            obtain rfl := Option.some.inj ho.symm
            clear ho
            have f77 := hD 3 77 (by kernel_rfl)
            generalize eu77 : FA.eval (.tmp 77) = u77 at f77
            have e77 := (eval_tmp FA 77).symm.trans eu77
            have ev77 := Lib.hid eu77
            clear eu77
            clear hO hD
            obtain ⟨A1, n1, c1, rfl, hr1⟩ := f77
            have es := run_str bt Try.underlying9 hr1
            go_simp
            exact hK.out _ _ (Ex.refl _) rfl
          apply Steps.one (MP.eq _) 6 rfl
          · intro o ho FA x hO hD K hK
            obtain rfl := Option.some.inj ho.symm
            clear ho
            have ev75 : FA.eval (.tmp 75) = _ := hD 1 75 (by kernel_rfl)
            have e75 := (eval_tmp FA 75).symm.trans ev75
            replace ev75 := Lib.hid ev75
            have ev78 : FA.eval (.tmp 78) = _ := hD 4 78 (by kernel_rfl)
            have e78 := (eval_tmp FA 78).symm.trans ev78
            replace ev78 := Lib.hid ev78
            clear hO hD
            go_simp
            exact hK.out _ _ (Ex.refl _) rfl
          apply Steps.one (MP.eq _) 7 rfl
          · intro o ho FA x hO hD K hK
            obtain rfl := Option.some.inj ho.symm
            clear ho
            have ev79 : FA.eval (.tmp 79) = _ := hD 5 79 (by kernel_rfl)
            have e79 := (eval_tmp FA 79).symm.trans ev79
            replace ev79 := Lib.hid ev79
            clear hO hD
            go_simp
            exact hK.out _ _ (Ex.refl _) rfl
          apply Steps.one (MP.eq _) 8 rfl
          · intro o ho FA x hO hD K hK
            obtain rfl := Option.some.inj ho.symm
            clear ho
            have e10 := hO 10 (by kernel_rfl)
            simp only [eval_tmp, List.getElem?_toArray, List.getElem?_cons_succ, List.getElem?_cons_zero, Option.getD_some] at e10
            have ev10 := Lib.hid ((eval_tmp FA 10).trans e10)
            have ev80 : FA.eval (.tmp 80) = _ := hD 6 80 (by kernel_rfl)
            have e80 := (eval_tmp FA 80).symm.trans ev80
            replace ev80 := Lib.hid ev80
            first | have ge80 := slot_of e80 | have ge80 := slot_un e80
            clear hO hD
            first | (refine wanted_ifG ?_ ?_; (· go_simp); refine wp_ldA 79 (.tmp 10) rfl (msC (kn : Int) nu A3 n c3) ev10.out (b10.later (below_plus _ _ _)) (whole_ _) vm1 vm2 (szFm _ _ _ _ _) ?_; exact hK.out _ _ (Ex.refl _) rfl) | (go_simp; exact hK.out _ _ (Ex.refl _) rfl) | (rcases ge80 with ge80 | ge80 <;> (go_simp; exact hK.out _ _ (Ex.refl _) rfl))
          apply Steps.one (MP.eq _) 9 rfl
          · intro o ho FA x hO hD K hK
            obtain rfl := Option.some.inj ho.symm
            clear ho
            have e2 := hO 2 (by kernel_rfl)
            simp only [eval_tmp, List.getElem?_toArray, List.getElem?_cons_succ, List.getElem?_cons_zero, Option.getD_some] at e2
            have ev2 := Lib.hid ((eval_tmp FA 2).trans e2)
            have ev80 : FA.eval (.tmp 80) = _ := hD 6 80 (by kernel_rfl)
            have e80 := (eval_tmp FA 80).symm.trans ev80
            replace ev80 := Lib.hid ev80
            first | have ge80 := slot_of e80 | have ge80 := slot_un e80
            clear hO hD
            first | (refine wanted_ifG ?_ ?_; (· go_simp); refine wp_ldA 77 (.tmp 2) rfl (msC (kn : Int) nu A n c) ev2.out (b0.later (below_plus _ _ _)) (whole_ _) vr1 vr2 (szRm27 _ _ _ _ _) ?_; exact hK.out _ _ (Ex.refl _) rfl) | (go_simp; exact hK.out _ _ (Ex.refl _) rfl) | (rcases ge80 with ge80 | ge80 <;> (go_simp; exact hK.out _ _ (Ex.refl _) rfl))
          apply Steps.one (MP.eq (.bool true)) 10 rfl
          · intro o ho FA x hO hD K hK
            obtain rfl := Option.some.inj ho.symm
            clear ho
            have ev81 : FA.eval (.tmp 81) = _ := hD 7 81 (by kernel_rfl)
            have e81 := (eval_tmp FA 81).symm.trans ev81
            replace ev81 := Lib.hid ev81
            have ev82 : FA.eval (.tmp 82) = _ := hD 8 82 (by kernel_rfl)
            have e82 := (eval_tmp FA 82).symm.trans ev82
            replace ev82 := Lib.hid ev82
            have ev80 : FA.eval (.tmp 80) = _ := hD 6 80 (by kernel_rfl)
            have e80 := (eval_tmp FA 80).symm.trans ev80
            replace ev80 := Lib.hid ev80
            first | have ge80 := slot_of e80 | have ge80 := slot_un e80
            clear hO hD
            refine wanted_ifG (by go_simp) ?_
            go_simp
            refine (HIS2.out _ (below_plus _ _ _)).mono ?_
            rintro e w1 ⟨bs9, d9, rfl, rfl⟩
            exact hK.out _ _ (Ex.plus_ _ _ _) rfl
          apply Steps.one (MP.eq _) 11 rfl
          · intro o ho FA x hO hD K hK
            obtain rfl := Option.some.inj ho.symm
            clear ho
            have ev80 : FA.eval (.tmp 80) = _ := hD 6 80 (by kernel_rfl)
            have e80 := (eval_tmp FA 80).symm.trans ev80
            replace ev80 := Lib.hid ev80
            have ev83 : FA.eval (.tmp 83) = _ := hD 9 83 (by kernel_rfl)
            have e83 := (eval_tmp FA 83).symm.trans ev83
            replace ev83 := Lib.hid ev83
            clear hO hD
            go_simp
            exact hK.out _ _ (Ex.refl _) rfl
          apply Steps.one (MP.eq _) 12 rfl
          · intro o ho FA x hO hD K hK
            obtain rfl := Option.some.inj ho.symm
            clear ho
            have ev84 : FA.eval (.tmp 84) = _ := hD 10 84 (by kernel_rfl)
            have e84 := (eval_tmp FA 84).symm.trans ev84
            replace ev84 := Lib.hid ev84
            clear hO hD
            go_simp
            exact hK.out _ _ (Ex.refl _) rfl
          apply Steps.one (MP.eq _) 13 rfl
          · intro o ho FA x hO hD K hK
            obtain rfl := Option.some.inj ho.symm
            clear ho
            have e11 := hO 11 (by kernel_rfl)
            simp only [eval_tmp, List.getElem?_toArray, List.getElem?_cons_succ, List.getElem?_cons_zero, Option.getD_some] at e11
            have ev11 := Lib.hid ((eval_tmp FA 11).trans e11)
            have ev85 : FA.eval (.tmp 85) = _ := hD 11 85 (by kernel_rfl)
            have e85 := (eval_tmp FA 85).symm.trans ev85
            replace ev85 := Lib.hid ev85
            first | have ge85 := slot_of e85 | have ge85 := slot_un e85
            clear hO hD
            first | (go_simp; exact hK.out _ _ (Ex.refl _) rfl) | (rcases ge85 with ge85 | ge85 <;> (go_simp; exact hK.out _ _ (Ex.refl _) rfl))
          apply Steps.one (MP.eq _) 14 rfl
          · intro o ho FA x hO hD K hK
            obtain rfl := Option.some.inj ho.symm
            clear ho
            have ev86 : FA.eval (.tmp 86) = _ := hD 12 86 (by kernel_rfl)
            have e86 := (eval_tmp FA 86).symm.trans ev86
            replace ev86 := Lib.hid ev86
            have ev85 : FA.eval (.tmp 85) = _ := hD 11 85 (by kernel_rfl)
            have e85 := (eval_tmp FA 85).symm.trans ev85
            replace ev85 := Lib.hid ev85
            first | have ge85 := slot_of e85 | have ge85 := slot_un e85
            clear hO hD
            first | (go_simp; exact hK.out _ _ (Ex.refl _) rfl) | (rcases ge85 with ge85 | ge85 <;> (go_simp; exact hK.out _ _ (Ex.refl _) rfl))
          apply Steps.one (MP.eq _) 15 rfl
          · intro o ho FA x hO hD K hK
            obtain rfl := Option.some.inj ho.symm
            clear ho
            have ev85 : FA.eval (.tmp 85) = _ := hD 11 85 (by kernel_rfl)
            have e85 := (eval_tmp FA 85).symm.trans ev85
            replace ev85 := Lib.hid ev85
            have ev87 : FA.eval (.tmp 87) = _ := hD 13 87 (by kernel_rfl)
            have e87 := (eval_tmp FA 87).symm.trans ev87
            replace ev87 := Lib.hid ev87
            clear hO hD
            go_simp
            exact hK.out _ _ (Ex.refl _) rfl
          apply Steps.one (MP.eq _) 16 rfl
          · intro o ho FA x hO hD K hK
            obtain rfl := Option.some.inj ho.symm
            clear ho
            have ev88 : FA.eval (.tmp 88) = _ := hD 14 88 (by kernel_rfl)
            have e88 := (eval_tmp FA 88).symm.trans ev88
            replace ev88 := Lib.hid ev88
            clear hO hD
            go_simp
            exact hK.out _ _ (Ex.refl _) rfl
          apply Steps.one (MP.eq (.bool true)) 17 rfl
          · intro o ho FA x hO hD K hK
            obtain rfl := Option.some.inj ho.symm
            clear ho
            have ev89 : FA.eval (.tmp 89) = _ := hD 15 89 (by kernel_rfl)
            have e89 := (eval_tmp FA 89).symm.trans ev89
            replace ev89 := Lib.hid ev89
            first | have ge89 := slot_of e89 | have ge89 := slot_un e89
            clear hO hD
            refine wanted_ifG (by go_simp) ?_
            go_simp
            refine (awake27 _).mono ?_
            rintro e w1 ⟨bs9, d9, rfl, rfl⟩
            exact hK.out _ _ (Ex.plus_ _ _ _) rfl
          apply Steps.one (MP.eq _) 18 rfl
          · intro o ho FA x hO hD K hK
            obtain rfl := Option.some.inj ho.symm
            clear ho
            have ev89 : FA.eval (.tmp 89) = _ := hD 15 89 (by kernel_rfl)
            have e89 := (eval_tmp FA 89).symm.trans ev89
            replace ev89 := Lib.hid ev89
            have ev90 : FA.eval (.tmp 90) = _ := hD 16 90 (by kernel_rfl)
            have e90 := (eval_tmp FA 90).symm.trans ev90
            replace ev90 := Lib.hid ev90
            clear hO hD
            go_simp
            exact hK.out _ _ (Ex.refl _) rfl
          apply Steps.one (MP.eq _) 19 rfl
          · intro o ho FA x hO hD K hK
            obtain rfl := Option.some.inj ho.symm
            clear ho
            have ev91 : FA.eval (.tmp 91) = _ := hD 17 91 (by kernel_rfl)
            have e91 := (eval_tmp FA 91).symm.trans ev91
            replace ev91 := Lib.hid ev91
            clear hO hD
            go_simp
            exact hK.out _ _ (Ex.refl _) rfl
          refine Steps.fin_ (fun vs x hp => ?_)
          have p0 : vs 0 = _ := hp 0 (by omega)
          have p1 : vs 1 = _ := hp 1 (by omega)
          have p2 : vs 2 = _ := hp 2 (by omega)
          have p3 := hp 3 (by omega)
          have p4 : vs 4 = _ := hp 4 (by omega)
          have p5 : vs 5 = _ := hp 5 (by omega)
          have p6 : vs 6 = _ := hp 6 (by omega)
          have p7 : vs 7 = _ := hp 7 (by omega)
          have p8 : vs 8 = _ := hp 8 (by omega)
          have p9 : vs 9 = _ := hp 9 (by omega)
          have p10 : vs 10 = _ := hp 10 (by omega)
          have p11 : vs 11 = _ := hp 11 (by omega)
          have p12 : vs 12 = _ := hp 12 (by omega)
          have p13 : vs 13 = _ := hp 13 (by omega)
          have p14 : vs 14 = _ := hp 14 (by omega)
          have p15 : vs 15 = _ := hp 15 (by omega)
          have p16 : vs 16 = _ := hp 16 (by omega)
          have p17 : vs 17 = _ := hp 17 (by omega)
          have p18 : vs 18 = _ := hp 18 (by omega)
          clear hp
          simp only [List.take_succ_cons, List.take_zero, List.drop_succ_cons, List.drop_zero, putAll, Nat.zero_add, Nat.reduceAdd, Act.put, List.setIfInBounds_toArray, List.set_cons_zero, List.set_cons_succ, p0, p1, p2, p4, p5, p6, p7, p8, p9, p10, p11, p12, p13, p14, p15, p16, p17, p18]
          clear p0 p1 p2 p4 p5 p6 p7 p8 p9 p10 p11 p12 p13 p14 p15 p16 p17 p18
          generalize vs 3 = y3 at *
          clear vs
          go_wp2
          go_ret
          exact RetV.mk (belowP be _ _)
end Go.Proofs.Ytepodflinhpejaa

/- Addresses that came in; lists of a known length. -/
namespace Go.Proofs.Ytepodflinhpejaa
open Go.RowKit Go.ChangeShapes Go.WideShapes
set_option linter.unusedVariables false

theorem listN3 {α : Type} {l : List α} (h : l.length = 3) : ∃ a0 a1 a2, l = [a0, a1, a2] := by
  match l, h with
  | [a0, a1, a2], _ => exact ⟨a0, a1, a2, rfl⟩
end Go.Proofs.Ytepodflinhpejaa

/- Messages that came in; FollowBytes' row (chapter 27). -/
namespace Go.Proofs.Ytepodflinhpejaa
open Go.RowKit Go.ChangeShapes Go.WideShapes Go.Deep
set_option linter.unusedVariables false
set_option linter.unusedSimpArgs false

theorem open_rows_cell {X : Type} [Inhabited X] (encX : X → List Value) (ok : X → Prop) (c : Nat) (hlen : ∀ x, (encX x).length = c) (hpos : 0 < c) {H : Type} {enc : TypeId × Value → H} {P : Program} {W : World} {mm : Nat} {t e : TypeId} {v : Value} {y0 : DataW H × List MemPlace}
    (ht : P.underlying t = some (.slice e)) (ce : P.cellsOf e = c) (each : ∀ m cs y, DataW.trod enc P W 0 (fun _ => true) true m e cs = some y → ∃ x, cs = encX x ∧ ok x)
    (hf : DataW.trod enc P W 0 (fun _ => true) true mm t [v] = some y0) :
    ∃ A k, ∃ L : List X, v = .slice A L.length k ∧ L.length ≤ k ∧ k ≤ maxLen ∧ Rd W W.heap.size A (L.flatMap encX) ∧ ∀ x ∈ L, ok x := by
  rcases open_slice ht hf with ⟨hcs, _⟩ | ⟨a, l', c', m, n, D, Pl, hcs, _, hl, hm, hmm, _, hx⟩
  · simp at hcs
    exact ⟨none, 0, [], by simpa using hcs, by simp, by simp, .inl rfl, fun q hq => by simp at hq⟩
  · simp at hcs
    have hlm : l' ≤ m := by rw [hmm]; split <;> omega
    have each2 : ∀ i, i < l' → ∃ q : X, ok q ∧ ∀ j, j < c → W.cell? ((a.add (i * c)).add j) = (encX q)[j]? := by
      intro i hi
      obtain ⟨cs', h1, h2⟩ := hx i (by omega)
      rw [ce] at h1
      obtain ⟨_, hlen', hcell⟩ := World.cells?_some h1
      obtain ⟨q, rfl, hq⟩ := each _ _ _ h2
      exact ⟨q, hq, hcell⟩
    obtain ⟨F, hF⟩ := choose_lt each2
    have hFl : ∀ (n i : Nat) (u : Value), (((List.range n).map F).flatMap encX)[i]? = some u → i / c < n ∧ (encX (F (i / c)))[i % c]? = some u := by
      intro n
      induction n with
      | zero => intro i u hu; simp at hu
      | succ n ih =>
        intro i u hu
        rw [List.range_succ, List.map_append, List.flatMap_append] at hu
        have hln : (((List.range n).map F).flatMap encX).length = n * c := by
          clear hu ih
          induction n with
          | zero => simp
          | succ n ih => rw [List.range_succ, List.map_append, List.flatMap_append, List.length_append, ih]; simp [hlen, Nat.add_mul]
        by_cases hi : i < n * c
        · rw [List.getElem?_append_left (by rw [hln]; exact hi)] at hu
          have := ih i u hu
          exact ⟨by omega, this.2⟩
        · rw [List.getElem?_append_right (by rw [hln]; omega), hln] at hu
          simp only [List.map_cons, List.map_nil, List.flatMap_cons, List.flatMap_nil, List.append_nil] at hu
          have h3 := (List.getElem?_eq_some_iff.1 hu).1
          rw [hlen] at h3
          obtain ⟨r, rfl⟩ : ∃ r, i = n * c + r := ⟨i - n * c, by omega⟩
          have e0 : n * c + r - n * c = r := by omega
          rw [e0] at hu h3
          have e1 : (n * c + r) / c = n := by
            rw [Nat.add_comm, Nat.add_mul_div_right _ _ hpos, Nat.div_eq_of_lt h3]; omega
          have e2 : (n * c + r) % c = r := by rw [Nat.add_comm, Nat.add_mul_mod_self_right, Nat.mod_eq_of_lt h3]
          rw [e1, e2]
          exact ⟨by omega, hu⟩
    refine ⟨some a, c', (List.range l').map F, by simpa using hcs, by simpa using hl, hm, ?_, ?_⟩
    · rcases Nat.eq_zero_or_pos l' with h0 | h0
      · exact .inl (by simp [h0])
      · have hc0 := (hF 0 h0).2 0 hpos
        obtain ⟨b, off, spot⟩ := a
        have h1 : 0 < (encX (F 0)).length := by rw [hlen]; exact hpos
        rw [List.getElem?_eq_getElem h1] at hc0
        have hspot : spot = none := by simpa [Addr.add] using World.cell?_spot hc0
        subst hspot
        refine .inr ⟨b, off, rfl, by have := lt_of_cell hc0; simpa [Addr.add] using this, fun i u hu => ?_⟩
        obtain ⟨hi, h⟩ := hFl l' i u hu
        have hF' := (hF (i / c) hi).2 (i % c) (Nat.mod_lt _ hpos)
        rw [add_plain, add_plain, h] at hF'
        rw [← hF']
        congr 2
        have := Nat.div_add_mod i c
        rw [Nat.mul_comm] at this
        omega
    · intro q hq
      obtain ⟨i, hi, rfl⟩ := List.mem_map.1 hq
      exact (hF i (List.mem_range.1 hi)).1
structure MgX where
  k : Int
  nu : Nat
  L : List (List UInt8)
  A : Option Addr
  n : Nat
  c : Nat
def MgX.cs (x : MgX) : List Value := msC x.k x.nu x.A x.n x.c
def MgX.ok (W : World) (x : MgX) : Prop := x.nu < 18446744073709551616 ∧ RL W x.A x.n x.c x.L ∧ x.n ≤ maxLen ∧ ∀ l ∈ x.L, l.length ≤ maxLen
set_option maxRecDepth 100000 in
theorem open_parts {H : Type} {enc : TypeId × Value → H} {W : World} {mm : Nat} {v : Value} {y : DataW H × List MemPlace} (hf : DataW.trod enc Try.prog W 0 (fun _ => true) true mm 75 [v] = some y) : ∃ A n c L, v = .slice A n c ∧ RL W A n c L ∧ n ≤ maxLen ∧ ∀ l ∈ L, l.length ≤ maxLen := by
  obtain ⟨A, c, X, hv, hl, hc, hr, hok⟩ := open_rows_cell (X := Sl × List UInt8) (fun x => slV x.1) (fun x => Rb W x.1.1 x.1.2.1 x.1.2.2 x.2 ∧ x.2.length ≤ maxLen) 1 (fun _ => rfl) (by decide) Try.underlying75 (by kernel_rfl) (fun m cs y hy => by
    obtain ⟨u, rfl⟩ : ∃ u, cs = [u] := by
      rcases open_ints Try.underlying29 Try.underlying5 (by kernel_rfl) hy with ⟨hcs, _⟩ | ⟨x, l', c', zs, hcs, _⟩
      · exact ⟨_, hcs⟩
      · exact ⟨_, hcs⟩
    obtain ⟨A, n, c, l, rfl, hc, hr⟩ := open_bytes_cell Try.underlying29 Try.underlying5 (by kernel_rfl) hy
    exact ⟨((A, n, c), l), rfl, hr, by have h1 := hr.1; have h2 := hr.2.1; show l.length ≤ maxLen; omega⟩) hf
  refine ⟨A, X.length, c, X.map Prod.snd, hv, ⟨X.map Prod.fst, ⟨by simp, fun i h1 h2 => ?_⟩, ⟨?_, hl, ?_⟩⟩, by omega, fun l hl' => ?_⟩
  · have hi : i < X.length := by simpa using h2
    have := (hok X[i] (List.getElem_mem hi)).1
    simpa using this
  · rw [flat_len slV 1 slV_len, List.length_map]
  · rw [List.flatMap_map]
    exact hr
  · obtain ⟨x, hx, rfl⟩ := List.mem_map.1 hl'
    exact (hok x hx).2
set_option maxRecDepth 100000 in
theorem open_mgx {H : Type} {enc : TypeId × Value → H} {W : World} {m : Nat} {cs : List Value} {y : DataW H × List MemPlace}
    (hf : DataW.trod enc Try.prog W 0 (fun _ => true) true m 77 cs = some y) : ∃ x : MgX, cs = x.cs ∧ x.ok W := by
  obtain ⟨xs, nn, _, _, hl, hlen, hg⟩ := DataW.trod_struct Try.underlying77 hf
  have hCint : Try.prog.cellsOf 3 = 1 := by kernel_rfl
  have hCu : Try.prog.cellsOf 22 = 1 := by kernel_rfl
  have hCsl : Try.prog.cellsOf 75 = 1 := by kernel_rfl
  have hCR : Try.prog.cellsOf 77 = 3 := by kernel_rfl
  rw [hCR] at hl
  obtain ⟨c0, c1, c2, rfl⟩ := listN3 hl
  have hx : xs.length = 3 := by rw [hlen]; rfl
  obtain ⟨x0, x1, x2, rfl⟩ := listN3 hx
  have h0 := hg 0 _ rfl
  have h1 := hg 1 _ rfl
  have h2 := hg 2 _ rfl
  simp only [List.getElem_toArray, List.getElem_cons_zero, List.getElem_cons_succ, hCint, hCu, hCsl, List.drop_zero, List.drop_succ_cons, List.take_succ_cons, List.take_zero, List.getElem?_cons_zero, List.getElem?_cons_succ] at h0 h1 h2
  obtain ⟨k, e0, -, w0⟩ := DataW.trod_int Try.underlying3 h0
  obtain ⟨n, e1, -, w1⟩ := DataW.trod_int Try.underlying22 h1
  have b1 := bounds_u64 w1
  obtain ⟨A, l, c, L, rfl, hr, hc, hp⟩ := open_parts h2
  simp only [List.cons.injEq, and_true] at e0 e1
  subst e0 e1
  refine ⟨⟨k, n.toNat, L, A, l, c⟩, ?_, by show n.toNat < _; omega, hr, hc, hp⟩
  simp only [MgX.cs, msC]
  rw [Int.toNat_of_nonneg (show 0 ≤ n by omega)]
set_option maxRecDepth 100000 in
theorem open_mg {H : Type} {enc : TypeId × Value → H} {W : World} {base : Nat} {v : Value} {dt : DataW H} {p : List MemPlace} (hv : Value.okWide Try.prog W .any base 77 v) (h : DataW.Trod enc Try.prog W 0 (fun _ => true) true 77 v dt p) : ∃ x : MgX, v = .agg x.cs.toArray ∧ x.ok W := by
  obtain ⟨arr, rfl, hsz⟩ := okWide_struct Try.underlying77 hv
  obtain ⟨fuel, hf⟩ := h
  obtain ⟨x, hx, ho⟩ := open_mgx hf
  refine ⟨x, ?_, ho⟩
  congr 1
  apply Array.toList_inj.1
  simpa [Value.cells] using hx
theorem followBytes_row (w : World) (x : MgX) (hx : x.ok w) (B : Option Addr) (cb : Nat) (b : List UInt8) (hl : b.length ≤ cb) (hc : cb ≤ maxLen) (hr : Rd w w.heap.size B (bcs b)) : Calls Try.prog 5 #[.agg x.cs.toArray, .slice B b.length cb] w fun e w' => e = .returned (.bool true) ∧ Below w.heap.size w w' := by
  obtain ⟨h1, h2, h3, h4⟩ := hx
  simp only [maxLen] at hc h3 h4
  refine (followBytes_walk x.k x.nu x.L x.A x.n x.c B b.length cb b w h1 h2 (by omega) (fun l hl => by have := h4 l hl; omega) ⟨rfl, hl, hr⟩ (by omega)).mono ?_
  rintro e w' ⟨bs, d, rfl, rfl⟩
  exact ⟨rfl, below_plus _ _ _⟩
end Go.Proofs.Ytepodflinhpejaa

