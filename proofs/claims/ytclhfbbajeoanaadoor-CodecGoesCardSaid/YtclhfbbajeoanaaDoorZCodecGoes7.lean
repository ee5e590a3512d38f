/- Texts of the law CodecGoes, part 7. -/
import Derived.Test.YtclhfbbajeoanaaDoorZCodecGoes6
/- CodecGoes (chapter 23): its walk. -/
namespace Go.Proofs.YtclhfbbajeoanaaDoor
open Go.Lib
open Go.RowKit
set_option linter.unusedVariables false
set_option linter.unusedSimpArgs false
attribute [local go_sem ↓] sliced_cut

attribute [local go_sem] cutA_zero

def foot (g : Nat) (A : Option Addr) (n c : Nat) (E : List Ve) : Nat → Prop := fun b => b = g ∨ (Value.slice A n c).ownBlock = some b ∨ ∃ x ∈ E, x.2.T = b
section
variable {G D : Nat → Prop} {w : World} {g : Nat} {C : Cf} {A : Option Addr} {n c : Nat} {E : List Ve}
theorem CfX.footD (h : CfX G D w g C A n c E) : ∀ b, foot g A n c E b → D b := by
  rintro b (rfl | hb | ⟨x, hx, rfl⟩)
  · exact h.dg
  · exact h.dr b hb
  · exact h.dt x hx
/-- the blocks that a state is made of, and no more -/
theorem CfX.shrink (h : CfX G D w g C A n c E) {G' : Nat → Prop} (h1 : ∀ b, G' b → G b) (h2 : ∀ b, foot g A n c E b → G' b) : CfX G' (foot g A n c E) w g C A n c E :=
  ⟨h.vs, h.st, h.row, fun k hk => .inr (.inl hk), .inl rfl, h.tb, fun x hx => .inr (.inr ⟨x, hx, rfl⟩), h.mm, fun x hx a ha => ⟨(h.mo x hx a ha).1, fun hg => (h.mo x hx a ha).2 (h1 _ hg)⟩, h.nd, h2, fun b hb => h.lt b (h1 b hb)⟩
def TY (w : World) (F : Nat → Prop) : Prop := ∀ b, F b → ∃ t cs, Bk w b t cs ∧ t ≠ 73
theorem CfX.ty (h : CfX G D w g C A n c E) : TY w (foot g A n c E) := by
  rintro b (rfl | hb | ⟨x, hx, rfl⟩)
  · exact ⟨_, _, h.st, by decide⟩
  · rcases h.row.2 with ⟨hv, h0⟩ | ⟨b', cap, cur, hv, _, hr, _⟩
    · rw [hv] at hb; cases hb
    · rw [hv] at hb
      injection hb with hb
      subst hb
      exact ⟨_, _, hr, by decide⟩
  · exact ⟨_, _, h.tb x hx, by decide⟩
theorem TY.later {w w' : World} {F : Nat → Prop} (h : TY w F) (hb : Below w.heap.size w w') : TY w' F := fun b hF => by
  obtain ⟨t, cs, h1, h2⟩ := h b hF
  exact ⟨t, cs, h1.later hb, h2⟩
theorem Off.ty {w : World} {base : Nat} {B : Option Addr} {n d : Nat} {cs : List Value} {D F : Nat → Prop} (h : Os 73 2 w base B n d cs) (hD : ∀ b, D b → b < base) (hF : TY w F) : Off (fun b => D b ∨ F b) w B := by
  intro a ha
  have h1 := Off.own h hD a ha
  refine ⟨h1.1, fun hb => hb.elim h1.2 (fun hf => ?_)⟩
  obtain ⟨t, cs2, h2, h3⟩ := hF _ hf
  rcases h.2 with ⟨hv, h0⟩ | ⟨b', cap, cur, hv, _, hr, _⟩
  · injection hv with hv; rw [hv] at ha; cases ha
  · injection hv with hv
    rw [hv] at ha
    injection ha with ha
    subst ha
    exact h2.apart hr h3 rfl
end
def ST (B0 : Nat) (G D Dx : Nat → Prop) (g gx : Nat) (C C' : Cf) (k : Nat) (w : World) : Prop := match k with
  | 0 => CfM G D w g C ∧ CfM G Dx w gx C
  | 1 => ∃ F, CfM (fun b => D b ∨ F b) F w gx C' ∧ CfM (fun b => D b ∨ F b) D w g C ∧ TY w F ∧ (∀ b, F b → ¬ D b) ∧ (∀ b, F b → B0 ≤ b) ∧ (∀ b, D b → B0 ≤ b)
  | _ => TwoS B0 w g gx C' C'
theorem CfM.ltr {G D : Nat → Prop} {w w' : World} {g : Nat} {C : Cf} (h : CfM G D w g C) (hb : Below w.heap.size w w') : CfM G D w' g C := by
  obtain ⟨A, n, c, E, hX⟩ := h
  exact ⟨A, n, c, E, hX.later hb⟩
theorem ST.ex {B0 : Nat} {G D Dx : Nat → Prop} {g gx : Nat} {C C' : Cf} : ∀ k w w', ST B0 G D Dx g gx C C' k w → Ex w w' → ST B0 G D Dx g gx C C' k w'
  | 0, w, w', h, hx => ⟨h.1.ltr hx.below, h.2.ltr hx.below⟩
  | 1, w, w', h, hx => by
    obtain ⟨F, h1, h2, h3, h4⟩ := h
    exact ⟨F, h1.ltr hx.below, h2.ltr hx.below, h3.later hx.below, h4⟩
  | _ + 2, w, w', h, hx => TwoS.later h hx.below
/-- an operation as the call leaves it -/
def toC (x : OpX) (B : Option Addr) (d : Nat) : List Value := opC x.k x.v x.b x.e x.six x.ah x.al x.pt x.pr x.wy B x.n d
def MC.to {D : Nat → Prop} (x : OpX) (base : Nat) (hd : ∀ b, D b → b < base) : MC D := ⟨fun v w => ∃ B d, v = .agg (toC x B d).toArray ∧ Os 73 2 w base B x.n d (prs .i64 x.ms), fun _ _ _ ⟨B, d, h1, h2⟩ h => ⟨B, d, h1, h2.chg h (fun k hk hD => by have := (h2.blk k hk).1; have := hd k hD; omega)⟩⟩
theorem applyX {B0 K : Nat} {G D Dx : Nat → Prop} {g gx : Nat} {C : Cf} (hC : CfOk C) (x : OpX) (ho : OpOk x.o) (hm : x.n ≤ 1000000) (hG : ∀ b, G b → B0 ≤ b ∧ b < K) (hd : ∀ b, D b → ¬ Dx b) (h0 : B0 ≤ K) (hDG : ∀ b, D b → G b) (hDx : ∀ b, Dx b → G b) (w : World) (hs : K ≤ w.heap.size) (h : ST B0 G D Dx g gx C (apC C x.o) 0 w) (B : Option Addr) (d : Nat) (hr : Os 73 2 w K B x.n d (prs .i64 x.ms)) :
    Calls Tryd.prog 8 #[.pointer (some ⟨gx, 0, none⟩), .agg (toC x B d).toArray] w fun e w' => e = .returned (.int .i64 (chE C x.o : Nat)) ∧ ST B0 G D Dx g gx C (apC C x.o) 1 w' ∧ Chg (fun b => D b ∨ Dx b) w w' := by
  obtain ⟨⟨A, n, c, E, hX⟩, ⟨A', n', c', E', hY⟩⟩ := h
  refine (apply_any x.k x.v x.b x.e x.six x.ah x.al x.pt x.pr x.wy x.ms B x.n d C hC gx A' n' c' E' w hY ho hr.rs (Off.own hr (fun b hg => (hG b hg).2)) hm).mono ?_
  rintro e w' ⟨rfl, G2, D2, ⟨A2, n2, c2, E2, hY2⟩, hgr, hc⟩
  have hX2 := hX.chg hc (fun b hb => hY.sub b hb) (fun b hb hD => hd b hD hb)
  have hfn : ∀ b, foot gx A2 n2 c2 E2 b → Dx b ∨ w.heap.size ≤ b := fun b hb => hgr.dn b (hY2.footD b hb)
  refine ⟨rfl, ⟨foot gx A2 n2 c2 E2, ⟨A2, n2, c2, E2, hY2.shrink (fun b hb => hb.elim (fun h => hgr.gg b (hDG b h)) (fun h => hY2.sub b (hY2.footD b h))) (fun b hb => .inr hb)⟩, ⟨A, n, c, E, ?_⟩, hY2.ty, ?_, ?_, fun b hb => (hG b (hDG b hb)).1⟩, hc.widen_ (fun b hb => .inr hb)⟩
  · have h1 : CfX (fun b => G b ∨ foot gx A2 n2 c2 E2 b) D w' g C A n c E := hX2.more (fun b hb => .inl hb) (fun b hb => hb.elim (fun h => Nat.lt_of_lt_of_le (hX.lt b h) hc.size) (fun h => hY2.lt b (hY2.sub b (hY2.footD b h)))) (fun y hy => ((hX.mo y hy).more (fun b hb => hb.elim .inl (fun h => (hfn b h).elim (fun h => .inl (hDx b h)) .inr))).size hc.size)
    exact h1.less (fun b hb => hb.elim (fun h => .inl (hDG b h)) .inr) (fun b hb => .inl hb)
  · intro b hb hD
    rcases hfn b hb with h | h
    · exact hd b hD h
    · have := (hG b (hDG b hD)).2; omega
  · intro b hb
    rcases hfn b hb with h | h
    · exact (hG b (hDx b h)).1
    · omega
theorem applyS {B0 K : Nat} {G D Dx : Nat → Prop} {g gx : Nat} {C : Cf} (hC : CfOk C) (x : OpX) (ho : OpOk x.o) (hm : x.n ≤ 1000000) (hD : ∀ b, D b → b < K) (h0 : B0 ≤ K) (w : World) (hs : K ≤ w.heap.size) (h : ST B0 G D Dx g gx C (apC C x.o) 1 w) (B : Option Addr) (d : Nat) (hr : Os 73 2 w K B x.n d (prs .i64 x.ms)) :
    Calls Tryd.prog 8 #[.pointer (some ⟨g, 0, none⟩), .agg (toC x B d).toArray] w fun e w' => e = .returned (.int .i64 (chE C x.o : Nat)) ∧ ST B0 G D Dx g gx C (apC C x.o) 2 w' ∧ Chg (fun b => D b ∨ Dx b) w w' := by
  obtain ⟨F, ⟨A', n', c', E', hY⟩, ⟨A, n, c, E, hX⟩, hty, hFD, hF0, hD0⟩ := h
  refine (apply_any x.k x.v x.b x.e x.six x.ah x.al x.pt x.pr x.wy x.ms B x.n d C hC g A n c E w hX ho hr.rs (Off.ty hr hD hty) hm).mono ?_
  rintro e w' ⟨rfl, G2, D2, hM, hgr, hc⟩
  have hY2 := hY.chg hc (fun b hb => .inl hb) (fun b hb hF => hFD b hF hb)
  have hlt : ∀ b, G2 b → b < w'.heap.size := by
    obtain ⟨_, _, _, _, hZ⟩ := hM
    exact hZ.lt
  refine ⟨rfl, ⟨G2, D2, F, hM, ⟨A', n', c', E', hY2.more hgr.gg hlt (fun y hy => ((hY.mo y hy).more (fun b hb2 => hgr.gn b hb2)).size hc.size)⟩, ?_, fun b hb2 => (hgr.gn b hb2).elim (fun h => h.elim (hD0 b) (hF0 b)) (fun h => by omega)⟩, hc.widen_ (fun b hb => .inl hb)⟩
  intro b hb2 hx
  rcases hgr.dn b hb2 with h | h
  · exact hFD b hx h
  · have := hY.lt b (hY.sub b hx)
    omega
theorem OneS.bytes {B0 : Nat} {W : World} {g : Nat} {C : Cf} (h : OneS B0 W g C) (hC : CfOk C) (hT : TabB W) : Calls Tryd.prog 20 #[.pointer (some ⟨g, 0, none⟩)] W (RetOwn W (sttB C)) := by
  obtain ⟨G, D, ⟨A, n, c, E, hX⟩, _⟩ := h
  exact codecState_own C hC g A n c E W hX hT
def k16t : List UInt8 := 3 :: List.replicate 15 0
set_option maxHeartbeats 4000000 in
set_option maxRecDepth 100000 in
theorem run_buildK3 (w : World) : (Instr.build 28 #[(0, .int .u8 3)]).run Tryd.prog w = .ok (.agg (bcs k16t).toArray) w := by kernel_rfl
set_option maxHeartbeats 4000000 in
set_option maxRecDepth 100000 in
theorem codecGoes_walk (L M : List OpX) (A : Option Addr) (n c : Nat) (B : Option Addr) (m d : Nat) (w : World) (hl : Rs 11 w A n c (L.flatMap OpX.cs)) (hL : ∀ x ∈ L, x.ok w) (hn : n ≤ 9223372036854775807) (hm : Rs 11 w B m d (M.flatMap OpX.cs)) (hM : ∀ x ∈ M, x.ok w) (hmn : m ≤ 9223372036854775807) (hT : TabB w) : Calls Tryd.prog 4 #[.slice A n c, .slice B m d] w fun e w' => e = .returned (.bool true) ∧ Below w.heap.size w w' := by
  obtain ⟨dur, ur1, ur2⟩ : ∃ d, Tryd.prog.underlying 48 = some d ∧ d.isRow = true := ⟨_, Tryd.underlying48, rfl⟩
  have hsz : ∀ x : OpX, (Tryd.prog.info? 48).map (·.size) = some x.cs.length := fun x => by rw [OpX.cs_len]; kernel_rfl
  have HSZ := Lib.hid hsz
  clear hsz
  have hLn : L.length = n := by have := hl.1; rw [flat_len OpX.cs 11 OpX.cs_len] at this; omega
  have hMn : M.length = m := by have := hm.1; rw [flat_len OpX.cs 11 OpX.cs_len] at this; omega
  obtain ⟨wk, hwk⟩ : ∃ k, k = w.heap.size := ⟨_, rfl⟩
  have hT0 := Lib.hid hT
  have HLL := Lib.hid hL
  have HMM := Lib.hid hM
  have HLI := Lib.hid (fun W (h : Below w.heap.size w W) => light_any L A n c W (hl.later h) hn)
  have HLJ := Lib.hid (fun W (h : Below w.heap.size w W) => light_any M B m d W (hm.later h) hmn)
  have hu1 := Lib.hid (fun h : ltB L = true => ltB_use h)
  have hu2 := Lib.hid (fun h : ltB M = true => ltB_use h)
  generalize ltB L = b1 at *
  generalize ltB M = b2 at *
  have HL2 := Lib.hid hl
  have HM2 := Lib.hid hm
  have HTOX := Lib.hid (fun (x : OpX) (h : x.ok w) (hx : x.n ≤ 1000000) W (hb : Below w.heap.size w W) => show Calls Tryd.prog 18 #[.agg x.cs.toArray] W (fun e w2 => ∃ B d bs d0, e = .returned (.agg (toC x B d).toArray) ∧ w2 = plus W bs d0 ∧ Os 73 2 (plus W bs d0) W.heap.size B x.n d (prs .i64 x.ms)) from to23_own x.k x.v x.b x.e x.six x.ah x.al x.pt x.pr x.wy x.ms x.A x.n x.c W ((OpX.rs h).later hb) hx)
  clear hT hL hM hl hm
  go_enter Tryd.func4, Tryd.ntmps4
  have be0 := Below.refl w.heap.size w
  go_upto_region 3 with (go_at_call 15; refine (awake23 _).mono ?_; rintro e w1 ⟨bs1, d1, rfl, rfl⟩)
  have be := below_plus w bs1 d1
  generalize hWW : plus w bs1 d1 = W1 at *
  clear hWW be0
  cases b1 with
  | false =>
    refine wp_region_lit ?_
    refine wpList_plain rfl (fun K hK => ?_); go_simp; with_reducible refine hK _ _ ?_; clear hK K
    refine wpList_plain rfl (fun K hK => ?_)
    go_simp
    refine (HLI.out _ be).mono ?_
    rintro e w1 ⟨rfl, rfl⟩
    with_reducible refine hK _ _ ?_
    clear hK K
    iterate 2 (refine wpList_plain rfl (fun K hK => ?_); go_simp; with_reducible refine hK _ _ ?_; clear hK K)
    iterate 3 ((with_reducible refine wpList_skip ?_ ?_); (· first | (go_simp; done) | (go_simp; intro h; cases h)); simp only [Act.put, List.setIfInBounds_toArray, List.set_cons_zero, List.set_cons_succ])
    refine wpList_plain rfl (fun K hK => ?_); go_simp; with_reducible refine hK _ _ ?_; clear hK K
    go_wp2_with (go_at_call 15; refine (awake23 _).mono ?_; rintro e w1 ⟨bs2, d2, rfl, rfl⟩)
    go_ret
    exact ⟨rfl, be.trans ((below_plus _ _ _).mono be.size)⟩
  | true =>
  cases b2 with
  | false =>
    refine wp_region_lit ?_
    refine wpList_plain rfl (fun K hK => ?_); go_simp; with_reducible refine hK _ _ ?_; clear hK K
    refine wpList_plain rfl (fun K hK => ?_)
    go_simp
    refine (HLI.out _ be).mono ?_
    rintro e w1 ⟨rfl, rfl⟩
    with_reducible refine hK _ _ ?_
    clear hK K
    iterate 2 (refine wpList_plain rfl (fun K hK => ?_); go_simp; with_reducible refine hK _ _ ?_; clear hK K)
    refine wpList_step (fun K hK => ?_); go_simp; with_reducible refine hK _ _ ?_; clear hK K
    refine wpList_step (fun K hK => ?_)
    go_simp
    refine (HLJ.out _ be).mono ?_
    rintro e w1 ⟨rfl, rfl⟩
    with_reducible refine hK _ _ ?_
    clear hK K
    refine wpList_step (fun K hK => ?_); go_simp; with_reducible refine hK _ _ ?_; clear hK K
    refine wpList_plain rfl (fun K hK => ?_); go_simp; with_reducible refine hK _ _ ?_; clear hK K
    go_wp2_with (go_at_call 15; refine (awake23 _).mono ?_; rintro e w1 ⟨bs2, d2, rfl, rfl⟩)
    go_ret
    exact ⟨rfl, be.trans ((below_plus _ _ _).mono be.size)⟩
  | true =>
  have hl40 := hu1.out rfl
  have hm40 := hu2.out rfl
  have HL40 := Lib.hid hl40.2
  have HM40 := Lib.hid hm40.2
  have hn40 : n ≤ 40 := by have := hl40.1; omega
  have hm40n : m ≤ 40 := by have := hm40.1; omega
  clear hl40 hm40
  refine wp_region_lit ?_
  refine wpList_plain rfl (fun K hK => ?_); go_simp; with_reducible refine hK _ _ ?_; clear hK K
  refine wpList_plain rfl (fun K hK => ?_)
  go_simp
  refine (HLI.out _ be).mono ?_
  rintro e w1 ⟨rfl, rfl⟩
  with_reducible refine hK _ _ ?_
  clear hK K
  iterate 2 (refine wpList_plain rfl (fun K hK => ?_); go_simp; with_reducible refine hK _ _ ?_; clear hK K)
  refine wpList_step (fun K hK => ?_); go_simp; with_reducible refine hK _ _ ?_; clear hK K
  refine wpList_step (fun K hK => ?_)
  go_simp
  refine (HLJ.out _ be).mono ?_
  rintro e w1 ⟨rfl, rfl⟩
  with_reducible refine hK _ _ ?_
  clear hK K
  refine wpList_step (fun K hK => ?_); go_simp; with_reducible refine hK _ _ ?_; clear hK K
  refine wpList_plain rfl (fun K hK => ?_); go_simp; with_reducible refine hK _ _ ?_; clear hK K
  go_upto_region 5 with (fail)
  refine wp_region_lit ?_
  refine wpList_build 28 [(0, .const (.int .u8 3))] rfl rfl (.agg (bcs k16t).toArray) (run_buildK3 _) ?_
  refine wpList_plain rfl (fun K hK => ?_)
  go_simp
  refine (new_any k16t rfl _).mono ?_
  rintro e w1 ⟨g, rfl, hg0, hbN, hst⟩
  with_reducible refine hK _ _ ?_
  clear hK K
  have hS : OneS w.heap.size w1 g (cf0 k16t) := ⟨_, _, ⟨_, _, _, _, cf0_X (G := fun _ => False) hst (fun b hb => hb.elim)⟩, fun b hb => hb.elim False.elim (fun e => by rw [e]; exact Nat.le_trans be.size hg0)⟩
  replace be := be.trans (hbN.mono be.size)
  clear hbN hst hg0
  generalize hWW : w1 = W2 at *
  clear hWW
  refine wpList_plain rfl (fun K hK => ?_); go_simp; with_reducible refine hK _ _ ?_; clear hK K
  rw [← hwk] at hS
  have hwk1 : wk ≤ w.heap.size := by omega
  have HST := Lib.hid (And.intro hS be)
  clear hS be
  go_upto_region 7 with (fail)
  go_loopw [6] (fun I wr => ∃ (i : Nat) (C : Cf), I = .int .i64 (i : Int) ∧ i ≤ n ∧ CfOk C ∧ OneS wk wr g C ∧ Below w.heap.size w wr) (fun I _ => n - (intOf I).toNat)
  case atStart => exact ⟨0, _, rfl, by omega, cf0_ok k16t rfl, HST.out.1, HST.out.2⟩
  case round =>
    clear HST
    obtain ⟨i, C, rfl, hi, hC, hS, be⟩ := hrel
    by_cases hil : i < n
    · have hi1 : (i : Int) < (n : Int) := by omega
      obtain ⟨bl, ol, rfl, hbl, -⟩ := HL2.out.at_ (by omega) (by decide)
      have hrg0 := fun W (h : Below w.heap.size w W) => (HL2.out.later h).rangeE OpX.cs_len i (by omega)
      have hxm : (L[i]'(by omega)) ∈ L := List.getElem_mem _
      generalize (L[i]'(by omega)) = x at *
      have hxo := HLL.out x hxm
      have hx100 := HL40.out x hxm
      have hoo := OpX.ok_o hxo
      have HTO := Lib.hid (HTOX.out x hxo (by omega))
      have hrg := hrg0 wr be
      have hsz := HSZ.out x
      have hs0 := be.size
      have HAP := Lib.hid (fun (bs : List Obj) (dd : Nat) (B5 : Option Addr) {d5 : Nat} (h : Os 73 2 (plus wr bs dd) wr.heap.size B5 x.n d5 (prs .i64 x.ms)) => show Calls Tryd.prog 8 #[.pointer (some ⟨g, 0, none⟩), .agg (toC x B5 d5).toArray] (plus wr bs dd) (fun e w' => e = .returned (.int .i64 (chE C x.o : Nat)) ∧ OneS wk w' g (apC C x.o) ∧ Below wk (plus wr bs dd) w') from OneS.apply hS hC (below_plus _ _ _) (by omega) x hoo h (by omega))
      have HOK := Lib.hid (apC_ok hC hoo)
      have HN := Lib.hid (show Below w.heap.size w wr from be)
      have hH := Lib.hid hS
      clear hrg0 hxm hxo hoo hS hx100
      go_upto_region 9 with (fail)
      refine wp_region_lit ?_
      iterate 4 (refine wpList_plain rfl (fun K hK => ?_); go_simp; with_reducible refine hK _ _ ?_; clear hK K)
      refine wpList_load_mid rfl 48 (.tmp 32) rfl bl (ol + i * 11) rfl x.cs _ hrg ur1 ur2 hsz ?_
      refine wpList_plain rfl (fun K hK => ?_)
      go_simp
      refine (HTO.out _ be).mono ?_
      rintro e w1 ⟨B5, d5, bs5, dd5, rfl, rfl, ho5⟩
      with_reducible refine hK _ _ ?_
      clear hK K
      refine wpList_plain rfl (fun K hK => ?_)
      go_simp
      refine (HAP.out _ _ _ ho5).mono ?_
      rintro e w1 ⟨rfl, hS2, hb2⟩
      with_reducible refine hK _ _ ?_
      clear hK K
      generalize hWW : w1 = W6 at *
      clear hWW
      have hb3 := (HN.out.trans ((below_plus wr bs5 dd5).mono hs0)).trans (hb2.mono (Nat.le_of_eq hwk.symm))
      go_wp2
      exact ⟨⟨i + 1, _, by go_num, by omega, HOK.out, hS2, hb3⟩, by simp [intOf]; omega⟩
    · have hi1 : ¬ (i : Int) < (n : Int) := by omega
      clear hi hil
      have hTB := hT0.out.later be
      have hs0 := be.size
      have hS' := Lib.hid hS
      obtain ⟨G, D, ⟨As, ns, cs, Es, hX⟩, hG0⟩ := hS
      have HCS := Lib.hid (show Calls Tryd.prog 20 #[.pointer (some ⟨g, 0, none⟩)] wr (RetRb wr (sttB C)) from codecState_any C hC g As ns cs Es wr hX hTB)
      have hGlt := hX.lt
      have hC2 := Lib.hid hC
      clear hTB hS'
      go_upto_region 10 with (fail)
      refine wp_region_lit ?_
      refine wpList_plain rfl (fun K hK => ?_); go_simp; with_reducible refine hK _ _ ?_; clear hK K
      refine wpList_plain rfl (fun K hK => ?_)
      go_simp
      refine (HCS.out).mono ?_
      rintro e w1 ⟨A3, n3, c3, bs3, dd3, rfl, rfl, hrb3⟩
      with_reducible refine hK _ _ ?_
      clear hK K
      refine wpList_plain rfl (fun K hK => ?_)
      go_simp
      refine (parseState_ok C hC2.out G _ _ _ _ (fun b hb => Nat.lt_of_lt_of_le (hGlt b hb) (below_plus _ _ _).size) hrb3).mono ?_
      rintro e w1 ⟨gx, Gx, Dx, rfl, hbx, hMx, hx1, hx2, hx3⟩
      with_reducible refine hK _ _ ?_
      clear hK K
      generalize hWW : w1 = W4 at *
      clear hWW
      iterate 5 (refine wpList_plain rfl (fun K hK => ?_); go_simp; with_reducible refine hK _ _ ?_; clear hK K)
      have hE4 : Below w.heap.size w W4 := (be.trans ((below_plus wr bs3 dd3).mono hs0)).trans (hbx.mono (Nat.le_trans hs0 (below_plus _ _ _).size))
      have hTW : TwoS wk W4 g gx C C := TwoS.of_read (G := G) (D := D) (W := plus wr bs3 dd3) ⟨As, ns, cs, Es, hX.later (below_plus _ _ _)⟩ hG0 (Nat.le_trans hwk1 (Nat.le_trans hs0 (below_plus _ _ _).size)) hbx hMx hx1 hx2 hx3
      clear hX hG0 hMx hx1 hx2 hx3 hbx be hGlt HCS hrb3
      have HST := Lib.hid (And.intro hTW hE4)
      clear hTW hE4
      go_upto_region 14 with (fail)
      go_loopw [9] (fun I wr => ∃ (i : Nat) (C : Cf), I = .int .i64 (i : Int) ∧ i ≤ m ∧ CfOk C ∧ TwoS wk wr g gx C C ∧ Below w.heap.size w wr) (fun I _ => m - (intOf I).toNat)
      case atStart => exact ⟨0, C, rfl, by omega, hC2.out, HST.out.1, HST.out.2⟩
      case round =>
        clear HST hC2
        obtain ⟨i, C, rfl, hi, hC, hS, be⟩ := hrel
        by_cases hil : i < m
        · have hi1 : (i : Int) < (m : Int) := by omega
          obtain ⟨bl, ol, rfl, hbl, -⟩ := HM2.out.at_ (by omega) (by decide)
          have hrg0 := fun W (h : Below w.heap.size w W) => (HM2.out.later h).rangeE OpX.cs_len i (by omega)
          have hxm : (M[i]'(by omega)) ∈ M := List.getElem_mem _
          generalize (M[i]'(by omega)) = x at *
          have HRG := Lib.hid hrg0
          have hxo := HMM.out x hxm
          have hx100 := HM40.out x hxm
          have hoo := OpX.ok_o hxo
          have HTO := Lib.hid (HTOX.out x hxo (by omega))
          have hsz := HSZ.out x
          have hs0 := be.size
          have HOK := Lib.hid (apC_ok hC hoo)
          obtain ⟨G, D, Dx, h1, h2, hd, hG0⟩ := hS
          have hGl : ∀ b, G b → b < wr.heap.size := by
            obtain ⟨_, _, _, _, hZ⟩ := h1
            exact hZ.lt
          have hDG : ∀ b, D b → G b := by
            obtain ⟨_, _, _, _, hZ⟩ := h1
            exact hZ.sub
          have hDxG : ∀ b, Dx b → G b := by
            obtain ⟨_, _, _, _, hZ⟩ := h2
            exact hZ.sub
          have hDD : ∀ b, (D b ∨ Dx b) → b < wr.heap.size := fun b hb => hb.elim (fun h => hGl b (hDG b h)) (fun h => hGl b (hDxG b h))
          have hS0 : ST wk G D Dx g gx C (apC C x.o) 0 wr := ⟨h1, h2⟩
          have HBE := Lib.hid (fun W (h : Chg (fun b => D b ∨ Dx b) wr W) => be.trans (h.below (fun b hb => by rw [← hwk]; exact hb.elim (fun h => hG0 b (hDG b h)) (fun h => hG0 b (hDxG b h))) hs0))
          have HA1 := Lib.hid (fun W (hs : wr.heap.size ≤ W.heap.size) (h : ST wk G D Dx g gx C (apC C x.o) 0 W) (B : Option Addr) (d : Nat) (hr : Os 73 2 W wr.heap.size B x.n d (prs .i64 x.ms)) => applyX hC x hoo (by omega) (fun b hb => ⟨hG0 b hb, hGl b hb⟩) hd (by omega) hDG hDxG W hs h B d hr)
          have HA2 := Lib.hid (fun W (hs : wr.heap.size ≤ W.heap.size) (h : ST wk G D Dx g gx C (apC C x.o) 1 W) (B : Option Addr) (d : Nat) (hr : Os 73 2 W wr.heap.size B x.n d (prs .i64 x.ms)) => applyS (Dx := Dx) (G := G) hC x hoo (by omega) (fun b hb => hGl b (hDG b hb)) (by omega) W hs h B d hr)
          have HB1 := Lib.hid (fun W (h : TwoS wk W g gx (apC C x.o) (apC C x.o)) (hb : Below w.heap.size w W) => h.swap.one.bytes HOK.out (hT0.out.later hb))
          have HB2 := Lib.hid (fun W (h : TwoS wk W g gx (apC C x.o) (apC C x.o)) (hb : Below w.heap.size w W) => h.one.bytes HOK.out (hT0.out.later hb))
          clear hrg0 hxm hxo hoo hx100 h1 h2 hd hG0 hGl hDG hDxG be hC
          go_upto_region 16 with (fail)
          refine wp_suS (fun b => D b ∨ Dx b) 24 79 2 [6, 13, 17, 20] rfl (by kernel_rfl) (by kernel_rfl) (fun k w' => ST wk G D Dx g gx C (apC C x.o) k w') (ST.ex) (hS0) ?_
          apply StepsC.one (MC.eq _) 1 rfl (by decide)
          · intro o ho FA w' hC hO hD K hK
            obtain rfl := Option.some.inj ho.symm
            clear ho
            have e7 := hO 7 (by kernel_rfl)
            simp only [eval_tmp, List.getElem?_toArray, List.getElem?_cons_succ, List.getElem?_cons_zero, Option.getD_some] at e7
            have ev7 := Lib.hid ((eval_tmp FA 7).trans e7)
            clear hO hD
            go_simp
            exact hK.out _ _ (Ex.refl _) rfl
          apply StepsC.one (MC.eq _) 2 rfl (by decide)
          · intro o ho FA w' hC hO hD K hK
            obtain rfl := Option.some.inj ho.symm
            clear ho
            have e1 := hO 1 (by kernel_rfl)
            simp only [eval_tmp, List.getElem?_toArray, List.getElem?_cons_succ, List.getElem?_cons_zero, Option.getD_some] at e1
            have ev1 := Lib.hid ((eval_tmp FA 1).trans e1)
            clear hO hD
            go_simp
            exact hK.out _ _ (Ex.refl _) rfl
          apply StepsC.one (MC.eq _) 3 rfl (by decide)
          · intro o ho FA w' hC hO hD K hK
            obtain rfl := Option.some.inj ho.symm
            clear ho
            have e9 := hO 9 (by kernel_rfl)
            simp only [eval_tmp, List.getElem?_toArray, List.getElem?_cons_succ, List.getElem?_cons_zero, Option.getD_some] at e9
            have ev9 := Lib.hid ((eval_tmp FA 9).trans e9)
            clear hO hD
            go_simp
            exact hK.out _ _ (Ex.refl _) rfl
          apply StepsC.one (MC.eq _) 4 rfl (by decide)
          · intro o ho FA w' hC hO hD K hK
            obtain rfl := Option.some.inj ho.symm
            clear ho
            have ev55 : FA.eval (.tmp 55) = _ := hD 1 55 (by kernel_rfl)
            have e55 := (eval_tmp FA 55).symm.trans ev55
            replace ev55 := Lib.hid ev55
            have ev56 : FA.eval (.tmp 56) = _ := hD 2 56 (by kernel_rfl)
            have e56 := (eval_tmp FA 56).symm.trans ev56
            replace ev56 := Lib.hid ev56
            clear hO hD
            go_simp
            exact hK.out _ _ (Ex.refl _) rfl
          apply StepsC.one (MC.eq _) 5 rfl (by decide)
          · intro o ho FA w' hC hO hD K hK
            obtain rfl := Option.some.inj ho.symm
            clear ho
            have ev57 : FA.eval (.tmp 57) = _ := hD 3 57 (by kernel_rfl)
            have e57 := (eval_tmp FA 57).symm.trans ev57
            replace ev57 := Lib.hid ev57
            clear hO hD
            refine wanted_if rfl ?_
            refine wp_load_mid 48 (.tmp 57) rfl bl (ol + i * 11) ev57.out x.cs _ (HRG.out w' (HBE.out _ hC)) ur1 ur2 hsz ?_
            exact hK.out _ _ (Ex.refl _) rfl
          apply StepsC.one (MC.to x wr.heap.size hDD) 6 rfl (by decide)
          · intro o ho FA w' hC hO hD K hK
            obtain rfl := Option.some.inj ho.symm
            clear ho
            have ev58 : FA.eval (.tmp 58) = _ := hD 4 58 (by kernel_rfl)
            have e58 := (eval_tmp FA 58).symm.trans ev58
            replace ev58 := Lib.hid ev58
            clear hO hD
            go_simp
            refine (HTO.out w' (HBE.out _ hC)).mono ?_
            rintro e w2 ⟨B5, d5, bs5, dd5, rfl, rfl, ho5⟩
            exact hK.out _ _ (Ex.plus_ _ _ _) ⟨_, _, rfl, ho5.mono hC.size⟩
          apply StepsC.mov (MC.eq (.int .i64 (chE C x.o : Nat))) 7 0 rfl rfl rfl
          · intro o ho FA w' hC hO hD hS K hK
            obtain rfl := Option.some.inj ho.symm
            clear ho
            have ev54 : FA.eval (.tmp 54) = _ := hD 0 54 (by kernel_rfl)
            have e54 := (eval_tmp FA 54).symm.trans ev54
            replace ev54 := Lib.hid ev54
            have f59 := hD 5 59 (by kernel_rfl)
            generalize eu59 : FA.eval (.tmp 59) = u59 at f59
            have e59 := (eval_tmp FA 59).symm.trans eu59
            have ev59 := Lib.hid eu59
            clear eu59
            clear hO hD
            obtain ⟨B5, d5, rfl, ho5⟩ := f59
            go_simp
            refine (HA1.out w' hC.size hS _ _ ho5).mono ?_
            rintro e w2 ⟨rfl, hS2, hc2⟩
            exact hK.out _ _ hc2 hS2 rfl
          apply StepsC.one (MC.eq _) 8 rfl (by decide)
          · intro o ho FA w' hC hO hD K hK
            obtain rfl := Option.some.inj ho.symm
            clear ho
            have e5 := hO 5 (by kernel_rfl)
            simp only [eval_tmp, List.getElem?_toArray, List.getElem?_cons_succ, List.getElem?_cons_zero, Option.getD_some] at e5
            have ev5 := Lib.hid ((eval_tmp FA 5).trans e5)
            clear hO hD
            go_simp
            exact hK.out _ _ (Ex.refl _) rfl
          apply StepsC.one (MC.eq _) 9 rfl (by decide)
          · intro o ho FA w' hC hO hD K hK
            obtain rfl := Option.some.inj ho.symm
            clear ho
            have e1 := hO 1 (by kernel_rfl)
            simp only [eval_tmp, List.getElem?_toArray, List.getElem?_cons_succ, List.getElem?_cons_zero, Option.getD_some] at e1
            have ev1 := Lib.hid ((eval_tmp FA 1).trans e1)
            clear hO hD
            go_simp
            exact hK.out _ _ (Ex.refl _) rfl
          apply StepsC.one (MC.eq _) 10 rfl (by decide)
          · intro o ho FA w' hC hO hD K hK
            obtain rfl := Option.some.inj ho.symm
            clear ho
            have e9 := hO 9 (by kernel_rfl)
            simp only [eval_tmp, List.getElem?_toArray, List.getElem?_cons_succ, List.getElem?_cons_zero, Option.getD_some] at e9
            have ev9 := Lib.hid ((eval_tmp FA 9).trans e9)
            clear hO hD
            go_simp
            exact hK.out _ _ (Ex.refl _) rfl
          apply StepsC.one (MC.eq _) 11 rfl (by decide)
          · intro o ho FA w' hC hO hD K hK
            obtain rfl := Option.some.inj ho.symm
            clear ho
            have ev62 : FA.eval (.tmp 62) = _ := hD 8 62 (by kernel_rfl)
            have e62 := (eval_tmp FA 62).symm.trans ev62
            replace ev62 := Lib.hid ev62
            have ev63 : FA.eval (.tmp 63) = _ := hD 9 63 (by kernel_rfl)
            have e63 := (eval_tmp FA 63).symm.trans ev63
            replace ev63 := Lib.hid ev63
            clear hO hD
            go_simp
            exact hK.out _ _ (Ex.refl _) rfl
          apply StepsC.one (MC.eq _) 12 rfl (by decide)
          · intro o ho FA w' hC hO hD K hK
            obtain rfl := Option.some.inj ho.symm
            clear ho
            have ev64 : FA.eval (.tmp 64) = _ := hD 10 64 (by kernel_rfl)
            have e64 := (eval_tmp FA 64).symm.trans ev64
            replace ev64 := Lib.hid ev64
            clear hO hD
            refine wanted_if rfl ?_
            refine wp_load_mid 48 (.tmp 64) rfl bl (ol + i * 11) ev64.out x.cs _ (HRG.out w' (HBE.out _ hC)) ur1 ur2 hsz ?_
            exact hK.out _ _ (Ex.refl _) rfl
          apply StepsC.one (MC.to x wr.heap.size hDD) 13 rfl (by decide)
          · intro o ho FA w' hC hO hD K hK
            obtain rfl := Option.some.inj ho.symm
            clear ho
            have ev65 : FA.eval (.tmp 65) = _ := hD 11 65 (by kernel_rfl)
            have e65 := (eval_tmp FA 65).symm.trans ev65
            replace ev65 := Lib.hid ev65
            clear hO hD
            go_simp
            refine (HTO.out w' (HBE.out _ hC)).mono ?_
            rintro e w2 ⟨B5, d5, bs5, dd5, rfl, rfl, ho5⟩
            exact hK.out _ _ (Ex.plus_ _ _ _) ⟨_, _, rfl, ho5.mono hC.size⟩
          apply StepsC.mov (MC.eq (.int .i64 (chE C x.o : Nat))) 14 1 rfl rfl rfl
          · intro o ho FA w' hC hO hD hS K hK
            obtain rfl := Option.some.inj ho.symm
            clear ho
            have ev61 : FA.eval (.tmp 61) = _ := hD 7 61 (by kernel_rfl)
            have e61 := (eval_tmp FA 61).symm.trans ev61
            replace ev61 := Lib.hid ev61
            have f66 := hD 12 66 (by kernel_rfl)
            generalize eu66 : FA.eval (.tmp 66) = u66 at f66
            have e66 := (eval_tmp FA 66).symm.trans eu66
            have ev66 := Lib.hid eu66
            clear eu66
            clear hO hD
            obtain ⟨B5, d5, rfl, ho5⟩ := f66
            go_simp
            refine (HA2.out w' hC.size hS _ _ ho5).mono ?_
            rintro e w2 ⟨rfl, hS2, hc2⟩
            exact hK.out _ _ hc2 hS2 rfl
          apply StepsC.one (MC.eq _) 15 rfl (by decide)
          · intro o ho FA w' hC hO hD K hK
            obtain rfl := Option.some.inj ho.symm
            clear ho
            have ev60 : FA.eval (.tmp 60) = _ := hD 6 60 (by kernel_rfl)
            have e60 := (eval_tmp FA 60).symm.trans ev60
            replace ev60 := Lib.hid ev60
            have ev67 : FA.eval (.tmp 67) = _ := hD 13 67 (by kernel_rfl)
            have e67 := (eval_tmp FA 67).symm.trans ev67
            replace ev67 := Lib.hid ev67
            clear hO hD
            go_simp
            exact hK.out _ _ (Ex.refl _) rfl
          apply StepsC.one (MC.eq _) 16 rfl (by decide)
          · intro o ho FA w' hC hO hD K hK
            obtain rfl := Option.some.inj ho.symm
            clear ho
            have ev68 : FA.eval (.tmp 68) = _ := hD 14 68 (by kernel_rfl)
            have e68 := (eval_tmp FA 68).symm.trans ev68
            replace ev68 := Lib.hid ev68
            clear hO hD
            go_simp
            exact hK.out _ _ (Ex.refl _) rfl
          apply StepsC.one (MC.eq _) 17 rfl (by decide)
          · intro o ho FA w' hC hO hD K hK
            obtain rfl := Option.some.inj ho.symm
            clear ho
            have e7 := hO 7 (by kernel_rfl)
            simp only [eval_tmp, List.getElem?_toArray, List.getElem?_cons_succ, List.getElem?_cons_zero, Option.getD_some] at e7
            have ev7 := Lib.hid ((eval_tmp FA 7).trans e7)
            have ev69 : FA.eval (.tmp 69) = _ := hD 15 69 (by kernel_rfl)
            have e69 := (eval_tmp FA 69).symm.trans ev69
            replace ev69 := Lib.hid ev69
            first | have ge69 := slot_of e69 | have ge69 := slot_un e69
            clear hO hD
            go_simp
            exact hK.out _ _ (Ex.refl _) rfl
          apply StepsC.mov (MC.ob wr.heap.size hDD (sttB (apC C x.o))) 18 2 rfl rfl rfl
          · intro o ho FA w' hC hO hD hS K hK
            obtain rfl := Option.some.inj ho.symm
            clear ho
            have ev70 : FA.eval (.tmp 70) = _ := hD 16 70 (by kernel_rfl)
            have e70 := (eval_tmp FA 70).symm.trans ev70
            replace ev70 := Lib.hid ev70
            have ev69 : FA.eval (.tmp 69) = _ := hD 15 69 (by kernel_rfl)
            have e69 := (eval_tmp FA 69).symm.trans ev69
            replace ev69 := Lib.hid ev69
            first | have ge69 := slot_of e69 | have ge69 := slot_un e69
            clear hO hD
            refine wanted_ifG (by go_simp) ?_
            go_simp
            refine (HB1.out w' hS (HBE.out _ hC)).mono ?_
            rintro e w2 ⟨A7, n7, c7, bs7, dd7, rfl, rfl, ho7⟩
            exact hK.out _ _ (Chg.of_below (below_plus _ _ _)) (ST.ex _ _ _ hS (Ex.plus_ _ _ _)) ⟨_, _, _, rfl, ho7.mono hC.size⟩
          apply StepsC.one (MC.eq _) 19 rfl (by decide)
          · intro o ho FA w' hC hO hD K hK
            obtain rfl := Option.some.inj ho.symm
            clear ho
            have f71 := hD 17 71 (by kernel_rfl)
            generalize eu71 : FA.eval (.tmp 71) = u71 at f71
            have e71 := (eval_tmp FA 71).symm.trans eu71
            have ev71 := Lib.hid eu71
            clear eu71
            have ev69 : FA.eval (.tmp 69) = _ := hD 15 69 (by kernel_rfl)
            have e69 := (eval_tmp FA 69).symm.trans ev69
            replace ev69 := Lib.hid ev69
            first | have ge69 := slot_of e69 | have ge69 := slot_un e69
            clear hO hD
            obtain ⟨A1, n1, c1, rfl, hr1⟩ := f71
            have es := run_str bt Tryd.underlying9 hr1.rb
            go_simp
            exact hK.out _ _ (Ex.refl _) rfl
          apply StepsC.one (MC.eq _) 20 rfl (by decide)
          · intro o ho FA w' hC hO hD K hK
            obtain rfl := Option.some.inj ho.symm
            clear ho
            have e5 := hO 5 (by kernel_rfl)
            simp only [eval_tmp, List.getElem?_toArray, List.getElem?_cons_succ, List.getElem?_cons_zero, Option.getD_some] at e5
            have ev5 := Lib.hid ((eval_tmp FA 5).trans e5)
            have ev69 : FA.eval (.tmp 69) = _ := hD 15 69 (by kernel_rfl)
            have e69 := (eval_tmp FA 69).symm.trans ev69
            replace ev69 := Lib.hid ev69
            first | have ge69 := slot_of e69 | have ge69 := slot_un e69
            clear hO hD
            go_simp
            exact hK.out _ _ (Ex.refl _) rfl
          apply StepsC.mov (MC.ob wr.heap.size hDD (sttB (apC C x.o))) 21 3 rfl rfl rfl
          · intro o ho FA w' hC hO hD hS K hK
            obtain rfl := Option.some.inj ho.symm
            clear ho
            have ev73 : FA.eval (.tmp 73) = _ := hD 19 73 (by kernel_rfl)
            have e73 := (eval_tmp FA 73).symm.trans ev73
            replace ev73 := Lib.hid ev73
            have ev69 : FA.eval (.tmp 69) = _ := hD 15 69 (by kernel_rfl)
            have e69 := (eval_tmp FA 69).symm.trans ev69
            replace ev69 := Lib.hid ev69
            first | have ge69 := slot_of e69 | have ge69 := slot_un e69
            clear hO hD
            refine wanted_ifG (by go_simp) ?_
            go_simp
            refine (HB2.out w' hS (HBE.out _ hC)).mono ?_
            rintro e w2 ⟨A7, n7, c7, bs7, dd7, rfl, rfl, ho7⟩
            exact hK.out _ _ (Chg.of_below (below_plus _ _ _)) (ST.ex _ _ _ hS (Ex.plus_ _ _ _)) ⟨_, _, _, rfl, ho7.mono hC.size⟩
          apply StepsC.one (MC.eq _) 22 rfl (by decide)
          · intro o ho FA w' hC hO hD K hK
            obtain rfl := Option.some.inj ho.symm
            clear ho
            have f74 := hD 20 74 (by kernel_rfl)
            generalize eu74 : FA.eval (.tmp 74) = u74 at f74
            have e74 := (eval_tmp FA 74).symm.trans eu74
            have ev74 := Lib.hid eu74
            clear eu74
            have ev69 : FA.eval (.tmp 69) = _ := hD 15 69 (by kernel_rfl)
            have e69 := (eval_tmp FA 69).symm.trans ev69
            replace ev69 := Lib.hid ev69
            first | have ge69 := slot_of e69 | have ge69 := slot_un e69
            clear hO hD
            obtain ⟨A1, n1, c1, rfl, hr1⟩ := f74
            have es := run_str bt Tryd.underlying9 hr1.rb
            go_simp
            exact hK.out _ _ (Ex.refl _) rfl
          apply StepsC.one (MC.eq _) 23 rfl (by decide)
          · intro o ho FA w' hC hO hD K hK
            obtain rfl := Option.some.inj ho.symm
            clear ho
            have ev72 : FA.eval (.tmp 72) = _ := hD 18 72 (by kernel_rfl)
            have e72 := (eval_tmp FA 72).symm.trans ev72
            replace ev72 := Lib.hid ev72
            have ev75 : FA.eval (.tmp 75) = _ := hD 21 75 (by kernel_rfl)
            have e75 := (eval_tmp FA 75).symm.trans ev75
            replace ev75 := Lib.hid ev75
            have ev69 : FA.eval (.tmp 69) = _ := hD 15 69 (by kernel_rfl)
            have e69 := (eval_tmp FA 69).symm.trans ev69
            replace ev69 := Lib.hid ev69
            first | have ge69 := slot_of e69 | have ge69 := slot_un e69
            clear hO hD
            go_simp
            exact hK.out _ _ (Ex.refl _) rfl
          apply StepsC.one (MC.eq _) 24 rfl (by decide)
          · intro o ho FA w' hC hO hD K hK
            obtain rfl := Option.some.inj ho.symm
            clear ho
            have ev69 : FA.eval (.tmp 69) = _ := hD 15 69 (by kernel_rfl)
            have e69 := (eval_tmp FA 69).symm.trans ev69
            replace ev69 := Lib.hid ev69
            have ev76 : FA.eval (.tmp 76) = _ := hD 22 76 (by kernel_rfl)
            have e76 := (eval_tmp FA 76).symm.trans ev76
            replace ev76 := Lib.hid ev76
            clear hO hD
            go_simp
            exact hK.out _ _ (Ex.refl _) rfl
          refine StepsC.fin_ (fun vs w' hC hS hp => ?_)
          have p0 : vs 0 = _ := hp 0 (by omega) rfl
          have p1 : vs 1 = _ := hp 1 (by omega) rfl
          have p2 : vs 2 = _ := hp 2 (by omega) rfl
          have p3 : vs 3 = _ := hp 3 (by omega) rfl
          have p4 : vs 4 = _ := hp 4 (by omega) rfl
          have p5 := hp 5 (by omega) rfl
          have p6 : vs 6 = _ := hp 6 (by omega) rfl
          have p7 : vs 7 = _ := hp 7 (by omega) rfl
          have p8 : vs 8 = _ := hp 8 (by omega) rfl
          have p9 : vs 9 = _ := hp 9 (by omega) rfl
          have p10 : vs 10 = _ := hp 10 (by omega) rfl
          have p11 : vs 11 = _ := hp 11 (by omega) rfl
          have p12 := hp 12 (by omega) rfl
          have p13 : vs 13 = _ := hp 13 (by omega) rfl
          have p14 : vs 14 = _ := hp 14 (by omega) rfl
          have p15 : vs 15 = _ := hp 15 (by omega) rfl
          have p16 : vs 16 = _ := hp 16 (by omega) rfl
          have p17 := hp 17 (by omega) rfl
          have p18 : vs 18 = _ := hp 18 (by omega) rfl
          have p19 : vs 19 = _ := hp 19 (by omega) rfl
          have p20 := hp 20 (by omega) rfl
          have p21 : vs 21 = _ := hp 21 (by omega) rfl
          have p22 : vs 22 = _ := hp 22 (by omega) rfl
          have p23 : vs 23 = _ := hp 23 (by omega) rfl
          clear hp
          simp only [List.take_succ_cons, List.take_zero, List.drop_succ_cons, List.drop_zero, putAll, Nat.zero_add, Nat.reduceAdd, Act.put, List.setIfInBounds_toArray, List.set_cons_zero, List.set_cons_succ, p0, p1, p2, p3, p4, p6, p7, p8, p9, p10, p11, p13, p14, p15, p16, p18, p19, p21, p22, p23]
          clear p0 p1 p2 p3 p4 p6 p7 p8 p9 p10 p11 p13 p14 p15 p16 p18 p19 p21 p22 p23
          generalize vs 5 = y5 at *
          generalize vs 12 = y12 at *
          generalize vs 17 = y17 at *
          generalize vs 20 = y20 at *
          clear vs
          have hS' : TwoS wk w' g gx (apC C x.o) (apC C x.o) := hS
          have hE' := HBE.out _ hC
          go_wp2
          exact ⟨⟨i + 1, _, by go_num, by omega, HOK.out, hS', hE'⟩, by simp [intOf]; omega⟩
        · have hi1 : ¬ (i : Int) < (m : Int) := by omega
          clear hi hil hS
          go_wp2_with (go_at_call 15; refine (awake23 _).mono ?_; rintro e w1 ⟨bs2, d2, rfl, rfl⟩)
          go_ret
          exact ⟨rfl, be.trans ((below_plus _ _ _).mono be.size)⟩
theorem codecGoes_row (W : World) (A : Option Addr) (k : Nat) (L : List OpX) (h1 : L.length ≤ k) (h2 : k ≤ maxLen) (h3 : Rd W W.heap.size A (L.flatMap OpX.cs)) (h4 : ∀ x ∈ L, x.ok W) (B : Option Addr) (k' : Nat) (M : List OpX) (g1 : M.length ≤ k') (g2 : k' ≤ maxLen) (g3 : Rd W W.heap.size B (M.flatMap OpX.cs)) (g4 : ∀ x ∈ M, x.ok W) (hT : TabB W) :
    Calls Tryd.prog 4 #[.slice A L.length k, .slice B M.length k'] W fun e W' => e = .returned (.bool true) ∧ Below W.heap.size W W' := by
  have e : maxLen ≤ 9223372036854775807 := by decide
  exact codecGoes_walk L M A L.length k B M.length k' W ⟨flat_len OpX.cs 11 OpX.cs_len L, h1, h3⟩ h4 (by omega) ⟨flat_len OpX.cs 11 OpX.cs_len M, g1, g3⟩ g4 (by omega) hT
end Go.Proofs.YtclhfbbajeoanaaDoor

/- From a walk to the row of a law: whatever the arguments, the call returns true and changes nothing that was there. -/
namespace Go.Proofs.YtclhfbbajeoanaaDoor
open Go.ChangeShapes Go.WideShapes Go.ChangeAt Go.RowKit

/-- All arguments read behind the call as they did before it. -/
theorem trodAll_below {H : Type} {enc : TypeId × Value → H} {P : Program} (hl : laidOutB P = true) {W W' : World} (hb : Below W.heap.size W W') :
    ∀ {ts : List TypeId} {vs : List Value} {ds : List (DataW H)} {ps : List MemPlace}, (ts.all fun t => P.readableRec t && decide (t < P.types.size)) = true →
      DataW.TrodAll enc P W 0 (fun _ => true) true ts vs ds ps → DataW.TrodAll enc P W' 0 (fun b => decide (b < W.heap.size)) true ts vs ds ps
  | [], vs, ds, ps, _, h => by
    obtain ⟨rfl, rfl, rfl⟩ := trodAll_nil h
    exact trodAll_mk0
  | t :: ts, vs, ds, ps, hr, h => by
    obtain ⟨v, vs', d, ds', p, q, rfl, rfl, rfl, h0, hs⟩ := trodAll_cons h
    simp only [List.all_cons, Bool.and_eq_true, decide_eq_true_eq] at hr
    have lt0 : ∀ x ∈ p, x.block < W.heap.size := by
      obtain ⟨m, hm⟩ := h0
      exact DataW.trod_lt m _ _ _ hm
    exact trodAll_cons_mk (Below.trod hl hr.1.1 hr.1.2 h0 hb lt0) (trodAll_below hl hb (by simpa using hr.2) hs)

end Go.Proofs.YtclhfbbajeoanaaDoor

/- From a walk to a tied row; the library's table as the row lays it. -/
namespace Go.Proofs.YtclhfbbajeoanaaDoor
open Go.ChangeShapes Go.WideShapes Go.ChangeAt Go.RowKit
set_option linter.unusedVariables false

theorem liftL {C : Checked} {os : Go.Os} {f : FuncId} {fn : Func} {s : ChangeSpec} {H : Type} {enc : TypeId × Value → H} {tb : TypeId} {X : World → Prop} (n : Nat) (hX : ∀ w w' : World, w.heap = w'.heap → X w → X w')
    (own : ownKnob C.prog.godebug = none) (started : os.Started) (noInit : C.prog.inits.idxOf? f = none) (hfn : C.prog.funcs[f]? = some fn)
    (witness : ∃ (w : World) (tape : Tape) (i : Input), w.os = os ∧ (w.forCall tape i).Shaped C.prog ∧ i.vars = [] ∧ Input.okWide C.prog (w.forCall tape i) .any w.heap.size f i ∧
      ((s.pre enc C.prog fn [] false (w.forCall tape i).memory i.args ∧ X (w.forCall tape i).memory) ∧ sizedMet enc C.prog fn (OpenSpec.ofChange s) false (w.forCall tape i).memory i.args) ∧ ({} : Assume).holds C.prog (lone (Frame.enter C.prog f i.args .normal) [] (w.forCall tape i)))
    (hl : laidOutB C.prog = true) (hrd : (fn.params.toList.all fun t => C.prog.readableRec t && decide (t < C.prog.types.size)) = true)
    (htb : C.prog.underlying tb = some .bool) (hres : fn.resultTypes = #[tb]) (hn : fn.params.toList.length = n) (hvars : s.vars = [])
    (hspec : ∀ ds : List (DataW H), ds.length = n → (s.fn H ds).results = [.lit (.bool true)] ∧ (s.fn H ds).args = ds ∧ (s.fn H ds).vars = [])
    (walk : ∀ (W : World) (base : Nat) (args : Array Value) (ds : List (DataW H)) (ps : List MemPlace),
      (∀ (j : Nat) t v, fn.params[j]? = some t → args[j]? = some v → Value.okWide C.prog W .any base t v) →
      DataW.TrodAll enc C.prog W 0 (fun _ => true) true fn.params.toList args.toList ds ps → X W →
      Calls C.prog f args W fun e W' => e = .returned (.bool true) ∧ Below W.heap.size W W') :
    ReturnsInHanded {} C os f .any (fun w args => (s.pre enc C.prog fn [] false w args ∧ X w) ∧ sizedMet enc C.prog fn (OpenSpec.ofChange s) false w args) (s.post enc C.prog fn false true false false) := by
  refine returnsInHanded_of_change_and (C := C) (X := fun w _ => X w) (fun w w' _ hh h => hX w w' hh h) own started noInit hfn witness ?_
  intro W base args ds gs before hval hW _ _ hXW _
  have hW' := hW
  obtain ⟨p, q, hA, hV, rfl, _, _⟩ := hW
  rw [hvars] at hV
  obtain ⟨rfl, rfl⟩ := trodVars_none hV
  have hlen : ds.length = n := by
    have aux : ∀ {ts : List TypeId} {vs : List Value} {ds : List (DataW H)} {ps : List MemPlace}, DataW.TrodAll enc C.prog W 0 (fun _ => true) true ts vs ds ps → ds.length = ts.length := by
      intro ts
      induction ts with
      | nil => intro vs ds ps h; obtain ⟨_, rfl, _⟩ := trodAll_nil h; rfl
      | cons t ts ih =>
        intro vs ds ps h
        obtain ⟨v, vs', d, ds', p, q, rfl, rfl, rfl, _, hs⟩ := trodAll_cons h
        simp [ih hs]
    rw [aux hA, hn]
  obtain ⟨r1, r2, r3⟩ := hspec ds hlen
  refine (walk W base args ds p hval hA hXW).mono fun e W' ⟨he, bel⟩ => ?_
  subst he
  refine ⟨_, rfl, ds, [], p ++ [], [], p, [], hW', ?_, ?_, ?_, bel.frame _, fun h => by cases h⟩
  · simp only [List.append_nil, r1, hres]
    exact trodAll_mk1 (shut_bool htb _)
  · simp only [List.append_nil, r2]
    exact trodAll_below hl bel hrd hA
  · simp only [List.append_nil, r3, hvars]
    rfl

/-- what the row lays -/
def laidTab : List (String × DataW Unit) := [("math/bits.deBruijn64tab", Rows.laid_math_bits_deBruijn64tab)]
theorem gTab : Tryd.prog.globalNamed "math/bits.deBruijn64tab" = some 0 := by kernel_rfl
theorem tTab : (Tryd.prog.globals[0]?).map (·.type) = some 185 := by kernel_rfl
theorem laid_list : (Rows.laid_math_bits_deBruijn64tab : DataW Unit) = .agg (deB.map fun b => .lit (.int .u8 (b.toNat : Int))) := by rfl
theorem of_laid {W : World} (h : laidMetH Tryd.prog laidTab W) : TabB W := by
  rw [MakeChecks.laidMetH_plain _ _ _ (by kernel_rfl)] at h
  obtain ⟨ps, ⟨g0, t0, cs0, f0, p0, q0, hg0, ht0, hv0, hd0, _, _⟩, _, hcell⟩ := h
  obtain rfl := Option.some.inj (gTab.symm.trans hg0)
  obtain rfl := Option.some.inj (tTab.symm.trans ht0)
  obtain ⟨xs, m1, rfl, hx1, hlen, hn3, hel⟩ := DataW.trod_array Tryd.underlying185 hd0
  have c1 : Tryd.prog.cellsOf 5 = 1 := by kernel_rfl
  have c64 : Tryd.prog.cellsOf 185 = 64 := by kernel_rfl
  rw [laid_list] at hx1
  have hx2 : (deB.map fun b => DataW.lit (Lit.int .u8 (b.toNat : Int))) = xs.map (·.1) := by
    have := congrArg Prod.fst hx1
    simpa using this
  have hc : ∀ j, j < 64 → W.cell? ⟨0, j, none⟩ = (bcs deB)[j]? := by
    intro j hj
    have h0 := hel j hj
    rw [c1, Nat.mul_one] at h0
    have hxj : xs[j]? = some (xs[j]'(by omega)) := List.getElem?_eq_getElem (by omega)
    rw [hxj] at h0
    obtain ⟨k, e1, e2, _⟩ := DataW.trod_int Tryd.underlying5 h0
    have hjc : j < cs0.toList.length := by rw [hlen, c64]; exact hj
    simp only [List.drop_eq_getElem_cons hjc, List.take_succ_cons, List.take_zero, List.cons.injEq, and_true] at e1
    rw [World.var?_cell hg0 hv0 j]
    have hja : j < cs0.size := by simpa using hjc
    rw [Array.getElem?_eq_getElem hja]
    have e3 : cs0[j] = .int .u8 k := by rw [← e1]; simp
    rw [e3, bcs_get deB j (by rw [deB_len]; exact hj)]
    have h4 := congrArg (fun L : List (DataW Unit) => L[j]?) hx2
    simp only [List.getElem?_map] at h4
    rw [hxj, List.getElem?_eq_getElem (show j < deB.length by rw [deB_len]; exact hj)] at h4
    simp only [Option.map_some, Option.some.injEq] at h4
    rw [e2] at h4
    simp only [DataW.lit.injEq, Lit.int.injEq, true_and] at h4
    rw [← h4]
  have hlt : 0 < W.heap.size := by
    have h1 := hc 0 (by decide)
    exact lt_of_cell (a := ⟨0, 0, none⟩) (h1.trans (bcs_get deB 0 (by decide)))
  refine ⟨deB_len, Nat.le_refl _, .inr ⟨0, 0, rfl, hlt, fun i u hu => ?_⟩⟩
  rw [Nat.zero_add]
  have hi : i < 64 := by
    rcases Nat.lt_or_ge i 64 with h' | h'
    · exact h'
    · rw [List.getElem?_eq_none (by rw [bcs_length, deB_len]; exact h')] at hu
      cases hu
  exact (hc i hi).trans hu
theorem door_met (os : Go.Os) (args : Array Value) : laidMetH Tryd.prog laidTab ((World.doorLaid Tryd.prog 2000 os).forCall (fun _ _ => 0) ⟨#[], args, []⟩).memory :=
  laidMetH_of_parts3 (fuel := 8) (laidMet_of_run' 8 (by kernel_rfl) (by kernel_rfl)) (by kernel_rfl) (by kernel_rfl)

end Go.Proofs.YtclhfbbajeoanaaDoor

