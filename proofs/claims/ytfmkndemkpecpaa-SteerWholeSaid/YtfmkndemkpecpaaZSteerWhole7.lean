/- Texts of the law SteerWhole, part 7. -/
import Derived.Test.YtfmkndemkpecpaaZSteerWhole6
/- Whole packets and their beginnings; the law SteerWhole (chapter 29). -/
namespace Go.Proofs.Ytfmkndemkpecpaa
open Go.RowKit
set_option linter.unusedVariables false
set_option linter.unusedSimpArgs false
attribute [local go_sem ↓] sliced_cut

attribute [local go_sem] cutA_zero

theorem stf_of {l : List UInt8} {si s6 : Bool} {sh sl dh dl pr : Nat} {load : List UInt8} (F : PFacts l si s6 sh sl dh dl pr load) (h8 : 8 ≤ load.length) (hp : pr = 6 ∨ pr = 17) :
    SteOK l si ∧ s6 = si ∧ sh = shF l si ∧ sl = slF l si ∧ dh = dhF l si ∧ dl = dlF l si ∧ pr = prF l si ∧ ∃ m, load = (l.drop (zF l si)).take m ∧ m + zF l si ≤ l.length := by
  rcases F with ⟨rfl, rfl, rfl, rfl, ln, f1, f2, f3, f4, f5, f6, f7, f8, f9, f10⟩ | ⟨rfl, rfl, ln, f1, f2, f3, f4, f5, f6, f7, f8⟩
  · have hz : zF l false = 4 * (num ((l.drop 0).take 1) % 16) := rfl
    have hll : load.length ≤ ln - 4 * (num ((l.drop 0).take 1) % 16) := by rw [f10, List.length_take]; omega
    refine ⟨⟨f1, f2, by rw [hz]; exact f3, by rw [hz]; omega, fun _ => f6, ?_⟩, rfl, rfl, f8, rfl, f9, f7, _, f10, by rw [hz]; omega⟩
    rw [← show pr = prF l false from f7]
    exact hp
  · have hll : load.length ≤ ln := by rw [f8, List.length_take]; omega
    refine ⟨⟨by omega, f2, by show 20 ≤ 40; omega, by show 40 + 8 ≤ l.length; omega, fun h => (by cases h), ?_⟩, rfl, f4, f5, f6, f7, f3, ln, f8, by show ln + 40 ≤ l.length; omega⟩
    rw [← show pr = prF l true from f3]
    exact hp
/-- what a whole packet tells -/
theorem whole (A : Option Addr) (n c : Nat) (l : List UInt8) (w : World) (h : Rb w A n c l) (hm : n ≤ 3000) : ∃ (p : PI) (why : Int),
    (∀ w', Below w.heap.size w w' → Calls Try.prog 20 #[.slice A n c] w' (RetPI w' p why)) ∧ (∀ w', Below w.heap.size w w' → Calls Try.prog 21 #[.slice A n c] w' (RetPI w' p why)) ∧
    (why = 0 → (p.pr = 6 ∨ p.pr = 17) → SteOK l p.si ∧ p.s6 = p.si ∧ p.d6 = p.si ∧ p.sh = shF l p.si ∧ p.sl = slF l p.si ∧ p.dh = dhF l p.si ∧ p.dl = dlF l p.si ∧ p.sp = spF l p.si ∧ p.dp = dpF l p.si ∧ p.pr = prF l p.si ∧ p.o1.length ≤ 40 ∧ stV l p.si = (stO p.o1).1 ∧ stH l p.si = (stO p.o1).2 ∧ (p.pr = 17 → (stO p.o1).2 = false)) := by
  have up : ∀ w1, Below w.heap.size w w1 → ∀ w2, Below w1.heap.size w1 w2 → Below w.heap.size w w2 := fun w1 h1 w2 h2 => h1.trans (h2.mono h1.size)
  obtain ⟨si, st, tl, s6, sh, sl, dh, dl, pr, fr, load, E, ⟨b1, b2, b3, b4, b5, b6, b7⟩, PF, HO, HR⟩ := opensF A n c l w h hm
  obtain ⟨p, why, L⟩ := lk_any si st tl s6 sh sl dh dl pr fr load 1 E (by omega)
  refine ⟨p, why, fun w1 hb => pkRead A n c p why w1 (fun w2 hb2 => look_all A n c si st tl s6 sh sl dh dl pr fr load 1 E w2 p why L b1 b2 b3 b4 b5 b6 b7 (fun w3 hb3 => HO w3 (up w2 (up w1 hb w2 hb2) w3 hb3))),
    fun w1 hb => refRead_all A n c si st tl s6 sh sl dh dl pr fr load E w1 p why L b1 b2 b3 b4 b5 b6 b7 (fun w2 hb2 => HR w2 (up w1 hb w2 hb2)), ?_⟩
  intro hy hpr
  cases L with
  | err hE => exact absurd hy (ofN_ne hE)
  | frag _ _ => cases hy
  | exp _ _ _ => cases hy
  | go hE hf _ _ _ cc =>
    have PFx := PF hE hf
    cases cc with
    | tBad x0 x1 x2 x3 x4 x5 x6 x7 o1 o2 E2 any hp why hw h0 => exact absurd hy (bne_iff_ne.1 h0)
    | uBad x0 x1 x2 o1 E2 any hp why hw h0 => exact absurd hy (bne_iff_ne.1 h0)
    | mBad x0 x1 x2 x3 o1 ok any hp why hw h0 => exact absurd hy (bne_iff_ne.1 h0)
    | none_ hp => cases hy
    | mOk x0 x1 x2 x3 o1 ok any hp hw =>
      have hpr' : pr = 6 ∨ pr = 17 := hpr
      rcases hp with ⟨hp, -⟩ | ⟨hp, -⟩ <;> omega
    | tOk x0 x1 x2 x3 x4 x5 x6 x7 o1 o2 E2 any hp hw =>
      have hE2 : E2 = 0 := by
        rcases tkW_why hw with ⟨hE', hwy⟩ | ⟨hE', -, -⟩ | ⟨hE', -, -⟩
        · exact absurd hwy.symm (ofN_ne hE')
        · exact hE'
        · exact hE'
      obtain ⟨t1, t2, t3, t4, t5, t6, t7⟩ := any.f hE2
      obtain ⟨ok, e6, e1, e2, e3, e4, e5, m, el, hm2⟩ := stf_of PFx (by omega) (.inl hp)
      have eS : stF (l.drop (zF l si)) = stO o1 := by
        rw [t7, el]
        exact stF_hd _ m ⟨by rw [← el]; exact t1, by rw [← el]; exact t4, by rw [← el]; exact t5, by rw [← el]; exact t6⟩
      have hml : load.length ≤ m := by rw [el, List.length_take]; omega
      have ep6 : prF l si = 6 := by rw [← e5]; exact hp
      refine ⟨ok, e6, e6, e1, e2, e3, e4, ?_, ?_, e5, any.o.1, ?_, ?_, fun h => ?_⟩
      · show x0 = _
        unfold spF
        rw [t2, el, cut_take _ m 0 2 (by omega)]
      · show x1 = _
        unfold dpF
        rw [t3, el, cut_take _ m 2 2 (by omega)]
      · show stV l si = _
        unfold stV
        rw [if_pos ep6, eS]
      · show stH l si = _
        unfold stH
        rw [if_pos ep6, eS]
      · have h' : pr = 17 := h
        omega
    | uOk x0 x1 x2 o1 E2 any hp hw =>
      have hE2 : E2 = 0 := by
        rcases tkW_why hw with ⟨hE', hwy⟩ | ⟨hE', -, -⟩ | ⟨hE', -, -⟩
        · exact absurd hwy.symm (ofN_ne hE')
        · exact hE'
        · exact hE'
      obtain ⟨t1, t2, t3⟩ := any.f hE2
      obtain ⟨ok, e6, e1, e2, e3, e4, e5, m, el, hm2⟩ := stf_of PFx (by omega) (.inr hp)
      have hml : load.length ≤ m := by rw [el, List.length_take]; omega
      have ep : prF l si = 17 := by rw [← e5]; exact hp
      refine ⟨ok, e6, e6, e1, e2, e3, e4, ?_, ?_, e5, by show ([] : List UInt8).length ≤ 40; simp, ?_, ?_, fun _ => rfl⟩
      · show x0 = _
        unfold spF
        rw [t2, el, cut_take _ m 0 2 (by omega)]
      · show x1 = _
        unfold dpF
        rw [t3, el, cut_take _ m 2 2 (by omega)]
      · show stV l si = _
        unfold stV
        rw [if_neg (by omega)]
        rfl
      · show stH l si = _
        unfold stH
        rw [if_neg (by omega)]
        rfl
set_option maxRecDepth 100000 in
theorem ne_flC (w : World) (s6 : Bool) (sh sl : Nat) (d6 : Bool) (dh dl sp dp pr : Nat) : (binOp .neq 29 (.agg (flC s6 sh sl d6 dh dl sp dp pr).toArray) (.agg (flC s6 sh sl d6 dh dl sp dp pr).toArray)).run Try.prog w = .ok (.bool false) w := by
  unfold flC
  go_simp
attribute [local go_sem ↓] eq_flC ne_flC

def stE (o : List UInt8) : Nat := match stampsAt o with | none => 0 | some a => num ((o.drop (a + 4)).take 4)
theorem tcpStampV (x0 x1 x2 x3 x4 x5 x6 x7 : Nat) (A1 : Option Addr) (n1 c1 : Nat) (A2 : Option Addr) (n2 c2 : Nat) (o1 : List UInt8) (w : World) (h : Rb w A1 n1 c1 o1) (hn : o1.length ≤ 40) : Calls Try.prog 28 #[.agg (tcC x0 x1 x2 x3 x4 x5 x6 x7 A1 n1 c1 A2 n2 c2).toArray] w (RetV w (.tuple #[.int .u32 ((stO o1).1 : Int), .int .u32 (stE o1 : Int), .bool (stO o1).2])) := by
  have hl := h.1
  cases hS : stampsAt o1 with
  | none =>
    rw [show stO o1 = (0, false) from by unfold stO; rw [hS], show stE o1 = 0 from by unfold stE; rw [hS]]
    exact (tcpStamp_none x0 x1 x2 x3 x4 x5 x6 x7 A1 n1 c1 A2 n2 c2 o1 w h (by omega) hS).mono fun _ _ ⟨he, bs, m, hw⟩ => ⟨bs, m, he, hw⟩
  | some a =>
    rw [show stO o1 = (num ((o1.drop a).take 4), true) from by unfold stO; rw [hS], show stE o1 = num ((o1.drop (a + 4)).take 4) from by unfold stE; rw [hS]]
    exact (tcpStamp_some x0 x1 x2 x3 x4 x5 x6 x7 A1 n1 c1 A2 n2 c2 o1 a w h (by omega) hS).mono fun _ _ ⟨he, bs, m, hw⟩ => ⟨bs, m, he, hw⟩
/-- a beginning of a whole packet tells nothing, or the same -/
theorem part_of (l : List UInt8) (p : PI) (hm : l.length ≤ 3000) (v : Nat) (hs : Bool) (hv : stV l p.si = v) (hh : stH l p.si = hs) (e1 : p.s6 = p.si) (e2 : p.d6 = p.si) (e3 : p.sh = shF l p.si) (e4 : p.sl = slF l p.si) (e5 : p.dh = dhF l p.si) (e6 : p.dl = dlF l p.si) (e7 : p.sp = spF l p.si) (e8 : p.dp = dpF l p.si) (e9 : p.pr = prF l p.si) (k : Nat) :
    ∃ (t6_ : Bool) (th tl_ : Nat) (u6 : Bool) (uh ul tp up tr tv : Nat) (ts okb : Bool), (∀ w A n c, Rb w A n c (l.take k) → Calls Try.prog 13 #[.slice A n c, .bool p.si] w (RetV w (.tuple #[.agg (qC t6_ th tl_ u6 uh ul tp up tr tv ts).toArray, .bool okb]))) ∧ (okb = false ∨ (okb = true ∧ p.s6 = t6_ ∧ p.sh = th ∧ p.sl = tl_ ∧ p.d6 = u6 ∧ p.dh = uh ∧ p.dl = ul ∧ p.sp = tp ∧ p.dp = up ∧ p.pr = tr ∧ (ts = true → hs = true ∧ v = tv))) := by
  have hlk : (l.take k).length ≤ 1000000 := by rw [List.length_take]; omega
  by_cases ok : SteOK (l.take k) p.si
  case neg => exact ⟨false, 0, 0, false, 0, 0, 0, 0, 0, 0, false, false, fun w A n c h => ste_bad _ _ hlk ok w A n c h, .inl rfl⟩
  obtain ⟨ok', b3, b4, b5, b6, b7, b8, b9, bH⟩ := ste_take l p.si k ok
  refine ⟨_, _, _, _, _, _, _, _, _, _, _, true, fun w A n c h => ste_ok _ _ hlk ok w A n c h, .inr ⟨rfl, e1, by rw [e3, b3], by rw [e4, b4], e2, by rw [e5, b5], by rw [e6, b6], by rw [e7, b7], by rw [e8, b8], by rw [e9, b9], fun h => ?_⟩⟩
  obtain ⟨c1, c2⟩ := bH h
  exact ⟨by rw [← hh]; exact c1, by rw [← hv]; exact c2.symm⟩
set_option maxHeartbeats 4000000 in
set_option maxRecDepth 100000 in
theorem steerWhole_walk (w : World) (A : Option Addr) (n c : Nat) (l : List UInt8) (at_ : Nat) (hat : at_ < 65536) (h : Rb w A n c l) (hc : c ≤ maxLen) : Calls Try.prog 7 #[.slice A n c, .int .u16 (at_ : Int)] w fun e w' => e = .returned (.bool true) ∧ Below w.heap.size w w' := by
  have HAW := Lib.hid awake29
  have hcn := h.2.1
  have hl := h.1
  simp only [maxLen] at hc
  by_cases hbig : 3000 < n
  · have d1 : decide (3000 < (n : Int)) = true := by simp only [decide_eq_true_eq]; omega
    clear hl
    go_enter Try.func7, Try.ntmps7
    go_wp2_with (go_at_call 12; refine (HAW.out _).mono ?_; rintro e w1 ⟨bs1, d1, rfl, rfl⟩)
    go_ret
    exact ⟨rfl, below_plus _ _ _⟩
  have d1 : decide (3000 < (n : Int)) = false := by simp only [decide_eq_false_iff_not]; omega
  obtain ⟨p, why, H1, H2, HF⟩ := whole A n c l w h (by omega)
  obtain ⟨di_, i1, i2⟩ := rowIn
  obtain ⟨dr_, r1_, r2_⟩ := rowRI
  obtain ⟨dq_, q1_, q2_⟩ := rowQ
  obtain ⟨df_, f1, f2⟩ := rowFl
  obtain ⟨ds_, s1_, s2_⟩ := rowSeg
  replace H1 := Lib.hid H1
  replace H2 := Lib.hid H2
  have be : Below w.heap.size w w := Below.refl _ _
  by_cases hy : why = 0
  case neg =>
    have hy1 : (why != 0) = true := bne_iff_ne.2 hy
    clear HF hl hbig hy hcn hc
    go_enter Try.func7, Try.ntmps7
    go_wp2_with fail
    refine (H2.out _ be).mono ?_
    rintro e w1 ⟨B1, m1, k1, B2, m2, k2, B3, m3, k3, B4, m4, k4, bs1, dbs1, rfl, rfl, s1, s2, s3, s4, -, -, -, -⟩
    go_upto_region 4 with (refine at_op (.store 60 (.tmp 5) (.tmp 23)) rfl ?_; refine wpList_stA (t := 60) 60 (.tmp 5) (.tmp 23) rfl rfl (p.cs B1 m1 k1 B2 m2 k2 B3 m3 k3 B4 m4 k4) (inPk (fhC false false 0 false 0 0 false 0 0 0 0 0) (tcC 0 0 0 0 0 0 0 0 none 0 0 none 0 0) (dgX 0 0 0 none 0 0) (msgC 0 0 0 0 none 0 0)) rfl (PI.one _ _ _ _ _ _ _ _ _ _ _ _ _) rfl rfl ?_ (szRI_ (by rfl)) ?_; (· refine Bk.newK _ _ _ ?_ rfl; simp [size_plus]); intro W1 hX1 gr1)
    have b1 := below_grown (Below.allocS (below_plus w bs1 dbs1) _) gr1 (by have := be.size; simp [size_plus])
    have c1_ := below_grown (Below.allocS (Below.refl _ _) _) gr1 (by simp [size_plus])
    replace be := be.trans (b1.mono be.size)
    clear b1 c1_ gr1
    generalize w.heap.size + bs1.length = g5 at *
    refine wp_region_lit ?_
    iterate 3 (refine wpList_plain rfl (fun K hK => ?_); go_simp; with_reducible refine hK _ _ ?_; clear hK K)
    iterate 10 ((with_reducible refine wpList_skip ?_ ?_); (· first | (go_simp; done) | (go_simp; intro h; cases h)); simp only [Act.put, List.setIfInBounds_toArray, List.set_cons_zero, List.set_cons_succ])
    refine wpList_plain rfl (fun K hK => ?_); go_simp; with_reducible refine hK _ _ ?_; clear hK K
    go_wp2_with (go_at_call 12; refine (HAW.out _).mono ?_; rintro e w1 ⟨bs9, d9, rfl, rfl⟩)
    go_ret
    exact ⟨rfl, belowP be _ _⟩
  by_cases hp : p.pr = 6 ∨ p.pr = 17
  case neg =>
    subst hy
    have t6 : ((p.pr : Int) != 6) = true := by rw [bne_iff_ne]; omega
    have t17 : ((p.pr : Int) != 17) = true := by rw [bne_iff_ne]; omega
    clear HF hl hbig hp hcn hc
    go_enter Try.func7, Try.ntmps7
    go_wp2_with fail
    refine (H2.out _ be).mono ?_
    rintro e w1 ⟨B1, m1, k1, B2, m2, k2, B3, m3, k3, B4, m4, k4, bs1, dbs1, rfl, rfl, s1, s2, s3, s4, -, -, -, -⟩
    go_upto_region 4 with (refine at_op (.store 60 (.tmp 5) (.tmp 23)) rfl ?_; refine wpList_stA (t := 60) 60 (.tmp 5) (.tmp 23) rfl rfl (p.cs B1 m1 k1 B2 m2 k2 B3 m3 k3 B4 m4 k4) (inPk (fhC false false 0 false 0 0 false 0 0 0 0 0) (tcC 0 0 0 0 0 0 0 0 none 0 0 none 0 0) (dgX 0 0 0 none 0 0) (msgC 0 0 0 0 none 0 0)) rfl (PI.one _ _ _ _ _ _ _ _ _ _ _ _ _) rfl rfl ?_ (szRI_ (by rfl)) ?_; (· refine Bk.newK _ _ _ ?_ rfl; simp [size_plus]); intro W1 hX1 gr1)
    have b1 := below_grown (Below.allocS (below_plus w bs1 dbs1) _) gr1 (by have := be.size; simp [size_plus])
    have c1_ := below_grown (Below.allocS (Below.refl _ _) _) gr1 (by simp [size_plus])
    replace be := be.trans (b1.mono be.size)
    clear b1 c1_ gr1
    generalize w.heap.size + bs1.length = g5 at *
    refine wp_region_lit ?_
    iterate 3 (refine wpList_plain rfl (fun K hK => ?_); go_simp; with_reducible refine hK _ _ ?_; clear hK K)
    iterate 2 (refine wpList_step (fun K hK => ?_); go_simp; with_reducible refine hK _ _ ?_; clear hK K)
    refine wpList_ld1 (t := 60) (cs := p.cs B1 m1 k1 B2 m2 k2 B3 m3 k3 B4 m4 k4) 5 (.tmp 29) rfl (by go_simp) rfl (hX1) rfl Try.underlying5 rfl ?_
    iterate 4 (refine wpList_step (fun K hK => ?_); go_simp; with_reducible refine hK _ _ ?_; clear hK K)
    refine wpList_ld1 (t := 60) (cs := p.cs B1 m1 k1 B2 m2 k2 B3 m3 k3 B4 m4 k4) 5 (.tmp 34) rfl (by go_simp) rfl (hX1) rfl Try.underlying5 rfl ?_
    iterate 2 (refine wpList_step (fun K hK => ?_); go_simp; with_reducible refine hK _ _ ?_; clear hK K)
    refine wpList_plain rfl (fun K hK => ?_); go_simp; with_reducible refine hK _ _ ?_; clear hK K
    go_wp2_with (go_at_call 12; refine (HAW.out _).mono ?_; rintro e w1 ⟨bs9, d9, rfl, rfl⟩)
    go_ret
    exact ⟨rfl, belowP be _ _⟩
  obtain ⟨ok, e1, e2, e3, e4, e5, e6, e7, e8, e9, e10, e11, e12, h17⟩ := HF hy hp
  subst hy
  have HQ0 := fun w A n c h => ste_ok l p.si (by omega) ok w A n c h
  rw [← e3, ← e4, ← e5, ← e6, ← e7, ← e8, ← e9, e11, e12] at HQ0
  have HT0 := fun (A1 : Option Addr) (n1 c1 : Nat) (A2 : Option Addr) (n2 c2 : Nat) w h => tcpStampV p.x0 p.x1 p.x2 p.x3 p.x4 p.x5 p.x6 p.x7 A1 n1 c1 A2 n2 c2 p.o1 w h e10
  obtain ⟨q, hq0⟩ : ∃ q, at_ % (n + 1) = q := ⟨_, rfl⟩
  have hqn : q ≤ n := by rw [← hq0]; have := Nat.mod_lt at_ (show 0 < n + 1 by omega); omega
  obtain ⟨t6_, th, tl_, u6, uh, ul, tp, up, tr, tv, ts, okb, HP0, hok⟩ := part_of l p (by omega) _ _ e11 e12 e1 e2 e3 e4 e5 e6 e7 e8 e9 q
  have HQ1 : ∀ w A n c, Rb w A n c l → Calls Try.prog 13 #[.slice A n c, .bool p.si] w (RetV w (.tuple #[.agg (qC p.s6 p.sh p.sl p.d6 p.dh p.dl p.sp p.dp p.pr (stO p.o1).1 (stO p.o1).2).toArray, .bool true])) := fun w A n c h => by
    rw [e1, e2]
    exact HQ0 w A n c h
  clear HQ0 HF
  generalize (stO p.o1).1 = v at *
  generalize (stO p.o1).2 = hs at *
  have HQ := Lib.hid HQ1
  have HT := Lib.hid HT0
  have HP := Lib.hid HP0
  have hqb := h.take hqn
  have hqc : q ≤ c := by omega
  have hqci : (q : Int) ≤ (c : Int) := by omega
  have hqni : (q : Int) ≤ (n : Int) := by omega
  have hq : Hid (Int.tmod (at_ : Int) ((n : Int) + 1) = (q : Int)) := Lib.hid (by rw [Int.tmod_eq_emod_of_nonneg (by omega)]; rw [← hq0]; push_cast; rfl)
  have wat : IntKind.i64.wrap (at_ : Int) = (at_ : Int) := IntWalk.i64_in _ (by omega)
  have wn1 : IntKind.i64.wrap ((n : Int) + 1) = (n : Int) + 1 := IntWalk.i64_in _ (by omega)
  have wnz : (((n : Int) + 1) == 0) = false := by rw [beq_eq_false_iff_ne]; omega
  clear HQ1 HT0 HP0 hq0 e1 e2 e3 e4 e5 e6 e7 e8 e9 e10 e11 e12 ok hl hbig hcn hc
  go_enter Try.func7, Try.ntmps7
  go_wp2_with fail
  refine (H2.out _ be).mono ?_
  rintro e w1 ⟨B1, m1, k1, B2, m2, k2, B3, m3, k3, B4, m4, k4, bs1, dbs1, rfl, rfl, s1, s2, s3, s4, -, -, -, -⟩
  go_upto_region 4 with (refine at_op (.store 60 (.tmp 5) (.tmp 23)) rfl ?_; refine wpList_stA (t := 60) 60 (.tmp 5) (.tmp 23) rfl rfl (p.cs B1 m1 k1 B2 m2 k2 B3 m3 k3 B4 m4 k4) (inPk (fhC false false 0 false 0 0 false 0 0 0 0 0) (tcC 0 0 0 0 0 0 0 0 none 0 0 none 0 0) (dgX 0 0 0 none 0 0) (msgC 0 0 0 0 none 0 0)) rfl (PI.one _ _ _ _ _ _ _ _ _ _ _ _ _) rfl rfl ?_ (szRI_ (by rfl)) ?_; (· refine Bk.newK _ _ _ ?_ rfl; simp [size_plus]); intro W1 hX1 gr1)
  have b1 := below_grown (Below.allocS (below_plus w bs1 dbs1) _) gr1 (by have := be.size; simp [size_plus])
  have c1_ := below_grown (Below.allocS (Below.refl _ _) _) gr1 (by simp [size_plus])
  replace be := be.trans (b1.mono be.size)
  clear b1 c1_ gr1
  generalize w.heap.size + bs1.length = g5 at *
  rcases hp with hp | hp
  · have t6 : ((p.pr : Int) != 6) = false := by rw [bne_eq_false_iff_eq]; omega
    have t6' : ((p.pr : Int) == 6) = true := by rw [beq_iff_eq]; omega
    clear h17 hp
    refine wp_region_lit ?_
    iterate 3 (refine wpList_plain rfl (fun K hK => ?_); go_simp; with_reducible refine hK _ _ ?_; clear hK K)
    iterate 2 (refine wpList_step (fun K hK => ?_); go_simp; with_reducible refine hK _ _ ?_; clear hK K)
    refine wpList_ld1 (t := 60) (cs := p.cs B1 m1 k1 B2 m2 k2 B3 m3 k3 B4 m4 k4) 5 (.tmp 29) rfl (by go_simp) rfl (hX1) rfl Try.underlying5 rfl ?_
    iterate 2 (refine wpList_step (fun K hK => ?_); go_simp; with_reducible refine hK _ _ ?_; clear hK K)
    iterate 4 ((with_reducible refine wpList_skip ?_ ?_); (· first | (go_simp; done) | (go_simp; intro h; cases h)); simp only [Act.put, List.setIfInBounds_toArray, List.set_cons_zero, List.set_cons_succ])
    refine wpList_step (fun K hK => ?_); go_simp; with_reducible refine hK _ _ ?_; clear hK K
    refine wpList_plain rfl (fun K hK => ?_); go_simp; with_reducible refine hK _ _ ?_; clear hK K
    go_upto_region 6 with (fail)
    go_wp2_with fail
    refine (H1.out _ be).mono ?_
    rintro e w1 ⟨A1, n1, c1, A2, n2, c2, A3, n3, c3, A4, n4, c4, bs2, dbs2, rfl, rfl, r1, r2, r3, r4, -, -, -, -⟩
    go_upto_region 7 with (refine at_op (.store 53 (.tmp 7) (.tmp 43)) rfl ?_; refine wpList_stA (t := 53) 53 (.tmp 7) (.tmp 43) rfl rfl (p.cs A1 n1 c1 A2 n2 c2 A3 n3 c3 A4 n4 c4) (inPk (fhC false false 0 false 0 0 false 0 0 0 0 0) (tcC 0 0 0 0 0 0 0 0 none 0 0 none 0 0) (dgX 0 0 0 none 0 0) (msgC 0 0 0 0 none 0 0)) rfl (PI.one _ _ _ _ _ _ _ _ _ _ _ _ _) rfl rfl ?_ (szIN_ (by rfl)) ?_; (· refine Bk.newK _ _ _ ?_ rfl; simp [size_plus]); intro W2 hX2 gr2)
    have b2 := below_grown (Below.allocS (below_plus W1 bs2 dbs2) _) gr2 (by have := be.size; simp [size_plus])
    have c2_ := below_grown (Below.allocS (Below.refl _ _) _) gr2 (by simp [size_plus])
    replace be := be.trans (b2.mono be.size)
    replace r1 := r1.later c2_
    replace hX1 := hX1.later b2
    clear b2 c2_ gr2
    generalize W1.heap.size + bs2.length = g7 at *
    go_upto_region 7 with (fail)
    refine wp_region_lit ?_
    iterate 2 (refine wpList_plain rfl (fun K hK => ?_); go_simp; with_reducible refine hK _ _ ?_; clear hK K)
    refine wpList_ld1 (t := 60) (cs := p.cs B1 m1 k1 B2 m2 k2 B3 m3 k3 B4 m4 k4) 4 (.tmp 47) rfl (by rfl) rfl (hX1) rfl Try.underlying4 rfl ?_
    refine wpList_plain rfl (fun K hK => ?_)
    go_simp
    refine (HQ.out _ _ _ _ (h.later be)).mono ?_
    rintro e w1 ⟨bs3, dbs3, rfl, rfl⟩
    with_reducible refine hK _ _ ?_
    clear hK K
    iterate 4 (refine wpList_plain rfl (fun K hK => ?_); go_simp; with_reducible refine hK _ _ ?_; clear hK K)
    refine wpList_stA (t := 32) 32 (.tmp 9) (.tmp 50) rfl rfl (qC p.s6 p.sh p.sl p.d6 p.dh p.dl p.sp p.dp p.pr v hs) (qC false 0 0 false 0 0 0 0 0 0 false) rfl (qC_one _ _ _ _ _ _ _ _ _ _ _ ) rfl rfl ?_ (szQ _ _ _ _ _ _ _ _ _ _ _ ) ?_
    · refine Bk.newK _ _ _ ?_ rfl
      simp [size_plus]
    intro W3 hX3 gr3
    have b3 := below_grown (Below.allocS (below_plus W2 bs3 dbs3) _) gr3 (by have := be.size; simp [size_plus])
    replace be := be.trans (b3.mono be.size)
    replace hX1 := hX1.later b3
    replace hX2 := hX2.later b3
    replace r1 := r1.later b3
    clear b3 gr3
    generalize W2.heap.size + bs3.length = g9 at *
    refine wpList_plain rfl (fun K hK => ?_); go_simp; with_reducible refine hK _ _ ?_; clear hK K
    go_upto_region 8 with (fail)
    refine wp_region_lit ?_
    refine wpList_plain rfl (fun K hK => ?_); go_simp; with_reducible refine hK _ _ ?_; clear hK K
    refine wpList_ldA (t := 53) (cs := p.cs A1 n1 c1 A2 n2 c2 A3 n3 c3 A4 n4 c4) 47 (.tmp 53) rfl rfl (tcC p.x0 p.x1 p.x2 p.x3 p.x4 p.x5 p.x6 p.x7 A1 n1 c1 A2 n2 c2) rfl (hX2) rfl s1_ s2_ (szSeg _ rfl) ?_
    refine wpList_plain rfl (fun K hK => ?_)
    go_simp
    refine (HT.out _ _ _ _ _ _ _ r1).mono ?_
    rintro e w1 ⟨bs4, d4, rfl, rfl⟩
    with_reducible refine hK _ _ ?_
    clear hK K
    replace be := belowP be bs4 d4
    replace hX1 := hX1.later (below_plus W3 bs4 d4)
    replace hX3 := hX3.later (below_plus W3 bs4 d4)
    generalize plus W3 bs4 d4 = W4 at *
    iterate 7 (refine wpList_plain rfl (fun K hK => ?_); go_simp; with_reducible refine hK _ _ ?_; clear hK K)
    cases hs
    · go_upto_region 9 with (fail)
      refine wp_region_lit ?_
      iterate 3 (refine wpList_plain rfl (fun K hK => ?_); go_simp; with_reducible refine hK _ _ ?_; clear hK K)
      iterate 2 (refine wpList_step (fun K hK => ?_); go_simp; with_reducible refine hK _ _ ?_; clear hK K)
      iterate 2 (refine wpList_plain rfl (fun K hK => ?_); go_simp; with_reducible refine hK _ _ ?_; clear hK K)
      refine wpList_step (fun K hK => ?_); go_simp; with_reducible refine hK _ _ ?_; clear hK K
      refine wpList_ldG (t := 32) (cs := qC p.s6 p.sh p.sl p.d6 p.dh p.dl p.sp p.dp p.pr v false) 29 (.tmp 66) rfl (by go_simp) (flC p.s6 p.sh p.sl p.d6 p.dh p.dl p.sp p.dp p.pr) rfl (hX3) rfl f1 f2 (szFl _ _ _ _ _ _ _ _ _ ) ?_
      refine wpList_step (fun K hK => ?_); go_simp; with_reducible refine hK _ _ ?_; clear hK K
      refine wpList_ldG (t := 60) (cs := p.cs B1 m1 k1 B2 m2 k2 B3 m3 k3 B4 m4 k4) 29 (.tmp 68) rfl (by go_simp) (flC p.s6 p.sh p.sl p.d6 p.dh p.dl p.sp p.dp p.pr) rfl (hX1) rfl f1 f2 (szFl _ _ _ _ _ _ _ _ _ ) ?_
      refine wpList_step (fun K hK => ?_); go_simp; with_reducible refine hK _ _ ?_; clear hK K
      iterate 2 (refine wpList_plain rfl (fun K hK => ?_); go_simp; with_reducible refine hK _ _ ?_; clear hK K)
      refine wpList_step (fun K hK => ?_); go_simp; with_reducible refine hK _ _ ?_; clear hK K
      refine wpList_ld1 (t := 32) (cs := qC p.s6 p.sh p.sl p.d6 p.dh p.dl p.sp p.dp p.pr v false) 4 (.tmp 73) rfl (by go_simp) rfl (hX3) rfl Try.underlying4 rfl ?_
      iterate 2 (refine wpList_step (fun K hK => ?_); go_simp; with_reducible refine hK _ _ ?_; clear hK K)
      iterate 4 ((with_reducible refine wpList_skip ?_ ?_); (· first | (go_simp; done) | (go_simp; intro h; cases h)); simp only [Act.put, List.setIfInBounds_toArray, List.set_cons_zero, List.set_cons_succ])
      iterate 2 (refine wpList_step (fun K hK => ?_); go_simp; with_reducible refine hK _ _ ?_; clear hK K)
      iterate 2 (refine wpList_plain rfl (fun K hK => ?_); go_simp; with_reducible refine hK _ _ ?_; clear hK K)
      refine wpList_step (fun K hK => ?_); go_simp; with_reducible refine hK _ _ ?_; clear hK K
      refine wpList_ld1 (t := 32) (cs := qC p.s6 p.sh p.sl p.d6 p.dh p.dl p.sp p.dp p.pr v false) 4 (.tmp 85) rfl (by go_simp) rfl (hX3) rfl Try.underlying4 rfl ?_
      refine wpList_step (fun K hK => ?_); go_simp; with_reducible refine hK _ _ ?_; clear hK K
      iterate 4 ((with_reducible refine wpList_skip ?_ ?_); (· first | (go_simp; done) | (go_simp; intro h; cases h)); simp only [Act.put, List.setIfInBounds_toArray, List.set_cons_zero, List.set_cons_succ])
      refine wpList_step (fun K hK => ?_); go_simp; with_reducible refine hK _ _ ?_; clear hK K
      refine wpList_plain rfl (fun K hK => ?_); go_simp; with_reducible refine hK _ _ ?_; clear hK K
      go_upto_region 11 with (fail)
      go_wp2
      refine wp_relES 15 136 [13] rfl (by kernel_rfl) (by kernel_rfl) ?_
      apply Steps.oneE (MP.eq _) 1 rfl (by decide)
      · intro o ho FA x hO hD K hK
        obtain rfl := Option.some.inj ho.symm
        clear ho
        have e0 := hO 0 (by kernel_rfl)
        simp only [eval_tmp, List.getElem?_toArray, List.getElem?_cons_succ, List.getElem?_cons_zero, Option.getD_some] at e0
        have ev0 := Lib.hid ((eval_tmp FA 0).trans e0)
        clear hO hD
        go_simp
        exact hK.out _ _ (Ex.refl _) rfl
      apply Steps.oneE (MP.eq _) 2 rfl (by decide)
      · intro o ho FA x hO hD K hK
        obtain rfl := Option.some.inj ho.symm
        clear ho
        have e1 := hO 1 (by kernel_rfl)
        simp only [eval_tmp, List.getElem?_toArray, List.getElem?_cons_succ, List.getElem?_cons_zero, Option.getD_some] at e1
        have ev1 := Lib.hid ((eval_tmp FA 1).trans e1)
        clear hO hD
        go_simp
        exact hK.out _ _ (Ex.refl _) rfl
      apply Steps.oneE (MP.eq _) 3 rfl (by decide)
      · intro o ho FA x hO hD K hK
        obtain rfl := Option.some.inj ho.symm
        clear ho
        have ev96 : FA.eval (.tmp 96) = _ := hD 1 96 (by kernel_rfl)
        have e96 := (eval_tmp FA 96).symm.trans ev96
        replace ev96 := Lib.hid ev96
        clear hO hD
        go_simp
        exact hK.out _ _ (Ex.refl _) rfl
      apply Steps.oneE (MP.eq _) 4 rfl (by decide)
      · intro o ho FA x hO hD K hK
        obtain rfl := Option.some.inj ho.symm
        clear ho
        have e0 := hO 0 (by kernel_rfl)
        simp only [eval_tmp, List.getElem?_toArray, List.getElem?_cons_succ, List.getElem?_cons_zero, Option.getD_some] at e0
        have ev0 := Lib.hid ((eval_tmp FA 0).trans e0)
        clear hO hD
        go_simp
        exact hK.out _ _ (Ex.refl _) rfl
      apply Steps.oneE (MP.eq _) 5 rfl (by decide)
      · intro o ho FA x hO hD K hK
        obtain rfl := Option.some.inj ho.symm
        clear ho
        have ev98 : FA.eval (.tmp 98) = _ := hD 3 98 (by kernel_rfl)
        have e98 := (eval_tmp FA 98).symm.trans ev98
        replace ev98 := Lib.hid ev98
        clear hO hD
        go_simp
        exact hK.out _ _ (Ex.refl _) rfl
      apply Steps.oneE (MP.eq _) 6 rfl (by decide)
      · intro o ho FA x hO hD K hK
        obtain rfl := Option.some.inj ho.symm
        clear ho
        have ev99 : FA.eval (.tmp 99) = _ := hD 4 99 (by kernel_rfl)
        have e99 := (eval_tmp FA 99).symm.trans ev99
        replace ev99 := Lib.hid ev99
        clear hO hD
        go_simp
        exact hK.out _ _ (Ex.refl _) rfl
      apply Steps.oneE (MP.eq (.int .i64 (q : Int))) 7 rfl (by decide)
      · intro o ho FA x hO hD K hK
        obtain rfl := Option.some.inj ho.symm
        clear ho
        have ev97 : FA.eval (.tmp 97) = _ := hD 2 97 (by kernel_rfl)
        have e97 := (eval_tmp FA 97).symm.trans ev97
        replace ev97 := Lib.hid ev97
        have ev100 : FA.eval (.tmp 100) = _ := hD 5 100 (by kernel_rfl)
        have e100 := (eval_tmp FA 100).symm.trans ev100
        replace ev100 := Lib.hid ev100
        clear hO hD
        go_simp
        exact hK.out _ _ (Ex.refl _) (congrArg (Value.int .i64) hq.out)
      apply Steps.oneE (MP.eq (.slice A q c)) 8 rfl (by decide)
      · intro o ho FA x hO hD K hK
        obtain rfl := Option.some.inj ho.symm
        clear ho
        have ev95 : FA.eval (.tmp 95) = _ := hD 0 95 (by kernel_rfl)
        have e95 := (eval_tmp FA 95).symm.trans ev95
        replace ev95 := Lib.hid ev95
        have ev101 : FA.eval (.tmp 101) = _ := hD 6 101 (by kernel_rfl)
        have e101 := (eval_tmp FA 101).symm.trans ev101
        replace ev101 := Lib.hid ev101
        clear hO hD
        go_simp
        exact hK.out _ _ (Ex.refl _) rfl
      apply Steps.oneE (MP.eq _) 9 rfl (by decide)
      · intro o ho FA x hO hD K hK
        obtain rfl := Option.some.inj ho.symm
        clear ho
        have e5 := hO 5 (by kernel_rfl)
        simp only [eval_tmp, List.getElem?_toArray, List.getElem?_cons_succ, List.getElem?_cons_zero, Option.getD_some] at e5
        have ev5 := Lib.hid ((eval_tmp FA 5).trans e5)
        clear hO hD
        go_simp
        exact hK.out _ _ (Ex.refl _) rfl
      apply Steps.oneE (MP.eq _) 10 rfl (by decide)
      · intro o ho FA x hO hD K hK
        obtain rfl := Option.some.inj ho.symm
        clear ho
        have ev103 : FA.eval (.tmp 103) = _ := hD 8 103 (by kernel_rfl)
        have e103 := (eval_tmp FA 103).symm.trans ev103
        replace ev103 := Lib.hid ev103
        clear hO hD
        refine wanted_if rfl ?_
        refine wp_ld1 4 (.tmp 103) rfl ev103.out (hX1.later (below_plus _ _ _)) rfl Try.underlying4 rfl ?_
        exact hK.out _ _ (Ex.refl _) rfl
      apply Steps.oneE (MP.eq (.tuple #[.agg (qC t6_ th tl_ u6 uh ul tp up tr tv ts).toArray, .bool okb])) 11 rfl (by decide)
      · intro o ho FA x hO hD K hK
        obtain rfl := Option.some.inj ho.symm
        clear ho
        have ev102 : FA.eval (.tmp 102) = _ := hD 7 102 (by kernel_rfl)
        have e102 := (eval_tmp FA 102).symm.trans ev102
        replace ev102 := Lib.hid ev102
        have ev104 : FA.eval (.tmp 104) = _ := hD 9 104 (by kernel_rfl)
        have e104 := (eval_tmp FA 104).symm.trans ev104
        replace ev104 := Lib.hid ev104
        clear hO hD
        go_simp
        refine (HP.out _ _ _ _ ((hqb.later be).plus_ _ _)).mono ?_
        rintro e w1 ⟨bs2, d2, rfl, rfl⟩
        exact hK.out _ _ (Ex.plus_ _ _ _) rfl
      apply Steps.oneE (MP.eq _) 12 rfl (by decide)
      · intro o ho FA x hO hD K hK
        obtain rfl := Option.some.inj ho.symm
        clear ho
        have ev105 : FA.eval (.tmp 105) = _ := hD 10 105 (by kernel_rfl)
        have e105 := (eval_tmp FA 105).symm.trans ev105
        replace ev105 := Lib.hid ev105
        clear hO hD
        go_simp
        exact hK.out _ _ (Ex.refl _) rfl
      apply Steps.oneE (MP.eq _) 13 rfl (by decide)
      · intro o ho FA x hO hD K hK
        obtain rfl := Option.some.inj ho.symm
        clear ho
        have ev94 : FA.eval (.tmp 94) = _ := hD 11 94 (by kernel_rfl)
        have e94 := (eval_tmp FA 94).symm.trans ev94
        replace ev94 := Lib.hid ev94
        clear hO hD
        go_simp
        exact hK.out _ _ (Ex.refl _) rfl
      apply Steps.oneP (.bool okb) 14 rfl (by decide)
      · intro o ho FA x hO hD
        obtain rfl := Option.some.inj ho.symm
        clear ho
        have ev94 : FA.eval (.tmp 94) = _ := hD 11 94 (by kernel_rfl)
        have e94 := (eval_tmp FA 94).symm.trans ev94
        replace ev94 := Lib.hid ev94
        clear hO hD
        refine .inl ⟨by simp [Region.wanted], fun w => ?_⟩
        go_simp
      apply Steps.oneE (MP.blk W4.heap.size 32 (qC false 0 0 false 0 0 0 0 0 0 false)) 15 rfl (by decide)
      · intro o ho FA x hO hD K hK
        obtain rfl := Option.some.inj ho.symm
        clear ho
        clear hO hD
        go_simp
        refine hK.out _ _ (Ex.alloc _ _) ⟨_, rfl, ?_, ?_⟩
        · simp [size_plus]
        · refine Bk.newK _ _ _ ?_ rfl
          simp [size_plus]
      refine Steps.fin_ (fun vs x hp => ?_)
      have p0 : vs 0 = _ := hp 0 (by omega)
      have p1 : vs 1 = _ := hp 1 (by omega)
      have p2 : vs 2 = _ := hp 2 (by omega)
      have p3 : vs 3 = _ := hp 3 (by omega)
      have p4 : vs 4 = _ := hp 4 (by omega)
      have p5 : vs 5 = _ := hp 5 (by omega)
      have p6 : vs 6 = _ := hp 6 (by omega)
      have p7 : vs 7 = _ := hp 7 (by omega)
      have p8 : vs 8 = _ := hp 8 (by omega)
      have p9 : vs 9 = _ := hp 9 (by omega)
      have p10 : vs 10 = _ := hp 10 (by omega)
      have p11 : vs 11 = _ := hp 11 (by omega)
      have p12 : vs 12 = _ := hp 12 (by omega)
      have p13 : vs 13 = _ := hp 13 (by omega)
      have p14 := hp 14 (by omega)
      clear hp
      simp only [List.take_succ_cons, List.take_zero, List.drop_succ_cons, List.drop_zero, putAll, Nat.zero_add, Nat.reduceAdd, Act.put, List.setIfInBounds_toArray, List.set_cons_zero, List.set_cons_succ, p0, p1, p2, p3, p4, p5, p6, p7, p8, p9, p10, p11, p12, p13]
      clear p0 p1 p2 p3 p4 p5 p6 p7 p8 p9 p10 p11 p12 p13
      generalize vs 14 = y14 at *
      clear vs
      obtain ⟨gp, rfl, hgp, hbp⟩ := p14
      go_upto_region 12 with (refine at_op (.store 32 (.tmp 14) (.tmp 106)) rfl ?_; refine wpList_stA (t := 32) 32 (.tmp 14) (.tmp 106) rfl rfl (qC t6_ th tl_ u6 uh ul tp up tr tv ts) (qC false 0 0 false 0 0 0 0 0 0 false) rfl (qC_one _ _ _ _ _ _ _ _ _ _ _ ) rfl rfl hbp (szQ _ _ _ _ _ _ _ _ _ _ _ ) ?_; intro W5 hX5 gr5)
      refine NoPanic.normal ?_
      have b5 := below_grown (below_plus W4 x.bs x.d) gr5 hgp
      replace be := be.trans (b5.mono be.size)
      replace hX3 := hX3.later b5
      clear b5 gr5 hbp hX1
      go_upto_region 12 with (fail)
      rcases hok with rfl | ⟨rfl, rfl, rfl, rfl, rfl, rfl, rfl, rfl, rfl, rfl, hst⟩
      · refine wp_region_lit ?_
        iterate 3 (refine wpList_plain rfl (fun K hK => ?_); go_simp; with_reducible refine hK _ _ ?_; clear hK K)
        iterate 21 ((with_reducible refine wpList_skip ?_ ?_); (· first | (go_simp; done) | (go_simp; intro h; cases h)); simp only [Act.put, List.setIfInBounds_toArray, List.set_cons_zero, List.set_cons_succ])
        iterate 2 (refine wpList_plain rfl (fun K hK => ?_); go_simp; with_reducible refine hK _ _ ?_; clear hK K)
        refine wpList_step (fun K hK => ?_)
        go_simp
        refine (HAW.out _).mono ?_
        rintro e w1 ⟨b9, d9, rfl, rfl⟩
        with_reducible refine hK _ _ ?_
        clear hK K
        iterate 2 (refine wpList_plain rfl (fun K hK => ?_); go_simp; with_reducible refine hK _ _ ?_; clear hK K)
        go_wp2
        go_ret
        exact ⟨rfl, belowP be _ _⟩
      · cases ts
        · refine wp_region_lit ?_
          iterate 3 (refine wpList_plain rfl (fun K hK => ?_); go_simp; with_reducible refine hK _ _ ?_; clear hK K)
          refine wpList_step (fun K hK => ?_); go_simp; with_reducible refine hK _ _ ?_; clear hK K
          refine wpList_ldG (t := 32) (cs := qC p.s6 p.sh p.sl p.d6 p.dh p.dl p.sp p.dp p.pr tv false) 29 (.tmp 111) rfl (by go_simp) (flC p.s6 p.sh p.sl p.d6 p.dh p.dl p.sp p.dp p.pr) rfl (hX5) rfl f1 f2 (szFl _ _ _ _ _ _ _ _ _ ) ?_
          refine wpList_step (fun K hK => ?_); go_simp; with_reducible refine hK _ _ ?_; clear hK K
          refine wpList_ldG (t := 32) (cs := qC p.s6 p.sh p.sl p.d6 p.dh p.dl p.sp p.dp p.pr v false) 29 (.tmp 113) rfl (by go_simp) (flC p.s6 p.sh p.sl p.d6 p.dh p.dl p.sp p.dp p.pr) rfl (hX3) rfl f1 f2 (szFl _ _ _ _ _ _ _ _ _ ) ?_
          iterate 3 (refine wpList_step (fun K hK => ?_); go_simp; with_reducible refine hK _ _ ?_; clear hK K)
          refine wpList_ld1 (t := 32) (cs := qC p.s6 p.sh p.sl p.d6 p.dh p.dl p.sp p.dp p.pr tv false) 4 (.tmp 117) rfl (by go_simp) rfl (hX5) rfl Try.underlying4 rfl ?_
          iterate 2 (refine wpList_step (fun K hK => ?_); go_simp; with_reducible refine hK _ _ ?_; clear hK K)
          iterate 9 ((with_reducible refine wpList_skip ?_ ?_); (· first | (go_simp; done) | (go_simp; intro h; cases h)); simp only [Act.put, List.setIfInBounds_toArray, List.set_cons_zero, List.set_cons_succ])
          iterate 2 (refine wpList_step (fun K hK => ?_); go_simp; with_reducible refine hK _ _ ?_; clear hK K)
          iterate 2 (refine wpList_plain rfl (fun K hK => ?_); go_simp; with_reducible refine hK _ _ ?_; clear hK K)
          refine wpList_step (fun K hK => ?_)
          go_simp
          refine (HAW.out _).mono ?_
          rintro e w1 ⟨b9, d9, rfl, rfl⟩
          with_reducible refine hK _ _ ?_
          clear hK K
          iterate 2 (refine wpList_plain rfl (fun K hK => ?_); go_simp; with_reducible refine hK _ _ ?_; clear hK K)
          go_wp2
          go_ret
          exact ⟨rfl, belowP be _ _⟩
        · exact absurd (hst rfl).1 (by decide)
    · go_upto_region 9 with (fail)
      refine wp_region_lit ?_
      iterate 3 (refine wpList_plain rfl (fun K hK => ?_); go_simp; with_reducible refine hK _ _ ?_; clear hK K)
      iterate 2 (refine wpList_step (fun K hK => ?_); go_simp; with_reducible refine hK _ _ ?_; clear hK K)
      iterate 2 (refine wpList_plain rfl (fun K hK => ?_); go_simp; with_reducible refine hK _ _ ?_; clear hK K)
      refine wpList_step (fun K hK => ?_); go_simp; with_reducible refine hK _ _ ?_; clear hK K
      refine wpList_ldG (t := 32) (cs := qC p.s6 p.sh p.sl p.d6 p.dh p.dl p.sp p.dp p.pr v true) 29 (.tmp 66) rfl (by go_simp) (flC p.s6 p.sh p.sl p.d6 p.dh p.dl p.sp p.dp p.pr) rfl (hX3) rfl f1 f2 (szFl _ _ _ _ _ _ _ _ _ ) ?_
      refine wpList_step (fun K hK => ?_); go_simp; with_reducible refine hK _ _ ?_; clear hK K
      refine wpList_ldG (t := 60) (cs := p.cs B1 m1 k1 B2 m2 k2 B3 m3 k3 B4 m4 k4) 29 (.tmp 68) rfl (by go_simp) (flC p.s6 p.sh p.sl p.d6 p.dh p.dl p.sp p.dp p.pr) rfl (hX1) rfl f1 f2 (szFl _ _ _ _ _ _ _ _ _ ) ?_
      refine wpList_step (fun K hK => ?_); go_simp; with_reducible refine hK _ _ ?_; clear hK K
      iterate 2 (refine wpList_plain rfl (fun K hK => ?_); go_simp; with_reducible refine hK _ _ ?_; clear hK K)
      refine wpList_step (fun K hK => ?_); go_simp; with_reducible refine hK _ _ ?_; clear hK K
      refine wpList_ld1 (t := 32) (cs := qC p.s6 p.sh p.sl p.d6 p.dh p.dl p.sp p.dp p.pr v true) 4 (.tmp 73) rfl (by go_simp) rfl (hX3) rfl Try.underlying4 rfl ?_
      iterate 4 (refine wpList_step (fun K hK => ?_); go_simp; with_reducible refine hK _ _ ?_; clear hK K)
      refine wpList_ld1 (t := 60) (cs := p.cs B1 m1 k1 B2 m2 k2 B3 m3 k3 B4 m4 k4) 5 (.tmp 78) rfl (by go_simp) rfl (hX1) rfl Try.underlying5 rfl ?_
      iterate 3 (refine wpList_step (fun K hK => ?_); go_simp; with_reducible refine hK _ _ ?_; clear hK K)
      iterate 2 (refine wpList_plain rfl (fun K hK => ?_); go_simp; with_reducible refine hK _ _ ?_; clear hK K)
      refine wpList_step (fun K hK => ?_); go_simp; with_reducible refine hK _ _ ?_; clear hK K
      refine wpList_ld1 (t := 32) (cs := qC p.s6 p.sh p.sl p.d6 p.dh p.dl p.sp p.dp p.pr v true) 4 (.tmp 85) rfl (by go_simp) rfl (hX3) rfl Try.underlying4 rfl ?_
      iterate 2 (refine wpList_step (fun K hK => ?_); go_simp; with_reducible refine hK _ _ ?_; clear hK K)
      refine wpList_ld1 (t := 32) (cs := qC p.s6 p.sh p.sl p.d6 p.dh p.dl p.sp p.dp p.pr v true) 30 (.tmp 88) rfl (by go_simp) rfl (hX3) rfl Try.underlying30 rfl ?_
      iterate 3 (refine wpList_step (fun K hK => ?_); go_simp; with_reducible refine hK _ _ ?_; clear hK K)
      refine wpList_plain rfl (fun K hK => ?_); go_simp; with_reducible refine hK _ _ ?_; clear hK K
      go_upto_region 11 with (fail)
      go_wp2
      refine wp_relES 15 136 [13] rfl (by kernel_rfl) (by kernel_rfl) ?_
      apply Steps.oneE (MP.eq _) 1 rfl (by decide)
      · intro o ho FA x hO hD K hK
        obtain rfl := Option.some.inj ho.symm
        clear ho
        have e0 := hO 0 (by kernel_rfl)
        simp only [eval_tmp, List.getElem?_toArray, List.getElem?_cons_succ, List.getElem?_cons_zero, Option.getD_some] at e0
        have ev0 := Lib.hid ((eval_tmp FA 0).trans e0)
        clear hO hD
        go_simp
        exact hK.out _ _ (Ex.refl _) rfl
      apply Steps.oneE (MP.eq _) 2 rfl (by decide)
      · intro o ho FA x hO hD K hK
        obtain rfl := Option.some.inj ho.symm
        clear ho
        have e1 := hO 1 (by kernel_rfl)
        simp only [eval_tmp, List.getElem?_toArray, List.getElem?_cons_succ, List.getElem?_cons_zero, Option.getD_some] at e1
        have ev1 := Lib.hid ((eval_tmp FA 1).trans e1)
        clear hO hD
        go_simp
        exact hK.out _ _ (Ex.refl _) rfl
      apply Steps.oneE (MP.eq _) 3 rfl (by decide)
      · intro o ho FA x hO hD K hK
        obtain rfl := Option.some.inj ho.symm
        clear ho
        have ev96 : FA.eval (.tmp 96) = _ := hD 1 96 (by kernel_rfl)
        have e96 := (eval_tmp FA 96).symm.trans ev96
        replace ev96 := Lib.hid ev96
        clear hO hD
        go_simp
        exact hK.out _ _ (Ex.refl _) rfl
      apply Steps.oneE (MP.eq _) 4 rfl (by decide)
      · intro o ho FA x hO hD K hK
        obtain rfl := Option.some.inj ho.symm
        clear ho
        have e0 := hO 0 (by kernel_rfl)
        simp only [eval_tmp, List.getElem?_toArray, List.getElem?_cons_succ, List.getElem?_cons_zero, Option.getD_some] at e0
        have ev0 := Lib.hid ((eval_tmp FA 0).trans e0)
        clear hO hD
        go_simp
        exact hK.out _ _ (Ex.refl _) rfl
      apply Steps.oneE (MP.eq _) 5 rfl (by decide)
      · intro o ho FA x hO hD K hK
        obtain rfl := Option.some.inj ho.symm
        clear ho
        have ev98 : FA.eval (.tmp 98) = _ := hD 3 98 (by kernel_rfl)
        have e98 := (eval_tmp FA 98).symm.trans ev98
        replace ev98 := Lib.hid ev98
        clear hO hD
        go_simp
        exact hK.out _ _ (Ex.refl _) rfl
      apply Steps.oneE (MP.eq _) 6 rfl (by decide)
      · intro o ho FA x hO hD K hK
        obtain rfl := Option.some.inj ho.symm
        clear ho
        have ev99 : FA.eval (.tmp 99) = _ := hD 4 99 (by kernel_rfl)
        have e99 := (eval_tmp FA 99).symm.trans ev99
        replace ev99 := Lib.hid ev99
        clear hO hD
        go_simp
        exact hK.out _ _ (Ex.refl _) rfl
      apply Steps.oneE (MP.eq (.int .i64 (q : Int))) 7 rfl (by decide)
      · intro o ho FA x hO hD K hK
        obtain rfl := Option.some.inj ho.symm
        clear ho
        have ev97 : FA.eval (.tmp 97) = _ := hD 2 97 (by kernel_rfl)
        have e97 := (eval_tmp FA 97).symm.trans ev97
        replace ev97 := Lib.hid ev97
        have ev100 : FA.eval (.tmp 100) = _ := hD 5 100 (by kernel_rfl)
        have e100 := (eval_tmp FA 100).symm.trans ev100
        replace ev100 := Lib.hid ev100
        clear hO hD
        go_simp
        exact hK.out _ _ (Ex.refl _) (congrArg (Value.int .i64) hq.out)
      apply Steps.oneE (MP.eq (.slice A q c)) 8 rfl (by decide)
      · intro o ho FA x hO hD K hK
        obtain rfl := Option.some.inj ho.symm
        clear ho
        have ev95 : FA.eval (.tmp 95) = _ := hD 0 95 (by kernel_rfl)
        have e95 := (eval_tmp FA 95).symm.trans ev95
        replace ev95 := Lib.hid ev95
        have ev101 : FA.eval (.tmp 101) = _ := hD 6 101 (by kernel_rfl)
        have e101 := (eval_tmp FA 101).symm.trans ev101
        replace ev101 := Lib.hid ev101
        clear hO hD
        go_simp
        exact hK.out _ _ (Ex.refl _) rfl
      apply Steps.oneE (MP.eq _) 9 rfl (by decide)
      · intro o ho FA x hO hD K hK
        obtain rfl := Option.some.inj ho.symm
        clear ho
        have e5 := hO 5 (by kernel_rfl)
        simp only [eval_tmp, List.getElem?_toArray, List.getElem?_cons_succ, List.getElem?_cons_zero, Option.getD_some] at e5
        have ev5 := Lib.hid ((eval_tmp FA 5).trans e5)
        clear hO hD
        go_simp
        exact hK.out _ _ (Ex.refl _) rfl
      apply Steps.oneE (MP.eq _) 10 rfl (by decide)
      · intro o ho FA x hO hD K hK
        obtain rfl := Option.some.inj ho.symm
        clear ho
        have ev103 : FA.eval (.tmp 103) = _ := hD 8 103 (by kernel_rfl)
        have e103 := (eval_tmp FA 103).symm.trans ev103
        replace ev103 := Lib.hid ev103
        clear hO hD
        refine wanted_if rfl ?_
        refine wp_ld1 4 (.tmp 103) rfl ev103.out (hX1.later (below_plus _ _ _)) rfl Try.underlying4 rfl ?_
        exact hK.out _ _ (Ex.refl _) rfl
      apply Steps.oneE (MP.eq (.tuple #[.agg (qC t6_ th tl_ u6 uh ul tp up tr tv ts).toArray, .bool okb])) 11 rfl (by decide)
      · intro o ho FA x hO hD K hK
        obtain rfl := Option.some.inj ho.symm
        clear ho
        have ev102 : FA.eval (.tmp 102) = _ := hD 7 102 (by kernel_rfl)
        have e102 := (eval_tmp FA 102).symm.trans ev102
        replace ev102 := Lib.hid ev102
        have ev104 : FA.eval (.tmp 104) = _ := hD 9 104 (by kernel_rfl)
        have e104 := (eval_tmp FA 104).symm.trans ev104
        replace ev104 := Lib.hid ev104
        clear hO hD
        go_simp
        refine (HP.out _ _ _ _ ((hqb.later be).plus_ _ _)).mono ?_
        rintro e w1 ⟨bs2, d2, rfl, rfl⟩
        exact hK.out _ _ (Ex.plus_ _ _ _) rfl
      apply Steps.oneE (MP.eq _) 12 rfl (by decide)
      · intro o ho FA x hO hD K hK
        obtain rfl := Option.some.inj ho.symm
        clear ho
        have ev105 : FA.eval (.tmp 105) = _ := hD 10 105 (by kernel_rfl)
        have e105 := (eval_tmp FA 105).symm.trans ev105
        replace ev105 := Lib.hid ev105
        clear hO hD
        go_simp
        exact hK.out _ _ (Ex.refl _) rfl
      apply Steps.oneE (MP.eq _) 13 rfl (by decide)
      · intro o ho FA x hO hD K hK
        obtain rfl := Option.some.inj ho.symm
        clear ho
        have ev94 : FA.eval (.tmp 94) = _ := hD 11 94 (by kernel_rfl)
        have e94 := (eval_tmp FA 94).symm.trans ev94
        replace ev94 := Lib.hid ev94
        clear hO hD
        go_simp
        exact hK.out _ _ (Ex.refl _) rfl
      apply Steps.oneP (.bool okb) 14 rfl (by decide)
      · intro o ho FA x hO hD
        obtain rfl := Option.some.inj ho.symm
        clear ho
        have ev94 : FA.eval (.tmp 94) = _ := hD 11 94 (by kernel_rfl)
        have e94 := (eval_tmp FA 94).symm.trans ev94
        replace ev94 := Lib.hid ev94
        clear hO hD
        refine .inl ⟨by simp [Region.wanted], fun w => ?_⟩
        go_simp
      apply Steps.oneE (MP.blk W4.heap.size 32 (qC false 0 0 false 0 0 0 0 0 0 false)) 15 rfl (by decide)
      · intro o ho FA x hO hD K hK
        obtain rfl := Option.some.inj ho.symm
        clear ho
        clear hO hD
        go_simp
        refine hK.out _ _ (Ex.alloc _ _) ⟨_, rfl, ?_, ?_⟩
        · simp [size_plus]
        · refine Bk.newK _ _ _ ?_ rfl
          simp [size_plus]
      refine Steps.fin_ (fun vs x hp => ?_)
      have p0 : vs 0 = _ := hp 0 (by omega)
      have p1 : vs 1 = _ := hp 1 (by omega)
      have p2 : vs 2 = _ := hp 2 (by omega)
      have p3 : vs 3 = _ := hp 3 (by omega)
      have p4 : vs 4 = _ := hp 4 (by omega)
      have p5 : vs 5 = _ := hp 5 (by omega)
      have p6 : vs 6 = _ := hp 6 (by omega)
      have p7 : vs 7 = _ := hp 7 (by omega)
      have p8 : vs 8 = _ := hp 8 (by omega)
      have p9 : vs 9 = _ := hp 9 (by omega)
      have p10 : vs 10 = _ := hp 10 (by omega)
      have p11 : vs 11 = _ := hp 11 (by omega)
      have p12 : vs 12 = _ := hp 12 (by omega)
      have p13 : vs 13 = _ := hp 13 (by omega)
      have p14 := hp 14 (by omega)
      clear hp
      simp only [List.take_succ_cons, List.take_zero, List.drop_succ_cons, List.drop_zero, putAll, Nat.zero_add, Nat.reduceAdd, Act.put, List.setIfInBounds_toArray, List.set_cons_zero, List.set_cons_succ, p0, p1, p2, p3, p4, p5, p6, p7, p8, p9, p10, p11, p12, p13]
      clear p0 p1 p2 p3 p4 p5 p6 p7 p8 p9 p10 p11 p12 p13
      generalize vs 14 = y14 at *
      clear vs
      obtain ⟨gp, rfl, hgp, hbp⟩ := p14
      go_upto_region 12 with (refine at_op (.store 32 (.tmp 14) (.tmp 106)) rfl ?_; refine wpList_stA (t := 32) 32 (.tmp 14) (.tmp 106) rfl rfl (qC t6_ th tl_ u6 uh ul tp up tr tv ts) (qC false 0 0 false 0 0 0 0 0 0 false) rfl (qC_one _ _ _ _ _ _ _ _ _ _ _ ) rfl rfl hbp (szQ _ _ _ _ _ _ _ _ _ _ _ ) ?_; intro W5 hX5 gr5)
      refine NoPanic.normal ?_
      have b5 := below_grown (below_plus W4 x.bs x.d) gr5 hgp
      replace be := be.trans (b5.mono be.size)
      replace hX3 := hX3.later b5
      clear b5 gr5 hbp hX1
      go_upto_region 12 with (fail)
      rcases hok with rfl | ⟨rfl, rfl, rfl, rfl, rfl, rfl, rfl, rfl, rfl, rfl, hst⟩
      · refine wp_region_lit ?_
        iterate 3 (refine wpList_plain rfl (fun K hK => ?_); go_simp; with_reducible refine hK _ _ ?_; clear hK K)
        iterate 21 ((with_reducible refine wpList_skip ?_ ?_); (· first | (go_simp; done) | (go_simp; intro h; cases h)); simp only [Act.put, List.setIfInBounds_toArray, List.set_cons_zero, List.set_cons_succ])
        iterate 2 (refine wpList_plain rfl (fun K hK => ?_); go_simp; with_reducible refine hK _ _ ?_; clear hK K)
        refine wpList_step (fun K hK => ?_)
        go_simp
        refine (HAW.out _).mono ?_
        rintro e w1 ⟨b9, d9, rfl, rfl⟩
        with_reducible refine hK _ _ ?_
        clear hK K
        iterate 2 (refine wpList_plain rfl (fun K hK => ?_); go_simp; with_reducible refine hK _ _ ?_; clear hK K)
        go_wp2
        go_ret
        exact ⟨rfl, belowP be _ _⟩
      · cases ts
        · refine wp_region_lit ?_
          iterate 3 (refine wpList_plain rfl (fun K hK => ?_); go_simp; with_reducible refine hK _ _ ?_; clear hK K)
          refine wpList_step (fun K hK => ?_); go_simp; with_reducible refine hK _ _ ?_; clear hK K
          refine wpList_ldG (t := 32) (cs := qC p.s6 p.sh p.sl p.d6 p.dh p.dl p.sp p.dp p.pr tv false) 29 (.tmp 111) rfl (by go_simp) (flC p.s6 p.sh p.sl p.d6 p.dh p.dl p.sp p.dp p.pr) rfl (hX5) rfl f1 f2 (szFl _ _ _ _ _ _ _ _ _ ) ?_
          refine wpList_step (fun K hK => ?_); go_simp; with_reducible refine hK _ _ ?_; clear hK K
          refine wpList_ldG (t := 32) (cs := qC p.s6 p.sh p.sl p.d6 p.dh p.dl p.sp p.dp p.pr v true) 29 (.tmp 113) rfl (by go_simp) (flC p.s6 p.sh p.sl p.d6 p.dh p.dl p.sp p.dp p.pr) rfl (hX3) rfl f1 f2 (szFl _ _ _ _ _ _ _ _ _ ) ?_
          iterate 3 (refine wpList_step (fun K hK => ?_); go_simp; with_reducible refine hK _ _ ?_; clear hK K)
          refine wpList_ld1 (t := 32) (cs := qC p.s6 p.sh p.sl p.d6 p.dh p.dl p.sp p.dp p.pr tv false) 4 (.tmp 117) rfl (by go_simp) rfl (hX5) rfl Try.underlying4 rfl ?_
          iterate 2 (refine wpList_step (fun K hK => ?_); go_simp; with_reducible refine hK _ _ ?_; clear hK K)
          iterate 9 ((with_reducible refine wpList_skip ?_ ?_); (· first | (go_simp; done) | (go_simp; intro h; cases h)); simp only [Act.put, List.setIfInBounds_toArray, List.set_cons_zero, List.set_cons_succ])
          iterate 2 (refine wpList_step (fun K hK => ?_); go_simp; with_reducible refine hK _ _ ?_; clear hK K)
          iterate 2 (refine wpList_plain rfl (fun K hK => ?_); go_simp; with_reducible refine hK _ _ ?_; clear hK K)
          refine wpList_step (fun K hK => ?_)
          go_simp
          refine (HAW.out _).mono ?_
          rintro e w1 ⟨b9, d9, rfl, rfl⟩
          with_reducible refine hK _ _ ?_
          clear hK K
          iterate 2 (refine wpList_plain rfl (fun K hK => ?_); go_simp; with_reducible refine hK _ _ ?_; clear hK K)
          go_wp2
          go_ret
          exact ⟨rfl, belowP be _ _⟩
        · obtain ⟨-, rfl⟩ := hst rfl
          refine wp_region_lit ?_
          iterate 3 (refine wpList_plain rfl (fun K hK => ?_); go_simp; with_reducible refine hK _ _ ?_; clear hK K)
          refine wpList_step (fun K hK => ?_); go_simp; with_reducible refine hK _ _ ?_; clear hK K
          refine wpList_ldG (t := 32) (cs := qC p.s6 p.sh p.sl p.d6 p.dh p.dl p.sp p.dp p.pr v true) 29 (.tmp 111) rfl (by go_simp) (flC p.s6 p.sh p.sl p.d6 p.dh p.dl p.sp p.dp p.pr) rfl (hX5) rfl f1 f2 (szFl _ _ _ _ _ _ _ _ _ ) ?_
          refine wpList_step (fun K hK => ?_); go_simp; with_reducible refine hK _ _ ?_; clear hK K
          refine wpList_ldG (t := 32) (cs := qC p.s6 p.sh p.sl p.d6 p.dh p.dl p.sp p.dp p.pr v true) 29 (.tmp 113) rfl (by go_simp) (flC p.s6 p.sh p.sl p.d6 p.dh p.dl p.sp p.dp p.pr) rfl (hX3) rfl f1 f2 (szFl _ _ _ _ _ _ _ _ _ ) ?_
          iterate 3 (refine wpList_step (fun K hK => ?_); go_simp; with_reducible refine hK _ _ ?_; clear hK K)
          refine wpList_ld1 (t := 32) (cs := qC p.s6 p.sh p.sl p.d6 p.dh p.dl p.sp p.dp p.pr v true) 4 (.tmp 117) rfl (by go_simp) rfl (hX5) rfl Try.underlying4 rfl ?_
          iterate 3 (refine wpList_step (fun K hK => ?_); go_simp; with_reducible refine hK _ _ ?_; clear hK K)
          refine wpList_ld1 (t := 32) (cs := qC p.s6 p.sh p.sl p.d6 p.dh p.dl p.sp p.dp p.pr v true) 4 (.tmp 121) rfl (by go_simp) rfl (hX3) rfl Try.underlying4 rfl ?_
          iterate 2 (refine wpList_step (fun K hK => ?_); go_simp; with_reducible refine hK _ _ ?_; clear hK K)
          refine wpList_ld1 (t := 32) (cs := qC p.s6 p.sh p.sl p.d6 p.dh p.dl p.sp p.dp p.pr v true) 30 (.tmp 124) rfl (by go_simp) rfl (hX5) rfl Try.underlying30 rfl ?_
          refine wpList_step (fun K hK => ?_); go_simp; with_reducible refine hK _ _ ?_; clear hK K
          refine wpList_ld1 (t := 32) (cs := qC p.s6 p.sh p.sl p.d6 p.dh p.dl p.sp p.dp p.pr v true) 30 (.tmp 126) rfl (by go_simp) rfl (hX3) rfl Try.underlying30 rfl ?_
          iterate 4 (refine wpList_step (fun K hK => ?_); go_simp; with_reducible refine hK _ _ ?_; clear hK K)
          iterate 2 (refine wpList_plain rfl (fun K hK => ?_); go_simp; with_reducible refine hK _ _ ?_; clear hK K)
          refine wpList_step (fun K hK => ?_)
          go_simp
          refine (HAW.out _).mono ?_
          rintro e w1 ⟨b9, d9, rfl, rfl⟩
          with_reducible refine hK _ _ ?_
          clear hK K
          iterate 2 (refine wpList_plain rfl (fun K hK => ?_); go_simp; with_reducible refine hK _ _ ?_; clear hK K)
          go_wp2
          go_ret
          exact ⟨rfl, belowP be _ _⟩
  · have t6 : ((p.pr : Int) != 6) = true := by rw [bne_iff_ne]; omega
    have t17 : ((p.pr : Int) != 17) = false := by rw [bne_eq_false_iff_eq]; omega
    have h17' := h17 hp
    clear h17 hp
    subst h17'
    refine wp_region_lit ?_
    iterate 3 (refine wpList_plain rfl (fun K hK => ?_); go_simp; with_reducible refine hK _ _ ?_; clear hK K)
    iterate 2 (refine wpList_step (fun K hK => ?_); go_simp; with_reducible refine hK _ _ ?_; clear hK K)
    refine wpList_ld1 (t := 60) (cs := p.cs B1 m1 k1 B2 m2 k2 B3 m3 k3 B4 m4 k4) 5 (.tmp 29) rfl (by go_simp) rfl (hX1) rfl Try.underlying5 rfl ?_
    iterate 4 (refine wpList_step (fun K hK => ?_); go_simp; with_reducible refine hK _ _ ?_; clear hK K)
    refine wpList_ld1 (t := 60) (cs := p.cs B1 m1 k1 B2 m2 k2 B3 m3 k3 B4 m4 k4) 5 (.tmp 34) rfl (by go_simp) rfl (hX1) rfl Try.underlying5 rfl ?_
    iterate 2 (refine wpList_step (fun K hK => ?_); go_simp; with_reducible refine hK _ _ ?_; clear hK K)
    refine wpList_plain rfl (fun K hK => ?_); go_simp; with_reducible refine hK _ _ ?_; clear hK K
    go_upto_region 6 with (fail)
    go_wp2_with fail
    refine (H1.out _ be).mono ?_
    rintro e w1 ⟨A1, n1, c1, A2, n2, c2, A3, n3, c3, A4, n4, c4, bs2, dbs2, rfl, rfl, r1, r2, r3, r4, -, -, -, -⟩
    go_upto_region 7 with (refine at_op (.store 53 (.tmp 7) (.tmp 43)) rfl ?_; refine wpList_stA (t := 53) 53 (.tmp 7) (.tmp 43) rfl rfl (p.cs A1 n1 c1 A2 n2 c2 A3 n3 c3 A4 n4 c4) (inPk (fhC false false 0 false 0 0 false 0 0 0 0 0) (tcC 0 0 0 0 0 0 0 0 none 0 0 none 0 0) (dgX 0 0 0 none 0 0) (msgC 0 0 0 0 none 0 0)) rfl (PI.one _ _ _ _ _ _ _ _ _ _ _ _ _) rfl rfl ?_ (szIN_ (by rfl)) ?_; (· refine Bk.newK _ _ _ ?_ rfl; simp [size_plus]); intro W2 hX2 gr2)
    have b2 := below_grown (Below.allocS (below_plus W1 bs2 dbs2) _) gr2 (by have := be.size; simp [size_plus])
    have c2_ := below_grown (Below.allocS (Below.refl _ _) _) gr2 (by simp [size_plus])
    replace be := be.trans (b2.mono be.size)
    replace r1 := r1.later c2_
    replace hX1 := hX1.later b2
    clear b2 c2_ gr2
    generalize W1.heap.size + bs2.length = g7 at *
    go_upto_region 7 with (fail)
    refine wp_region_lit ?_
    iterate 2 (refine wpList_plain rfl (fun K hK => ?_); go_simp; with_reducible refine hK _ _ ?_; clear hK K)
    refine wpList_ld1 (t := 60) (cs := p.cs B1 m1 k1 B2 m2 k2 B3 m3 k3 B4 m4 k4) 4 (.tmp 47) rfl (by rfl) rfl (hX1) rfl Try.underlying4 rfl ?_
    refine wpList_plain rfl (fun K hK => ?_)
    go_simp
    refine (HQ.out _ _ _ _ (h.later be)).mono ?_
    rintro e w1 ⟨bs3, dbs3, rfl, rfl⟩
    with_reducible refine hK _ _ ?_
    clear hK K
    iterate 4 (refine wpList_plain rfl (fun K hK => ?_); go_simp; with_reducible refine hK _ _ ?_; clear hK K)
    refine wpList_stA (t := 32) 32 (.tmp 9) (.tmp 50) rfl rfl (qC p.s6 p.sh p.sl p.d6 p.dh p.dl p.sp p.dp p.pr v false) (qC false 0 0 false 0 0 0 0 0 0 false) rfl (qC_one _ _ _ _ _ _ _ _ _ _ _ ) rfl rfl ?_ (szQ _ _ _ _ _ _ _ _ _ _ _ ) ?_
    · refine Bk.newK _ _ _ ?_ rfl
      simp [size_plus]
    intro W3 hX3 gr3
    have b3 := below_grown (Below.allocS (below_plus W2 bs3 dbs3) _) gr3 (by have := be.size; simp [size_plus])
    replace be := be.trans (b3.mono be.size)
    replace hX1 := hX1.later b3
    replace hX2 := hX2.later b3
    replace r1 := r1.later b3
    clear b3 gr3
    generalize W2.heap.size + bs3.length = g9 at *
    refine wpList_plain rfl (fun K hK => ?_); go_simp; with_reducible refine hK _ _ ?_; clear hK K
    go_upto_region 8 with (fail)
    refine wp_region_lit ?_
    refine wpList_plain rfl (fun K hK => ?_); go_simp; with_reducible refine hK _ _ ?_; clear hK K
    refine wpList_ldA (t := 53) (cs := p.cs A1 n1 c1 A2 n2 c2 A3 n3 c3 A4 n4 c4) 47 (.tmp 53) rfl rfl (tcC p.x0 p.x1 p.x2 p.x3 p.x4 p.x5 p.x6 p.x7 A1 n1 c1 A2 n2 c2) rfl (hX2) rfl s1_ s2_ (szSeg _ rfl) ?_
    refine wpList_plain rfl (fun K hK => ?_)
    go_simp
    refine (HT.out _ _ _ _ _ _ _ r1).mono ?_
    rintro e w1 ⟨bs4, d4, rfl, rfl⟩
    with_reducible refine hK _ _ ?_
    clear hK K
    replace be := belowP be bs4 d4
    replace hX1 := hX1.later (below_plus W3 bs4 d4)
    replace hX3 := hX3.later (below_plus W3 bs4 d4)
    generalize plus W3 bs4 d4 = W4 at *
    iterate 7 (refine wpList_plain rfl (fun K hK => ?_); go_simp; with_reducible refine hK _ _ ?_; clear hK K)
    go_upto_region 9 with (fail)
    refine wp_region_lit ?_
    iterate 3 (refine wpList_plain rfl (fun K hK => ?_); go_simp; with_reducible refine hK _ _ ?_; clear hK K)
    iterate 2 (refine wpList_step (fun K hK => ?_); go_simp; with_reducible refine hK _ _ ?_; clear hK K)
    iterate 2 (refine wpList_plain rfl (fun K hK => ?_); go_simp; with_reducible refine hK _ _ ?_; clear hK K)
    refine wpList_step (fun K hK => ?_); go_simp; with_reducible refine hK _ _ ?_; clear hK K
    refine wpList_ldG (t := 32) (cs := qC p.s6 p.sh p.sl p.d6 p.dh p.dl p.sp p.dp p.pr v false) 29 (.tmp 66) rfl (by go_simp) (flC p.s6 p.sh p.sl p.d6 p.dh p.dl p.sp p.dp p.pr) rfl (hX3) rfl f1 f2 (szFl _ _ _ _ _ _ _ _ _ ) ?_
    refine wpList_step (fun K hK => ?_); go_simp; with_reducible refine hK _ _ ?_; clear hK K
    refine wpList_ldG (t := 60) (cs := p.cs B1 m1 k1 B2 m2 k2 B3 m3 k3 B4 m4 k4) 29 (.tmp 68) rfl (by go_simp) (flC p.s6 p.sh p.sl p.d6 p.dh p.dl p.sp p.dp p.pr) rfl (hX1) rfl f1 f2 (szFl _ _ _ _ _ _ _ _ _ ) ?_
    refine wpList_step (fun K hK => ?_); go_simp; with_reducible refine hK _ _ ?_; clear hK K
    iterate 2 (refine wpList_plain rfl (fun K hK => ?_); go_simp; with_reducible refine hK _ _ ?_; clear hK K)
    refine wpList_step (fun K hK => ?_); go_simp; with_reducible refine hK _ _ ?_; clear hK K
    refine wpList_ld1 (t := 32) (cs := qC p.s6 p.sh p.sl p.d6 p.dh p.dl p.sp p.dp p.pr v false) 4 (.tmp 73) rfl (by go_simp) rfl (hX3) rfl Try.underlying4 rfl ?_
    iterate 2 (refine wpList_step (fun K hK => ?_); go_simp; with_reducible refine hK _ _ ?_; clear hK K)
    iterate 4 ((with_reducible refine wpList_skip ?_ ?_); (· first | (go_simp; done) | (go_simp; intro h; cases h)); simp only [Act.put, List.setIfInBounds_toArray, List.set_cons_zero, List.set_cons_succ])
    iterate 2 (refine wpList_step (fun K hK => ?_); go_simp; with_reducible refine hK _ _ ?_; clear hK K)
    iterate 2 (refine wpList_plain rfl (fun K hK => ?_); go_simp; with_reducible refine hK _ _ ?_; clear hK K)
    refine wpList_step (fun K hK => ?_); go_simp; with_reducible refine hK _ _ ?_; clear hK K
    refine wpList_ld1 (t := 32) (cs := qC p.s6 p.sh p.sl p.d6 p.dh p.dl p.sp p.dp p.pr v false) 4 (.tmp 85) rfl (by go_simp) rfl (hX3) rfl Try.underlying4 rfl ?_
    refine wpList_step (fun K hK => ?_); go_simp; with_reducible refine hK _ _ ?_; clear hK K
    iterate 4 ((with_reducible refine wpList_skip ?_ ?_); (· first | (go_simp; done) | (go_simp; intro h; cases h)); simp only [Act.put, List.setIfInBounds_toArray, List.set_cons_zero, List.set_cons_succ])
    refine wpList_step (fun K hK => ?_); go_simp; with_reducible refine hK _ _ ?_; clear hK K
    refine wpList_plain rfl (fun K hK => ?_); go_simp; with_reducible refine hK _ _ ?_; clear hK K
    go_upto_region 11 with (fail)
    go_wp2
    refine wp_relES 15 136 [13] rfl (by kernel_rfl) (by kernel_rfl) ?_
    apply Steps.oneE (MP.eq _) 1 rfl (by decide)
    · intro o ho FA x hO hD K hK
      obtain rfl := Option.some.inj ho.symm
      clear ho
      have e0 := hO 0 (by kernel_rfl)
      simp only [eval_tmp, List.getElem?_toArray, List.getElem?_cons_succ, List.getElem?_cons_zero, Option.getD_some] at e0
      have ev0 := Lib.hid ((eval_tmp FA 0).trans e0)
      clear hO hD
      go_simp
      exact hK.out _ _ (Ex.refl _) rfl
    apply Steps.oneE (MP.eq _) 2 rfl (by decide)
    · intro o ho FA x hO hD K hK
      obtain rfl := Option.some.inj ho.symm
      clear ho
      have e1 := hO 1 (by kernel_rfl)
      simp only [eval_tmp, List.getElem?_toArray, List.getElem?_cons_succ, List.getElem?_cons_zero, Option.getD_some] at e1
      have ev1 := Lib.hid ((eval_tmp FA 1).trans e1)
      clear hO hD
      go_simp
      exact hK.out _ _ (Ex.refl _) rfl
    apply Steps.oneE (MP.eq _) 3 rfl (by decide)
    · intro o ho FA x hO hD K hK
      obtain rfl := Option.some.inj ho.symm
      clear ho
      have ev96 : FA.eval (.tmp 96) = _ := hD 1 96 (by kernel_rfl)
      have e96 := (eval_tmp FA 96).symm.trans ev96
      replace ev96 := Lib.hid ev96
      clear hO hD
      go_simp
      exact hK.out _ _ (Ex.refl _) rfl
    apply Steps.oneE (MP.eq _) 4 rfl (by decide)
    · intro o ho FA x hO hD K hK
      obtain rfl := Option.some.inj ho.symm
      clear ho
      have e0 := hO 0 (by kernel_rfl)
      simp only [eval_tmp, List.getElem?_toArray, List.getElem?_cons_succ, List.getElem?_cons_zero, Option.getD_some] at e0
      have ev0 := Lib.hid ((eval_tmp FA 0).trans e0)
      clear hO hD
      go_simp
      exact hK.out _ _ (Ex.refl _) rfl
    apply Steps.oneE (MP.eq _) 5 rfl (by decide)
    · intro o ho FA x hO hD K hK
      obtain rfl := Option.some.inj ho.symm
      clear ho
      have ev98 : FA.eval (.tmp 98) = _ := hD 3 98 (by kernel_rfl)
      have e98 := (eval_tmp FA 98).symm.trans ev98
      replace ev98 := Lib.hid ev98
      clear hO hD
      go_simp
      exact hK.out _ _ (Ex.refl _) rfl
    apply Steps.oneE (MP.eq _) 6 rfl (by decide)
    · intro o ho FA x hO hD K hK
      obtain rfl := Option.some.inj ho.symm
      clear ho
      have ev99 : FA.eval (.tmp 99) = _ := hD 4 99 (by kernel_rfl)
      have e99 := (eval_tmp FA 99).symm.trans ev99
      replace ev99 := Lib.hid ev99
      clear hO hD
      go_simp
      exact hK.out _ _ (Ex.refl _) rfl
    apply Steps.oneE (MP.eq (.int .i64 (q : Int))) 7 rfl (by decide)
    · intro o ho FA x hO hD K hK
      obtain rfl := Option.some.inj ho.symm
      clear ho
      have ev97 : FA.eval (.tmp 97) = _ := hD 2 97 (by kernel_rfl)
      have e97 := (eval_tmp FA 97).symm.trans ev97
      replace ev97 := Lib.hid ev97
      have ev100 : FA.eval (.tmp 100) = _ := hD 5 100 (by kernel_rfl)
      have e100 := (eval_tmp FA 100).symm.trans ev100
      replace ev100 := Lib.hid ev100
      clear hO hD
      go_simp
      exact hK.out _ _ (Ex.refl _) (congrArg (Value.int .i64) hq.out)
    apply Steps.oneE (MP.eq (.slice A q c)) 8 rfl (by decide)
    · intro o ho FA x hO hD K hK
      obtain rfl := Option.some.inj ho.symm
      clear ho
      have ev95 : FA.eval (.tmp 95) = _ := hD 0 95 (by kernel_rfl)
      have e95 := (eval_tmp FA 95).symm.trans ev95
      replace ev95 := Lib.hid ev95
      have ev101 : FA.eval (.tmp 101) = _ := hD 6 101 (by kernel_rfl)
      have e101 := (eval_tmp FA 101).symm.trans ev101
      replace ev101 := Lib.hid ev101
      clear hO hD
      go_simp
      exact hK.out _ _ (Ex.refl _) rfl
    apply Steps.oneE (MP.eq _) 9 rfl (by decide)
    · intro o ho FA x hO hD K hK
      obtain rfl := Option.some.inj ho.symm
      clear ho
      have e5 := hO 5 (by kernel_rfl)
      simp only [eval_tmp, List.getElem?_toArray, List.getElem?_cons_succ, List.getElem?_cons_zero, Option.getD_some] at e5
      have ev5 := Lib.hid ((eval_tmp FA 5).trans e5)
      clear hO hD
      go_simp
      exact hK.out _ _ (Ex.refl _) rfl
    apply Steps.oneE (MP.eq _) 10 rfl (by decide)
    · intro o ho FA x hO hD K hK
      obtain rfl := Option.some.inj ho.symm
      clear ho
      have ev103 : FA.eval (.tmp 103) = _ := hD 8 103 (by kernel_rfl)
      have e103 := (eval_tmp FA 103).symm.trans ev103
      replace ev103 := Lib.hid ev103
      clear hO hD
      refine wanted_if rfl ?_
      refine wp_ld1 4 (.tmp 103) rfl ev103.out (hX1.later (below_plus _ _ _)) rfl Try.underlying4 rfl ?_
      exact hK.out _ _ (Ex.refl _) rfl
    apply Steps.oneE (MP.eq (.tuple #[.agg (qC t6_ th tl_ u6 uh ul tp up tr tv ts).toArray, .bool okb])) 11 rfl (by decide)
    · intro o ho FA x hO hD K hK
      obtain rfl := Option.some.inj ho.symm
      clear ho
      have ev102 : FA.eval (.tmp 102) = _ := hD 7 102 (by kernel_rfl)
      have e102 := (eval_tmp FA 102).symm.trans ev102
      replace ev102 := Lib.hid ev102
      have ev104 : FA.eval (.tmp 104) = _ := hD 9 104 (by kernel_rfl)
      have e104 := (eval_tmp FA 104).symm.trans ev104
      replace ev104 := Lib.hid ev104
      clear hO hD
      go_simp
      refine (HP.out _ _ _ _ ((hqb.later be).plus_ _ _)).mono ?_
      rintro e w1 ⟨bs2, d2, rfl, rfl⟩
      exact hK.out _ _ (Ex.plus_ _ _ _) rfl
    apply Steps.oneE (MP.eq _) 12 rfl (by decide)
    · intro o ho FA x hO hD K hK
      obtain rfl := Option.some.inj ho.symm
      clear ho
      have ev105 : FA.eval (.tmp 105) = _ := hD 10 105 (by kernel_rfl)
      have e105 := (eval_tmp FA 105).symm.trans ev105
      replace ev105 := Lib.hid ev105
      clear hO hD
      go_simp
      exact hK.out _ _ (Ex.refl _) rfl
    apply Steps.oneE (MP.eq _) 13 rfl (by decide)
    · intro o ho FA x hO hD K hK
      obtain rfl := Option.some.inj ho.symm
      clear ho
      have ev94 : FA.eval (.tmp 94) = _ := hD 11 94 (by kernel_rfl)
      have e94 := (eval_tmp FA 94).symm.trans ev94
      replace ev94 := Lib.hid ev94
      clear hO hD
      go_simp
      exact hK.out _ _ (Ex.refl _) rfl
    apply Steps.oneP (.bool okb) 14 rfl (by decide)
    · intro o ho FA x hO hD
      obtain rfl := Option.some.inj ho.symm
      clear ho
      have ev94 : FA.eval (.tmp 94) = _ := hD 11 94 (by kernel_rfl)
      have e94 := (eval_tmp FA 94).symm.trans ev94
      replace ev94 := Lib.hid ev94
      clear hO hD
      refine .inl ⟨by simp [Region.wanted], fun w => ?_⟩
      go_simp
    apply Steps.oneE (MP.blk W4.heap.size 32 (qC false 0 0 false 0 0 0 0 0 0 false)) 15 rfl (by decide)
    · intro o ho FA x hO hD K hK
      obtain rfl := Option.some.inj ho.symm
      clear ho
      clear hO hD
      go_simp
      refine hK.out _ _ (Ex.alloc _ _) ⟨_, rfl, ?_, ?_⟩
      · simp [size_plus]
      · refine Bk.newK _ _ _ ?_ rfl
        simp [size_plus]
    refine Steps.fin_ (fun vs x hp => ?_)
    have p0 : vs 0 = _ := hp 0 (by omega)
    have p1 : vs 1 = _ := hp 1 (by omega)
    have p2 : vs 2 = _ := hp 2 (by omega)
    have p3 : vs 3 = _ := hp 3 (by omega)
    have p4 : vs 4 = _ := hp 4 (by omega)
    have p5 : vs 5 = _ := hp 5 (by omega)
    have p6 : vs 6 = _ := hp 6 (by omega)
    have p7 : vs 7 = _ := hp 7 (by omega)
    have p8 : vs 8 = _ := hp 8 (by omega)
    have p9 : vs 9 = _ := hp 9 (by omega)
    have p10 : vs 10 = _ := hp 10 (by omega)
    have p11 : vs 11 = _ := hp 11 (by omega)
    have p12 : vs 12 = _ := hp 12 (by omega)
    have p13 : vs 13 = _ := hp 13 (by omega)
    have p14 := hp 14 (by omega)
    clear hp
    simp only [List.take_succ_cons, List.take_zero, List.drop_succ_cons, List.drop_zero, putAll, Nat.zero_add, Nat.reduceAdd, Act.put, List.setIfInBounds_toArray, List.set_cons_zero, List.set_cons_succ, p0, p1, p2, p3, p4, p5, p6, p7, p8, p9, p10, p11, p12, p13]
    clear p0 p1 p2 p3 p4 p5 p6 p7 p8 p9 p10 p11 p12 p13
    generalize vs 14 = y14 at *
    clear vs
    obtain ⟨gp, rfl, hgp, hbp⟩ := p14
    go_upto_region 12 with (refine at_op (.store 32 (.tmp 14) (.tmp 106)) rfl ?_; refine wpList_stA (t := 32) 32 (.tmp 14) (.tmp 106) rfl rfl (qC t6_ th tl_ u6 uh ul tp up tr tv ts) (qC false 0 0 false 0 0 0 0 0 0 false) rfl (qC_one _ _ _ _ _ _ _ _ _ _ _ ) rfl rfl hbp (szQ _ _ _ _ _ _ _ _ _ _ _ ) ?_; intro W5 hX5 gr5)
    refine NoPanic.normal ?_
    have b5 := below_grown (below_plus W4 x.bs x.d) gr5 hgp
    replace be := be.trans (b5.mono be.size)
    replace hX3 := hX3.later b5
    clear b5 gr5 hbp hX1
    go_upto_region 12 with (fail)
    rcases hok with rfl | ⟨rfl, rfl, rfl, rfl, rfl, rfl, rfl, rfl, rfl, rfl, hst⟩
    · refine wp_region_lit ?_
      iterate 3 (refine wpList_plain rfl (fun K hK => ?_); go_simp; with_reducible refine hK _ _ ?_; clear hK K)
      iterate 21 ((with_reducible refine wpList_skip ?_ ?_); (· first | (go_simp; done) | (go_simp; intro h; cases h)); simp only [Act.put, List.setIfInBounds_toArray, List.set_cons_zero, List.set_cons_succ])
      iterate 2 (refine wpList_plain rfl (fun K hK => ?_); go_simp; with_reducible refine hK _ _ ?_; clear hK K)
      refine wpList_step (fun K hK => ?_)
      go_simp
      refine (HAW.out _).mono ?_
      rintro e w1 ⟨b9, d9, rfl, rfl⟩
      with_reducible refine hK _ _ ?_
      clear hK K
      iterate 2 (refine wpList_plain rfl (fun K hK => ?_); go_simp; with_reducible refine hK _ _ ?_; clear hK K)
      go_wp2
      go_ret
      exact ⟨rfl, belowP be _ _⟩
    · cases ts
      · refine wp_region_lit ?_
        iterate 3 (refine wpList_plain rfl (fun K hK => ?_); go_simp; with_reducible refine hK _ _ ?_; clear hK K)
        refine wpList_step (fun K hK => ?_); go_simp; with_reducible refine hK _ _ ?_; clear hK K
        refine wpList_ldG (t := 32) (cs := qC p.s6 p.sh p.sl p.d6 p.dh p.dl p.sp p.dp p.pr tv false) 29 (.tmp 111) rfl (by go_simp) (flC p.s6 p.sh p.sl p.d6 p.dh p.dl p.sp p.dp p.pr) rfl (hX5) rfl f1 f2 (szFl _ _ _ _ _ _ _ _ _ ) ?_
        refine wpList_step (fun K hK => ?_); go_simp; with_reducible refine hK _ _ ?_; clear hK K
        refine wpList_ldG (t := 32) (cs := qC p.s6 p.sh p.sl p.d6 p.dh p.dl p.sp p.dp p.pr v false) 29 (.tmp 113) rfl (by go_simp) (flC p.s6 p.sh p.sl p.d6 p.dh p.dl p.sp p.dp p.pr) rfl (hX3) rfl f1 f2 (szFl _ _ _ _ _ _ _ _ _ ) ?_
        iterate 3 (refine wpList_step (fun K hK => ?_); go_simp; with_reducible refine hK _ _ ?_; clear hK K)
        refine wpList_ld1 (t := 32) (cs := qC p.s6 p.sh p.sl p.d6 p.dh p.dl p.sp p.dp p.pr tv false) 4 (.tmp 117) rfl (by go_simp) rfl (hX5) rfl Try.underlying4 rfl ?_
        iterate 2 (refine wpList_step (fun K hK => ?_); go_simp; with_reducible refine hK _ _ ?_; clear hK K)
        iterate 9 ((with_reducible refine wpList_skip ?_ ?_); (· first | (go_simp; done) | (go_simp; intro h; cases h)); simp only [Act.put, List.setIfInBounds_toArray, List.set_cons_zero, List.set_cons_succ])
        iterate 2 (refine wpList_step (fun K hK => ?_); go_simp; with_reducible refine hK _ _ ?_; clear hK K)
        iterate 2 (refine wpList_plain rfl (fun K hK => ?_); go_simp; with_reducible refine hK _ _ ?_; clear hK K)
        refine wpList_step (fun K hK => ?_)
        go_simp
        refine (HAW.out _).mono ?_
        rintro e w1 ⟨b9, d9, rfl, rfl⟩
        with_reducible refine hK _ _ ?_
        clear hK K
        iterate 2 (refine wpList_plain rfl (fun K hK => ?_); go_simp; with_reducible refine hK _ _ ?_; clear hK K)
        go_wp2
        go_ret
        exact ⟨rfl, belowP be _ _⟩
      · exact absurd (hst rfl).1 (by decide)
theorem steerWhole_row (w : World) (A : Option Addr) (c : Nat) (l : List UInt8) (hl : l.length ≤ c) (hc : c ≤ maxLen) (hr : Rd w w.heap.size A (bcs l)) (a : Int) (ha : 0 ≤ a ∧ a ≤ 65535) : Calls Try.prog 7 #[.slice A l.length c, .int .u16 a] w fun e w' => e = .returned (.bool true) ∧ Below w.heap.size w w' := by
  obtain ⟨k, rfl⟩ := Int.eq_ofNat_of_zero_le ha.1
  exact steerWhole_walk w A l.length c l k (by omega) ⟨rfl, hl, hr⟩ hc
end Go.Proofs.Ytfmkndemkpecpaa

