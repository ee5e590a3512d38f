/- ip4.Parse. -/
import Derived.Test.YtldecdeiibfekaaIp4G
import Derived.Test.YtldecdeiibfekaaSu
namespace Go.Proofs.Ytldecdeiibfekaa
open Go.RowKit
set_option linter.unusedVariables false
set_option linter.unusedSimpArgs false
attribute [local go_sem ↓] sliced_cut
attribute [local go_sem] cutA_zero

/-- a header, the bytes behind it, no error -/
def RetP4 (w : World) (ts ln id : Nat) (st mo : Bool) (fo tl pr sm sa da : Nat) (o load : List UInt8) (e : Ending) (w' : World) : Prop := ∃ A n k A2 n2 k2 bs d, e = .returned (.tuple #[.agg (h4C ts (ln : Int) id st mo (fo : Int) tl pr sm false 0 sa false 0 da A n k).toArray, .slice A2 n2 k2, .int .i64 0]) ∧ w' = plus w bs d ∧ Rb (plus w bs d) A n k o ∧ Rb (plus w bs d) A2 n2 k2 load ∧ ∀ a, A2 = some a → w.heap.size ≤ a.block
theorem Ob.fresh {w : World} {w0 base : Nat} {A : Option Addr} {n c : Nat} {l : List UInt8} (h : Ob w base A n c l) (hb : w0 ≤ base) : ∀ a, A = some a → w0 ≤ a.block := fun a ha => by
  subst ha
  have := (h.blk a.block rfl).1
  omega
theorem RetP4.mk {w w' : World} {ts ln id : Nat} {st mo : Bool} {fo tl pr sm sa da : Nat} {o load : List UInt8} {A : Option Addr} {n k : Nat} {A2 : Option Addr} {n2 k2 : Nat} (h : Rb w' A n k o) (h2 : Rb w' A2 n2 k2 load) (hf : ∀ a, A2 = some a → w.heap.size ≤ a.block) (hb : Below w.heap.size w w') : RetP4 w ts ln id st mo fo tl pr sm sa da o load (.returned (.tuple #[.agg (h4C ts (ln : Int) id st mo (fo : Int) tl pr sm false 0 sa false 0 da A n k).toArray, .slice A2 n2 k2, .int .i64 0])) w' := by
  obtain ⟨bs, d, rfl⟩ := plus_of hb
  exact ⟨A, n, k, A2, n2, k2, bs, d, rfl, rfl, h, h2, hf⟩
set_option maxHeartbeats 4000000 in
set_option maxRecDepth 100000 in
theorem parse4_err (A : Option Addr) (n c : Nat) (E : Int) (w : World) (hE : (E != 0) = true) (HH : ∀ w', Below w.heap.size w w' → Calls Try.prog 119 #[.slice A n c] w' (RetV w' (.tuple #[.agg (h4C 0 0 0 false false 0 0 0 0 false 0 0 false 0 0 none 0 0).toArray, .int .i64 0, .int .i64 E]))) : Calls Try.prog 44 #[.slice A n c] w (RetV w (.tuple #[.agg (h4C 0 0 0 false false 0 0 0 0 false 0 0 false 0 0 none 0 0).toArray, .slice none 0 0, .int .i64 E])) := by
  obtain ⟨du, u1, u2⟩ := rowH4
  replace HH := Lib.hid HH
  have b2 : Bk (w.alloc (.cells #[.int .u8 0, .int .i64 0, .int .u16 0, .bool false, .bool false, .int .i64 0, .int .u8 0, .int .u8 0, .int .u16 0, .bool false, .int .u64 0, .int .u64 0, .bool false, .int .u64 0, .int .u64 0, .slice none 0 0] 77)) w.heap.size 77 (h4C 0 0 0 false false 0 0 0 0 false 0 0 false 0 0 none 0 0) := Bk.new w 77 #[.int .u8 0, .int .i64 0, .int .u16 0, .bool false, .bool false, .int .i64 0, .int .u8 0, .int .u8 0, .int .u16 0, .bool false, .int .u64 0, .int .u64 0, .bool false, .int .u64 0, .int .u64 0, .slice none 0 0]
  have be : Below w.heap.size w (w.alloc (.cells #[.int .u8 0, .int .i64 0, .int .u16 0, .bool false, .bool false, .int .i64 0, .int .u8 0, .int .u8 0, .int .u16 0, .bool false, .int .u64 0, .int .u64 0, .bool false, .int .u64 0, .int .u64 0, .slice none 0 0] 77)) := Below.allocS (Below.refl _ _) _
  go_enter Try.func44, Try.ntmps44
  go_wp2_with fail
  refine (HH.out _ be).mono ?_
  rintro e w1 ⟨bs1, d1, rfl, rfl⟩
  go_upto_region 2 with (refine at_op (.store 77 (.tmp 5) (.tmp 11)) rfl ?_; refine wpList_stA (t := 77) 77 (.tmp 5) (.tmp 11) rfl rfl (h4C 0 0 0 false false 0 0 0 0 false 0 0 false 0 0 none 0 0) (h4C 0 0 0 false false 0 0 0 0 false 0 0 false 0 0 none 0 0) rfl (h4C_one _ _ _ _ _ _ _ _ _ _ _ _ _ _ _ _ _ _) rfl rfl ?_ (szH4 _ _ _ _ _ _ _ _ _ _ _ _ _ _ _ _ _ _) ?_; (· refine Bk.newK _ _ _ ?_ rfl; simp [size_plus]); intro W b5 hgr)
  have zb := be.size
  replace b2 := ((b2.later (below_plus _ bs1 d1)).alloc _).grown hgr (by simp; omega)
  replace be := below_grown (Below.allocS (belowP be bs1 d1) _) hgr (by omega)
  clear hgr zb
  go_wp2_with (refine at_op (.store 77 (.tmp 2) (.tmp 16)) rfl ?_; refine wpList_stA (t := 77) 77 (.tmp 2) (.tmp 16) rfl rfl (h4C 0 0 0 false false 0 0 0 0 false 0 0 false 0 0 none 0 0) (h4C 0 0 0 false false 0 0 0 0 false 0 0 false 0 0 none 0 0) rfl (h4C_one _ _ _ _ _ _ _ _ _ _ _ _ _ _ _ _ _ _) rfl rfl b2 (szH4 _ _ _ _ _ _ _ _ _ _ _ _ _ _ _ _ _ _) ?_; intro W9 h9 g9)
  refine bodyPost_agg3 Try.results44 rfl rfl rfl h9.range u1 u2 (szH4 _ _ _ _ _ _ _ _ _ _ _ _ _ _ _ _ _ _) rfl (RetV.mk ?_)
  exact below_grown be g9 (by omega)
set_option maxHeartbeats 4000000 in
set_option maxRecDepth 100000 in
theorem parse4_ok (A : Option Addr) (n c : Nat) (l : List UInt8) (ts ln id : Nat) (st mo : Bool) (fo tl pr sm sa da sz : Nat) (o : List UInt8) (w : World) (h : Rb w A n c l) (hm : n ≤ 1000000) (h1 : 20 ≤ sz) (h2 : sz ≤ ln) (h3 : ln ≤ n)
    (HH : ∀ w', Below w.heap.size w w' → Calls Try.prog 119 #[.slice A n c] w' (RetHd w' ts ln id st mo fo tl pr sm sa da sz o)) : Calls Try.prog 44 #[.slice A n c] w (RetP4 w ts ln id st mo fo tl pr sm sa da o ((l.drop sz).take (ln - sz))) := by
  obtain ⟨du, u1, u2⟩ := rowH4
  replace HH := Lib.hid HH
  obtain ⟨b, off, rfl, hbl, hcell⟩ := h.2.2.at_ (by rw [bcs_length, h.1]; omega)
  have hc := h.2.1
  have hr0 : Rb w (cutA (some ⟨b, off, none⟩) c sz 1) (ln - sz) (c - sz) ((l.drop sz).take (ln - sz)) := (h.cut (k := sz) (by omega)).take (by omega)
  have j0 : (0 : Int) ≤ (sz : Int) := by omega
  have j1 : (sz : Int) ≤ (ln : Int) := by omega
  have j2 : (ln : Int) ≤ (c : Int) := by omega
  clear hcell
  generalize (l.drop sz).take (ln - sz) = load at *
  have b2 : Bk (w.alloc (.cells #[.int .u8 0, .int .i64 0, .int .u16 0, .bool false, .bool false, .int .i64 0, .int .u8 0, .int .u8 0, .int .u16 0, .bool false, .int .u64 0, .int .u64 0, .bool false, .int .u64 0, .int .u64 0, .slice none 0 0] 77)) w.heap.size 77 (h4C 0 0 0 false false 0 0 0 0 false 0 0 false 0 0 none 0 0) := Bk.new w 77 #[.int .u8 0, .int .i64 0, .int .u16 0, .bool false, .bool false, .int .i64 0, .int .u8 0, .int .u8 0, .int .u16 0, .bool false, .int .u64 0, .int .u64 0, .bool false, .int .u64 0, .int .u64 0, .slice none 0 0]
  have be : Below w.heap.size w (w.alloc (.cells #[.int .u8 0, .int .i64 0, .int .u16 0, .bool false, .bool false, .int .i64 0, .int .u8 0, .int .u8 0, .int .u16 0, .bool false, .int .u64 0, .int .u64 0, .bool false, .int .u64 0, .int .u64 0, .slice none 0 0] 77)) := Below.allocS (Below.refl _ _) _
  go_enter Try.func44, Try.ntmps44
  go_wp2_with fail
  refine (HH.out _ be).mono ?_
  rintro e w1 ⟨Ao, no, ko, bs1, d1, rfl, rfl, hoo⟩
  have zo : ∀ a, Ao = some a → ¬ (fun b => b = w.heap.size) a.block := fun a ha hb => by
    subst ha
    have := (hoo.blk a.block rfl).1
    have hb' : a.block = w.heap.size := hb
    simp at this
    omega
  go_upto_region 2 with (refine at_op (.store 77 (.tmp 5) (.tmp 11)) rfl ?_; refine wpList_stA (t := 77) 77 (.tmp 5) (.tmp 11) rfl rfl (h4C ts (ln : Int) id st mo (fo : Int) tl pr sm false 0 sa false 0 da Ao no ko) (h4C 0 0 0 false false 0 0 0 0 false 0 0 false 0 0 none 0 0) rfl (h4C_one _ _ _ _ _ _ _ _ _ _ _ _ _ _ _ _ _ _) rfl rfl ?_ (szH4 _ _ _ _ _ _ _ _ _ _ _ _ _ _ _ _ _ _) ?_; (· refine Bk.newK _ _ _ ?_ rfl; simp [size_plus]); intro W b5 hgr)
  have zb := be.size
  replace b2 := ((b2.later (below_plus _ bs1 d1)).alloc _).grown hgr (by simp; omega)
  have hro := hoo.rb.later (below_grown (Below.allocS (Below.refl _ _) _) hgr (by simp [size_plus]))
  replace be := below_grown (Below.allocS (belowP be bs1 d1) _) hgr (by omega)
  have hr := hr0.later be
  have hg5 : w.heap.size < w.heap.size + 1 + bs1.length := by omega
  generalize w.heap.size + 1 + bs1.length = g5 at *
  have hDb : ∀ b, (fun b => b = w.heap.size) b → b < W.heap.size := fun b hb => by subst hb; exact b2.lt
  have hrd : ∀ a, cutA (some ⟨b, off, none⟩) c sz 1 = some a → ¬ (fun b => b = w.heap.size) a.block := fun a ha hb => by
    have : a.block = b := by
      unfold cutA at ha
      split at ha
      · injection ha with ha; subst ha; rfl
      · simp [add_plain] at ha; subst ha; rfl
    have hb' : a.block = w.heap.size := hb
    omega
  clear hgr zb h hoo
  go_wp2
  refine wp_su (fun b => b = w.heap.size) 10 25 2 [7] rfl (by kernel_rfl) (by kernel_rfl) (fun i => match i with | 0 => MC.eq (.agg (h4C ts (ln : Int) id st mo (fo : Int) tl pr sm false 0 sa false 0 da Ao no ko).toArray) | 1 => MC.eq (.slice (some ⟨b, off, none⟩) n c) | 2 => MC.eq (.int .i64 (sz : Int)) | 3 => MC.eq (.pointer (some ⟨g5, 1, none⟩)) | 4 => MC.eq (.int .i64 (ln : Int)) | 5 => MC.eq (.slice (cutA (some ⟨b, off, none⟩) c sz 1) (ln - sz) (c - sz)) | 6 => MC.ob W.heap.size hDb load | 7 => MC.any | 8 => MC.ob W.heap.size hDb load | 9 => MC.eq (.int .i64 0) | _ => MC.any) (fun k w' => Bk w' w.heap.size 77 (if k = 0 then h4C 0 0 0 false false 0 0 0 0 false 0 0 false 0 0 none 0 0 else h4C ts (ln : Int) id st mo (fo : Int) tl pr sm false 0 sa false 0 da Ao no ko)) ?_ ?_ ?_ ?_ ?_
  · exact fun k w w' h h' => h.later h'.below
  · exact b2
  · intro i hi o ho hq FA w' hC hO hD K hK
    match i, hi, ho, hq, hO, hD, hK with
    | 0, _, ho, hq, hO, hD, hK => 
      obtain rfl := Option.some.inj ho.symm
      clear ho hq
      have ev5 : FA.eval (.tmp 5) = .pointer (some ⟨g5, 0, none⟩) := hO 5 (by kernel_rfl)
      have e5 : FA.tmps[5]?.getD undef = .pointer (some ⟨g5, 0, none⟩) := by simpa [Act.eval] using ev5
      replace ev5 := Lib.hid ev5
      clear hO hD
      refine wanted_if rfl ?_
      refine wp_load_mid 77 (.tmp 5) rfl g5 0 ev5.out (h4C ts (ln : Int) id st mo (fo : Int) tl pr sm false 0 sa false 0 da Ao no ko) _ (Bk.range (b5.chg hC (by omega))) u1 u2 (szH4 _ _ _ _ _ _ _ _ _ _ _ _ _ _ _ _ _ _) ?_
      exact hK.out _ _ (Ex.refl _) rfl
    | 1, _, ho, hq, hO, hD, hK => 
      obtain rfl := Option.some.inj ho.symm
      clear ho hq
      have ev0 : FA.eval (.tmp 0) = .slice (some ⟨b, off, none⟩) n c := hO 0 (by kernel_rfl)
      have e0 : FA.tmps[0]?.getD undef = .slice (some ⟨b, off, none⟩) n c := by simpa [Act.eval] using ev0
      replace ev0 := Lib.hid ev0
      clear hO hD
      go_simp
      exact hK.out _ _ (Ex.refl _) rfl
    | 2, _, ho, hq, hO, hD, hK => 
      obtain rfl := Option.some.inj ho.symm
      clear ho hq
      have ev6 : FA.eval (.tmp 6) = .int .i64 (sz : Int) := hO 6 (by kernel_rfl)
      have e6 : FA.tmps[6]?.getD undef = .int .i64 (sz : Int) := by simpa [Act.eval] using ev6
      replace ev6 := Lib.hid ev6
      clear hO hD
      go_simp
      exact hK.out _ _ (Ex.refl _) rfl
    | 3, _, ho, hq, hO, hD, hK => 
      obtain rfl := Option.some.inj ho.symm
      clear ho hq
      have ev5 : FA.eval (.tmp 5) = .pointer (some ⟨g5, 0, none⟩) := hO 5 (by kernel_rfl)
      have e5 : FA.tmps[5]?.getD undef = .pointer (some ⟨g5, 0, none⟩) := by simpa [Act.eval] using ev5
      replace ev5 := Lib.hid ev5
      clear hO hD
      go_simp
      exact hK.out _ _ (Ex.refl _) rfl
    | 4, _, ho, hq, hO, hD, hK => 
      obtain rfl := Option.some.inj ho.symm
      clear ho hq
      have ev21 : FA.eval (.tmp 21) = .pointer (some ⟨g5, 1, none⟩) := hD 3 21 (by kernel_rfl)
      have e21 : FA.tmps[21]?.getD undef = .pointer (some ⟨g5, 1, none⟩) := by simpa [Act.eval] using ev21
      replace ev21 := Lib.hid ev21
      clear hO hD
      have cc : w'.cell? ⟨g5, 1, none⟩ = some (.int .i64 (ln : Int)) := (b5.chg hC (by omega)).cell 1
      go_simp
      exact hK.out _ _ (Ex.refl _) rfl
    | 5, _, ho, hq, hO, hD, hK => 
      obtain rfl := Option.some.inj ho.symm
      clear ho hq
      have ev19 : FA.eval (.tmp 19) = .slice (some ⟨b, off, none⟩) n c := hD 1 19 (by kernel_rfl)
      have e19 : FA.tmps[19]?.getD undef = .slice (some ⟨b, off, none⟩) n c := by simpa [Act.eval] using ev19
      replace ev19 := Lib.hid ev19
      have ev20 : FA.eval (.tmp 20) = .int .i64 (sz : Int) := hD 2 20 (by kernel_rfl)
      have e20 : FA.tmps[20]?.getD undef = .int .i64 (sz : Int) := by simpa [Act.eval] using ev20
      replace ev20 := Lib.hid ev20
      have ev22 : FA.eval (.tmp 22) = .int .i64 (ln : Int) := hD 4 22 (by kernel_rfl)
      have e22 : FA.tmps[22]?.getD undef = .int .i64 (ln : Int) := by simpa [Act.eval] using ev22
      replace ev22 := Lib.hid ev22
      clear hO hD
      go_simp
      exact hK.out _ _ (Ex.refl _) rfl
    | 6, _, ho, hq, hO, hD, hK => 
      obtain rfl := Option.some.inj ho.symm
      clear ho hq
      have ev23 : FA.eval (.tmp 23) = .slice (cutA (some ⟨b, off, none⟩) c sz 1) (ln - sz) (c - sz) := hD 5 23 (by kernel_rfl)
      have e23 : FA.tmps[23]?.getD undef = .slice (cutA (some ⟨b, off, none⟩) c sz 1) (ln - sz) (c - sz) := by simpa [Act.eval] using ev23
      replace ev23 := Lib.hid ev23
      clear hO hD
      go_simp
      refine (clone_any _ _ _ load _ (hr.chg hC hrd) (by omega)).mono ?_
      rintro e w1 ⟨A2, n2, c2, bs2, d2, rfl, rfl, ho2⟩
      exact hK.out _ _ (Ex.plus_ _ _ _) ⟨_, _, _, rfl, ho2.mono hC.size⟩
    | 7, _, _, hq, _, _, _ => exact absurd hq (by decide)
    | 8, _, ho, hq, hO, hD, hK => 
      obtain rfl := Option.some.inj ho.symm
      clear ho hq
      have f24 := hD 6 24 (by kernel_rfl)
      generalize eu24 : FA.eval (.tmp 24) = u24 at f24
      have e24 : FA.tmps[24]?.getD undef = u24 := by rw [← eu24]; simp [Act.eval]
      have ev24 := Lib.hid eu24
      clear eu24
      clear hO hD
      go_simp
      exact hK.out _ _ (Ex.refl _) f24
    | 9, _, ho, hq, hO, hD, hK => 
      obtain rfl := Option.some.inj ho.symm
      clear ho hq
      clear hO hD
      go_simp
      exact hK.out _ _ (Ex.refl _) rfl
    | (k + 10), hi, _, _, _, _, _ => exact absurd hi (by omega)
  · intro k i hk o ho FA w' hC hS hO hD K hK
    match k, hk, hS, hK with
    | 0, hk, hS, hK => 
      obtain rfl : 7 = i := Option.some.inj hk
      obtain rfl := Option.some.inj ho.symm
      clear ho hk
      have ev2 : FA.eval (.tmp 2) = .pointer (some ⟨w.heap.size, 0, none⟩) := hO 2 (by kernel_rfl)
      have e2 : FA.tmps[2]?.getD undef = .pointer (some ⟨w.heap.size, 0, none⟩) := by simpa [Act.eval] using ev2
      replace ev2 := Lib.hid ev2
      have ev18 : FA.eval (.tmp 18) = .agg (h4C ts (ln : Int) id st mo (fo : Int) tl pr sm false 0 sa false 0 da Ao no ko).toArray := hD 0 18 (by kernel_rfl)
      have e18 : FA.tmps[18]?.getD undef = .agg (h4C ts (ln : Int) id st mo (fo : Int) tl pr sm false 0 sa false 0 da Ao no ko).toArray := by simpa [Act.eval] using ev18
      replace ev18 := Lib.hid ev18
      clear hO hD
      refine wanted_if rfl ?_
      refine wp_stA 77 (.tmp 2) (.tmp 18) rfl (h4C ts (ln : Int) id st mo (fo : Int) tl pr sm false 0 sa false 0 da Ao no ko) (h4C 0 0 0 false false 0 0 0 0 false 0 0 false 0 0 none 0 0) rfl (h4C_one _ _ _ _ _ _ _ _ _ _ _ _ _ _ _ _ _ _) ev2.out ev18.out hS (szH4 _ _ _ _ _ _ _ _ _ _ _ _ _ _ _ _ _ _) ?_
      intro w'' hn hg
      exact hK.out _ _ (Chg.one hg rfl) hn trivial
    | (k + 1), hk, _, _ => simp at hk
  intro vs w' hC hS hp
  have p0 : vs 0 = .agg (h4C ts (ln : Int) id st mo (fo : Int) tl pr sm false 0 sa false 0 da Ao no ko).toArray := hp 0 (by omega) rfl
  have p1 : vs 1 = .slice (some ⟨b, off, none⟩) n c := hp 1 (by omega) rfl
  have p2 : vs 2 = .int .i64 (sz : Int) := hp 2 (by omega) rfl
  have p3 : vs 3 = .pointer (some ⟨g5, 1, none⟩) := hp 3 (by omega) rfl
  have p4 : vs 4 = .int .i64 (ln : Int) := hp 4 (by omega) rfl
  have p5 : vs 5 = .slice (cutA (some ⟨b, off, none⟩) c sz 1) (ln - sz) (c - sz) := hp 5 (by omega) rfl
  have p6 := hp 6 (by omega) rfl
  have p8 := hp 8 (by omega) rfl
  have p9 : vs 9 = .int .i64 0 := hp 9 (by omega) rfl
  clear hp
  simp only [List.take_succ_cons, List.take_zero, List.drop_succ_cons, List.drop_zero, putAll, Nat.zero_add, Nat.reduceAdd, Act.put, List.setIfInBounds_toArray, List.set_cons_zero, List.set_cons_succ, p0, p1, p2, p3, p4, p5, p9]
  clear p0 p1 p2 p3 p4 p5 p9
  generalize vs 6 = y6 at *
  generalize vs 8 = y8 at *
  clear vs
  obtain ⟨A8, n8, c8, rfl, h8⟩ := p8
  go_wp2
  refine bodyPost_agg3 Try.results44 rfl rfl rfl (Bk.range hS) u1 u2 (szH4 _ _ _ _ _ _ _ _ _ _ _ _ _ _ _ _ _ _) rfl (RetP4.mk (hro.chg hC zo) h8.rb (h8.fresh be.size) ?_)
  exact be.trans (hC.below (B := w.heap.size) (fun b hb => by have : b = w.heap.size := hb; omega) be.size)
end Go.Proofs.Ytldecdeiibfekaa
