/- The walk of HrwKeeps (chapter 16). -/
import Derived.Test.YtfmkndemkpecpaaHrwD
import Derived.Lib.SlBytesConst
namespace Go.Proofs.Ytfmkndemkpecpaa
open Go.RowKit
set_option linter.unusedVariables false
set_option linter.unusedSimpArgs false
attribute [local go_sem ↓] sliced_cut
attribute [local go_sem] cutA_zero

theorem Rb.litF (W : World) (cs : Array Value) (l : List UInt8) (n : Nat) (fz : Nat × Nat) (k : Nat) (hk : k = W.heap.size) (hn : l.length = n) (h : cs.toList = bcs l) : Rb (W.alloc (.cells cs 5 fz)) (some ⟨k, 0, none⟩) n n l := by
  subst hk
  refine ⟨hn, Nat.le_refl _, .inr ⟨W.heap.size, 0, rfl, by simp, fun i u hu => ?_⟩⟩
  have e : (W.alloc (.cells cs 5 fz)).cell? ⟨W.heap.size, 0 + i, none⟩ = cs[i]? := by
    unfold World.cell?
    simp only [heap_alloc_new, Nat.zero_add]
    rfl
  rw [e, ← Array.getElem?_toList, h]
  exact hu
def key1 : List UInt8 := [1, 0, 0, 0, 0, 0, 0, 0, 0, 0, 0, 0, 0, 0, 0, 0]
set_option maxHeartbeats 4000000 in
set_option maxRecDepth 100000 in
theorem awake16 (w : World) : Calls Try.prog 31 #[] w (RetV w (.bool true)) := by
  have HP := Lib.hid (fun (Al : Option Addr) (nl cl : Nat) (A : Option Addr) (n c : Nat) (w : World) (hr : Rb w A n c [120]) (hl : Rs 2 w Al nl cl (prs .i64 [((7 : Int), (1 : Int))])) (hm : n ≤ 1000) (hml : nl ≤ 1000) =>
    show Calls Try.prog 32 #[.agg #[.int .u8 1, .int .u8 0, .int .u8 0, .int .u8 0, .int .u8 0, .int .u8 0, .int .u8 0, .int .u8 0, .int .u8 0, .int .u8 0, .int .u8 0, .int .u8 0, .int .u8 0, .int .u8 0, .int .u8 0, .int .u8 0], .slice Al nl cl, .slice A n c] w (RetV w (.tuple #[.int .i64 7, .bool true])) from
      pick_any key1 rfl [((7 : Int), (1 : Int))] (fun p hp => by simp only [List.mem_cons, List.not_mem_nil, or_false] at hp; subst hp; decide) Al nl cl A n c [120] w hr hl hm hml)
  have kc := Lib.run_convert_bytes_const (P := Try.prog) (w.alloc (.cells #[.int .i64 7, .int .i64 1] 82)) 22 5 #[.int .u8 120] 1 1 Try.underlying22 Try.underlying5
  simp only [World.size_alloc] at kc
  go_enter Try.func31, Try.ntmps31
  go_upto_region 1 with (fail)
  refine wp_region_lit ?_
  iterate 5 (refine wpList_plain rfl (fun K hK => ?_); go_simp; with_reducible refine hK _ _ ?_; clear hK K)
  refine wpList_plain rfl (fun K hK => ?_)
  go_simp
  refine (HP.out _ 1 1 _ 1 1 _ (Rb.litF _ #[.int .u8 120] [120] 1 _ _ (by simp) rfl rfl) (Rs.of_bk ((Bk.new w _ #[.int .i64 7, .int .i64 1]).alloc _) rfl (by decide)) (by decide) (by decide)).mono ?_
  rintro e w1 ⟨bs1, d1, rfl, rfl⟩
  with_reducible refine hK _ _ ?_
  clear hK K
  iterate 5 (refine wpList_plain rfl (fun K hK => ?_); go_simp; with_reducible refine hK _ _ ?_; clear hK K)
  go_wp2
  go_ret
  exact RetV.is_ (by simp) (belowP (Below.allocS (Below.allocS (Below.refl _ _) _) _) _ _)
theorem szK16 (key : List UInt8) (hk : K16 key) : (Try.prog.info? 74).map (·.size) = some (bcs key).length := by rw [bcs_length, show key.length = 16 from hk]; kernel_rfl
theorem rowK16 : ∃ d, Try.prog.underlying 74 = some d ∧ d.isRow = true := ⟨_, Try.underlying74, rfl⟩
set_option maxHeartbeats 4000000 in
set_option maxRecDepth 100000 in
theorem hrwKeeps_walk (key : List UInt8) (hk0 : K16 key) (Ll : List (Int × Int)) (hL : ∀ q ∈ Ll, (-9223372036854775808 ≤ q.1 ∧ q.1 ≤ 9223372036854775807) ∧ (-9223372036854775808 ≤ q.2 ∧ q.2 ≤ 9223372036854775807)) (Al : Option Addr) (nl cl : Nat) (at_ : Nat) (hat : at_ ≤ 255) (A : Option Addr) (n c : Nat) (b : List UInt8) (w : World)
    (hl : Rs 2 w Al nl cl (prs .i64 Ll)) (hml : nl ≤ 9223372036854775807) (hr : Rb w A n c b) (hmn : n ≤ 9223372036854775807) : Calls Try.prog 8 #[.agg (bcs key).toArray, .slice Al nl cl, .int .u8 (at_ : Int), .slice A n c] w (RetV w (.bool true)) := by
  obtain ⟨dk, u1, u2⟩ := rowK16
  have HLi := Lib.hid (fun w h => light_any Ll hL Al nl cl w h hml)
  have hk : Bk (w.alloc (.cells (bcs key).toArray 74)) w.heap.size 74 (bcs key) := Bk.new w 74 (bcs key).toArray
  have be : Below w.heap.size w (w.alloc (.cells (bcs key).toArray 74)) := Below.allocS (Below.refl _ _) _
  replace hr := (hr.alloc (.cells (bcs key).toArray 74))
  replace hl := (hl.alloc (.cells (bcs key).toArray 74))
  have zV : w.heap.size + 1 ≤ (w.alloc (.cells (bcs key).toArray 74)).heap.size := by simp
  go_enter Try.func8, Try.ntmps8
  go_upto_region 1 with (fail)
  generalize w.alloc (.cells (bcs key).toArray 74) = V at *
  go_upto_region 2 with (first
    | (go_at_call 30; refine (HLi.out _ hl).mono ?_; rintro e w1 ⟨L, hL12, hLL, A1, n1, c1, bs1, d1, rfl, rfl, hX⟩; have hn1 : L.length = n1 := by have := hX.1; rw [prs_length] at this; omega)
    | (go_at_call 29; refine (to_any L A1 n1 c1 _ hX (by omega)).mono ?_; rintro e w1 ⟨Ax, nx, cx, bs2, d2, rfl, rfl, hX2⟩))
  replace hr := (hr.plus_ bs1 d1).plus_ bs2 d2
  replace hk := (hk.later (below_plus _ bs1 d1)).later (below_plus _ bs2 d2)
  replace be := belowP (belowP be bs1 d1) bs2 d2
  generalize plus (plus V bs1 d1) bs2 d2 = V2 at *
  clear hX hl
  have hlx : L.length = nx := by have := hX2.1; rw [prs_length] at this; omega
  have hcx := hX2.2.1
  by_cases c2 : 200 < n
  · have ij : (200 : Int) < (n : Int) := by omega
    go_wp2_with (go_at_call 31; refine (awake16 _).mono ?_; rintro e w1 ⟨bs3, d3, rfl, rfl⟩)
    go_ret
    exact RetV.is_ (by simp) (belowP be _ _)
  have ij : ¬ (200 : Int) < (n : Int) := by omega
  by_cases c0 : nx = 0
  · have ij2 : ((nx : Int) = 0) := by omega
    go_wp2_with (go_at_call 31; refine (awake16 _).mono ?_; rintro e w1 ⟨bs3, d3, rfl, rfl⟩)
    go_ret
    exact RetV.is_ (by simp) (belowP be _ _)
  have ij2 : ¬ ((nx : Int) = 0) := by omega
  have ij3 : nx ≠ 0 := c0
  obtain ⟨i, hi⟩ : ∃ i, i = at_ % nx := ⟨_, rfl⟩
  have hi1 : i < nx := by rw [hi]; exact Nat.mod_lt _ (by omega)
  have hi2 : Int.tmod (at_ : Int) (nx : Int) = (i : Int) := by rw [hi]; rfl
  clear hi
  have hiL : i < L.length := by omega
  have LAW := hrw_law (scoreI key b) L i hiL
  have hP1 := fun (Al : Option Addr) (nl cl : Nat) (w : World) (hr : Rb w A n c b) (hl : Rs 2 w Al nl cl (prs .i64 L)) (hml : nl ≤ 1000) => pick_any key hk0 L hLL Al nl cl A n c b w hr hl (by omega) hml
  have hP2 := fun (Al : Option Addr) (nl cl : Nat) (w : World) (hr : Rb w A n c b) (hl : Rs 2 w Al nl cl (prs .i64 (L.drop i ++ L.take i))) (hml : nl ≤ 1000) => pick_any key hk0 (L.drop i ++ L.take i) (fun p hp => hLL p ((List.mem_append.1 hp).elim List.mem_of_mem_drop List.mem_of_mem_take)) Al nl cl A n c b w hr hl (by omega) hml
  have hP3 := fun (Al : Option Addr) (nl cl : Nat) (w : World) (hr : Rb w A n c b) (hl : Rs 2 w Al nl cl (prs .i64 (L.take i ++ L.drop (i + 1)))) (hml : nl ≤ 1000) => pick_any key hk0 (L.take i ++ L.drop (i + 1)) (fun p hp => hLL p ((List.mem_append.1 hp).elim List.mem_of_mem_take List.mem_of_mem_drop)) Al nl cl A n c b w hr hl (by omega) hml
  rw [LAW.1] at hP2
  have LAW2 := LAW.2
  clear LAW
  generalize pk (scd (scoreI key b) L) = P at *
  generalize pk (scd (scoreI key b) (L.take i ++ L.drop (i + 1))) = Q at *
  obtain ⟨p1, p2⟩ := P
  obtain ⟨q1, q2⟩ := Q
  simp only [] at hP1 hP2 hP3 LAW2
  have HP1 := Lib.hid hP1
  have HP2 := Lib.hid hP2
  have HP3 := Lib.hid hP3
  have HLAW := Lib.hid LAW2
  clear hP1 hP2 hP3 LAW2 HLi
  obtain ⟨xb, xo, rfl, hxb, -⟩ := hX2.at_ (by omega) (by decide)
  have hLlen : L.length ≤ 12 := hL12
  have hn12 : nx ≤ 12 := by omega
  have l1 : i ≤ nx := by omega
  have l2 : (i : Int) ≤ (nx : Int) := by omega
  have l3 : (nx : Int) ≤ (cx : Int) := by omega
  have l4 : i ≤ cx := by omega
  have l5 : (i : Int) ≤ (cx : Int) := by omega
  go_upto_region 6 with (first
      | (refine at_op (.load 74 (.tmp 4)) rfl ?_; refine wpList_ldA (t := 74) 74 (.tmp 4) rfl rfl (bcs key) rfl (hk) (whole_ _) u1 u2 (szK16 key hk0) ?_)
      | (go_at_call 32; refine (HP1.out _ _ _ _ hr hX2 (by omega)).mono ?_; rintro e w1 ⟨bs1, d1, rfl, rfl⟩))
  replace hr := hr.plus_ bs1 d1
  replace hX2 := hX2.plus_ bs1 d1
  replace hk := hk.later (below_plus _ bs1 d1)
  replace be := belowP be bs1 d1
  generalize plus V2 bs1 d1 = W5 at *
  have hcut : Rs 2 W5 (cutA (some ⟨xb, xo, none⟩) cx i 2) (nx - i) (cx - i) (prs .i64 (L.drop i)) := by have h := hX2.cut (k := i) (by omega); rw [prs_drop] at h; exact h
  have htake : Rs 2 W5 (some ⟨xb, xo, none⟩) i cx (prs .i64 (L.take i)) := by have h := hX2.take (k := i) (by omega); rw [prs_take] at h; exact h
  go_wp2
  refine wp_relS 8 106 rfl (by kernel_rfl) (by kernel_rfl) ?_
  apply Steps.one (MP.ofs 82 2 W5.heap.size []) 1 rfl
  · intro o ho FA x hO hD K hK
    obtain rfl := Option.some.inj ho.symm
    clear ho
    clear hO hD
    go_simp
    refine hK.out _ _ (Ex.alloc _ _) ⟨_, _, rfl, ?_⟩
    have h := Os.lit (s := 2) (e := 82) (base := W5.heap.size) (plus W5 x.bs x.d) (by simp [size_plus]) #[] 0 rfl (Nat.zero_le _)
    rw [size_plus] at h
    exact h
  apply Steps.one (MP.eq _) 2 rfl
  · intro o ho FA x hO hD K hK
    obtain rfl := Option.some.inj ho.symm
    clear ho
    have e9 := hO 9 (by kernel_rfl)
    simp only [eval_tmp, List.getElem?_toArray, List.getElem?_cons_succ, List.getElem?_cons_zero, Option.getD_some] at e9
    have ev9 := Lib.hid ((eval_tmp FA 9).trans e9)
    clear hO hD
    go_simp
    exact hK.out _ _ (Ex.refl _) rfl
  apply Steps.one (MP.eq _) 3 rfl
  · intro o ho FA x hO hD K hK
    obtain rfl := Option.some.inj ho.symm
    clear ho
    have e10 := hO 10 (by kernel_rfl)
    simp only [eval_tmp, List.getElem?_toArray, List.getElem?_cons_succ, List.getElem?_cons_zero, Option.getD_some] at e10
    have ev10 := Lib.hid ((eval_tmp FA 10).trans e10)
    clear hO hD
    go_simp
    exact hK.out _ _ (Ex.refl _) rfl
  apply Steps.one (MP.eq _) 4 rfl
  · intro o ho FA x hO hD K hK
    obtain rfl := Option.some.inj ho.symm
    clear ho
    have ev44 : FA.eval (.tmp 44) = _ := hD 1 44 (by kernel_rfl)
    have e44 := (eval_tmp FA 44).symm.trans ev44
    replace ev44 := Lib.hid ev44
    have ev45 : FA.eval (.tmp 45) = _ := hD 2 45 (by kernel_rfl)
    have e45 := (eval_tmp FA 45).symm.trans ev45
    replace ev45 := Lib.hid ev45
    clear hO hD
    go_simp
    exact hK.out _ _ (Ex.refl _) rfl
  apply Steps.one (MP.os 82 2 W5.heap.size ([] ++ prs .i64 (L.drop i))) 5 rfl
  · intro o ho FA x hO hD K hK
    obtain rfl := Option.some.inj ho.symm
    clear ho
    have f43 := hD 0 43 (by kernel_rfl)
    generalize eu43 : FA.eval (.tmp 43) = u43 at f43
    have e43 := (eval_tmp FA 43).symm.trans eu43
    have ev43 := Lib.hid eu43
    clear eu43
    have ev46 : FA.eval (.tmp 46) = _ := hD 3 46 (by kernel_rfl)
    have e46 := (eval_tmp FA 46).symm.trans ev46
    replace ev46 := Lib.hid ev46
    clear hO hD
    obtain ⟨A1, n1, hv1, h1⟩ := f43
    have hn1 : n1 = 0 := by have := h1.rs.1; simp at this; omega
    subst hn1
    refine wanted_if rfl ?_
    refine wp_appFS etMb (.tmp 43) (.tmp 46) rfl (ev43.out.trans hv1) h1 ev46.out (hcut.plus_ x.bs x.d) (prs_one _ _) (by omega) (by simp [size_plus]) ?_
    intro A3 n3 c3 w3 hn3 ho3 hex
    exact hK.out _ _ hex ⟨_, _, _, rfl, ho3⟩
  apply Steps.one (MP.eq _) 6 rfl
  · intro o ho FA x hO hD K hK
    obtain rfl := Option.some.inj ho.symm
    clear ho
    have e9 := hO 9 (by kernel_rfl)
    simp only [eval_tmp, List.getElem?_toArray, List.getElem?_cons_succ, List.getElem?_cons_zero, Option.getD_some] at e9
    have ev9 := Lib.hid ((eval_tmp FA 9).trans e9)
    clear hO hD
    go_simp
    exact hK.out _ _ (Ex.refl _) rfl
  apply Steps.one (MP.eq _) 7 rfl
  · intro o ho FA x hO hD K hK
    obtain rfl := Option.some.inj ho.symm
    clear ho
    have e10 := hO 10 (by kernel_rfl)
    simp only [eval_tmp, List.getElem?_toArray, List.getElem?_cons_succ, List.getElem?_cons_zero, Option.getD_some] at e10
    have ev10 := Lib.hid ((eval_tmp FA 10).trans e10)
    clear hO hD
    go_simp
    exact hK.out _ _ (Ex.refl _) rfl
  apply Steps.one (MP.eq _) 8 rfl
  · intro o ho FA x hO hD K hK
    obtain rfl := Option.some.inj ho.symm
    clear ho
    have ev48 : FA.eval (.tmp 48) = _ := hD 5 48 (by kernel_rfl)
    have e48 := (eval_tmp FA 48).symm.trans ev48
    replace ev48 := Lib.hid ev48
    have ev49 : FA.eval (.tmp 49) = _ := hD 6 49 (by kernel_rfl)
    have e49 := (eval_tmp FA 49).symm.trans ev49
    replace ev49 := Lib.hid ev49
    clear hO hD
    go_simp
    exact hK.out _ _ (Ex.refl _) rfl
  refine Steps.fin_ (fun vs x hp => ?_)
  have p0 := hp 0 (by omega)
  have p1 : vs 1 = _ := hp 1 (by omega)
  have p2 : vs 2 = _ := hp 2 (by omega)
  have p3 : vs 3 = _ := hp 3 (by omega)
  have p4 := hp 4 (by omega)
  have p5 : vs 5 = _ := hp 5 (by omega)
  have p6 : vs 6 = _ := hp 6 (by omega)
  have p7 : vs 7 = _ := hp 7 (by omega)
  clear hp
  simp only [List.take_succ_cons, List.take_zero, List.drop_succ_cons, List.drop_zero, putAll, Nat.zero_add, Nat.reduceAdd, Act.put, List.setIfInBounds_toArray, List.set_cons_zero, List.set_cons_succ, p1, p2, p3, p5, p6, p7]
  clear p1 p2 p3 p5 p6 p7
  generalize vs 0 = y0 at *
  generalize vs 4 = y4 at *
  clear vs
  obtain ⟨A4, n4, c4, rfl, h4⟩ := p4
  have hl4 := h4.rs.1
  have hb4 : W5.heap.size ≤ (plus W5 x.bs x.d).heap.size := by simp [size_plus]
  simp only [List.nil_append] at h4 hl4
  rw [prs_length] at hl4
  have hn4 : n4 ≤ 12 := by simp at hl4; omega
  go_upto_region 7 with (at_builtin; refine wpList_appS etMb rfl (.tmp 47) (.tmp 50) rfl rfl h4 rfl (htake.plus_ x.bs x.d) (prs_one _ _) (by omega) hb4 ?_; intro A5 n5 c5 w5 hn5 hO5 hb5 hg5)

  replace hr := hr.later ((below_plus W5 x.bs x.d).trans hb5)
  replace hk := hk.later ((below_plus W5 x.bs x.d).trans hb5)
  replace hX2 := hX2.later ((below_plus W5 x.bs x.d).trans hb5)
  have zw5 := be.size
  replace be := be.trans (((below_plus W5 x.bs x.d).trans hb5).mono zw5)
  have hR5 := hO5.rs
  rw [← prs_append] at hR5
  clear hO5 hcut htake h4
  subst hn5
  have hn5 : n4 + i ≤ 1000 := by simp at hl4; omega
  clear hl4
  go_upto_region 8 with (first
      | (refine at_op (.load 74 (.tmp 4)) rfl ?_; refine wpList_ldA (t := 74) 74 (.tmp 4) rfl rfl (bcs key) rfl (hk) (whole_ _) u1 u2 (szK16 key hk0) ?_)
      | (go_at_call 32; refine (HP2.out _ _ _ _ hr hR5 (by omega)).mono ?_; rintro e w1 ⟨bs1, d1, rfl, rfl⟩))
  replace hr := hr.plus_ bs1 d1
  replace hX2 := hX2.plus_ bs1 d1
  replace hk := hk.later (below_plus _ bs1 d1)
  replace be := belowP be bs1 d1
  generalize plus w5 bs1 d1 = W5 at *
  clear hR5 p0
  have htake : Rs 2 W5 (some ⟨xb, xo, none⟩) i cx (prs .i64 (L.take i)) := by have h := hX2.take (k := i) (by omega); rw [prs_take] at h; exact h
  have hcut1 : Rs 2 W5 (cutA (some ⟨xb, xo, none⟩) cx (i + 1) 2) (nx - (i + 1)) (cx - (i + 1)) (prs .i64 (L.drop (i + 1))) := by have h := hX2.cut (k := i + 1) (by omega); rw [prs_drop] at h; exact h
  have l6 : i + 1 ≤ nx := by omega
  have l7 : ((i + 1 : Nat) : Int) ≤ (nx : Int) := by omega
  have l8 : IntKind.i64.wrap ((i : Int) + 1) = ((i + 1 : Nat) : Int) := by rw [IntWalk.i64_in _ (by omega)]; simp
  have l9 : ((i + 1 : Nat) : Int) ≤ (cx : Int) := by omega
  have l10 : i + 1 ≤ cx := by omega
  have l11 : 0 ≤ (i : Int) + 1 := by omega
  have l12 : (i : Int) + 1 ≤ (nx : Int) := by omega
  go_wp2
  refine wp_relS 9 106 rfl (by kernel_rfl) (by kernel_rfl) ?_
  apply Steps.one (MP.ofs 82 2 W5.heap.size []) 1 rfl
  · intro o ho FA x hO hD K hK
    obtain rfl := Option.some.inj ho.symm
    clear ho
    clear hO hD
    go_simp
    refine hK.out _ _ (Ex.alloc _ _) ⟨_, _, rfl, ?_⟩
    have h := Os.lit (s := 2) (e := 82) (base := W5.heap.size) (plus W5 x.bs x.d) (by simp [size_plus]) #[] 0 rfl (Nat.zero_le _)
    rw [size_plus] at h
    exact h
  apply Steps.one (MP.eq _) 2 rfl
  · intro o ho FA x hO hD K hK
    obtain rfl := Option.some.inj ho.symm
    clear ho
    have e9 := hO 9 (by kernel_rfl)
    simp only [eval_tmp, List.getElem?_toArray, List.getElem?_cons_succ, List.getElem?_cons_zero, Option.getD_some] at e9
    have ev9 := Lib.hid ((eval_tmp FA 9).trans e9)
    clear hO hD
    go_simp
    exact hK.out _ _ (Ex.refl _) rfl
  apply Steps.one (MP.eq _) 3 rfl
  · intro o ho FA x hO hD K hK
    obtain rfl := Option.some.inj ho.symm
    clear ho
    have e10 := hO 10 (by kernel_rfl)
    simp only [eval_tmp, List.getElem?_toArray, List.getElem?_cons_succ, List.getElem?_cons_zero, Option.getD_some] at e10
    have ev10 := Lib.hid ((eval_tmp FA 10).trans e10)
    clear hO hD
    go_simp
    exact hK.out _ _ (Ex.refl _) rfl
  apply Steps.one (MP.eq _) 4 rfl
  · intro o ho FA x hO hD K hK
    obtain rfl := Option.some.inj ho.symm
    clear ho
    have ev60 : FA.eval (.tmp 60) = _ := hD 1 60 (by kernel_rfl)
    have e60 := (eval_tmp FA 60).symm.trans ev60
    replace ev60 := Lib.hid ev60
    have ev61 : FA.eval (.tmp 61) = _ := hD 2 61 (by kernel_rfl)
    have e61 := (eval_tmp FA 61).symm.trans ev61
    replace ev61 := Lib.hid ev61
    clear hO hD
    go_simp
    exact hK.out _ _ (Ex.refl _) rfl
  apply Steps.one (MP.os 82 2 W5.heap.size ([] ++ prs .i64 (L.take i))) 5 rfl
  · intro o ho FA x hO hD K hK
    obtain rfl := Option.some.inj ho.symm
    clear ho
    have f59 := hD 0 59 (by kernel_rfl)
    generalize eu59 : FA.eval (.tmp 59) = u59 at f59
    have e59 := (eval_tmp FA 59).symm.trans eu59
    have ev59 := Lib.hid eu59
    clear eu59
    have ev62 : FA.eval (.tmp 62) = _ := hD 3 62 (by kernel_rfl)
    have e62 := (eval_tmp FA 62).symm.trans ev62
    replace ev62 := Lib.hid ev62
    clear hO hD
    obtain ⟨A1, n1, hv1, h1⟩ := f59
    have hn1 : n1 = 0 := by have := h1.rs.1; simp at this; omega
    subst hn1
    refine wanted_if rfl ?_
    refine wp_appFS etMb (.tmp 59) (.tmp 62) rfl (ev59.out.trans hv1) h1 ev62.out (htake.plus_ x.bs x.d) (prs_one _ _) (by omega) (by simp [size_plus]) ?_
    intro A3 n3 c3 w3 hn3 ho3 hex
    exact hK.out _ _ hex ⟨_, _, _, rfl, ho3⟩
  apply Steps.one (MP.eq _) 6 rfl
  · intro o ho FA x hO hD K hK
    obtain rfl := Option.some.inj ho.symm
    clear ho
    have e9 := hO 9 (by kernel_rfl)
    simp only [eval_tmp, List.getElem?_toArray, List.getElem?_cons_succ, List.getElem?_cons_zero, Option.getD_some] at e9
    have ev9 := Lib.hid ((eval_tmp FA 9).trans e9)
    clear hO hD
    go_simp
    exact hK.out _ _ (Ex.refl _) rfl
  apply Steps.one (MP.eq _) 7 rfl
  · intro o ho FA x hO hD K hK
    obtain rfl := Option.some.inj ho.symm
    clear ho
    have e10 := hO 10 (by kernel_rfl)
    simp only [eval_tmp, List.getElem?_toArray, List.getElem?_cons_succ, List.getElem?_cons_zero, Option.getD_some] at e10
    have ev10 := Lib.hid ((eval_tmp FA 10).trans e10)
    clear hO hD
    go_simp
    exact hK.out _ _ (Ex.refl _) rfl
  apply Steps.one (MP.eq _) 8 rfl
  · intro o ho FA x hO hD K hK
    obtain rfl := Option.some.inj ho.symm
    clear ho
    have ev65 : FA.eval (.tmp 65) = _ := hD 6 65 (by kernel_rfl)
    have e65 := (eval_tmp FA 65).symm.trans ev65
    replace ev65 := Lib.hid ev65
    clear hO hD
    go_simp
    exact hK.out _ _ (Ex.refl _) rfl
  apply Steps.one (MP.eq _) 9 rfl
  · intro o ho FA x hO hD K hK
    obtain rfl := Option.some.inj ho.symm
    clear ho
    have ev64 : FA.eval (.tmp 64) = _ := hD 5 64 (by kernel_rfl)
    have e64 := (eval_tmp FA 64).symm.trans ev64
    replace ev64 := Lib.hid ev64
    have ev66 : FA.eval (.tmp 66) = _ := hD 7 66 (by kernel_rfl)
    have e66 := (eval_tmp FA 66).symm.trans ev66
    replace ev66 := Lib.hid ev66
    clear hO hD
    go_simp
    exact hK.out _ _ (Ex.refl _) rfl
  refine Steps.fin_ (fun vs x hp => ?_)
  have p0 := hp 0 (by omega)
  have p1 : vs 1 = _ := hp 1 (by omega)
  have p2 : vs 2 = _ := hp 2 (by omega)
  have p3 : vs 3 = _ := hp 3 (by omega)
  have p4 := hp 4 (by omega)
  have p5 : vs 5 = _ := hp 5 (by omega)
  have p6 : vs 6 = _ := hp 6 (by omega)
  have p7 : vs 7 = _ := hp 7 (by omega)
  have p8 : vs 8 = _ := hp 8 (by omega)
  clear hp
  simp only [List.take_succ_cons, List.take_zero, List.drop_succ_cons, List.drop_zero, putAll, Nat.zero_add, Nat.reduceAdd, Act.put, List.setIfInBounds_toArray, List.set_cons_zero, List.set_cons_succ, p1, p2, p3, p5, p6, p7, p8]
  clear p1 p2 p3 p5 p6 p7 p8
  generalize vs 0 = y0 at *
  generalize vs 4 = y4 at *
  clear vs
  obtain ⟨A4, n4, c4, rfl, h4⟩ := p4
  have hl4 := h4.rs.1
  have hb4 : W5.heap.size ≤ (plus W5 x.bs x.d).heap.size := by simp [size_plus]
  simp only [List.nil_append] at h4 hl4
  rw [prs_length] at hl4
  have hn4 : n4 ≤ 12 := by simp at hl4; omega
  go_upto_region 9 with (at_builtin; refine wpList_appS etMb rfl (.tmp 63) (.tmp 67) rfl rfl h4 rfl (hcut1.plus_ x.bs x.d) (prs_one _ _) (by omega) hb4 ?_; intro A5 n5 c5 w5 hn5 hO5 hb5 hg5)

  replace hr := hr.later ((below_plus W5 x.bs x.d).trans hb5)
  replace hk := hk.later ((below_plus W5 x.bs x.d).trans hb5)
  replace hX2 := hX2.later ((below_plus W5 x.bs x.d).trans hb5)
  have zw5 := be.size
  replace be := be.trans (((below_plus W5 x.bs x.d).trans hb5).mono zw5)
  have hR5 := hO5.rs
  rw [← prs_append] at hR5
  clear hO5 hcut1 htake h4
  subst hn5
  have hn5 : n4 + (nx - (i + 1)) ≤ 1000 := by simp at hl4; omega
  clear hl4
  go_upto_region 10 with (first
      | (refine at_op (.load 74 (.tmp 4)) rfl ?_; refine wpList_ldA (t := 74) 74 (.tmp 4) rfl rfl (bcs key) rfl (hk) (whole_ _) u1 u2 (szK16 key hk0) ?_)
      | (go_at_call 32; refine (HP3.out _ _ _ _ hr hR5 (by omega)).mono ?_; rintro e w1 ⟨bs1, d1, rfl, rfl⟩))
  replace hr := hr.plus_ bs1 d1
  replace hX2 := hX2.plus_ bs1 d1
  replace hk := hk.later (below_plus _ bs1 d1)
  replace be := belowP be bs1 d1
  generalize plus w5 bs1 d1 = W5 at *
  clear hR5 p0
  obtain ⟨e0, -⟩ := hX2.range2 i hiL
  have hxb2 : xb < W5.heap.size := by have := hX2.at_ (by omega) (by decide); obtain ⟨b', o', h1, h2, -⟩ := this; simp only [Option.some.injEq, Addr.mk.injEq] at h1; omega
  have eId : L[i].1 = L[i].1 := rfl
  generalize hid : L[i].1 = id at *
  cases p2 with
  | false =>
    clear e0
    go_wp2_with (go_at_call 31; refine (awake16 _).mono ?_; rintro e w1 ⟨bs3, d3, rfl, rfl⟩)
    go_ret
    exact RetV.is_ (by simp) (belowP be _ _)
  | true =>
    have hl := HLAW.out rfl
    by_cases hp : p1 = id
    · subst hp
      clear hl
      go_wp2_with (go_at_call 31; refine (awake16 _).mono ?_; rintro e w1 ⟨bs3, d3, rfl, rfl⟩)
      go_ret
      exact RetV.is_ (by simp) (belowP be _ _)
    · have hq := hl.resolve_left hp
      simp only [Prod.mk.injEq] at hq
      obtain ⟨rfl, rfl⟩ := hq
      clear hl
      go_wp2_with (go_at_call 31; refine (awake16 _).mono ?_; rintro e w1 ⟨bs3, d3, rfl, rfl⟩)
      go_ret
      exact RetV.is_ (by simp) (belowP be _ _)
end Go.Proofs.Ytfmkndemkpecpaa
