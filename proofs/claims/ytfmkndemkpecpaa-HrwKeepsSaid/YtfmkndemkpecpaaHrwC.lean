/- hrw.scores, hrw.Pick (chapter 16). -/
import Derived.Test.YtfmkndemkpecpaaHrwB
import Derived.Test.YtfmkndemkpecpaaRowR
namespace Go.Proofs.Ytfmkndemkpecpaa
open Go.RowKit
set_option linter.unusedVariables false
set_option linter.unusedSimpArgs false
attribute [local go_sem ↓] sliced_cut
attribute [local go_sem] cutA_zero

theorem etSc : ET Try.prog 193 196 (.agg #[.int .i64 0, .int .u64 0]) 2 16 := ⟨Try.underlying193, by kernel_rfl, rfl, by decide, by decide⟩
theorem scd_snoc (S : Int × Int → Int) (L : List (Int × Int)) (j : Nat) (hj : j < L.length) : scd S (L.take (j + 1)) = scd S (L.take j) ++ scd S [L[j]] := by
  rw [← scd_append]
  congr 1
  simp
theorem scd_len (S : Int × Int → Int) : ∀ L, (scd S L).length ≤ L.length
  | [] => by simp [scd]
  | m :: t => by
    have := scd_len S t
    simp only [scd]
    split <;> simp <;> omega
/-- members that may be -/
def Light (L : List (Int × Int)) : Prop := ∀ p ∈ L, 0 ≤ p.1 ∧ p.1 < 64 ∧ p.2 < 8
set_option maxHeartbeats 4000000 in
set_option maxRecDepth 100000 in
theorem scores_any (key : List UInt8) (hk0 : K16 key) (L : List (Int × Int)) (hL : Light L) (Al : Option Addr) (nl cl : Nat) (A : Option Addr) (n c : Nat) (b : List UInt8) (w : World) (hr : Rb w A n c b) (hl : Rs 2 w Al nl cl (prs .i64 L)) (hm : n ≤ 1000) (hml : nl ≤ 1000) :
    Calls Try.prog 82 #[.agg (bcs key).toArray, .slice Al nl cl, .slice A n c] w (RetRs 2 w (prs .u64 (scd (scoreI key b) L))) := by
  obtain ⟨dk, u1, u2, u3⟩ := rowKey
  obtain ⟨dm, m1, m2⟩ := rowMb
  have hln : L.length = nl := by have := hl.1; rw [prs_length] at this; omega
  have hcap := hl.2.1
  have hk : Bk (w.alloc (.cells (bcs key).toArray 192)) w.heap.size 192 (bcs key) := Bk.new w 192 (bcs key).toArray
  have be : Below w.heap.size w (w.alloc (.cells (bcs key).toArray 192)) := Below.allocS (Below.refl _ _) _
  have zV : w.heap.size + 1 ≤ (w.alloc (.cells (bcs key).toArray 192)).heap.size := by simp
  go_enter Try.func82, Try.ntmps82
  go_upto_region 1 with (fail)
  generalize w.alloc (.cells (bcs key).toArray 192) = V at *
  go_upto_region 3 with (fail)
  have HK := Lib.hid hk
  have HE := Lib.hid be
  clear hk be
  go_loopw [12, 7] (fun i s wr => ∃ (j : Nat) (A' : Option Addr) (n' c' : Nat), j ≤ nl ∧ i = .int .i64 (j : Int) ∧ s = .slice A' n' c' ∧ Os 196 2 wr (w.heap.size + 1) A' n' c' (prs .u64 (scd (scoreI key b) (L.take j))) ∧ Bk wr w.heap.size 192 (bcs key) ∧ Below w.heap.size w wr) (fun i _ _ => nl - (intOf i).toNat)
  case atStart => exact ⟨0, none, 0, 0, Nat.zero_le _, rfl, rfl, Os.nil_, HK.out, HE.out⟩
  case round =>
    clear HK HE
    obtain ⟨j, A', n', c', hj, rfl, rfl, hO, hY, hE⟩ := hrel
    by_cases hlt : j < nl
    · have ij : (j : Int) < (nl : Int) := by omega
      have hjL : j < L.length := by omega
      obtain ⟨bl, ol, rfl, hbl, -⟩ := hl.at_ (by omega) (by decide)
      obtain ⟨q0, q1⟩ := (hl.later hE).range2 j hjL
      have hp := hL L[j] (List.getElem_mem hjL)
      have hsn := scd_snoc (scoreI key b) L j hjL
      have hle := scd_len (scoreI key b) (L.take j)
      generalize L[j] = p at *
      obtain ⟨pid, wt⟩ := p
      obtain ⟨id, rfl⟩ := Int.eq_ofNat_of_zero_le hp.1
      have hid : id < 64 := by have := hp.2.1; simp at this; omega
      have hwt : wt < 8 := hp.2.2
      have hn' : n' ≤ 1000 := by have := hO.rs.1; rw [prs_length] at this; simp at hle; omega
      have HN := Lib.hid hsn
      have zw := hE.size
      have zK := hY.lt
      clear hp hsn hle
      simp only [] at q0 q1
      go_upto_region 5 with (fail)
      have h9 : Bk (wr.alloc (.cells #[.int .i64 (id : Int), .int .i64 wt] 82)) wr.heap.size 82 (mbC ((id : Int), wt)) := Bk.new _ _ _
      replace hY := hY.alloc (.cells #[.int .i64 (id : Int), .int .i64 wt] 82)
      replace hE := Below.allocS hE (.cells #[.int .i64 (id : Int), .int .i64 wt] 82)
      replace hO := hO.later ((Below.refl _ _).alloc (Nat.le_refl _) (.cells #[.int .i64 (id : Int), .int .i64 wt] 82))
      obtain ⟨z9, hz9⟩ : ∃ z, z = wr.heap.size := ⟨_, rfl⟩
      rw [← hz9] at h9 ⊢
      have hz9' : w.heap.size + 1 ≤ z9 := by omega
      generalize wr.alloc (.cells #[.int .i64 (id : Int), .int .i64 wt] 82) = w2 at *
      clear hz9 q0 q1
      have q1 : w2.cell? ⟨z9, 1, none⟩ = some (.int .i64 wt) := h9.cell 1
      have hr2 := hr.later (hE.mono (Nat.le_refl _))
      have hbase : w.heap.size + 1 ≤ w2.heap.size := by have := h9.lt; omega
      cases hd : decide (0 < wt) with
      | true =>
        have hw := of_decide_eq_true hd
        have hsc : scd (scoreI key b) [((id : Int), wt)] = [((id : Int), scoreI key b ((id : Int), wt))] := by simp only [scd]; rw [if_pos hw]
        have HSC := Lib.hid hsc
        clear hsc hw
        have HS := Lib.hid (fun w (h : Rb w A n c b) => score_any key hk0 id wt A n c b w h (by omega) (by omega) (by omega))
        go_upto_region 6 with (fail)
        go_wp2
        refine wp_relS 9 31 rfl (by kernel_rfl) (by kernel_rfl) ?_
        apply Steps.one (MP.eq _) 1 rfl
        · intro o ho FA x hO hD K hK
          obtain rfl := Option.some.inj ho.symm
          clear ho
          have e7 := hO 7 (by kernel_rfl)
          simp only [eval_tmp, List.getElem?_toArray, List.getElem?_cons_succ, List.getElem?_cons_zero, Option.getD_some] at e7
          have ev7 := Lib.hid ((eval_tmp FA 7).trans e7)
          clear hO hD
          go_simp
          exact hK.out _ _ (Ex.refl _) rfl
        apply Steps.one (MP.eq _) 2 rfl
        · intro o ho FA x hO hD K hK
          obtain rfl := Option.some.inj ho.symm
          clear ho
          have e9 := hO 9 (by kernel_rfl)
          simp only [eval_tmp, List.getElem?_toArray, List.getElem?_cons_succ, List.getElem?_cons_zero, Option.getD_some] at e9
          have ev9 := Lib.hid ((eval_tmp FA 9).trans e9)
          clear hO hD
          go_simp
          exact hK.out _ _ (Ex.refl _) rfl
        apply Steps.one (MP.eq _) 3 rfl
        · intro o ho FA x hO hD K hK
          obtain rfl := Option.some.inj ho.symm
          clear ho
          have ev20 : FA.eval (.tmp 20) = _ := hD 1 20 (by kernel_rfl)
          have e20 := (eval_tmp FA 20).symm.trans ev20
          replace ev20 := Lib.hid ev20
          clear hO hD
          refine wanted_if rfl ?_
          refine wp_ld1 3 (.tmp 20) rfl ev20.out (h9.later (below_plus _ _ _)) rfl Try.underlying3 rfl ?_
          exact hK.out _ _ (Ex.refl _) rfl
        apply Steps.one (MP.eq _) 4 rfl
        · intro o ho FA x hO hD K hK
          obtain rfl := Option.some.inj ho.symm
          clear ho
          have e3 := hO 3 (by kernel_rfl)
          simp only [eval_tmp, List.getElem?_toArray, List.getElem?_cons_succ, List.getElem?_cons_zero, Option.getD_some] at e3
          have ev3 := Lib.hid ((eval_tmp FA 3).trans e3)
          clear hO hD
          refine wanted_if rfl ?_
          refine wp_ldA 192 (.tmp 3) rfl (bcs key) ev3.out (hY.later (below_plus _ _ _)) (whole_ _) u1 u2 (szKey key hk0) ?_
          exact hK.out _ _ (Ex.refl _) rfl
        apply Steps.one (MP.eq _) 5 rfl
        · intro o ho FA x hO hD K hK
          obtain rfl := Option.some.inj ho.symm
          clear ho
          have e9 := hO 9 (by kernel_rfl)
          simp only [eval_tmp, List.getElem?_toArray, List.getElem?_cons_succ, List.getElem?_cons_zero, Option.getD_some] at e9
          have ev9 := Lib.hid ((eval_tmp FA 9).trans e9)
          clear hO hD
          refine wanted_if rfl ?_
          refine wp_ldA 82 (.tmp 9) rfl (mbC ((id : Int), wt)) ev9.out (h9.later (below_plus _ _ _)) (whole_ _) m1 m2 (szMb _) ?_
          exact hK.out _ _ (Ex.refl _) rfl
        apply Steps.one (MP.eq _) 6 rfl
        · intro o ho FA x hO hD K hK
          obtain rfl := Option.some.inj ho.symm
          clear ho
          have e2 := hO 2 (by kernel_rfl)
          simp only [eval_tmp, List.getElem?_toArray, List.getElem?_cons_succ, List.getElem?_cons_zero, Option.getD_some] at e2
          have ev2 := Lib.hid ((eval_tmp FA 2).trans e2)
          clear hO hD
          go_simp
          exact hK.out _ _ (Ex.refl _) rfl
        apply Steps.one (MP.eq _) 7 rfl
        · intro o ho FA x hO hD K hK
          obtain rfl := Option.some.inj ho.symm
          clear ho
          have ev22 : FA.eval (.tmp 22) = _ := hD 3 22 (by kernel_rfl)
          have e22 := (eval_tmp FA 22).symm.trans ev22
          replace ev22 := Lib.hid ev22
          have ev23 : FA.eval (.tmp 23) = _ := hD 4 23 (by kernel_rfl)
          have e23 := (eval_tmp FA 23).symm.trans ev23
          replace ev23 := Lib.hid ev23
          have ev24 : FA.eval (.tmp 24) = _ := hD 5 24 (by kernel_rfl)
          have e24 := (eval_tmp FA 24).symm.trans ev24
          replace ev24 := Lib.hid ev24
          clear hO hD
          go_simp
          refine (HS.out _ (hr2.plus_ _ _)).mono ?_
          rintro e w1 ⟨bs2, d2, rfl, rfl⟩
          exact hK.out _ _ (Ex.plus_ _ _ _) rfl
        apply Steps.one (MP.eq _) 8 rfl
        · intro o ho FA x hO hD K hK
          obtain rfl := Option.some.inj ho.symm
          clear ho
          have ev21 : FA.eval (.tmp 21) = _ := hD 2 21 (by kernel_rfl)
          have e21 := (eval_tmp FA 21).symm.trans ev21
          replace ev21 := Lib.hid ev21
          have ev25 : FA.eval (.tmp 25) = _ := hD 6 25 (by kernel_rfl)
          have e25 := (eval_tmp FA 25).symm.trans ev25
          replace ev25 := Lib.hid ev25
          clear hO hD
          go_simp
          exact hK.out _ _ (Ex.refl _) rfl
        apply Steps.one (MP.rs 2 (scC ((id : Int), scoreI key b ((id : Int), wt)))) 9 rfl
        · intro o ho FA x hO hD K hK
          obtain rfl := Option.some.inj ho.symm
          clear ho
          have ev26 : FA.eval (.tmp 26) = _ := hD 7 26 (by kernel_rfl)
          have e26 := (eval_tmp FA 26).symm.trans ev26
          replace ev26 := Lib.hid ev26
          clear hO hD
          go_simp
          exact hK.out _ _ (Ex.alloc _ _) ⟨_, _, _, rfl, Rs.of_bk (Bk.newK _ _ _ (by simp [size_plus]) rfl) rfl (Nat.le_refl _)⟩
        refine Steps.fin_ (fun vs x hp => ?_)
        have p0 : vs 0 = _ := hp 0 (by omega)
        have p1 : vs 1 = _ := hp 1 (by omega)
        have p2 : vs 2 = _ := hp 2 (by omega)
        have p3 : vs 3 = _ := hp 3 (by omega)
        have p4 : vs 4 = _ := hp 4 (by omega)
        have p5 : vs 5 = _ := hp 5 (by omega)
        have p6 : vs 6 = _ := hp 6 (by omega)
        have p7 : vs 7 = _ := hp 7 (by omega)
        have p8 := hp 8 (by omega)
        clear hp
        simp only [List.take_succ_cons, List.take_zero, List.drop_succ_cons, List.drop_zero, putAll, Nat.zero_add, Nat.reduceAdd, Act.put, List.setIfInBounds_toArray, List.set_cons_zero, List.set_cons_succ, p0, p1, p2, p3, p4, p5, p6, p7]
        clear p0 p1 p2 p3 p4 p5 p6 p7
        generalize vs 8 = y8 at *
        clear vs
        obtain ⟨A8, n8, c8, rfl, h8⟩ := p8
        replace hY := hY.later (below_plus _ x.bs x.d)
        replace hE := belowP hE x.bs x.d
        replace hO := hO.plus_ x.bs x.d
        have hb3 : w.heap.size + 1 ≤ (plus w2 x.bs x.d).heap.size := by have := hY.lt; omega
        have hn8 : n8 = 1 := by have := h8.1; simp [scC] at this; omega
        subst hn8
        generalize plus w2 x.bs x.d = w3 at *
        go_wp2_with (at_builtin; refine wpList_appS etSc rfl (.tmp 19) (.tmp 27) rfl rfl hO rfl h8 (scC_one _) (by omega) hb3 ?_; intro A2 n2 c2 w4 hn2 hO4 hb4 hg4; subst hn2)
        exact ⟨⟨j + 1, A2, _, c2, by omega, by go_num, rfl, by rw [HN.out, HSC.out, prs_append]; exact hO4, hY.below hb4 (by omega), hE.trans (hb4.mono (by omega))⟩, by simp [intOf]; omega⟩
      | false =>
        have hw := of_decide_eq_false hd
        have hsc : scd (scoreI key b) [((id : Int), wt)] = [] := by simp only [scd]; rw [if_neg hw]
        have HSC := Lib.hid hsc
        clear hsc hw
        go_wp2_with fail
        exact ⟨⟨j + 1, A', n', c', by omega, by go_num, rfl, by rw [HN.out, HSC.out, List.append_nil]; exact hO, hY, hE⟩, by simp [intOf]; omega⟩
    · obtain rfl : j = nl := by omega
      have ij : ¬ (j : Int) < (j : Int) := by omega
      have e : L.take j = L := by rw [List.take_of_length_le (by omega)]
      have HO := Lib.hid hO
      rw [e] at HO
      clear hO e
      go_wp2
      go_ret
      exact RetRs.mk HO.out.rs hE
set_option maxHeartbeats 4000000 in
set_option maxRecDepth 100000 in
theorem pick_any (key : List UInt8) (hk0 : K16 key) (L : List (Int × Int)) (hL : Light L) (Al : Option Addr) (nl cl : Nat) (A : Option Addr) (n c : Nat) (b : List UInt8) (w : World) (hr : Rb w A n c b) (hl : Rs 2 w Al nl cl (prs .i64 L)) (hm : n ≤ 1000) (hml : nl ≤ 1000) :
    Calls Try.prog 32 #[.agg (bcs key).toArray, .slice Al nl cl, .slice A n c] w (RetV w (.tuple #[.int .i64 (pk (scd (scoreI key b) L)).1, .bool (pk (scd (scoreI key b) L)).2])) := by
  obtain ⟨dk, u1, u2, u3⟩ := rowKey
  have hln : L.length = nl := by have := hl.1; rw [prs_length] at this; omega
  have hsl := scd_len (scoreI key b) L
  have HS := Lib.hid (fun w (h : Rb w A n c b) (h2 : Rs 2 w Al nl cl (prs .i64 L)) => scores_any key hk0 L hL Al nl cl A n c b w h h2 hm hml)
  have hk : Bk (w.alloc (.cells (bcs key).toArray 192)) w.heap.size 192 (bcs key) := Bk.new w 192 (bcs key).toArray
  have be : Below w.heap.size w (w.alloc (.cells (bcs key).toArray 192)) := Below.allocS (Below.refl _ _) _
  have zV : w.heap.size + 1 ≤ (w.alloc (.cells (bcs key).toArray 192)).heap.size := by simp
  go_enter Try.func32, Try.ntmps32
  go_upto_region 1 with (fail)
  generalize w.alloc (.cells (bcs key).toArray 192) = V at *
  replace hr := hr.later be
  replace hl := hl.later be
  clear hL
  generalize scd (scoreI key b) L = S at *
  go_upto_region 2 with (first
    | (refine at_op (.load 192 (.tmp 3)) rfl ?_; refine wpList_ldA (t := 192) 192 (.tmp 3) rfl rfl (bcs key) rfl (hk) (whole_ _) u1 u2 (szKey key hk0) ?_)
    | (go_at_call 82; refine (HS.out _ hr hl).mono ?_; rintro e w2 ⟨A2, n2, c2, bs2, d2, rfl, rfl, h2⟩))
  replace be := belowP be bs2 d2
  generalize plus V bs2 d2 = w2 at *
  have hn2 := h2.1
  rw [prs_length] at hn2
  clear hk hr hl HS
  cases S with
  | nil =>
    have i0 : ((n2 : Int) == 0) = true := by rw [beq_iff_eq]; simp at hn2; omega
    clear hn2
    go_wp2
    go_ret2
    exact RetV.is_ (by simp [pk]) be
  | cons m t =>
    have i0 : ((n2 : Int) == 0) = false := by simp at hn2; simp; omega
    have hn3 : n2 ≤ 1000 := by omega
    clear hn2
    have HM : Calls Try.prog 83 #[.slice A2 n2 c2, .func (.func 84) #[] #[]] w2 (RetV w2 (.agg #[.int .i64 (pickS m t).1, .int .u64 (pickS m t).2])) := minF_any A2 n2 c2 m t w2 h2 (by omega)
    have e : pk (m :: t) = ((pickS m t).1, true) := rfl
    have HP := Lib.hid e
    clear e h2
    generalize pickS m t = r at *
    obtain ⟨r1, r2⟩ := r
    have hfd : ∀ w : World, (Instr.field 196 (.agg #[.int .i64 r1, .int .u64 r2]) 0).run Try.prog w = .ok (.int .i64 r1) w := fun _ => by kernel_rfl
    simp only [] at HM HP
    go_wp2_with (go_at_call 83; refine HM.mono ?_; rintro e w3 ⟨bs3, d3, rfl, rfl⟩)
    go_ret2
    exact RetV.is_ (by rw [HP.out]; rfl) (belowP be _ _)
end Go.Proofs.Ytfmkndemkpecpaa
