/- Texts of the law MaglevEven, part 2. -/
import Derived.Test.YtknoenceccpkhaaDoorZMaglevEven1
/- maglev.Build (chapter 42). -/
namespace Go.Proofs.YtknoenceccpkhaaDoor
open Go.RowKit
set_option linter.unusedVariables false
set_option linter.unusedSimpArgs false
attribute [local go_sem ↓] sliced_cut

attribute [local go_sem] cutA_zero

theorem splice_get (cs : List Value) (off : Nat) (new : List Value) (h : off + new.length ≤ cs.length) (i : Nat) : (splice cs off new)[i]? = if i < off then cs[i]? else if i < off + new.length then new[i - off]? else cs[i]? := by
  unfold splice
  by_cases h1 : i < off
  · rw [if_pos h1, List.getElem?_append_left (by rw [List.length_take]; omega), List.getElem?_take, if_pos h1]
  · rw [if_neg h1, List.getElem?_append_right (by rw [List.length_take]; omega)]
    have e : (cs.take off).length = off := by rw [List.length_take]; omega
    rw [e]
    by_cases h2 : i < off + new.length
    · rw [if_pos h2, List.getElem?_append_left (by omega)]
    · rw [if_neg h2, List.getElem?_append_right (by omega), List.getElem?_drop]
      congr 1
      omega
theorem splice_len (cs : List Value) (off : Nat) (new : List Value) (h : off + new.length ≤ cs.length) : (splice cs off new).length = cs.length := by
  unfold splice
  simp
  omega
/-- orders stand in a row -/
def OrdOk (key : List UInt8) (p : Nat) (l : List Int) (cs : List Value) (j : Nat) : Prop := cs.length = l.length * 2 ∧ ∀ i, i < j → (hi : i < l.length) → cs[i * 2]? = some (.int .i64 ((magFZ key p l[i] : Nat) : Int)) ∧ cs[i * 2 + 1]? = some (.int .i64 ((magSZ key p l[i] : Nat) : Int))
theorem OrdOk.step {key : List UInt8} {p : Nat} {l : List Int} {cs : List Value} {j : Nat} (h : OrdOk key p l cs j) (hj : j < l.length) : OrdOk key p l (splice cs (j * 2) (ordC ((magFZ key p l[j] : Nat) : Int) ((magSZ key p l[j] : Nat) : Int))) (j + 1) := by
  have hl := h.1
  have hle : j * 2 + (ordC ((magFZ key p l[j] : Nat) : Int) ((magSZ key p l[j] : Nat) : Int)).length ≤ cs.length := by simp [ordC]; omega
  refine ⟨by rw [splice_len _ _ _ hle, hl], fun i hi hiL => ?_⟩
  rw [splice_get _ _ _ hle, splice_get _ _ _ hle]
  by_cases e : i = j
  · subst e
    have e2 : (ordC ((magFZ key p l[i] : Nat) : Int) ((magSZ key p l[i] : Nat) : Int)).length = 2 := rfl
    rw [if_neg (Nat.lt_irrefl _), if_neg (show ¬ i * 2 + 1 < i * 2 by omega), e2, if_pos (show i * 2 < i * 2 + 2 by omega), if_pos (show i * 2 + 1 < i * 2 + 2 by omega), Nat.sub_self, show i * 2 + 1 - i * 2 = 1 by omega]
    exact ⟨rfl, rfl⟩
  · rw [if_pos (by omega), if_pos (by omega)]
    exact h.2 i (by omega) hiL
/-- where each member looks next -/
def NxOk (key : List UInt8) (p : Nat) (l : List Int) (T nx : List Int) : Prop := nx.length = l.length ∧ ∀ t, t < l.length → ∃ c : Nat, nx[t]? = some (c : Int) ∧ c < p ∧ ∀ i, i < c → T[ordA (magFZ key p (l.getD t 0)) (magSZ key p (l.getD t 0)) p i]? ≠ some 0
theorem NxOk.start (key : List UInt8) (p : Nat) (l : List Int) (hp : 0 < p) (T : List Int) : NxOk key p l T (List.replicate l.length 0) := by
  refine ⟨by simp, fun t ht => ⟨0, ?_, hp, fun i h => by omega⟩⟩
  simp [ht]
theorem NxOk.step {key : List UInt8} {p : Nat} {l : List Int} {nx : List Int} (hR : RightL p l) (k : Nat) (h : NxOk key p l (magT key l p k) nx) {q : Nat}
    (hq : FirstFree (magT key l p k) (magFZ key p (l.getD (k % l.length) 0)) (magSZ key p (l.getD (k % l.length) 0)) p q) : NxOk key p l (magT key l p (k + 1)) (nx.set (k % l.length) (q : Int)) := by
  refine ⟨by rw [List.length_set]; exact h.1, fun t ht => ?_⟩
  by_cases e : k % l.length = t
  · subst e
    refine ⟨q, by rw [List.getElem?_set_self (by rw [h.1]; exact ht)], hq.1, fun i hi => tabN_stays hR k _ (hq.2.2 i hi)⟩
  · obtain ⟨c, h1, h2, h3⟩ := h.2 t ht
    refine ⟨c, by rw [List.getElem?_set_ne e]; exact h1, h2, fun i hi => tabN_stays hR k _ (h3 i hi)⟩
/-- a table's cells -/
def tbC (A : Option Addr) (n c : Nat) : List Value := [.slice A n c]
theorem tbC_one (A : Option Addr) (n c : Nat) : ∀ u ∈ tbC A n c, u.oneCell' = true := by simp [tbC, Value.oneCell']
theorem szTb (A : Option Addr) (n c : Nat) : (Tryd.prog.info? 27).map (·.size) = some (tbC A n c).length := by kernel_rfl
theorem rowTb : ∃ d, Tryd.prog.underlying 27 = some d ∧ d.isRow = true := ⟨_, Tryd.underlying27, rfl⟩
theorem etOr : ET Tryd.prog 42 44 (.agg #[.int .i64 0, .int .i64 0]) 2 16 := ⟨Tryd.underlying42, by kernel_rfl, rfl, by decide, by decide⟩
/-- a new table -/
def RetTab (w : World) (T : List Int) (e : Ending) (w' : World) : Prop := ∃ A c bs d, e = .returned (.tuple #[.agg (tbC A T.length c).toArray, .int .i64 0]) ∧ w' = plus w bs d ∧ Rs 1 (plus w bs d) A T.length c (its T)
set_option maxHeartbeats 4000000 in
set_option maxRecDepth 100000 in
theorem build_no (key : List UInt8) (hk0 : K16 key) (s : Int) (l : List Int) (A : Option Addr) (n c : Nat) (w : World) (hl : Rs 1 w A n c (its l)) (hn : n ≤ 1000) (hs : s < 300 ∨ 2048 < s) (hlo : -9223372036854775808 ≤ s) (hhi : s ≤ 9223372036854775807) (hT : TabB w) (hR : ¬ RightZ s l) :
    Calls Tryd.prog 6 #[.agg (bcs key).toArray, .int .i64 s, .slice A n c] w (RetV w (.tuple #[.agg (tbC none 0 0).toArray, .int .i64 1])) := by
  obtain ⟨dk, u1, u2, u3⟩ := rowKey
  obtain ⟨dt, o1, o2⟩ := rowTb
  have hk : Bk ((w.alloc (.cells (bcs key).toArray 41)).alloc (.cells ([.slice none 0 0]).toArray 27)) w.heap.size 41 (bcs key) := (Bk.new w 41 (bcs key).toArray).alloc _
  have hTb : Bk ((w.alloc (.cells (bcs key).toArray 41)).alloc (.cells ([.slice none 0 0]).toArray 27)) (w.heap.size + 1) 27 ([.slice none 0 0]) := Bk.newK _ _ _ (by simp) rfl
  have be : Below w.heap.size w ((w.alloc (.cells (bcs key).toArray 41)).alloc (.cells ([.slice none 0 0]).toArray 27)) := Below.allocS (Below.allocS (Below.refl _ _) _) _
  have zV : w.heap.size + 2 ≤ ((w.alloc (.cells (bcs key).toArray 41)).alloc (.cells ([.slice none 0 0]).toArray 27)).heap.size := by simp
  go_enter Tryd.func6, Tryd.ntmps6
  go_upto_region 1 with (fail)
  generalize (w.alloc (.cells (bcs key).toArray 41)).alloc (.cells ([.slice none 0 0]).toArray 27) = V at *
  have HF := Lib.hid (fits_any s l A n c V (hl.later be) hn hs hlo hhi false (by simp [hR]) (hT.later be))
  go_upto_region 2 with (go_at_call 14; refine HF.out.mono ?_; rintro e w1 ⟨bs1, d1, rfl, rfl⟩)
  replace hTb := hTb.later (below_plus V bs1 d1)
  replace be := belowP be bs1 d1
  generalize plus V bs1 d1 = V1 at *
  refine wp_region_lit ?_
  refine wpList_plain rfl (fun K hK => ?_); go_simp; with_reducible refine hK _ _ ?_; clear hK K
  refine wpList_stA (t := 27) 27 (.tmp 6) (.tmp 20) rfl rfl (tbC none 0 0) [.slice none 0 0] rfl (tbC_one _ _ _) rfl rfl hTb (szTb _ _ _) ?_
  intro W9 h9 g9
  go_wp2
  refine bodyPost_agg2 Tryd.results6 rfl rfl h9.range o1 o2 (szTb _ _ _) rfl ?_
  exact RetV.mk (below_grown be g9 (by omega))
set_option maxHeartbeats 4000000 in
set_option maxRecDepth 100000 in
theorem build_yes (key : List UInt8) (hk0 : K16 key) (p : Nat) (l : List Int) (A : Option Addr) (n c : Nat) (w : World) (hl : Rs 1 w A n c (its l)) (hR : RightL p l) (hT : TabB w) :
    Calls Tryd.prog 6 #[.agg (bcs key).toArray, .int .i64 (p : Int), .slice A n c] w (RetTab w (magT key l p p)) := by
  obtain ⟨dk, u1, u2, u3⟩ := rowKey
  obtain ⟨dt, o1, o2⟩ := rowTb
  have hln : l.length = n := by have := hl.1; rw [its_len] at this; omega
  have hp2 := refP_two hR.1
  have hp3 := hR.2.1
  have hn0 : 0 < n := by have := hR.2.2.1; omega
  have hnp : n ≤ p := by have := hR.2.2.2.1; omega
  have HRL := Lib.hid hR
  have hk : Bk ((w.alloc (.cells (bcs key).toArray 41)).alloc (.cells ([.slice none 0 0]).toArray 27)) w.heap.size 41 (bcs key) := (Bk.new w 41 (bcs key).toArray).alloc _
  have hTb : Bk ((w.alloc (.cells (bcs key).toArray 41)).alloc (.cells ([.slice none 0 0]).toArray 27)) (w.heap.size + 1) 27 ([.slice none 0 0]) := Bk.newK _ _ _ (by simp) rfl
  have be : Below w.heap.size w ((w.alloc (.cells (bcs key).toArray 41)).alloc (.cells ([.slice none 0 0]).toArray 27)) := Below.allocS (Below.allocS (Below.refl _ _) _) _
  have zV : w.heap.size + 2 ≤ ((w.alloc (.cells (bcs key).toArray 41)).alloc (.cells ([.slice none 0 0]).toArray 27)).heap.size := by simp
  go_enter Tryd.func6, Tryd.ntmps6
  go_upto_region 1 with (fail)
  generalize (w.alloc (.cells (bcs key).toArray 41)).alloc (.cells ([.slice none 0 0]).toArray 27) = V at *
  have HF := Lib.hid (fits_any p l A n c V (hl.later be) (by omega) (by omega) (by omega) (by omega) true ⟨fun _ => ⟨p, rfl, hR⟩, fun _ => rfl⟩ (hT.later be))
  clear hR hT
  go_upto_region 3 with (go_at_call 14; refine HF.out.mono ?_; rintro e w1 ⟨bs1, d1, rfl, rfl⟩)
  clear HF
  replace hl := hl.later (belowP be bs1 d1)
  replace hk := hk.later (below_plus V bs1 d1)
  replace hTb := hTb.later (below_plus V bs1 d1)
  replace be := belowP be bs1 d1
  replace zV : w.heap.size + 2 ≤ (plus V bs1 d1).heap.size := Nat.le_trans zV (below_plus V bs1 d1).size
  generalize plus V bs1 d1 = V1 at *
  obtain ⟨bl, ol, rfl, hbl, hat⟩ := hl.ints_ hn0
  go_upto_region 3 with (fail)
  refine wp_region_lit ?_
  iterate 2 (refine wpList_plain rfl (fun K hK => ?_); go_simp; with_reducible refine hK _ _ ?_; clear hK K)
  refine wpList_mkS etOr rfl (.tmp 22) rfl n rfl (by omega) ?_
  intro V2 hO0 hb2 hz2
  have hO : OrdOk key p l (madeCells (Value.agg #[.int .i64 0, .int .i64 0]).cells (n * 2)).toList 0 := ⟨by simp [size_madeCells, hln], fun i h => by omega⟩
  generalize (madeCells (Value.agg #[.int .i64 0, .int .i64 0]).cells (n * 2)).toList = cs0 at *
  have hat2 : ∀ j (hj : j < l.length), V2.cell? ⟨bl, ol + j, none⟩ = some (.int .i64 l[j]) := fun j hj => hat j hj V2 hb2
  replace hk := hk.later hb2
  replace hTb := hTb.later hb2
  replace be := be.trans (hb2.mono be.size)
  clear hb2 hat hl
  have hgO : w.heap.size + 2 ≤ V1.heap.size := zV
  generalize V1.heap.size = gO at *
  go_upto_region 5 with (fail)
  have HAT := Lib.hid hat2
  have HE := Lib.hid be
  have HO := Lib.hid hO
  have HO0 := Lib.hid hO0
  have HK := Lib.hid hk
  have HTB := Lib.hid hTb
  clear hat2 be hO hO0 hk hTb
  have hm64 : ∀ m ∈ l, 1 ≤ m ∧ m ≤ 64 := HRL.out.2.2.2.2.1
  have HM := Lib.hid hm64
  clear hm64
  go_loopw [26, 9, 10] (fun I A9 A10 wr => ∃ (j : Nat) (cs : List Value), I = .int .i64 (j : Int) ∧ j ≤ n ∧ Bk wr gO 44 cs ∧ OrdOk key p l cs j ∧ Bk wr w.heap.size 41 (bcs key) ∧ Bk wr (w.heap.size + 1) 27 [.slice none 0 0] ∧ (∀ j (hj : j < l.length), wr.cell? ⟨bl, ol + j, none⟩ = some (.int .i64 l[j])) ∧ Below w.heap.size w wr ∧ gO + 1 ≤ wr.heap.size) (fun I _ _ _ => n - (intOf I).toNat)
  case atStart => exact ⟨0, cs0, rfl, Nat.zero_le _, HO0.out, HO.out, HK.out, HTB.out, HAT.out, HE.out, hz2⟩
  case round =>
    clear HAT HE HO HO0 HK HTB
    obtain ⟨j, cs, rfl, hj, hB, hO, hk, hTb, hat, hE, hz⟩ := hrel
    have HAT := Lib.hid hat
    have HO := Lib.hid hO
    clear hat hO
    by_cases hlt : j < n
    · have ij : (j : Int) < (n : Int) := by omega
      have hjL : j < l.length := by omega
      have hcell := HAT.out j hjL
      have hm := HM.out _ (List.getElem_mem hjL)
      obtain ⟨mm, hmm⟩ := Int.eq_ofNat_of_zero_le (show 0 ≤ l[j] by omega)
      have HST := Lib.hid (HO.out.step hjL)
      rw [hmm] at hcell hm HST
      have HOF := Lib.hid (fun w => magOf_any key hk0 mm p w (by omega) hp2 (by omega))
      have e1 : magFZ key p (mm : Int) = magF key p mm := rfl
      have e2 : magSZ key p (mm : Int) = magS key p mm := rfl
      rw [e1, e2] at HST
      clear e1 e2 hmm hm
      generalize magF key p mm = f at *
      generalize magS key p mm = s at *
      go_upto_region 7 with (fail)
      refine wp_region_lit ?_
      iterate 2 (refine wpList_plain rfl (fun K hK => ?_); go_simp; with_reducible refine hK _ _ ?_; clear hK K)
      refine wpList_ldA (t := 41) 41 (.tmp 3) rfl rfl (bcs key) rfl (hk) (whole_ _) u1 u2 (szKey key hk0) ?_
      iterate 2 (refine wpList_plain rfl (fun K hK => ?_); go_simp; with_reducible refine hK _ _ ?_; clear hK K)
      refine wpList_plain rfl (fun K hK => ?_)
      go_simp
      refine (HOF.out _).mono ?_
      rintro e w1 ⟨bs1, d1, rfl, rfl⟩
      with_reducible refine hK _ _ ?_
      clear hK K
      refine wpList_plain rfl (fun K hK => ?_); go_simp; with_reducible refine hK _ _ ?_; clear hK K
      replace hB := hB.later (below_plus wr bs1 d1)
      replace hk := hk.later (below_plus wr bs1 d1)
      replace hTb := hTb.later (below_plus wr bs1 d1)
      have hat2 : ∀ j (hj : j < l.length), (plus wr bs1 d1).cell? ⟨bl, ol + j, none⟩ = some (.int .i64 l[j]) := fun j hj => by
        have h9 := HAT.out j hj
        rw [← h9]
        exact (below_plus wr bs1 d1).cell (p := ⟨bl, ol + j, none⟩) (lt_of_cell h9)
      replace HAT := Lib.hid hat2
      replace hE := belowP hE bs1 d1
      have hz2 : gO + 1 ≤ (plus wr bs1 d1).heap.size := Nat.le_trans hz (below_plus wr bs1 d1).size
      clear hat2 HOF hcell hz
      generalize plus wr bs1 d1 = W1 at *
      have hcl : j * 2 + (ordC (f : Int) (s : Int)).length ≤ cs.length := by have := HO.out.1; simp [ordC]; omega
      refine wpList_stM 44 (.tmp 37) (.tmp 36) rfl rfl (ordC (f : Int) (s : Int)) cs hcl (ordC_one _ _) rfl rfl hB (szOr _ _) ?_
      intro W2 hB2 g2
      have hat3 : ∀ j (hj : j < l.length), W2.cell? ⟨bl, ol + j, none⟩ = some (.int .i64 l[j]) := fun j hj => by
        have h9 := HAT.out j hj
        rw [← h9]
        exact World.cell?_of_block (g2.block bl (lt_of_cell h9) (fun e => by have := Option.some.inj e; omega))
      have HAT3 := Lib.hid hat3
      have hk3 := hk.grown g2 (by simp; omega)
      have hTb3 := hTb.grown g2 (by simp; omega)
      have hE3 := below_grown hE g2 (by omega)
      have hz3 : gO + 1 ≤ W2.heap.size := Nat.le_trans hz2 g2.size
      clear hk hTb hE hB hat3 HAT HO g2 hz2 hcl
      go_wp2
      exact ⟨⟨j + 1, _, by go_num, by omega, hB2, HST.out, hk3, hTb3, HAT3.out, hE3, hz3⟩, by simp [intOf]; omega⟩
    · obtain rfl : n = j := by omega
      have ij : ¬ (n : Int) < (n : Int) := by omega
      go_upto_region 9 with (fail)
      refine wp_region_lit ?_
      iterate 2 (refine wpList_plain rfl (fun K hK => ?_); go_simp; with_reducible refine hK _ _ ?_; clear hK K)
      refine wpList_mkS etInt rfl (.tmp 40) rfl n rfl (by omega) ?_
      intro V3 hN hb3 hz3
      rw [made_ints n] at hN
      replace hB := hB.later hb3
      replace hTb := hTb.later hb3
      have hat2 : ∀ j (hj : j < l.length), V3.cell? ⟨bl, ol + j, none⟩ = some (.int .i64 l[j]) := fun j hj => by
        have h9 := HAT.out j hj
        rw [← h9]
        exact hb3.cell (p := ⟨bl, ol + j, none⟩) (lt_of_cell h9)
      replace HAT := Lib.hid hat2
      replace hE := hE.trans (hb3.mono hE.size)
      clear hat2 hk hb3
      have hgN : gO + 1 ≤ wr.heap.size := hz
      clear hz
      generalize wr.heap.size = gN at *
      go_upto_region 10 with (fail)
      refine wp_region_lit ?_
      iterate 1 (refine wpList_plain rfl (fun K hK => ?_); go_simp; with_reducible refine hK _ _ ?_; clear hK K)
      refine wpList_mkS etInt rfl (.tmp 42) rfl p rfl (by omega) ?_
      intro V4 hS hb4 hz4
      rw [made_ints p] at hS
      replace hB := hB.later hb4
      replace hTb := hTb.later hb4
      replace hN := hN.later hb4
      have hat2 : ∀ j (hj : j < l.length), V4.cell? ⟨bl, ol + j, none⟩ = some (.int .i64 l[j]) := fun j hj => by
        have h9 := HAT.out j hj
        rw [← h9]
        exact hb4.cell (p := ⟨bl, ol + j, none⟩) (lt_of_cell h9)
      replace HAT := Lib.hid hat2
      replace hE := hE.trans (hb4.mono hE.size)
      clear hat2 hb4
      have hgS : gN + 1 ≤ V3.heap.size := by omega
      have hz5 : V3.heap.size + 1 ≤ V4.heap.size := by omega
      clear hz3 hz4
      generalize V3.heap.size = gS at *
      have hS0 : Bk V4 gS 3 (its (magT key l p 0)) := hS
      have HNX := Lib.hid (hln ▸ NxOk.start key p l (by omega) (magT key l p 0) : NxOk key p l (magT key l p 0) (List.replicate n 0))
      clear hS
      have HS0 := Lib.hid hS0
      have HB := Lib.hid hB
      have HN := Lib.hid hN
      have HE := Lib.hid hE
      have HTB := Lib.hid hTb
      clear hS0 hB hN hE hTb
      go_upto_region 12 with (fail)
      go_loopw [45, 13, 14, 15] (fun I A13 A14 A15 wr => ∃ (k : Nat) (nx : List Int), I = .int .i64 (k : Int) ∧ k ≤ p ∧ Bk wr gS 3 (its (magT key l p k)) ∧ Bk wr gN 3 (its nx) ∧ NxOk key p l (magT key l p k) nx ∧ Bk wr gO 44 cs ∧ Bk wr (w.heap.size + 1) 27 [.slice none 0 0] ∧ (∀ j (hj : j < l.length), wr.cell? ⟨bl, ol + j, none⟩ = some (.int .i64 l[j])) ∧ Below w.heap.size w wr) (fun I _ _ _ _ => p - (intOf I).toNat)
      case atStart => exact ⟨0, _, rfl, Nat.zero_le _, HS0.out, HN.out, HNX.out, HB.out, HTB.out, HAT.out, HE.out⟩
      case round =>
        clear HAT HE HS0 HB HN HNX HTB
        obtain ⟨k, nx, rfl, hkp, hS, hN, hNx, hB, hTb, hat, hE⟩ := hrel
        have HAT := Lib.hid hat
        have HNX := Lib.hid hNx
        clear hat hNx
        by_cases hlt : k < p
        · have ik : (k : Int) < (p : Int) := by omega
          obtain ⟨mm, f, s, q, hm, hm1, hm64, hf, hs, hfp, hs0, hsp, hq, hstep⟩ := mag_step key HRL.out k hlt
          have eF : magFZ key p (l.getD (k % l.length) 0) = f := by rw [hm]; exact hf
          have eS : magSZ key p (l.getD (k % l.length) 0) = s := by rw [hm]; exact hs
          have hnxs := NxOk.step HRL.out k HNX.out (q := q) (by rw [eF, eS]; exact hq)
          have htl : k % l.length < l.length := Nat.mod_lt _ (by omega)
          obtain ⟨c9, hc1, hc2, hc3⟩ := HNX.out.2 (k % l.length) htl
          rw [eF, eS] at hc3
          have hcq : c9 ≤ q := by
            rcases Nat.lt_or_ge q c9 with h | h
            · exact absurd hq.2.1 (hc3 q h)
            · exact h
          have hord := HO.out.2 (k % l.length) (by omega) htl
          have hgl := getD_some htl
          rw [← hgl, eF, eS] at hord
          rw [hgl] at hm
          have hcellm := HAT.out (k % l.length) htl
          rw [hm] at hcellm
          have HMM0 := Lib.hid (show ∀ h : k % l.length < l.length, l[k % l.length] = (mm : Int) from fun _ => hm)
          clear hgl hm eF eS hf hs hc3
          rw [hln] at hnxs hc1 hord hcellm
          have HNXS := Lib.hid hnxs
          have HST := Lib.hid hstep
          have hlT := magT_len key l p k
          have HQ := Lib.hid hq
          have hlx : nx.length = n := by rw [HNX.out.1, hln]
          clear hnxs hstep hq htl HNX
          have htn : k % n < n := Nat.mod_lt _ hn0
          have t1 : Int.tmod (k : Int) (n : Int) = ((k % n : Nat) : Int) := rfl
          have t2 : (k : Int) % (n : Int) = ((k % n : Nat) : Int) := rfl
          have z1 : ((n : Int) == 0) = false := by simp; omega
          have z2 : ¬ (n : Int) = 0 := by omega
          have z3 : ¬ n = 0 := by omega
          obtain ⟨t, ht⟩ : ∃ t, k % n = t := ⟨_, rfl⟩
          have HMM := Lib.hid (show ∀ h : t < l.length, l[t] = (mm : Int) from fun h => by
            have h9 := HMM0.out
            simp only [hln, ht] at h9
            exact h9 (by omega))
          clear HMM0
          rw [ht] at htn t1 t2 hc1 hord hcellm HNXS
          clear ht
          have itn : (t : Int) < (n : Int) := by omega
          generalize magT key l p k = T at *
          have hset0 : nx.set t (c9 : Int) = nx := by
            apply List.ext_getElem?
            intro i
            rw [List.getElem?_set]
            split
            · next e => subst e; rw [if_pos (by omega), hc1]
            · rfl
          rw [← hset0] at hN
          have HSET0 := Lib.hid hset0
          have htnx : t < nx.length := by omega
          have its_t : ∀ i : Nat, (its (nx.set t (i : Int)))[t]? = some (.int .i64 (i : Int)) := fun i => by simp [its, htnx]
          have ITT := Lib.hid its_t
          clear hset0 hc1 its_t
          have HA := Lib.hid (fun i w (hi : i < 65536) => at_any f s p i w (by omega) (by omega) hi (by omega) (by omega))
          have HR := Lib.hid (fun (W : World) (h : Bk W gO 44 cs) => show W.rangeAt gO (t * 2) (ordC (f : Int) (s : Int)) from fun j v hv => by
            rw [h.cell]
            match j, hv with
            | 0, hv => simp [ordC] at hv; subst hv; exact hord.1
            | 1, hv => simp [ordC] at hv; subst hv; exact hord.2
            | j + 2, hv => simp [ordC] at hv)
          clear hord
          obtain ⟨dor, r1, r2⟩ := rowOr
          go_upto_region 15 with (fail)
          have HC := Lib.hid (fun (W : World) (h : Below wr.heap.size wr W) => show Bk W gO 44 cs ∧ W.cell? ⟨gN, t, none⟩ = some (.int .i64 (c9 : Int)) from ⟨hB.later h, ((hN.later h).cell t).trans (ITT.out c9)⟩)
          go_wp2
          refine wp_relS 11 93 rfl (by kernel_rfl) (by kernel_rfl) ?_
          apply Steps.one (MP.eq _) 1 rfl
          · intro o ho FA x hO hD K hK
            obtain rfl := Option.some.inj ho.symm
            clear ho
            have e8 := hO 8 (by kernel_rfl)
            simp only [eval_tmp, List.getElem?_toArray, List.getElem?_cons_succ, List.getElem?_cons_zero, Option.getD_some] at e8
            have ev8 := Lib.hid ((eval_tmp FA 8).trans e8)
            clear hO hD
            go_simp
            exact hK.out _ _ (Ex.refl _) rfl
          apply Steps.one (MP.eq _) 2 rfl
          · intro o ho FA x hO hD K hK
            obtain rfl := Option.some.inj ho.symm
            clear ho
            have e14 := hO 14 (by kernel_rfl)
            simp only [eval_tmp, List.getElem?_toArray, List.getElem?_cons_succ, List.getElem?_cons_zero, Option.getD_some] at e14
            have ev14 := Lib.hid ((eval_tmp FA 14).trans e14)
            clear hO hD
            go_simp
            exact hK.out _ _ (Ex.refl _) rfl
          apply Steps.one (MP.eq _) 3 rfl
          · intro o ho FA x hO hD K hK
            obtain rfl := Option.some.inj ho.symm
            clear ho
            have ev52 : FA.eval (.tmp 52) = _ := hD 0 52 (by kernel_rfl)
            have e52 := (eval_tmp FA 52).symm.trans ev52
            replace ev52 := Lib.hid ev52
            have ev53 : FA.eval (.tmp 53) = _ := hD 1 53 (by kernel_rfl)
            have e53 := (eval_tmp FA 53).symm.trans ev53
            replace ev53 := Lib.hid ev53
            clear hO hD
            go_simp
            exact hK.out _ _ (Ex.refl _) rfl
          apply Steps.one (MP.eq _) 4 rfl
          · intro o ho FA x hO hD K hK
            obtain rfl := Option.some.inj ho.symm
            clear ho
            have ev54 : FA.eval (.tmp 54) = _ := hD 2 54 (by kernel_rfl)
            have e54 := (eval_tmp FA 54).symm.trans ev54
            replace ev54 := Lib.hid ev54
            clear hO hD
            refine wanted_if rfl ?_
            refine wp_load_mid 44 (.tmp 54) rfl gO (t * 2) ev54.out (ordC (f : Int) (s : Int)) _ (HR.out _ (HC.out _ (below_plus _ _ _)).1) r1 r2 (szOr _ _) ?_
            exact hK.out _ _ (Ex.refl _) rfl
          apply Steps.one (MP.eq _) 5 rfl
          · intro o ho FA x hO hD K hK
            obtain rfl := Option.some.inj ho.symm
            clear ho
            have e11 := hO 11 (by kernel_rfl)
            simp only [eval_tmp, List.getElem?_toArray, List.getElem?_cons_succ, List.getElem?_cons_zero, Option.getD_some] at e11
            have ev11 := Lib.hid ((eval_tmp FA 11).trans e11)
            clear hO hD
            go_simp
            exact hK.out _ _ (Ex.refl _) rfl
          apply Steps.one (MP.eq _) 6 rfl
          · intro o ho FA x hO hD K hK
            obtain rfl := Option.some.inj ho.symm
            clear ho
            have e14 := hO 14 (by kernel_rfl)
            simp only [eval_tmp, List.getElem?_toArray, List.getElem?_cons_succ, List.getElem?_cons_zero, Option.getD_some] at e14
            have ev14 := Lib.hid ((eval_tmp FA 14).trans e14)
            clear hO hD
            go_simp
            exact hK.out _ _ (Ex.refl _) rfl
          apply Steps.one (MP.eq _) 7 rfl
          · intro o ho FA x hO hD K hK
            obtain rfl := Option.some.inj ho.symm
            clear ho
            have ev56 : FA.eval (.tmp 56) = _ := hD 4 56 (by kernel_rfl)
            have e56 := (eval_tmp FA 56).symm.trans ev56
            replace ev56 := Lib.hid ev56
            have ev57 : FA.eval (.tmp 57) = _ := hD 5 57 (by kernel_rfl)
            have e57 := (eval_tmp FA 57).symm.trans ev57
            replace ev57 := Lib.hid ev57
            clear hO hD
            go_simp
            exact hK.out _ _ (Ex.refl _) rfl
          apply Steps.one (MP.eq _) 8 rfl
          · intro o ho FA x hO hD K hK
            obtain rfl := Option.some.inj ho.symm
            clear ho
            have ev58 : FA.eval (.tmp 58) = _ := hD 6 58 (by kernel_rfl)
            have e58 := (eval_tmp FA 58).symm.trans ev58
            replace ev58 := Lib.hid ev58
            clear hO hD
            have q9 := (HC.out (plus wr x.bs x.d) (below_plus _ _ _)).2
            go_simp
            exact hK.out _ _ (Ex.refl _) rfl
          apply Steps.one (MP.eq _) 9 rfl
          · intro o ho FA x hO hD K hK
            obtain rfl := Option.some.inj ho.symm
            clear ho
            have e1 := hO 1 (by kernel_rfl)
            simp only [eval_tmp, List.getElem?_toArray, List.getElem?_cons_succ, List.getElem?_cons_zero, Option.getD_some] at e1
            have ev1 := Lib.hid ((eval_tmp FA 1).trans e1)
            clear hO hD
            go_simp
            exact hK.out _ _ (Ex.refl _) rfl
          apply Steps.one (MP.eq _) 10 rfl
          · intro o ho FA x hO hD K hK
            obtain rfl := Option.some.inj ho.symm
            clear ho
            have ev55 : FA.eval (.tmp 55) = _ := hD 3 55 (by kernel_rfl)
            have e55 := (eval_tmp FA 55).symm.trans ev55
            replace ev55 := Lib.hid ev55
            have ev59 : FA.eval (.tmp 59) = _ := hD 7 59 (by kernel_rfl)
            have e59 := (eval_tmp FA 59).symm.trans ev59
            replace ev59 := Lib.hid ev59
            have ev60 : FA.eval (.tmp 60) = _ := hD 8 60 (by kernel_rfl)
            have e60 := (eval_tmp FA 60).symm.trans ev60
            replace ev60 := Lib.hid ev60
            clear hO hD
            go_simp
            refine (HA.out c9 _ (by omega)).mono ?_
            rintro e w1 ⟨bs2, d2, rfl, rfl⟩
            exact hK.out _ _ (Ex.plus_ _ _ _) rfl
          apply Steps.one (MP.eq _) 11 rfl
          · intro o ho FA x hO hD K hK
            obtain rfl := Option.some.inj ho.symm
            clear ho
            have ev61 : FA.eval (.tmp 61) = _ := hD 9 61 (by kernel_rfl)
            have e61 := (eval_tmp FA 61).symm.trans ev61
            replace ev61 := Lib.hid ev61
            clear hO hD
            go_simp
            exact hK.out _ _ (Ex.refl _) rfl
          refine Steps.fin_ (fun vs x hp => ?_)
          have p0 : vs 0 = _ := hp 0 (by omega)
          have p1 : vs 1 = _ := hp 1 (by omega)
          have p2 : vs 2 = _ := hp 2 (by omega)
          have p3 : vs 3 = _ := hp 3 (by omega)
          have p4 : vs 4 = _ := hp 4 (by omega)
          have p5 : vs 5 = _ := hp 5 (by omega)
          have p6 : vs 6 = _ := hp 6 (by omega)
          have p7 : vs 7 = _ := hp 7 (by omega)
          have p8 : vs 8 = _ := hp 8 (by omega)
          have p9 : vs 9 = _ := hp 9 (by omega)
          have p10 : vs 10 = _ := hp 10 (by omega)
          clear hp
          simp only [List.take_succ_cons, List.take_zero, List.drop_succ_cons, List.drop_zero, putAll, Nat.zero_add, Nat.reduceAdd, Act.put, List.setIfInBounds_toArray, List.set_cons_zero, List.set_cons_succ, p0, p1, p2, p3, p4, p5, p6, p7, p8, p9, p10]
          clear p0 p1 p2 p3 p4 p5 p6 p7 p8 p9 p10
          clear vs
          have bz := below_plus wr x.bs x.d
          replace hS := hS.later bz
          replace hN := hN.later bz
          replace hB := hB.later bz
          replace hTb := hTb.later bz
          have hat2 : ∀ j (hj : j < l.length), (plus wr x.bs x.d).cell? ⟨bl, ol + j, none⟩ = some (.int .i64 l[j]) := fun j hj => by
            have h9 := HAT.out j hj
            rw [← h9]
            exact bz.cell (p := ⟨bl, ol + j, none⟩) (lt_of_cell h9)
          replace HAT := Lib.hid hat2
          replace hE := belowP hE x.bs x.d
          clear bz hat2 hcellm
          generalize plus wr x.bs x.d = W1 at *
          go_upto_region 16 with (fail)
          have HS1 := Lib.hid hS
          have HN1 := Lib.hid hN
          have HB1 := Lib.hid hB
          have HTB1 := Lib.hid hTb
          have HE1 := Lib.hid hE
          clear hS hN hB hTb hE HC
          go_loopw [15] (fun A15 wr => ∃ i : Nat, A15 = .int .i64 ((ordA f s p i : Nat) : Int) ∧ i ≤ q ∧ Bk wr gS 3 (its T) ∧ Bk wr gN 3 (its (nx.set t (i : Int))) ∧ Bk wr gO 44 cs ∧ Bk wr (w.heap.size + 1) 27 [.slice none 0 0] ∧ (∀ j (hj : j < l.length), wr.cell? ⟨bl, ol + j, none⟩ = some (.int .i64 l[j])) ∧ Below w.heap.size w wr) (fun _ wr => q - (intOf ((wr.cell? ⟨gN, t, none⟩).getD undef)).toNat)
          case atStart => exact ⟨c9, rfl, hcq, HS1.out, HN1.out, HB1.out, HTB1.out, HAT.out, HE1.out⟩
          case round =>
            clear HS1 HN1 HB1 HTB1 HE1 HAT HSET0
            obtain ⟨i, rfl, hiq, hS, hN, hB, hTb, hat, hE⟩ := hrel
            have HAT := Lib.hid hat
            clear hat
            have hqp := HQ.out.1
            have hap := ordA_lt f s p i (by omega)
            have haT : ordA f s p i < T.length := by omega
            have hcS := (hS.cell (ordA f s p i)).trans (its_at T _ haT)
            have hv := List.getElem?_eq_getElem haT
            obtain ⟨v, hv2⟩ : ∃ v, T[ordA f s p i] = v := ⟨_, rfl⟩
            rw [hv2] at hcS hv
            clear hv2
            have hcN := (hN.cell t).trans (ITT.out i)
            have iap : ((ordA f s p i : Nat) : Int) < (p : Int) := by omega
            by_cases hlq : i < q
            · have hne : v ≠ 0 := fun e => HQ.out.2.2 i hlq (by rw [hv, e])
              have b1 : (v == 0) = false := by simp [hne]
              have b2 : ¬ v = 0 := hne
              have hfz := hN.frozen t
              have hN2 := hN.set_ t (.int .i64 ((i + 1 : Nat) : Int))
              rw [its_set, List.set_set] at hN2
              have HN2 := Lib.hid hN2
              have hbN : w.heap.size ≤ gN := by omega
              have e1 : ((i + 1 : Nat) : Int) = (i : Int) + 1 := rfl
              have HM3 := Lib.hid (show q - (intOf ((wr.cell? ⟨gN, t, none⟩).getD undef)).toNat = q - i from by rw [hcN]; rfl)
              have w1 : IntKind.i64.wrap ((i : Int) + 1) = (i : Int) + 1 := IntWalk.i64_in _ (by omega)
              clear hv hne hN2
              go_upto_region 18 with (fail)
              obtain ⟨W2, hW2⟩ : ∃ W2, W2 = wr.setCell ⟨gN, t, none⟩ (.int .i64 ((i + 1 : Nat) : Int)) := ⟨_, rfl⟩
              have hN3 : Bk W2 gN 3 (its (nx.set t ((i + 1 : Nat) : Int))) := by rw [hW2]; exact HN2.out
              have hS3 : Bk W2 gS 3 (its T) := by rw [hW2]; exact hS.far (by simp; omega) _
              have hB3 : Bk W2 gO 44 cs := by rw [hW2]; exact hB.far (by simp; omega) _
              have hTb3 : Bk W2 (w.heap.size + 1) 27 [.slice none 0 0] := by rw [hW2]; exact hTb.far (by simp; omega) _
              have hE3 : Below w.heap.size w W2 := by rw [hW2]; exact hE.setCell (by simp; omega) _
              have hat3 : ∀ j (hj : j < l.length), W2.cell? ⟨bl, ol + j, none⟩ = some (.int .i64 l[j]) := fun j hj => by
                rw [hW2, World.cell?_setCell_other _ _ _ _ (by intro e; injection e with e1 e2; omega)]
                exact HAT.out j hj
              have HAT3 := Lib.hid hat3
              clear hat3 HAT hcS hcN HN2 hS hN hB hTb hE hfz b1 b2
              rw [e1] at hW2
              rw [← hW2]
              clear hW2 e1
              have HC := Lib.hid (fun (W : World) (h : Below W2.heap.size W2 W) => show Bk W gO 44 cs ∧ W.cell? ⟨gN, t, none⟩ = some (.int .i64 ((i + 1 : Nat) : Int)) from ⟨hB3.later h, ((hN3.later h).cell t).trans (ITT.out (i + 1))⟩)
              go_wp2
              refine wp_relS 11 93 rfl (by kernel_rfl) (by kernel_rfl) ?_
              apply Steps.one (MP.eq _) 1 rfl
              · intro o ho FA x hO hD K hK
                obtain rfl := Option.some.inj ho.symm
                clear ho
                have e8 := hO 8 (by kernel_rfl)
                simp only [eval_tmp, List.getElem?_toArray, List.getElem?_cons_succ, List.getElem?_cons_zero, Option.getD_some] at e8
                have ev8 := Lib.hid ((eval_tmp FA 8).trans e8)
                clear hO hD
                go_simp
                exact hK.out _ _ (Ex.refl _) rfl
              apply Steps.one (MP.eq _) 2 rfl
              · intro o ho FA x hO hD K hK
                obtain rfl := Option.some.inj ho.symm
                clear ho
                have e14 := hO 14 (by kernel_rfl)
                simp only [eval_tmp, List.getElem?_toArray, List.getElem?_cons_succ, List.getElem?_cons_zero, Option.getD_some] at e14
                have ev14 := Lib.hid ((eval_tmp FA 14).trans e14)
                clear hO hD
                go_simp
                exact hK.out _ _ (Ex.refl _) rfl
              apply Steps.one (MP.eq _) 3 rfl
              · intro o ho FA x hO hD K hK
                obtain rfl := Option.some.inj ho.symm
                clear ho
                have ev73 : FA.eval (.tmp 73) = _ := hD 0 73 (by kernel_rfl)
                have e73 := (eval_tmp FA 73).symm.trans ev73
                replace ev73 := Lib.hid ev73
                have ev74 : FA.eval (.tmp 74) = _ := hD 1 74 (by kernel_rfl)
                have e74 := (eval_tmp FA 74).symm.trans ev74
                replace ev74 := Lib.hid ev74
                clear hO hD
                go_simp
                exact hK.out _ _ (Ex.refl _) rfl
              apply Steps.one (MP.eq _) 4 rfl
              · intro o ho FA x hO hD K hK
                obtain rfl := Option.some.inj ho.symm
                clear ho
                have ev75 : FA.eval (.tmp 75) = _ := hD 2 75 (by kernel_rfl)
                have e75 := (eval_tmp FA 75).symm.trans ev75
                replace ev75 := Lib.hid ev75
                clear hO hD
                refine wanted_if rfl ?_
                refine wp_load_mid 44 (.tmp 75) rfl gO (t * 2) ev75.out (ordC (f : Int) (s : Int)) _ (HR.out _ (HC.out _ (below_plus _ _ _)).1) r1 r2 (szOr _ _) ?_
                exact hK.out _ _ (Ex.refl _) rfl
              apply Steps.one (MP.eq _) 5 rfl
              · intro o ho FA x hO hD K hK
                obtain rfl := Option.some.inj ho.symm
                clear ho
                have e11 := hO 11 (by kernel_rfl)
                simp only [eval_tmp, List.getElem?_toArray, List.getElem?_cons_succ, List.getElem?_cons_zero, Option.getD_some] at e11
                have ev11 := Lib.hid ((eval_tmp FA 11).trans e11)
                clear hO hD
                go_simp
                exact hK.out _ _ (Ex.refl _) rfl
              apply Steps.one (MP.eq _) 6 rfl
              · intro o ho FA x hO hD K hK
                obtain rfl := Option.some.inj ho.symm
                clear ho
                have e14 := hO 14 (by kernel_rfl)
                simp only [eval_tmp, List.getElem?_toArray, List.getElem?_cons_succ, List.getElem?_cons_zero, Option.getD_some] at e14
                have ev14 := Lib.hid ((eval_tmp FA 14).trans e14)
                clear hO hD
                go_simp
                exact hK.out _ _ (Ex.refl _) rfl
              apply Steps.one (MP.eq _) 7 rfl
              · intro o ho FA x hO hD K hK
                obtain rfl := Option.some.inj ho.symm
                clear ho
                have ev77 : FA.eval (.tmp 77) = _ := hD 4 77 (by kernel_rfl)
                have e77 := (eval_tmp FA 77).symm.trans ev77
                replace ev77 := Lib.hid ev77
                have ev78 : FA.eval (.tmp 78) = _ := hD 5 78 (by kernel_rfl)
                have e78 := (eval_tmp FA 78).symm.trans ev78
                replace ev78 := Lib.hid ev78
                clear hO hD
                go_simp
                exact hK.out _ _ (Ex.refl _) rfl
              apply Steps.one (MP.eq _) 8 rfl
              · intro o ho FA x hO hD K hK
                obtain rfl := Option.some.inj ho.symm
                clear ho
                have ev79 : FA.eval (.tmp 79) = _ := hD 6 79 (by kernel_rfl)
                have e79 := (eval_tmp FA 79).symm.trans ev79
                replace ev79 := Lib.hid ev79
                clear hO hD
                have q9 := (HC.out (plus W2 x.bs x.d) (below_plus _ _ _)).2
                go_simp
                exact hK.out _ _ (Ex.refl _) rfl
              apply Steps.one (MP.eq _) 9 rfl
              · intro o ho FA x hO hD K hK
                obtain rfl := Option.some.inj ho.symm
                clear ho
                have e1 := hO 1 (by kernel_rfl)
                simp only [eval_tmp, List.getElem?_toArray, List.getElem?_cons_succ, List.getElem?_cons_zero, Option.getD_some] at e1
                have ev1 := Lib.hid ((eval_tmp FA 1).trans e1)
                clear hO hD
                go_simp
                exact hK.out _ _ (Ex.refl _) rfl
              apply Steps.one (MP.eq _) 10 rfl
              · intro o ho FA x hO hD K hK
                obtain rfl := Option.some.inj ho.symm
                clear ho
                have ev76 : FA.eval (.tmp 76) = _ := hD 3 76 (by kernel_rfl)
                have e76 := (eval_tmp FA 76).symm.trans ev76
                replace ev76 := Lib.hid ev76
                have ev80 : FA.eval (.tmp 80) = _ := hD 7 80 (by kernel_rfl)
                have e80 := (eval_tmp FA 80).symm.trans ev80
                replace ev80 := Lib.hid ev80
                have ev81 : FA.eval (.tmp 81) = _ := hD 8 81 (by kernel_rfl)
                have e81 := (eval_tmp FA 81).symm.trans ev81
                replace ev81 := Lib.hid ev81
                clear hO hD
                go_simp
                refine (HA.out (i + 1) _ (by omega)).mono ?_
                rintro e w1 ⟨bs2, d2, rfl, rfl⟩
                exact hK.out _ _ (Ex.plus_ _ _ _) rfl
              apply Steps.one (MP.eq _) 11 rfl
              · intro o ho FA x hO hD K hK
                obtain rfl := Option.some.inj ho.symm
                clear ho
                have ev82 : FA.eval (.tmp 82) = _ := hD 9 82 (by kernel_rfl)
                have e82 := (eval_tmp FA 82).symm.trans ev82
                replace ev82 := Lib.hid ev82
                clear hO hD
                go_simp
                exact hK.out _ _ (Ex.refl _) rfl
              refine Steps.fin_ (fun vs x hp => ?_)
              have p0 : vs 0 = _ := hp 0 (by omega)
              have p1 : vs 1 = _ := hp 1 (by omega)
              have p2 : vs 2 = _ := hp 2 (by omega)
              have p3 : vs 3 = _ := hp 3 (by omega)
              have p4 : vs 4 = _ := hp 4 (by omega)
              have p5 : vs 5 = _ := hp 5 (by omega)
              have p6 : vs 6 = _ := hp 6 (by omega)
              have p7 : vs 7 = _ := hp 7 (by omega)
              have p8 : vs 8 = _ := hp 8 (by omega)
              have p9 : vs 9 = _ := hp 9 (by omega)
              have p10 : vs 10 = _ := hp 10 (by omega)
              clear hp
              simp only [List.take_succ_cons, List.take_zero, List.drop_succ_cons, List.drop_zero, putAll, Nat.zero_add, Nat.reduceAdd, Act.put, List.setIfInBounds_toArray, List.set_cons_zero, List.set_cons_succ, p0, p1, p2, p3, p4, p5, p6, p7, p8, p9, p10]
              clear p0 p1 p2 p3 p4 p5 p6 p7 p8 p9 p10
              clear vs
              have bz := below_plus W2 x.bs x.d
              have hcN4 := ((hN3.later bz).cell t).trans (ITT.out (i + 1))
              have HM4 := Lib.hid (show q - (intOf (((plus W2 x.bs x.d).cell? ⟨gN, t, none⟩).getD undef)).toNat = q - (i + 1) from by rw [hcN4]; rfl)
              have hat4 : ∀ j (hj : j < l.length), (plus W2 x.bs x.d).cell? ⟨bl, ol + j, none⟩ = some (.int .i64 l[j]) := fun j hj => by
                have h9 := HAT3.out j hj
                rw [← h9]
                exact bz.cell (p := ⟨bl, ol + j, none⟩) (lt_of_cell h9)
              have HAT4 := Lib.hid hat4
              clear hat4 hcN4
              go_wp2
              exact ⟨⟨i + 1, rfl, by omega, hS3.later bz, hN3.later bz, hB3.later bz, hTb3.later bz, HAT4.out, belowP hE3 _ _⟩, by rw [HM4.out, HM3.out]; omega⟩
            · obtain rfl : i = q := by omega
              obtain rfl : v = 0 := by
                have h9 := HQ.out.2.1
                rw [hv] at h9
                injection h9
              have hset := hS.set_ (ordA f s p i) (.int .i64 (mm : Int))
              rw [its_set, ← HST.out] at hset
              have HSET := Lib.hid hset
              have hfz := hS.frozen (ordA f s p i)
              have hcm := HAT.out t (by omega)
              rw [HMM.out (by omega)] at hcm
              have HN3 := Lib.hid (show ∀ u, Bk (wr.setCell ⟨gS, ordA f s p i, none⟩ u) gN 3 (its (nx.set t (i : Int))) from fun u => hN.far (by simp; omega) u)
              have HB3 := Lib.hid (show ∀ u, Bk (wr.setCell ⟨gS, ordA f s p i, none⟩ u) gO 44 cs from fun u => hB.far (by simp; omega) u)
              have HTB3 := Lib.hid (show ∀ u, Bk (wr.setCell ⟨gS, ordA f s p i, none⟩ u) (w.heap.size + 1) 27 [.slice none 0 0] from fun u => hTb.far (by simp; omega) u)
              have HAT3 := Lib.hid (show ∀ u j (hj : j < l.length), (wr.setCell ⟨gS, ordA f s p i, none⟩ u).cell? ⟨bl, ol + j, none⟩ = some (.int .i64 l[j]) from fun u j hj => by
                rw [World.cell?_setCell_other _ _ _ _ (by intro e; injection e with e1 e2; omega)]
                exact HAT.out j hj)
              have HE3 := Lib.hid (show ∀ u, Below w.heap.size w (wr.setCell ⟨gS, ordA f s p i, none⟩ u) from fun u => hE.setCell (by simp; omega) u)
              clear hset hv hS hN hB hTb hE HAT hcN
              generalize ordA f s p i = a at *
              go_wp2
              exact ⟨⟨k + 1, _, by go_num, by omega, HSET.out, HN3.out _, HNXS.out, HB3.out _, HTB3.out _, HAT3.out _, HE3.out _⟩, by simp [intOf]; omega⟩
        · obtain rfl : p = k := by omega
          have ik : ¬ (p : Int) < (p : Int) := by omega
          go_upto_region 21 with (fail)
          refine wp_region_lit ?_
          iterate 2 (refine wpList_plain rfl (fun K hK => ?_); go_simp; with_reducible refine hK _ _ ?_; clear hK K)
          refine wpList_stA (t := 27) 27 (.tmp 6) (.tmp 92) rfl rfl (tbC (some ⟨gS, 0, none⟩) p p) [.slice none 0 0] rfl (tbC_one _ _ _) rfl rfl hTb (szTb _ _ _) ?_
          intro W9 h9 g9
          go_wp2
          refine bodyPost_agg2 Tryd.results6 rfl rfl h9.range o1 o2 (szTb _ _ _) rfl ?_
          have hS9 := hS.grown g9 (by simp; omega)
          have hE9 := below_grown hE g9 (by omega)
          obtain ⟨bs, dd, rfl⟩ := plus_of hE9
          have hlen := magT_len key l p p
          refine ⟨some ⟨gS, 0, none⟩, p, bs, dd, by rw [hlen]; rfl, rfl, ?_⟩
          rw [hlen]
          exact Rs.of_bk hS9 (by rw [its_len, hlen, Nat.mul_one]) (Nat.le_refl _)
end Go.Proofs.YtknoenceccpkhaaDoor

/- A table's Len, At, Pick, Moved (chapter 42). -/
namespace Go.Proofs.YtknoenceccpkhaaDoor
open Go.RowKit
set_option linter.unusedVariables false
set_option linter.unusedSimpArgs false
attribute [local go_sem ↓] sliced_cut

attribute [local go_sem] cutA_zero

/-- who stands at a place -/
def getZ (T : List Int) (i : Int) : Int := if 0 ≤ i ∧ i < T.length then T.getD i.toNat 0 else 0
theorem getZ_lo (T : List Int) (i : Int) (h : i < 0) : getZ T i = 0 := by unfold getZ; rw [if_neg (by omega)]
theorem getZ_hi (T : List Int) (i : Int) (h : (T.length : Int) ≤ i) : getZ T i = 0 := by unfold getZ; rw [if_neg (by omega)]
theorem getZ_in (T : List Int) (i : Nat) (h : i < T.length) : getZ T (i : Int) = T[i] := by unfold getZ; rw [if_pos (by omega), Int.toNat_natCast, getD_some h]
set_option maxHeartbeats 4000000 in
set_option maxRecDepth 100000 in
theorem len_tb (A : Option Addr) (n c : Nat) (w : World) : Calls Tryd.prog 8 #[.agg (tbC A n c).toArray] w (RetV w (.int .i64 (n : Int))) := by
  obtain ⟨do1, o1, o2⟩ := rowTb
  have ht : Bk (w.alloc (.cells (tbC A n c).toArray 27)) w.heap.size 27 (tbC A n c) := Bk.new w 27 (tbC A n c).toArray
  have be : Below w.heap.size w (w.alloc (.cells (tbC A n c).toArray 27)) := Below.allocS (Below.refl _ _) _
  have zV : w.heap.size + 1 ≤ (w.alloc (.cells (tbC A n c).toArray 27)).heap.size := by simp
  go_enter Tryd.func8, Tryd.ntmps8
  go_upto_region 1 with (fail)
  generalize w.alloc (.cells (tbC A n c).toArray 27) = V at *
  have q0 : V.cell? ⟨w.heap.size, 0, none⟩ = some (.slice A n c) := ht.cell 0
  go_wp2
  go_ret
  exact RetV.mk be
set_option maxHeartbeats 4000000 in
set_option maxRecDepth 100000 in
theorem at_tb (T : List Int) (i : Int) (A : Option Addr) (n c : Nat) (w : World) (hr : Rs 1 w A n c (its T)) (hlo : -9223372036854775808 ≤ i) (hhi : i ≤ 9223372036854775807) : Calls Tryd.prog 9 #[.agg (tbC A n c).toArray, .int .i64 i] w (RetV w (.int .i64 (getZ T i))) := by
  have hln : T.length = n := by have := hr.1; rw [its_len] at this; omega
  by_cases h0 : i < 0
  · rw [getZ_lo T i h0]
    obtain ⟨do1, o1, o2⟩ := rowTb
    have ht : Bk (w.alloc (.cells (tbC A n c).toArray 27)) w.heap.size 27 (tbC A n c) := Bk.new w 27 (tbC A n c).toArray
    have be : Below w.heap.size w (w.alloc (.cells (tbC A n c).toArray 27)) := Below.allocS (Below.refl _ _) _
    have zV : w.heap.size + 1 ≤ (w.alloc (.cells (tbC A n c).toArray 27)).heap.size := by simp
    go_enter Tryd.func9, Tryd.ntmps9
    go_upto_region 1 with (fail)
    generalize w.alloc (.cells (tbC A n c).toArray 27) = V at *
    have q0 : V.cell? ⟨w.heap.size, 0, none⟩ = some (.slice A n c) := ht.cell 0
    go_wp2
    go_ret
    exact RetV.mk be
  by_cases h1 : (n : Int) ≤ i
  · rw [getZ_hi T i (by omega)]
    obtain ⟨do1, o1, o2⟩ := rowTb
    have ht : Bk (w.alloc (.cells (tbC A n c).toArray 27)) w.heap.size 27 (tbC A n c) := Bk.new w 27 (tbC A n c).toArray
    have be : Below w.heap.size w (w.alloc (.cells (tbC A n c).toArray 27)) := Below.allocS (Below.refl _ _) _
    have zV : w.heap.size + 1 ≤ (w.alloc (.cells (tbC A n c).toArray 27)).heap.size := by simp
    go_enter Tryd.func9, Tryd.ntmps9
    go_upto_region 1 with (fail)
    generalize w.alloc (.cells (tbC A n c).toArray 27) = V at *
    have q0 : V.cell? ⟨w.heap.size, 0, none⟩ = some (.slice A n c) := ht.cell 0
    go_wp2
    go_ret
    exact RetV.mk be
  obtain ⟨j, rfl⟩ := Int.eq_ofNat_of_zero_le (show 0 ≤ i by omega)
  have hj : j < T.length := by omega
  have ijn : (j : Int) < (n : Int) := by omega
  rw [getZ_in T j hj]
  obtain ⟨bl, ol, rfl, hbl, hat⟩ := hr.ints_ (by omega)
  obtain ⟨v, hv⟩ : ∃ v, T[j] = v := ⟨_, rfl⟩
  rw [hv]
  have HAT := Lib.hid (show ∀ w', Below w.heap.size w w' → w'.cell? ⟨bl, ol + j, none⟩ = some (.int .i64 v) from fun w' h => by rw [← hv]; exact hat j hj w' h)
  clear hv hat
  obtain ⟨do1, o1, o2⟩ := rowTb
  have ht : Bk (w.alloc (.cells (tbC (some ⟨bl, ol, none⟩) n c).toArray 27)) w.heap.size 27 (tbC (some ⟨bl, ol, none⟩) n c) := Bk.new w 27 (tbC (some ⟨bl, ol, none⟩) n c).toArray
  have be : Below w.heap.size w (w.alloc (.cells (tbC (some ⟨bl, ol, none⟩) n c).toArray 27)) := Below.allocS (Below.refl _ _) _
  have zV : w.heap.size + 1 ≤ (w.alloc (.cells (tbC (some ⟨bl, ol, none⟩) n c).toArray 27)).heap.size := by simp
  go_enter Tryd.func9, Tryd.ntmps9
  go_upto_region 1 with (fail)
  generalize w.alloc (.cells (tbC (some ⟨bl, ol, none⟩) n c).toArray 27) = V at *
  have q0 : V.cell? ⟨w.heap.size, 0, none⟩ = some (.slice (some ⟨bl, ol, none⟩) n c) := ht.cell 0
  have q1 := HAT.out V be
  go_wp2
  go_ret
  exact RetV.mk be
/-- how many places differ, of the first k -/
def diffZ (T U : List Int) : Nat → Nat
  | 0 => 0
  | k + 1 => diffZ T U k + if T.getD k 0 = U.getD k 0 then 0 else 1
theorem diffZ_le (T U : List Int) : ∀ k, diffZ T U k ≤ k
  | 0 => Nat.le_refl _
  | k + 1 => by have := diffZ_le T U k; unfold diffZ; split <;> omega
def movedZ (T U : List Int) : Int := if T.length = U.length then (diffZ T U T.length : Int) else -1
set_option maxHeartbeats 4000000 in
set_option maxRecDepth 100000 in
theorem moved_tb (T U : List Int) (A : Option Addr) (n c : Nat) (A2 : Option Addr) (n2 c2 : Nat) (w : World) (hr : Rs 1 w A n c (its T)) (hr2 : Rs 1 w A2 n2 c2 (its U)) (hn : n ≤ 3000) (hn2 : n2 ≤ 3000) : Calls Tryd.prog 13 #[.agg (tbC A n c).toArray, .agg (tbC A2 n2 c2).toArray] w (RetV w (.int .i64 (movedZ T U))) := by
  have hln : T.length = n := by have := hr.1; rw [its_len] at this; omega
  have hln2 : U.length = n2 := by have := hr2.1; rw [its_len] at this; omega
  by_cases hnn : n = n2
  · subst hnn
    have e : movedZ T U = (diffZ T U n : Int) := by unfold movedZ; rw [if_pos (by omega), hln]
    obtain ⟨M, hM⟩ : ∃ M, movedZ T U = M := ⟨_, rfl⟩
    rw [hM]
    rw [e] at hM
    have HM := Lib.hid hM
    clear e hM
    obtain ⟨do1, o1, o2⟩ := rowTb
    have ht : Bk ((w.alloc (.cells (tbC A n c).toArray 27)).alloc (.cells (tbC A2 n c2).toArray 27)) w.heap.size 27 (tbC A n c) := (Bk.new w 27 (tbC A n c).toArray).alloc _
    have hu : Bk ((w.alloc (.cells (tbC A n c).toArray 27)).alloc (.cells (tbC A2 n c2).toArray 27)) (w.heap.size + 1) 27 (tbC A2 n c2) := Bk.newK _ _ _ (by simp) rfl
    have be : Below w.heap.size w ((w.alloc (.cells (tbC A n c).toArray 27)).alloc (.cells (tbC A2 n c2).toArray 27)) := Below.allocS (Below.allocS (Below.refl _ _) _) _
    replace hr := ((hr.alloc (.cells (tbC A n c).toArray 27)).alloc (.cells (tbC A2 n c2).toArray 27))
    replace hr2 := ((hr2.alloc (.cells (tbC A n c).toArray 27)).alloc (.cells (tbC A2 n c2).toArray 27))
    have zV : w.heap.size + 2 ≤ ((w.alloc (.cells (tbC A n c).toArray 27)).alloc (.cells (tbC A2 n c2).toArray 27)).heap.size := by simp
    go_enter Tryd.func13, Tryd.ntmps13
    go_upto_region 1 with (fail)
    generalize (w.alloc (.cells (tbC A n c).toArray 27)).alloc (.cells (tbC A2 n c2).toArray 27) = V at *
    have q0 : V.cell? ⟨w.heap.size, 0, none⟩ = some (.slice A n c) := ht.cell 0
    have q1 : V.cell? ⟨w.heap.size + 1, 0, none⟩ = some (.slice A2 n c2) := hu.cell 0
    go_upto_region 5 with (fail)
    have HE := Lib.hid be
    have HV := Lib.hid (fun (W : World) (h : Below V.heap.size V W) => show W.cell? ⟨w.heap.size + 1, 0, none⟩ = some (.slice A2 n c2) from (hu.later h).cell 0)
    clear q0 q1 be
    go_loopw [18, 5, 6, 7] (fun I D A6 A7 wr => ∃ k : Nat, I = .int .i64 (k : Int) ∧ k ≤ n ∧ D = .int .i64 ((diffZ T U k : Nat) : Int) ∧ Below V.heap.size V wr) (fun I _ _ _ _ => n - (intOf I).toNat)
    case atStart => exact ⟨0, rfl, Nat.zero_le _, rfl, Below.refl _ _⟩
    case round =>
      obtain ⟨k, rfl, hk, rfl, hE⟩ := hrel
      by_cases hlt : k < n
      · have ik : (k : Int) < (n : Int) := by omega
        obtain ⟨bt1, ot1, rfl, -, hat1⟩ := hr.ints_ (by omega)
        obtain ⟨bt2, ot2, rfl, -, hat2⟩ := hr2.ints_ (by omega)
        have c1 := hat1 k (by omega) wr hE
        have c2_ := hat2 k (by omega) wr hE
        have q1 := HV.out wr hE
        have hd : diffZ T U (k + 1) = diffZ T U k + if T.getD k 0 = U.getD k 0 then 0 else 1 := rfl
        have hdl := diffZ_le T U k
        rw [getD_some (show k < T.length by omega), getD_some (show k < U.length by omega)] at hd
        clear hat1 hat2
        generalize T[k] = x at *
        generalize U[k] = y at *
        by_cases hxy : x = y
        · subst hxy
          rw [if_pos rfl, Nat.add_zero] at hd
          have HD := Lib.hid hd
          clear hd
          go_wp2
          exact ⟨⟨k + 1, by go_num, by omega, by rw [HD.out]; rfl, hE⟩, by simp [intOf]; omega⟩
        · rw [if_neg hxy] at hd
          have b1 : (x == y) = false := by simp [hxy]
          have HD := Lib.hid hd
          clear hd
          generalize diffZ T U k = dk at *
          have w1 : IntKind.i64.wrap ((dk : Int) + 1) = (dk : Int) + 1 := IntWalk.i64_in _ (by omega)
          go_wp2
          exact ⟨⟨k + 1, by go_num, by omega, by rw [HD.out]; rfl, hE⟩, by simp [intOf]; omega⟩
      · obtain rfl : n = k := by omega
        have ik : ¬ (n : Int) < (n : Int) := by omega
        rw [HM.out]
        go_wp2
        go_ret
        exact RetV.mk (HE.out.trans (hE.mono HE.out.size))
  · have e : movedZ T U = -1 := by unfold movedZ; rw [if_neg (by omega)]
    rw [e]
    have b1 : ((n : Int) == (n2 : Int)) = false := by simp; omega
    have b2 : ¬ (n : Int) = (n2 : Int) := by omega
    obtain ⟨do1, o1, o2⟩ := rowTb
    have ht : Bk ((w.alloc (.cells (tbC A n c).toArray 27)).alloc (.cells (tbC A2 n2 c2).toArray 27)) w.heap.size 27 (tbC A n c) := (Bk.new w 27 (tbC A n c).toArray).alloc _
    have hu : Bk ((w.alloc (.cells (tbC A n c).toArray 27)).alloc (.cells (tbC A2 n2 c2).toArray 27)) (w.heap.size + 1) 27 (tbC A2 n2 c2) := Bk.newK _ _ _ (by simp) rfl
    have be : Below w.heap.size w ((w.alloc (.cells (tbC A n c).toArray 27)).alloc (.cells (tbC A2 n2 c2).toArray 27)) := Below.allocS (Below.allocS (Below.refl _ _) _) _
    have zV : w.heap.size + 2 ≤ ((w.alloc (.cells (tbC A n c).toArray 27)).alloc (.cells (tbC A2 n2 c2).toArray 27)).heap.size := by simp
    go_enter Tryd.func13, Tryd.ntmps13
    go_upto_region 1 with (fail)
    generalize (w.alloc (.cells (tbC A n c).toArray 27)).alloc (.cells (tbC A2 n2 c2).toArray 27) = V at *
    have q0 : V.cell? ⟨w.heap.size, 0, none⟩ = some (.slice A n c) := ht.cell 0
    have q1 : V.cell? ⟨w.heap.size + 1, 0, none⟩ = some (.slice A2 n2 c2) := hu.cell 0
    go_wp2
    go_ret
    exact RetV.mk be
end Go.Proofs.YtknoenceccpkhaaDoor

/- counterfoillaw42.awake, MaglevBuilds' walk (chapter 42). -/
namespace Go.Proofs.YtknoenceccpkhaaDoor
open Go.RowKit
set_option linter.unusedVariables false
set_option linter.unusedSimpArgs false
attribute [local go_sem ↓] sliced_cut

attribute [local go_sem] cutA_zero

def keyM : List UInt8 := [1, 0, 0, 0, 0, 0, 0, 0, 0, 0, 0, 0, 0, 0, 0, 0]
theorem right_ex : RightL 7 [9] := ⟨by decide, by decide, by decide, by decide, by decide, by decide⟩
theorem magT_full (key : List UInt8) {l : List Int} {p : Nat} (hR : RightL p l) : ∀ x ∈ magT key l p p, x ∈ l := tabN_full hR (fun m => magF_lt key p _ (refP_two hR.1)) (fun m => magS_ok key p _ (refP_two hR.1))
theorem ex_at (i : Nat) (h : i < 7) : getZ (magT keyM [9] 7 7) (i : Int) = 9 := by
  have hl := magT_len keyM [9] 7 7
  rw [getZ_in _ i (by omega)]
  have := magT_full keyM right_ex _ (List.getElem_mem (show i < (magT keyM [9] 7 7).length by omega))
  simpa using this
set_option maxHeartbeats 4000000 in
set_option maxRecDepth 100000 in
theorem awake42 (w : World) (hTab : TabB w) : Calls Tryd.prog 5 #[] w (RetV w (.bool true)) := by
  have HB := Lib.hid (fun (A : Option Addr) W (hl : Rs 1 W A 1 1 (its [9])) (hT : TabB W) => (show Calls Tryd.prog 6 #[.agg #[.int .u8 1, .int .u8 0, .int .u8 0, .int .u8 0, .int .u8 0, .int .u8 0, .int .u8 0, .int .u8 0, .int .u8 0, .int .u8 0, .int .u8 0, .int .u8 0, .int .u8 0, .int .u8 0, .int .u8 0, .int .u8 0], .int .i64 7, .slice A 1 1] W (RetTab W (magT keyM [9] 7 7)) from build_yes keyM rfl 7 [9] A 1 1 W hl right_ex hT))
  have E0 : getZ (magT keyM [9] 7 7) 0 = 9 := ex_at 0 (by decide)
  have E6 : getZ (magT keyM [9] 7 7) 6 = 9 := ex_at 6 (by decide)
  have EL := magT_len keyM [9] 7 7
  generalize magT keyM [9] 7 7 = T at *
  obtain ⟨dt, o1, o2⟩ := rowTb
  go_enter Tryd.func5, Tryd.ntmps5
  go_upto_region 1 with (fail)
  have hl1 : Rs 1 (w.alloc (.cells #[.int .i64 9] 3)) (some ⟨w.heap.size, 0, none⟩) 1 1 (its [9]) := Rs.of_bk (t := 3) (Bk.new w 3 #[.int .i64 9]) rfl (Nat.le_refl _)
  have be1 : Below w.heap.size w (w.alloc (.cells #[.int .i64 9] 3)) := (Below.refl _ _).alloc (Nat.le_refl _) _
  have hTab1 := hTab.later be1
  refine wp_region_lit ?_
  iterate 2 (refine wpList_plain rfl (fun K hK => ?_); go_simp; with_reducible refine hK _ _ ?_; clear hK K)
  refine wpList_plain rfl (fun K hK => ?_)
  go_simp
  refine (HB.out _ _ hl1 hTab1).mono ?_
  rintro e w1 ⟨A2, c2, bs1, d1, rfl, rfl, hr2⟩
  with_reducible refine hK _ _ ?_
  clear hK K
  iterate 4 (refine wpList_plain rfl (fun K hK => ?_); go_simp; with_reducible refine hK _ _ ?_; clear hK K)
  refine wpList_stA (t := 27) 27 (.tmp 1) (.tmp 7) rfl rfl (tbC A2 7 c2) ([.slice none 0 0]) rfl (tbC_one _ _ _) rfl rfl (Bk.newK (k := w.heap.size + 1 + bs1.length) _ _ _ (by simp [size_plus]) rfl) (szTb _ _ _) ?_
  intro W2 hT g2
  refine wpList_plain rfl (fun K hK => ?_); go_simp; with_reducible refine hK _ _ ?_; clear hK K
  have be := below_grown (Below.allocS (belowP be1 bs1 d1) _) g2 (by omega)
  have hr3 : Rs 1 W2 A2 T.length c2 (its T) := hr2.later (below_grown (Below.allocS (Below.refl _ _) _) g2 (by simp [size_plus]))
  rw [EL] at hr3
  generalize w.heap.size + 1 + bs1.length = gT at *
  clear hr2 g2 hl1 be1 hTab1
  go_upto_region 2 with (fail)
  refine wp_region_lit ?_
  iterate 3 (refine wpList_plain rfl (fun K hK => ?_); go_simp; with_reducible refine hK _ _ ?_; clear hK K)
  refine wpList_ldG (t := 27) 27 (.tmp 1) rfl (by go_simp) (tbC A2 7 c2) rfl (hT) (whole_ _) o1 o2 (szTb _ _ _) ?_
  refine wpList_step (fun K hK => ?_)
  go_simp
  refine (len_tb A2 7 c2 _).mono ?_
  rintro e w1 ⟨bs5, d5, rfl, rfl⟩
  with_reducible refine hK _ _ ?_
  clear hK K
  refine wpList_step (fun K hK => ?_); go_simp; with_reducible refine hK _ _ ?_; clear hK K
  refine wpList_plain rfl (fun K hK => ?_); go_simp; with_reducible refine hK _ _ ?_; clear hK K
  refine wpList_plain rfl (fun K hK => ?_); go_simp; with_reducible refine hK _ _ ?_; clear hK K
  refine wpList_ldG (t := 27) 27 (.tmp 1) rfl (by go_simp) (tbC A2 7 c2) rfl ((hT.later (below_plus _ _ _))) (whole_ _) o1 o2 (szTb _ _ _) ?_
  refine wpList_step (fun K hK => ?_)
  go_simp
  refine (at_tb T 0 A2 7 c2 _ (hr3.later (below_plus _ _ _)) (by omega) (by omega)).mono ?_
  rintro e w1 ⟨bs6, d6, rfl, rfl⟩
  with_reducible refine hK _ _ ?_
  clear hK K
  refine wpList_step (fun K hK => ?_); go_simp; with_reducible refine hK _ _ ?_; clear hK K
  refine wpList_plain rfl (fun K hK => ?_); go_simp; with_reducible refine hK _ _ ?_; clear hK K
  refine wpList_plain rfl (fun K hK => ?_); go_simp; with_reducible refine hK _ _ ?_; clear hK K
  refine wpList_ldG (t := 27) 27 (.tmp 1) rfl (by go_simp) (tbC A2 7 c2) rfl (((hT.later (below_plus _ _ _)).later (below_plus _ _ _))) (whole_ _) o1 o2 (szTb _ _ _) ?_
  refine wpList_step (fun K hK => ?_)
  go_simp
  refine (at_tb T 6 A2 7 c2 _ ((hr3.later (below_plus _ _ _)).later (below_plus _ _ _)) (by omega) (by omega)).mono ?_
  rintro e w1 ⟨bs7, d7, rfl, rfl⟩
  with_reducible refine hK _ _ ?_
  clear hK K
  refine wpList_step (fun K hK => ?_); go_simp; with_reducible refine hK _ _ ?_; clear hK K
  iterate 2 (refine wpList_plain rfl (fun K hK => ?_); go_simp; with_reducible refine hK _ _ ?_; clear hK K)
  go_wp2
  go_ret
  exact RetV.mk (belowP (belowP (belowP be bs5 d5) bs6 d6) bs7 d7)
end Go.Proofs.YtknoenceccpkhaaDoor

/- MaglevEven's walk (chapter 42). -/
namespace Go.Proofs.YtknoenceccpkhaaDoor
open Go.RowKit
set_option linter.unusedVariables false
set_option linter.unusedSimpArgs false
attribute [local go_sem ↓] sliced_cut

attribute [local go_sem] cutA_zero

/-- a table, or none -/
def RetTabE (w : World) (T : List Int) (nt : Nat) (E : Int) (e : Ending) (w' : World) : Prop := ∃ A c bs d, e = .returned (.tuple #[.agg (tbC A nt c).toArray, .int .i64 E]) ∧ w' = plus w bs d ∧ Rs 1 (plus w bs d) A nt c (its T)
/-- what Build makes -/
def TabE (key : List UInt8) (s : Int) (l T : List Int) (E : Int) : Prop := (∃ p : Nat, s = (p : Int) ∧ RightL p l ∧ T = magT key l p p ∧ E = 0) ∨ (¬ RightZ s l ∧ T = [] ∧ E = 1)
theorem tabE_ex (key : List UInt8) (s : Int) (l : List Int) : ∃ T E, TabE key s l T E := by
  by_cases h : RightZ s l
  · obtain ⟨p, h1, h2⟩ := h
    exact ⟨_, _, .inl ⟨p, h1, h2, rfl, rfl⟩⟩
  · exact ⟨_, _, .inr ⟨h, rfl, rfl⟩⟩
theorem build_any (key : List UInt8) (hk0 : K16 key) (s : Int) (l : List Int) (A : Option Addr) (n c : Nat) (w : World) (hl : Rs 1 w A n c (its l)) (hn : n ≤ 1000) (hs : s < 300 ∨ 2048 < s) (hlo : -9223372036854775808 ≤ s) (hhi : s ≤ 9223372036854775807) (hT : TabB w) {T : List Int} {E : Int} (h : TabE key s l T E) :
    Calls Tryd.prog 6 #[.agg (bcs key).toArray, .int .i64 s, .slice A n c] w (RetTabE w T T.length E) := by
  rcases h with ⟨p, rfl, h2, rfl, rfl⟩ | ⟨h1, rfl, rfl⟩
  · refine (build_yes key hk0 p l A n c w hl h2 hT).mono ?_
    rintro e w' ⟨A', c', bs, d, rfl, rfl, hr⟩
    exact ⟨A', c', bs, d, rfl, rfl, hr⟩
  · refine (build_no key hk0 s l A n c w hl hn hs hlo hhi hT h1).mono ?_
    rintro e w' ⟨bs, d, rfl, rfl⟩
    exact ⟨none, 0, bs, d, rfl, rfl, Rs.nil_⟩
/-- how many of the first k places differ -/
def cntZ (T U : List Int) : Nat → Nat
  | 0 => 0
  | k + 1 => cntZ T U k + if getZ T k = getZ U k then 0 else 1
theorem cntZ_le (T U : List Int) : ∀ k, cntZ T U k ≤ k
  | 0 => Nat.le_refl _
  | k + 1 => by have := cntZ_le T U k; unfold cntZ; split <;> omega
theorem cntZ_diff (T U : List Int) (h : T.length = U.length) : ∀ k, k ≤ T.length → cntZ T U k = diffZ T U k
  | 0, _ => rfl
  | k + 1, hk => by
    unfold cntZ diffZ
    rw [cntZ_diff T U h k (by omega), getZ_in T k (by omega), getZ_in U k (by omega), getD_some (show k < T.length by omega), getD_some (show k < U.length by omega)]
theorem moved_is (T U : List Int) : movedZ T U = if T.length = U.length then (cntZ T U T.length : Int) else -1 := by
  unfold movedZ
  split
  · next h => rw [cntZ_diff T U h _ (Nat.le_refl _)]
  · rfl
theorem tabE_len {key : List UInt8} {s : Int} {l T : List Int} {E : Int} (h : TabE key s l T E) : T.length < 300 := by
  rcases h with ⟨p, rfl, h2, rfl, rfl⟩ | ⟨h1, rfl, rfl⟩
  · rw [magT_len]; exact h2.2.1
  · simp
theorem tabE_b {key : List UInt8} {s : Int} {l T : List Int} {E : Int} (h : TabE key s l T E) : ∃ b : Bool, (b = true ↔ RightZ s l) ∧ (E == 0) = b := by
  rcases h with ⟨p, rfl, h2, rfl, rfl⟩ | ⟨h1, rfl, rfl⟩
  · exact ⟨true, ⟨fun _ => ⟨p, rfl, h2⟩, fun _ => rfl⟩, rfl⟩
  · exact ⟨false, by simp [h1], rfl⟩
set_option maxHeartbeats 4000000 in
set_option maxRecDepth 100000 in
theorem maglevEven_walk (key : List UInt8) (hk0 : K16 key) (s : Int) (hs1 : -9223372036854775808 ≤ s) (hs2 : s ≤ 9223372036854775807) (l : List Int) (A : Option Addr) (n c : Nat) (m : List Int) (A1 : Option Addr) (n1 c1 : Nat) (w : World)
    (hl : Rs 1 w A n c (its l)) (hl2 : Rs 1 w A1 n1 c1 (its m)) (hnm : n ≤ 9223372036854775807) (hnm1 : n1 ≤ 9223372036854775807) (hTab : TabB w) : Calls Tryd.prog 4 #[.agg (bcs key).toArray, .int .i64 s, .slice A n c, .slice A1 n1 c1] w (RetV w (.bool true)) := by
  obtain ⟨dk, u1, u2⟩ := rowK16a
  obtain ⟨dt, o1, o2⟩ := rowTb
  have hln : l.length = n := by have := hl.1; rw [its_len] at this; omega
  have hln1 : m.length = n1 := by have := hl2.1; rw [its_len] at this; omega
  have hk : Bk (w.alloc (.cells (bcs key).toArray 22)) w.heap.size 22 (bcs key) := Bk.new w 22 (bcs key).toArray
  have be : Below w.heap.size w (w.alloc (.cells (bcs key).toArray 22)) := Below.allocS (Below.refl _ _) _
  replace hl := (hl.alloc (.cells (bcs key).toArray 22))
  replace hl2 := (hl2.alloc (.cells (bcs key).toArray 22))
  have zV : w.heap.size + 1 ≤ (w.alloc (.cells (bcs key).toArray 22)).heap.size := by simp
  go_enter Tryd.func4, Tryd.ntmps4
  go_upto_region 1 with (fail)
  generalize w.alloc (.cells (bcs key).toArray 22) = V at *
  have hTabV := hTab.later be
  by_cases h70 : 70 < n
  · have i70 : (70 : Int) < (n : Int) := by omega
    go_wp2_with (go_at_call 5; refine (awake42 _ hTabV).mono ?_; rintro e w1 ⟨bs3, d3, rfl, rfl⟩)
    go_ret
    exact RetV.mk (belowP be bs3 d3)
  have i70 : ¬ (70 : Int) < (n : Int) := by omega
  by_cases h71 : 70 < n1
  · have i71 : (70 : Int) < (n1 : Int) := by omega
    go_wp2_with (go_at_call 5; refine (awake42 _ hTabV).mono ?_; rintro e w1 ⟨bs3, d3, rfl, rfl⟩)
    go_ret
    exact RetV.mk (belowP be bs3 d3)
  have i71 : ¬ (70 : Int) < (n1 : Int) := by omega
  by_cases h300 : 300 ≤ s ∧ s ≤ 2048
  · have i300 : (300 : Int) ≤ s := h300.1
    have i2048 : s ≤ 2048 := h300.2
    go_wp2_with (go_at_call 5; refine (awake42 _ hTabV).mono ?_; rintro e w1 ⟨bs3, d3, rfl, rfl⟩)
    go_ret
    exact RetV.mk (belowP be bs3 d3)
  have hs3 : s < 300 ∨ 2048 < s := by omega
  obtain ⟨T, E, hTE⟩ := tabE_ex key s l
  obtain ⟨U, E2, hUE⟩ := tabE_ex key s m
  have hTl := tabE_len hTE
  have hUl := tabE_len hUE
  obtain ⟨b1, hb1, e1⟩ := tabE_b hTE
  obtain ⟨b2, hb2, e2⟩ := tabE_b hUE
  obtain ⟨nt, hnt⟩ : ∃ k, T.length = k := ⟨_, rfl⟩
  obtain ⟨nu, hnu⟩ : ∃ k, U.length = k := ⟨_, rfl⟩
  by_cases i3 : (300 : Int) ≤ s
  · have i4 : ¬ s ≤ 2048 := by omega
    clear h300
    have HB1 := Lib.hid (build_any key hk0 s l A n c V hl (by omega) hs3 hs1 hs2 hTabV hTE)
    have HB2 := Lib.hid (fun w (h : Rs 1 w A1 n1 c1 (its m)) (h2 : TabB w) => build_any key hk0 s m A1 n1 c1 w h (by omega) hs3 hs1 hs2 h2 hUE)
    have HR1 := Lib.hid (fun w (h : Rs 1 w A n c (its l)) => refRight_any s l A n c w h (by omega) hs3 hs1 hs2 b1 hb1)
    have HR2 := Lib.hid (fun w (h : Rs 1 w A1 n1 c1 (its m)) => refRight_any s m A1 n1 c1 w h (by omega) hs3 hs1 hs2 b2 hb2)
    have HTE := Lib.hid hTE
    clear hTE hUE hb1 hb2
    rw [hnt] at HB1
    rw [hnu] at HB2
    go_upto_region 3 with (fail)
    refine wp_region_lit ?_
    refine wpList_ldA (t := 22) 22 (.tmp 4) rfl rfl (bcs key) rfl (hk) (whole_ _) u1 u2 (szK16a key hk0) ?_
    iterate 2 (refine wpList_plain rfl (fun K hK => ?_); go_simp; with_reducible refine hK _ _ ?_; clear hK K)
    refine wpList_plain rfl (fun K hK => ?_)
    go_simp
    refine (HB1.out).mono ?_
    rintro e w1 ⟨A2, c2, bs1, d1, rfl, rfl, hr2⟩
    with_reducible refine hK _ _ ?_
    clear hK K
    iterate 4 (refine wpList_plain rfl (fun K hK => ?_); go_simp; with_reducible refine hK _ _ ?_; clear hK K)
    refine wpList_stA (t := 27) 27 (.tmp 9) (.tmp 40) rfl rfl (tbC A2 nt c2) ([.slice none 0 0]) rfl (tbC_one _ _ _) rfl rfl (Bk.newK (k := V.heap.size + bs1.length) _ _ _ (by simp [size_plus]) rfl) (szTb _ _ _) ?_
    intro W2 hT g2
    refine wpList_plain rfl (fun K hK => ?_); go_simp; with_reducible refine hK _ _ ?_; clear hK K
    have b2_ : Below V.heap.size V W2 := below_grown (Below.allocS (below_plus V bs1 d1) _) g2 (by simp [size_plus])
    have hr3 : Rs 1 W2 A2 nt c2 (its T) := hr2.later (below_grown (Below.allocS (Below.refl _ _) _) g2 (by simp [size_plus]))
    replace be := be.trans (b2_.mono be.size)
    replace hk := hk.later b2_
    replace hl := hl.later b2_
    replace hl2 := hl2.later b2_
    have hTab2 := hTabV.later b2_
    have hgT : w.heap.size + 1 ≤ V.heap.size + bs1.length := by omega
    generalize V.heap.size + bs1.length = gT at *
    clear g2 b2_ HB1 hr2 hTabV zV
    go_upto_region 4 with (fail)
    refine wp_region_lit ?_
    refine wpList_ldA (t := 22) 22 (.tmp 4) rfl rfl (bcs key) rfl (hk) (whole_ _) u1 u2 (szK16a key hk0) ?_
    iterate 2 (refine wpList_plain rfl (fun K hK => ?_); go_simp; with_reducible refine hK _ _ ?_; clear hK K)
    refine wpList_plain rfl (fun K hK => ?_)
    go_simp
    refine (HB2.out _ hl2 hTab2).mono ?_
    rintro e w1 ⟨A4, c4, bs4, d4, rfl, rfl, hr4⟩
    with_reducible refine hK _ _ ?_
    clear hK K
    iterate 4 (refine wpList_plain rfl (fun K hK => ?_); go_simp; with_reducible refine hK _ _ ?_; clear hK K)
    refine wpList_stA (t := 27) 27 (.tmp 11) (.tmp 47) rfl rfl (tbC A4 nu c4) ([.slice none 0 0]) rfl (tbC_one _ _ _) rfl rfl (Bk.newK (k := W2.heap.size + bs4.length) _ _ _ (by simp [size_plus]) rfl) (szTb _ _ _) ?_
    intro W4 hU g4
    refine wpList_plain rfl (fun K hK => ?_); go_simp; with_reducible refine hK _ _ ?_; clear hK K
    have b4_ : Below W2.heap.size W2 W4 := below_grown (Below.allocS (below_plus W2 bs4 d4) _) g4 (by simp [size_plus])
    have hr5 : Rs 1 W4 A4 nu c4 (its U) := hr4.later (below_grown (Below.allocS (Below.refl _ _) _) g4 (by simp [size_plus]))
    replace be := be.trans (b4_.mono be.size)
    replace hl := hl.later b4_
    replace hl2 := hl2.later b4_
    replace hT := hT.later b4_
    replace hr3 := hr3.later b4_
    have hTab4 := hTab2.later b4_
    generalize W2.heap.size + bs4.length = gU at *
    clear g4 b4_ HB2 hr4 hTab2 hk
    go_upto_region 5 with (fail)
    refine wp_region_lit ?_
    iterate 4 (refine wpList_plain rfl (fun K hK => ?_); go_simp; with_reducible refine hK _ _ ?_; clear hK K)
    refine wpList_plain rfl (fun K hK => ?_)
    go_simp
    refine (HR1.out _ hl).mono ?_
    rintro e w1 ⟨bs5, d5, rfl, rfl⟩
    with_reducible refine hK _ _ ?_
    clear hK K
    iterate 2 (refine wpList_plain rfl (fun K hK => ?_); go_simp; with_reducible refine hK _ _ ?_; clear hK K)
    iterate 4 (refine wpList_step (fun K hK => ?_); go_simp; with_reducible refine hK _ _ ?_; clear hK K)
    refine wpList_step (fun K hK => ?_)
    go_simp
    refine (HR2.out _ (hl2.later (below_plus _ _ _))).mono ?_
    rintro e w1 ⟨bs6, d6, rfl, rfl⟩
    with_reducible refine hK _ _ ?_
    clear hK K
    refine wpList_step (fun K hK => ?_); go_simp; with_reducible refine hK _ _ ?_; clear hK K
    refine wpList_plain rfl (fun K hK => ?_); go_simp; with_reducible refine hK _ _ ?_; clear hK K
    clear e1 e2
    have b6_ : Below W4.heap.size W4 (plus (plus W4 bs5 d5) bs6 d6) := (below_plus W4 bs5 d5).trans ((below_plus _ bs6 d6).mono (below_plus W4 bs5 d5).size)
    replace be := be.trans (b6_.mono be.size)
    replace hl := hl.later b6_
    replace hT := hT.later b6_
    replace hU := hU.later b6_
    replace hr3 := hr3.later b6_
    replace hr5 := hr5.later b6_
    have hTab5 := hTab4.later b6_
    generalize plus (plus W4 bs5 d5) bs6 d6 = W5 at *
    clear b6_ HR1 HR2 hTab4 hl2
    go_upto_region 9 with (fail)
    have HE := Lib.hid be
    clear be
    go_loopw [13, 14] (fun D I wr => ∃ k : Nat, D = .int .i64 ((cntZ T U k : Nat) : Int) ∧ I = .int .i64 (k : Int) ∧ k ≤ nt ∧ Below W5.heap.size W5 wr) (fun _ I _ => nt - (intOf I).toNat)
    case atStart => exact ⟨0, rfl, rfl, Nat.zero_le _, Below.refl _ _⟩
    case round =>
      obtain ⟨k, rfl, rfl, hk, hE⟩ := hrel
      have hTr := hT.later hE
      by_cases hlt : k < nt
      · have ik : (k : Int) < (nt : Int) := by omega
        have ik3 : (k : Int) < 300 := by omega
        go_upto_region 9 with (fail)
        refine wp_region_lit ?_
        refine wpList_plain rfl (fun K hK => ?_); go_simp; with_reducible refine hK _ _ ?_; clear hK K
        refine wpList_ldA (t := 27) 27 (.tmp 9) rfl rfl (tbC A2 nt c2) rfl (hTr) (whole_ _) o1 o2 (szTb _ _ _) ?_
        refine wpList_plain rfl (fun K hK => ?_)
        go_simp
        refine (len_tb A2 nt c2 _).mono ?_
        rintro e w1 ⟨bs7, d7, rfl, rfl⟩
        with_reducible refine hK _ _ ?_
        clear hK K
        iterate 2 (refine wpList_plain rfl (fun K hK => ?_); go_simp; with_reducible refine hK _ _ ?_; clear hK K)
        iterate 2 (refine wpList_step (fun K hK => ?_); go_simp; with_reducible refine hK _ _ ?_; clear hK K)
        refine wpList_plain rfl (fun K hK => ?_); go_simp; with_reducible refine hK _ _ ?_; clear hK K
        have hE2 := belowP hE bs7 d7
        have hT3 := hT.later hE2
        have hU3 := hU.later hE2
        have HC := Lib.hid (fun (W : World) (h : Below (plus wr bs7 d7).heap.size (plus wr bs7 d7) W) => show Rs 1 W A2 nt c2 (its T) ∧ Rs 1 W A4 nu c4 (its U) from ⟨hr3.later (hE2.trans (h.mono hE2.size)), hr5.later (hE2.trans (h.mono hE2.size))⟩)
        clear hE hTr
        generalize plus wr bs7 d7 = wq at *
        have hc1 : cntZ T U (k + 1) = cntZ T U k + if getZ T k = getZ U k then 0 else 1 := rfl
        have hcl := cntZ_le T U k
        obtain ⟨a, ha⟩ : ∃ a, getZ T (k : Int) = a := ⟨_, rfl⟩
        obtain ⟨b, hb⟩ : ∃ b, getZ U (k : Int) = b := ⟨_, rfl⟩
        rw [ha, hb] at hc1
        have HGa := Lib.hid ha
        have HGb := Lib.hid hb
        clear ha hb
        by_cases hab : a = b
        · have hq : (a == b) = true := by simp [hab]
          rw [if_pos hab] at hc1
          have HC1 := Lib.hid hc1
          clear hc1 hab
          generalize cntZ T U k = q0 at *
          go_upto_region 11 with (fail)
          go_wp2
          refine wp_relS 7 136 rfl (by kernel_rfl) (by kernel_rfl) ?_
          apply Steps.one (MP.eq _) 1 rfl
          · intro o ho FA x hO hD K hK
            obtain rfl := Option.some.inj ho.symm
            clear ho
            have e9 := hO 9 (by kernel_rfl)
            simp only [eval_tmp, List.getElem?_toArray, List.getElem?_cons_succ, List.getElem?_cons_zero, Option.getD_some] at e9
            have ev9 := Lib.hid ((eval_tmp FA 9).trans e9)
            clear hO hD
            refine wanted_if rfl ?_
            refine wp_ldA 27 (.tmp 9) rfl (tbC A2 nt c2) ev9.out (hT3.later (below_plus _ _ _)) (whole_ _) o1 o2 (szTb _ _ _) ?_
            exact hK.out _ _ (Ex.refl _) rfl
          apply Steps.one (MP.eq _) 2 rfl
          · intro o ho FA x hO hD K hK
            obtain rfl := Option.some.inj ho.symm
            clear ho
            have e14 := hO 14 (by kernel_rfl)
            simp only [eval_tmp, List.getElem?_toArray, List.getElem?_cons_succ, List.getElem?_cons_zero, Option.getD_some] at e14
            have ev14 := Lib.hid ((eval_tmp FA 14).trans e14)
            clear hO hD
            go_simp
            exact hK.out _ _ (Ex.refl _) rfl
          apply Steps.one (MP.eq (.int .i64 a)) 3 rfl
          · intro o ho FA x hO hD K hK
            obtain rfl := Option.some.inj ho.symm
            clear ho
            have ev73 : FA.eval (.tmp 73) = _ := hD 0 73 (by kernel_rfl)
            have e73 := (eval_tmp FA 73).symm.trans ev73
            replace ev73 := Lib.hid ev73
            have ev74 : FA.eval (.tmp 74) = _ := hD 1 74 (by kernel_rfl)
            have e74 := (eval_tmp FA 74).symm.trans ev74
            replace ev74 := Lib.hid ev74
            clear hO hD
            go_simp
            refine (at_tb T (k : Int) A2 nt c2 _ (HC.out _ (below_plus _ _ _)).1 (by omega) (by omega)).mono ?_
            rintro e w1 ⟨bs9, d9, rfl, rfl⟩
            exact hK.out _ _ (Ex.plus_ _ _ _) (congrArg (Value.int .i64) HGa.out)
          apply Steps.one (MP.eq _) 4 rfl
          · intro o ho FA x hO hD K hK
            obtain rfl := Option.some.inj ho.symm
            clear ho
            have e11 := hO 11 (by kernel_rfl)
            simp only [eval_tmp, List.getElem?_toArray, List.getElem?_cons_succ, List.getElem?_cons_zero, Option.getD_some] at e11
            have ev11 := Lib.hid ((eval_tmp FA 11).trans e11)
            clear hO hD
            refine wanted_if rfl ?_
            refine wp_ldA 27 (.tmp 11) rfl (tbC A4 nu c4) ev11.out (hU3.later (below_plus _ _ _)) (whole_ _) o1 o2 (szTb _ _ _) ?_
            exact hK.out _ _ (Ex.refl _) rfl
          apply Steps.one (MP.eq _) 5 rfl
          · intro o ho FA x hO hD K hK
            obtain rfl := Option.some.inj ho.symm
            clear ho
            have e14 := hO 14 (by kernel_rfl)
            simp only [eval_tmp, List.getElem?_toArray, List.getElem?_cons_succ, List.getElem?_cons_zero, Option.getD_some] at e14
            have ev14 := Lib.hid ((eval_tmp FA 14).trans e14)
            clear hO hD
            go_simp
            exact hK.out _ _ (Ex.refl _) rfl
          apply Steps.one (MP.eq (.int .i64 b)) 6 rfl
          · intro o ho FA x hO hD K hK
            obtain rfl := Option.some.inj ho.symm
            clear ho
            have ev76 : FA.eval (.tmp 76) = _ := hD 3 76 (by kernel_rfl)
            have e76 := (eval_tmp FA 76).symm.trans ev76
            replace ev76 := Lib.hid ev76
            have ev77 : FA.eval (.tmp 77) = _ := hD 4 77 (by kernel_rfl)
            have e77 := (eval_tmp FA 77).symm.trans ev77
            replace ev77 := Lib.hid ev77
            clear hO hD
            go_simp
            refine (at_tb U (k : Int) A4 nu c4 _ (HC.out _ (below_plus _ _ _)).2 (by omega) (by omega)).mono ?_
            rintro e w1 ⟨bs9, d9, rfl, rfl⟩
            exact hK.out _ _ (Ex.plus_ _ _ _) (congrArg (Value.int .i64) HGb.out)
          apply Steps.one (MP.eq _) 7 rfl
          · intro o ho FA x hO hD K hK
            obtain rfl := Option.some.inj ho.symm
            clear ho
            have ev75 : FA.eval (.tmp 75) = _ := hD 2 75 (by kernel_rfl)
            have e75 := (eval_tmp FA 75).symm.trans ev75
            replace ev75 := Lib.hid ev75
            have ev78 : FA.eval (.tmp 78) = _ := hD 5 78 (by kernel_rfl)
            have e78 := (eval_tmp FA 78).symm.trans ev78
            replace ev78 := Lib.hid ev78
            clear hO hD
            go_simp
            exact hK.out _ _ (Ex.refl _) rfl
          refine Steps.fin_ (fun vs x hp => ?_)
          have p0 : vs 0 = _ := hp 0 (by omega)
          have p1 : vs 1 = _ := hp 1 (by omega)
          have p2 : vs 2 = _ := hp 2 (by omega)
          have p3 : vs 3 = _ := hp 3 (by omega)
          have p4 : vs 4 = _ := hp 4 (by omega)
          have p5 : vs 5 = _ := hp 5 (by omega)
          have p6 : vs 6 = _ := hp 6 (by omega)
          clear hp
          simp only [List.take_succ_cons, List.take_zero, List.drop_succ_cons, List.drop_zero, putAll, Nat.zero_add, Nat.reduceAdd, Act.put, List.setIfInBounds_toArray, List.set_cons_zero, List.set_cons_succ, p0, p1, p2, p3, p4, p5, p6]
          clear p0 p1 p2 p3 p4 p5 p6
          clear vs
          go_wp2
          exact ⟨⟨k + 1, by rw [HC1.out]; rfl, by go_num, by omega, belowP hE2 _ _⟩, by simp [intOf]; omega⟩
        · have hq : (a == b) = false := by simp [hab]
          rw [if_neg hab] at hc1
          have HC1 := Lib.hid hc1
          clear hc1 hab
          generalize cntZ T U k = q0 at *
          have w0 : IntKind.i64.wrap ((q0 : Int) + 1) = (q0 : Int) + 1 := IntWalk.i64_in _ (by omega)
          go_upto_region 11 with (fail)
          go_wp2
          refine wp_relS 7 136 rfl (by kernel_rfl) (by kernel_rfl) ?_
          apply Steps.one (MP.eq _) 1 rfl
          · intro o ho FA x hO hD K hK
            obtain rfl := Option.some.inj ho.symm
            clear ho
            have e9 := hO 9 (by kernel_rfl)
            simp only [eval_tmp, List.getElem?_toArray, List.getElem?_cons_succ, List.getElem?_cons_zero, Option.getD_some] at e9
            have ev9 := Lib.hid ((eval_tmp FA 9).trans e9)
            clear hO hD
            refine wanted_if rfl ?_
            refine wp_ldA 27 (.tmp 9) rfl (tbC A2 nt c2) ev9.out (hT3.later (below_plus _ _ _)) (whole_ _) o1 o2 (szTb _ _ _) ?_
            exact hK.out _ _ (Ex.refl _) rfl
          apply Steps.one (MP.eq _) 2 rfl
          · intro o ho FA x hO hD K hK
            obtain rfl := Option.some.inj ho.symm
            clear ho
            have e14 := hO 14 (by kernel_rfl)
            simp only [eval_tmp, List.getElem?_toArray, List.getElem?_cons_succ, List.getElem?_cons_zero, Option.getD_some] at e14
            have ev14 := Lib.hid ((eval_tmp FA 14).trans e14)
            clear hO hD
            go_simp
            exact hK.out _ _ (Ex.refl _) rfl
          apply Steps.one (MP.eq (.int .i64 a)) 3 rfl
          · intro o ho FA x hO hD K hK
            obtain rfl := Option.some.inj ho.symm
            clear ho
            have ev73 : FA.eval (.tmp 73) = _ := hD 0 73 (by kernel_rfl)
            have e73 := (eval_tmp FA 73).symm.trans ev73
            replace ev73 := Lib.hid ev73
            have ev74 : FA.eval (.tmp 74) = _ := hD 1 74 (by kernel_rfl)
            have e74 := (eval_tmp FA 74).symm.trans ev74
            replace ev74 := Lib.hid ev74
            clear hO hD
            go_simp
            refine (at_tb T (k : Int) A2 nt c2 _ (HC.out _ (below_plus _ _ _)).1 (by omega) (by omega)).mono ?_
            rintro e w1 ⟨bs9, d9, rfl, rfl⟩
            exact hK.out _ _ (Ex.plus_ _ _ _) (congrArg (Value.int .i64) HGa.out)
          apply Steps.one (MP.eq _) 4 rfl
          · intro o ho FA x hO hD K hK
            obtain rfl := Option.some.inj ho.symm
            clear ho
            have e11 := hO 11 (by kernel_rfl)
            simp only [eval_tmp, List.getElem?_toArray, List.getElem?_cons_succ, List.getElem?_cons_zero, Option.getD_some] at e11
            have ev11 := Lib.hid ((eval_tmp FA 11).trans e11)
            clear hO hD
            refine wanted_if rfl ?_
            refine wp_ldA 27 (.tmp 11) rfl (tbC A4 nu c4) ev11.out (hU3.later (below_plus _ _ _)) (whole_ _) o1 o2 (szTb _ _ _) ?_
            exact hK.out _ _ (Ex.refl _) rfl
          apply Steps.one (MP.eq _) 5 rfl
          · intro o ho FA x hO hD K hK
            obtain rfl := Option.some.inj ho.symm
            clear ho
            have e14 := hO 14 (by kernel_rfl)
            simp only [eval_tmp, List.getElem?_toArray, List.getElem?_cons_succ, List.getElem?_cons_zero, Option.getD_some] at e14
            have ev14 := Lib.hid ((eval_tmp FA 14).trans e14)
            clear hO hD
            go_simp
            exact hK.out _ _ (Ex.refl _) rfl
          apply Steps.one (MP.eq (.int .i64 b)) 6 rfl
          · intro o ho FA x hO hD K hK
            obtain rfl := Option.some.inj ho.symm
            clear ho
            have ev76 : FA.eval (.tmp 76) = _ := hD 3 76 (by kernel_rfl)
            have e76 := (eval_tmp FA 76).symm.trans ev76
            replace ev76 := Lib.hid ev76
            have ev77 : FA.eval (.tmp 77) = _ := hD 4 77 (by kernel_rfl)
            have e77 := (eval_tmp FA 77).symm.trans ev77
            replace ev77 := Lib.hid ev77
            clear hO hD
            go_simp
            refine (at_tb U (k : Int) A4 nu c4 _ (HC.out _ (below_plus _ _ _)).2 (by omega) (by omega)).mono ?_
            rintro e w1 ⟨bs9, d9, rfl, rfl⟩
            exact hK.out _ _ (Ex.plus_ _ _ _) (congrArg (Value.int .i64) HGb.out)
          apply Steps.one (MP.eq _) 7 rfl
          · intro o ho FA x hO hD K hK
            obtain rfl := Option.some.inj ho.symm
            clear ho
            have ev75 : FA.eval (.tmp 75) = _ := hD 2 75 (by kernel_rfl)
            have e75 := (eval_tmp FA 75).symm.trans ev75
            replace ev75 := Lib.hid ev75
            have ev78 : FA.eval (.tmp 78) = _ := hD 5 78 (by kernel_rfl)
            have e78 := (eval_tmp FA 78).symm.trans ev78
            replace ev78 := Lib.hid ev78
            clear hO hD
            go_simp
            exact hK.out _ _ (Ex.refl _) rfl
          refine Steps.fin_ (fun vs x hp => ?_)
          have p0 : vs 0 = _ := hp 0 (by omega)
          have p1 : vs 1 = _ := hp 1 (by omega)
          have p2 : vs 2 = _ := hp 2 (by omega)
          have p3 : vs 3 = _ := hp 3 (by omega)
          have p4 : vs 4 = _ := hp 4 (by omega)
          have p5 : vs 5 = _ := hp 5 (by omega)
          have p6 : vs 6 = _ := hp 6 (by omega)
          clear hp
          simp only [List.take_succ_cons, List.take_zero, List.drop_succ_cons, List.drop_zero, putAll, Nat.zero_add, Nat.reduceAdd, Act.put, List.setIfInBounds_toArray, List.set_cons_zero, List.set_cons_succ, p0, p1, p2, p3, p4, p5, p6]
          clear p0 p1 p2 p3 p4 p5 p6
          clear vs
          go_wp2
          exact ⟨⟨k + 1, by rw [HC1.out]; rfl, by go_num, by omega, belowP hE2 _ _⟩, by simp [intOf]; omega⟩
      · obtain rfl : nt = k := by omega
        have ik : ¬ (nt : Int) < (nt : Int) := by omega
        go_upto_region 9 with (fail)
        refine wp_region_lit ?_
        refine wpList_plain rfl (fun K hK => ?_); go_simp; with_reducible refine hK _ _ ?_; clear hK K
        refine wpList_ldA (t := 27) 27 (.tmp 9) rfl rfl (tbC A2 nt c2) rfl (hTr) (whole_ _) o1 o2 (szTb _ _ _) ?_
        refine wpList_plain rfl (fun K hK => ?_)
        go_simp
        refine (len_tb A2 nt c2 _).mono ?_
        rintro e w1 ⟨bs7, d7, rfl, rfl⟩
        with_reducible refine hK _ _ ?_
        clear hK K
        iterate 2 (refine wpList_plain rfl (fun K hK => ?_); go_simp; with_reducible refine hK _ _ ?_; clear hK K)
        iterate 2 (refine wpList_step (fun K hK => ?_); go_simp; with_reducible refine hK _ _ ?_; clear hK K)
        refine wpList_plain rfl (fun K hK => ?_); go_simp; with_reducible refine hK _ _ ?_; clear hK K
        have hE2 := belowP hE bs7 d7
        have be := HE.out.trans (hE2.mono HE.out.size)
        replace hT := hT.later hE2
        replace hU := hU.later hE2
        replace hl := hl.later hE2
        replace hr3 := hr3.later hE2
        replace hr5 := hr5.later hE2
        have hTab6 := hTab5.later hE2
        clear hE hE2 hTr hTab5 HE
        generalize plus wr bs7 d7 = W6 at *
        have hmv := moved_is T U
        rw [hnt, hnu] at hmv
        generalize cntZ T U nt = cz at *
        by_cases hnn : nt = nu
        · rw [if_pos hnn] at hmv
          have q1 : ((nt : Int) == (nu : Int)) = true := by simp [hnn]
          have q2 : (nt == nu) = true := by simp [hnn]
          have HNN := Lib.hid hnn
          clear hnn
          have HMV0 := Lib.hid (fun w (h : Rs 1 w A2 nt c2 (its T)) (h2 : Rs 1 w A4 nu c4 (its U)) => moved_tb T U A2 nt c2 A4 nu c4 w h h2 (by omega) (by omega))
          rw [hmv] at HMV0
          clear hmv
          go_upto_region 13 with (fail)
          go_wp2
          refine wp_relS 5 136 rfl (by kernel_rfl) (by kernel_rfl) ?_
          apply Steps.one (MP.eq _) 1 rfl
          · intro o ho FA x hO hD K hK
            obtain rfl := Option.some.inj ho.symm
            clear ho
            have e9 := hO 9 (by kernel_rfl)
            simp only [eval_tmp, List.getElem?_toArray, List.getElem?_cons_succ, List.getElem?_cons_zero, Option.getD_some] at e9
            have ev9 := Lib.hid ((eval_tmp FA 9).trans e9)
            clear hO hD
            refine wanted_if rfl ?_
            refine wp_ldA 27 (.tmp 9) rfl (tbC A2 nt c2) ev9.out (hT.later (below_plus _ _ _)) (whole_ _) o1 o2 (szTb _ _ _) ?_
            exact hK.out _ _ (Ex.refl _) rfl
          apply Steps.one (MP.eq _) 2 rfl
          · intro o ho FA x hO hD K hK
            obtain rfl := Option.some.inj ho.symm
            clear ho
            have ev82 : FA.eval (.tmp 82) = _ := hD 0 82 (by kernel_rfl)
            have e82 := (eval_tmp FA 82).symm.trans ev82
            replace ev82 := Lib.hid ev82
            clear hO hD
            go_simp
            refine (len_tb _ _ _ _).mono ?_
            rintro e w1 ⟨bs2, d2, rfl, rfl⟩
            exact hK.out _ _ (Ex.plus_ _ _ _) rfl
          apply Steps.one (MP.eq _) 3 rfl
          · intro o ho FA x hO hD K hK
            obtain rfl := Option.some.inj ho.symm
            clear ho
            have e11 := hO 11 (by kernel_rfl)
            simp only [eval_tmp, List.getElem?_toArray, List.getElem?_cons_succ, List.getElem?_cons_zero, Option.getD_some] at e11
            have ev11 := Lib.hid ((eval_tmp FA 11).trans e11)
            clear hO hD
            refine wanted_if rfl ?_
            refine wp_ldA 27 (.tmp 11) rfl (tbC A4 nu c4) ev11.out (hU.later (below_plus _ _ _)) (whole_ _) o1 o2 (szTb _ _ _) ?_
            exact hK.out _ _ (Ex.refl _) rfl
          apply Steps.one (MP.eq _) 4 rfl
          · intro o ho FA x hO hD K hK
            obtain rfl := Option.some.inj ho.symm
            clear ho
            have ev84 : FA.eval (.tmp 84) = _ := hD 2 84 (by kernel_rfl)
            have e84 := (eval_tmp FA 84).symm.trans ev84
            replace ev84 := Lib.hid ev84
            clear hO hD
            go_simp
            refine (len_tb _ _ _ _).mono ?_
            rintro e w1 ⟨bs2, d2, rfl, rfl⟩
            exact hK.out _ _ (Ex.plus_ _ _ _) rfl
          apply Steps.one (MP.eq _) 5 rfl
          · intro o ho FA x hO hD K hK
            obtain rfl := Option.some.inj ho.symm
            clear ho
            have ev83 : FA.eval (.tmp 83) = _ := hD 1 83 (by kernel_rfl)
            have e83 := (eval_tmp FA 83).symm.trans ev83
            replace ev83 := Lib.hid ev83
            have ev85 : FA.eval (.tmp 85) = _ := hD 3 85 (by kernel_rfl)
            have e85 := (eval_tmp FA 85).symm.trans ev85
            replace ev85 := Lib.hid ev85
            clear hO hD
            go_simp
            exact hK.out _ _ (Ex.refl _) rfl
          refine Steps.fin_ (fun vs x hp => ?_)
          have p0 : vs 0 = _ := hp 0 (by omega)
          have p1 : vs 1 = _ := hp 1 (by omega)
          have p2 : vs 2 = _ := hp 2 (by omega)
          have p3 : vs 3 = _ := hp 3 (by omega)
          have p4 : vs 4 = _ := hp 4 (by omega)
          clear hp
          simp only [List.take_succ_cons, List.take_zero, List.drop_succ_cons, List.drop_zero, putAll, Nat.zero_add, Nat.reduceAdd, Act.put, List.setIfInBounds_toArray, List.set_cons_zero, List.set_cons_succ, p0, p1, p2, p3, p4]
          clear p0 p1 p2 p3 p4
          clear vs
          have b7_ := below_plus W6 x.bs x.d
          replace be := belowP be x.bs x.d
          replace hT := hT.later b7_
          replace hU := hU.later b7_
          replace hl := hl.later b7_
          replace hr3 := hr3.later b7_
          replace hr5 := hr5.later b7_
          have hTab7 := hTab6.later b7_
          clear b7_ hTab6
          generalize plus W6 x.bs x.d = W7 at *
          have HMV := Lib.hid (HMV0.out W7 hr3 hr5)
          clear HMV0
          go_upto_region 15 with (fail)
          refine wp_region_lit ?_
          refine wpList_ldA (t := 27) 27 (.tmp 9) rfl rfl (tbC A2 nt c2) rfl (hT) (whole_ _) o1 o2 (szTb _ _ _) ?_
          simp only [Act.put, List.setIfInBounds_toArray, List.set_cons_zero, List.set_cons_succ]
          refine wpList_ldA (t := 27) 27 (.tmp 11) rfl rfl (tbC A4 nu c4) rfl (hU) (whole_ _) o1 o2 (szTb _ _ _) ?_
          refine wpList_plain rfl (fun K hK => ?_)
          go_simp
          refine (HMV.out).mono ?_
          rintro e w1 ⟨bs8, d8, rfl, rfl⟩
          with_reducible refine hK _ _ ?_
          clear hK K
          iterate 2 (refine wpList_plain rfl (fun K hK => ?_); go_simp; with_reducible refine hK _ _ ?_; clear hK K)
          have b8_ := below_plus W7 bs8 d8
          replace be := belowP be bs8 d8
          replace hT := hT.later b8_
          replace hl := hl.later b8_
          replace hr3 := hr3.later b8_
          have hTab8 := hTab7.later b8_
          clear b8_ hTab7 hr5 hU HMV
          generalize plus W7 bs8 d8 = W8 at *
          rcases HTE.out with ⟨p, rfl, hRL, rfl, rfl⟩ | ⟨-, -, rfl⟩
          · rw [magT_len] at hnt
            obtain rfl : nt = p := hnt.symm
            have hp2 := refP_two hRL.1
            have hp3 := hRL.2.1
            have HCT := Lib.hid (fun (i : Nat) (hi : i < l.length) => tabN_count (F := magFZ key nt) (S := magSZ key nt) hRL (fun m => magF_lt key nt _ hp2) (fun m => magS_ok key nt _ hp2) i hi nt (Nat.le_refl _))
            have HLO := Lib.hid (fun (i : Nat) (hi : i < l.length) => even_lo hRL i hi)
            have HHI := Lib.hid (fun (i : Nat) (hi : i < l.length) => even_hi hRL i hi)
            have HCT2 : Hid (∀ (i : Nat) (hi : i < l.length), (magT key l nt nt).count l[i] = (nt + (l.length - 1 - i)) / l.length) := Lib.hid (fun i hi => HCT.out i hi)
            have hlenT := magT_len key l nt nt
            clear HTE HCT hRL
            generalize magT key l nt nt = T at *
            go_upto_region 18 with (fail)
            have HE := Lib.hid be
            clear be
            go_loopw [15, 16, 17] (fun I A16 A17 wr => ∃ i : Nat, I = .int .i64 (i : Int) ∧ i ≤ n ∧ Below W8.heap.size W8 wr) (fun I _ _ _ => n - (intOf I).toNat)
            case atStart => exact ⟨0, rfl, Nat.zero_le _, Below.refl _ _⟩
            case round =>
              obtain ⟨i, rfl, hi, hE⟩ := hrel
              by_cases hlt : i < n
              · have ii : (i : Int) < (n : Int) := by omega
                have hiL : i < l.length := by omega
                have hn0 : ¬ (n : Int) = 0 := by omega
                have hn1 : ((n : Int) == 0) = false := by simp; omega
                have hn2 : ¬ n = 0 := by omega
                have hct := HCT2.out i hiL
                have hlo := HLO.out i hiL
                have hhi := HHI.out i hiL
                rw [← hct, hln] at hlo hhi
                clear hct
                obtain ⟨y, hy⟩ : ∃ y, l[i] = y := ⟨_, rfl⟩
                rw [hy] at hlo hhi
                obtain ⟨b3, o3, rfl, -, hat3⟩ := hl.ints_ (by omega)
                have HAT := Lib.hid (show ∀ w', Below W8.heap.size W8 w' → w'.cell? ⟨b3, o3 + i, none⟩ = some (.int .i64 y) from fun w' h => by rw [← hy]; exact hat3 i hiL w' h)
                have HLO2 := Lib.hid hlo
                have HHI2 := Lib.hid hhi
                clear hat3 hy hlo hhi
                go_upto_region 22 with (fail)
                go_loopw [16, 17] (fun C K wr => ∃ k : Nat, C = .int .i64 (((T.take k).count y : Nat) : Int) ∧ K = .int .i64 (k : Int) ∧ k ≤ nt ∧ Below W8.heap.size W8 wr) (fun _ K _ => nt - (intOf K).toNat)
                case atStart => exact ⟨0, by simp, rfl, Nat.zero_le _, hE⟩
                case round =>
                  clear hE
                  obtain ⟨k, rfl, rfl, hk, hE⟩ := hrel
                  by_cases hkt : k < nt
                  · have ik : (k : Int) < (nt : Int) := by omega
                    have hkT : k < T.length := by omega
                    have hg := getZ_in T k hkT
                    have hcs : (T.take (k + 1)).count y = (T.take k).count y + if T[k] = y then 1 else 0 := by
                      rw [List.take_succ_eq_append_getElem hkT, List.count_append, List.count_singleton]
                      congr 1
                      by_cases e : T[k] = y <;> simp [e]
                    have hcl : (T.take k).count y ≤ k := Nat.le_trans List.count_le_length (by rw [List.length_take]; omega)
                    have hT3 := hT.later hE
                    obtain ⟨v, hv⟩ : ∃ v, T[k] = v := ⟨_, rfl⟩
                    rw [hv] at hg hcs
                    have HG := Lib.hid hg
                    have HC := Lib.hid (fun (W : World) (h : Below wr.heap.size wr W) => show Rs 1 W A2 nt c2 (its T) ∧ W.cell? ⟨b3, o3 + i, none⟩ = some (.int .i64 y) from ⟨hr3.later (hE.trans (h.mono hE.size)), HAT.out W (hE.trans (h.mono hE.size))⟩)
                    clear hv hg
                    by_cases hvy : v = y
                    · have hq : (v == y) = true := by simp [hvy]
                      rw [if_pos hvy] at hcs
                      have HCS := Lib.hid hcs
                      clear hcs hvy
                      generalize (T.take k).count y = q0 at *
                      have w0 : IntKind.i64.wrap ((q0 : Int) + 1) = (q0 : Int) + 1 := IntWalk.i64_in _ (by omega)
                      go_upto_region 24 with (fail)
                      go_wp2
                      refine wp_relS 8 136 rfl (by kernel_rfl) (by kernel_rfl) ?_
                      apply Steps.one (MP.eq _) 1 rfl
                      · intro o ho FA x hO hD K hK
                        obtain rfl := Option.some.inj ho.symm
                        clear ho
                        have e9 := hO 9 (by kernel_rfl)
                        simp only [eval_tmp, List.getElem?_toArray, List.getElem?_cons_succ, List.getElem?_cons_zero, Option.getD_some] at e9
                        have ev9 := Lib.hid ((eval_tmp FA 9).trans e9)
                        clear hO hD
                        refine wanted_if rfl ?_
                        refine wp_ldA 27 (.tmp 9) rfl (tbC A2 nt c2) ev9.out (hT3.later (below_plus _ _ _)) (whole_ _) o1 o2 (szTb _ _ _) ?_
                        exact hK.out _ _ (Ex.refl _) rfl
                      apply Steps.one (MP.eq _) 2 rfl
                      · intro o ho FA x hO hD K hK
                        obtain rfl := Option.some.inj ho.symm
                        clear ho
                        have e17 := hO 17 (by kernel_rfl)
                        simp only [eval_tmp, List.getElem?_toArray, List.getElem?_cons_succ, List.getElem?_cons_zero, Option.getD_some] at e17
                        have ev17 := Lib.hid ((eval_tmp FA 17).trans e17)
                        clear hO hD
                        go_simp
                        exact hK.out _ _ (Ex.refl _) rfl
                      apply Steps.one (MP.eq (.int .i64 v)) 3 rfl
                      · intro o ho FA x hO hD K hK
                        obtain rfl := Option.some.inj ho.symm
                        clear ho
                        have ev107 : FA.eval (.tmp 107) = _ := hD 0 107 (by kernel_rfl)
                        have e107 := (eval_tmp FA 107).symm.trans ev107
                        replace ev107 := Lib.hid ev107
                        have ev108 : FA.eval (.tmp 108) = _ := hD 1 108 (by kernel_rfl)
                        have e108 := (eval_tmp FA 108).symm.trans ev108
                        replace ev108 := Lib.hid ev108
                        clear hO hD
                        go_simp
                        refine (at_tb T (k : Int) A2 nt c2 _ (HC.out _ (below_plus _ _ _)).1 (by omega) (by omega)).mono ?_
                        rintro e w1 ⟨bs9, d9, rfl, rfl⟩
                        exact hK.out _ _ (Ex.plus_ _ _ _) (congrArg (Value.int .i64) HG.out)
                      apply Steps.one (MP.eq _) 4 rfl
                      · intro o ho FA x hO hD K hK
                        obtain rfl := Option.some.inj ho.symm
                        clear ho
                        have e2 := hO 2 (by kernel_rfl)
                        simp only [eval_tmp, List.getElem?_toArray, List.getElem?_cons_succ, List.getElem?_cons_zero, Option.getD_some] at e2
                        have ev2 := Lib.hid ((eval_tmp FA 2).trans e2)
                        clear hO hD
                        go_simp
                        exact hK.out _ _ (Ex.refl _) rfl
                      apply Steps.one (MP.eq _) 5 rfl
                      · intro o ho FA x hO hD K hK
                        obtain rfl := Option.some.inj ho.symm
                        clear ho
                        have e15 := hO 15 (by kernel_rfl)
                        simp only [eval_tmp, List.getElem?_toArray, List.getElem?_cons_succ, List.getElem?_cons_zero, Option.getD_some] at e15
                        have ev15 := Lib.hid ((eval_tmp FA 15).trans e15)
                        clear hO hD
                        go_simp
                        exact hK.out _ _ (Ex.refl _) rfl
                      apply Steps.one (MP.eq _) 6 rfl
                      · intro o ho FA x hO hD K hK
                        obtain rfl := Option.some.inj ho.symm
                        clear ho
                        have ev110 : FA.eval (.tmp 110) = _ := hD 3 110 (by kernel_rfl)
                        have e110 := (eval_tmp FA 110).symm.trans ev110
                        replace ev110 := Lib.hid ev110
                        have ev111 : FA.eval (.tmp 111) = _ := hD 4 111 (by kernel_rfl)
                        have e111 := (eval_tmp FA 111).symm.trans ev111
                        replace ev111 := Lib.hid ev111
                        clear hO hD
                        go_simp
                        exact hK.out _ _ (Ex.refl _) rfl
                      apply Steps.one (MP.eq _) 7 rfl
                      · intro o ho FA x hO hD K hK
                        obtain rfl := Option.some.inj ho.symm
                        clear ho
                        have ev112 : FA.eval (.tmp 112) = _ := hD 5 112 (by kernel_rfl)
                        have e112 := (eval_tmp FA 112).symm.trans ev112
                        replace ev112 := Lib.hid ev112
                        clear hO hD
                        have q9 := (HC.out (plus wr x.bs x.d) (below_plus _ _ _)).2
                        go_simp
                        exact hK.out _ _ (Ex.refl _) rfl
                      apply Steps.one (MP.eq _) 8 rfl
                      · intro o ho FA x hO hD K hK
                        obtain rfl := Option.some.inj ho.symm
                        clear ho
                        have ev109 : FA.eval (.tmp 109) = _ := hD 2 109 (by kernel_rfl)
                        have e109 := (eval_tmp FA 109).symm.trans ev109
                        replace ev109 := Lib.hid ev109
                        have ev113 : FA.eval (.tmp 113) = _ := hD 6 113 (by kernel_rfl)
                        have e113 := (eval_tmp FA 113).symm.trans ev113
                        replace ev113 := Lib.hid ev113
                        clear hO hD
                        go_simp
                        exact hK.out _ _ (Ex.refl _) rfl
                      refine Steps.fin_ (fun vs x hp => ?_)
                      have p0 : vs 0 = _ := hp 0 (by omega)
                      have p1 : vs 1 = _ := hp 1 (by omega)
                      have p2 : vs 2 = _ := hp 2 (by omega)
                      have p3 : vs 3 = _ := hp 3 (by omega)
                      have p4 : vs 4 = _ := hp 4 (by omega)
                      have p5 : vs 5 = _ := hp 5 (by omega)
                      have p6 : vs 6 = _ := hp 6 (by omega)
                      have p7 : vs 7 = _ := hp 7 (by omega)
                      clear hp
                      simp only [List.take_succ_cons, List.take_zero, List.drop_succ_cons, List.drop_zero, putAll, Nat.zero_add, Nat.reduceAdd, Act.put, List.setIfInBounds_toArray, List.set_cons_zero, List.set_cons_succ, p0, p1, p2, p3, p4, p5, p6, p7]
                      clear p0 p1 p2 p3 p4 p5 p6 p7
                      clear vs
                      go_wp2
                      exact ⟨⟨k + 1, by rw [HCS.out]; rfl, by go_num, by omega, belowP hE _ _⟩, by simp [intOf]; omega⟩
                    · have hq : (v == y) = false := by simp [hvy]
                      rw [if_neg hvy] at hcs
                      have HCS := Lib.hid hcs
                      clear hcs hvy
                      generalize (T.take k).count y = q0 at *
                      go_upto_region 24 with (fail)
                      go_wp2
                      refine wp_relS 8 136 rfl (by kernel_rfl) (by kernel_rfl) ?_
                      apply Steps.one (MP.eq _) 1 rfl
                      · intro o ho FA x hO hD K hK
                        obtain rfl := Option.some.inj ho.symm
                        clear ho
                        have e9 := hO 9 (by kernel_rfl)
                        simp only [eval_tmp, List.getElem?_toArray, List.getElem?_cons_succ, List.getElem?_cons_zero, Option.getD_some] at e9
                        have ev9 := Lib.hid ((eval_tmp FA 9).trans e9)
                        clear hO hD
                        refine wanted_if rfl ?_
                        refine wp_ldA 27 (.tmp 9) rfl (tbC A2 nt c2) ev9.out (hT3.later (below_plus _ _ _)) (whole_ _) o1 o2 (szTb _ _ _) ?_
                        exact hK.out _ _ (Ex.refl _) rfl
                      apply Steps.one (MP.eq _) 2 rfl
                      · intro o ho FA x hO hD K hK
                        obtain rfl := Option.some.inj ho.symm
                        clear ho
                        have e17 := hO 17 (by kernel_rfl)
                        simp only [eval_tmp, List.getElem?_toArray, List.getElem?_cons_succ, List.getElem?_cons_zero, Option.getD_some] at e17
                        have ev17 := Lib.hid ((eval_tmp FA 17).trans e17)
                        clear hO hD
                        go_simp
                        exact hK.out _ _ (Ex.refl _) rfl
                      apply Steps.one (MP.eq (.int .i64 v)) 3 rfl
                      · intro o ho FA x hO hD K hK
                        obtain rfl := Option.some.inj ho.symm
                        clear ho
                        have ev107 : FA.eval (.tmp 107) = _ := hD 0 107 (by kernel_rfl)
                        have e107 := (eval_tmp FA 107).symm.trans ev107
                        replace ev107 := Lib.hid ev107
                        have ev108 : FA.eval (.tmp 108) = _ := hD 1 108 (by kernel_rfl)
                        have e108 := (eval_tmp FA 108).symm.trans ev108
                        replace ev108 := Lib.hid ev108
                        clear hO hD
                        go_simp
                        refine (at_tb T (k : Int) A2 nt c2 _ (HC.out _ (below_plus _ _ _)).1 (by omega) (by omega)).mono ?_
                        rintro e w1 ⟨bs9, d9, rfl, rfl⟩
                        exact hK.out _ _ (Ex.plus_ _ _ _) (congrArg (Value.int .i64) HG.out)
                      apply Steps.one (MP.eq _) 4 rfl
                      · intro o ho FA x hO hD K hK
                        obtain rfl := Option.some.inj ho.symm
                        clear ho
                        have e2 := hO 2 (by kernel_rfl)
                        simp only [eval_tmp, List.getElem?_toArray, List.getElem?_cons_succ, List.getElem?_cons_zero, Option.getD_some] at e2
                        have ev2 := Lib.hid ((eval_tmp FA 2).trans e2)
                        clear hO hD
                        go_simp
                        exact hK.out _ _ (Ex.refl _) rfl
                      apply Steps.one (MP.eq _) 5 rfl
                      · intro o ho FA x hO hD K hK
                        obtain rfl := Option.some.inj ho.symm
                        clear ho
                        have e15 := hO 15 (by kernel_rfl)
                        simp only [eval_tmp, List.getElem?_toArray, List.getElem?_cons_succ, List.getElem?_cons_zero, Option.getD_some] at e15
                        have ev15 := Lib.hid ((eval_tmp FA 15).trans e15)
                        clear hO hD
                        go_simp
                        exact hK.out _ _ (Ex.refl _) rfl
                      apply Steps.one (MP.eq _) 6 rfl
                      · intro o ho FA x hO hD K hK
                        obtain rfl := Option.some.inj ho.symm
                        clear ho
                        have ev110 : FA.eval (.tmp 110) = _ := hD 3 110 (by kernel_rfl)
                        have e110 := (eval_tmp FA 110).symm.trans ev110
                        replace ev110 := Lib.hid ev110
                        have ev111 : FA.eval (.tmp 111) = _ := hD 4 111 (by kernel_rfl)
                        have e111 := (eval_tmp FA 111).symm.trans ev111
                        replace ev111 := Lib.hid ev111
                        clear hO hD
                        go_simp
                        exact hK.out _ _ (Ex.refl _) rfl
                      apply Steps.one (MP.eq _) 7 rfl
                      · intro o ho FA x hO hD K hK
                        obtain rfl := Option.some.inj ho.symm
                        clear ho
                        have ev112 : FA.eval (.tmp 112) = _ := hD 5 112 (by kernel_rfl)
                        have e112 := (eval_tmp FA 112).symm.trans ev112
                        replace ev112 := Lib.hid ev112
                        clear hO hD
                        have q9 := (HC.out (plus wr x.bs x.d) (below_plus _ _ _)).2
                        go_simp
                        exact hK.out _ _ (Ex.refl _) rfl
                      apply Steps.one (MP.eq _) 8 rfl
                      · intro o ho FA x hO hD K hK
                        obtain rfl := Option.some.inj ho.symm
                        clear ho
                        have ev109 : FA.eval (.tmp 109) = _ := hD 2 109 (by kernel_rfl)
                        have e109 := (eval_tmp FA 109).symm.trans ev109
                        replace ev109 := Lib.hid ev109
                        have ev113 : FA.eval (.tmp 113) = _ := hD 6 113 (by kernel_rfl)
                        have e113 := (eval_tmp FA 113).symm.trans ev113
                        replace ev113 := Lib.hid ev113
                        clear hO hD
                        go_simp
                        exact hK.out _ _ (Ex.refl _) rfl
                      refine Steps.fin_ (fun vs x hp => ?_)
                      have p0 : vs 0 = _ := hp 0 (by omega)
                      have p1 : vs 1 = _ := hp 1 (by omega)
                      have p2 : vs 2 = _ := hp 2 (by omega)
                      have p3 : vs 3 = _ := hp 3 (by omega)
                      have p4 : vs 4 = _ := hp 4 (by omega)
                      have p5 : vs 5 = _ := hp 5 (by omega)
                      have p6 : vs 6 = _ := hp 6 (by omega)
                      have p7 : vs 7 = _ := hp 7 (by omega)
                      clear hp
                      simp only [List.take_succ_cons, List.take_zero, List.drop_succ_cons, List.drop_zero, putAll, Nat.zero_add, Nat.reduceAdd, Act.put, List.setIfInBounds_toArray, List.set_cons_zero, List.set_cons_succ, p0, p1, p2, p3, p4, p5, p6, p7]
                      clear p0 p1 p2 p3 p4 p5 p6 p7
                      clear vs
                      go_wp2
                      exact ⟨⟨k + 1, by rw [HCS.out]; rfl, by go_num, by omega, belowP hE _ _⟩, by simp [intOf]; omega⟩
                  · obtain rfl : nt = k := by omega
                    have ik : ¬ (nt : Int) < (nt : Int) := by omega
                    have e : T.take nt = T := List.take_of_length_le (by omega)
                    have hcl : T.count y ≤ nt := Nat.le_trans List.count_le_length (by omega)
                    have hlo := HLO2.out
                    have hhi := HHI2.out
                    rw [e]
                    clear e HLO2 HHI2
                    generalize T.count y = q0 at *
                    have t1 : Int.tdiv (nt : Int) (n : Int) = ((nt / n : Nat) : Int) := rfl
                    have t2 : (nt : Int) / (n : Int) = ((nt / n : Nat) : Int) := rfl
                    have wa : IntKind.i64.wrap ((nt : Int) + (n : Int)) = (nt : Int) + (n : Int) := IntWalk.i64_in _ (by omega)
                    have wb : IntKind.i64.wrap ((nt : Int) + (n : Int) - 1) = ((nt + n - 1 : Nat) : Int) := by rw [IntWalk.i64_in _ (by omega)]; omega
                    have eb : (nt : Int) + (n : Int) - 1 = ((nt + n - 1 : Nat) : Int) := by omega
                    have t3 : Int.tdiv ((nt + n - 1 : Nat) : Int) (n : Int) = (((nt + n - 1) / n : Nat) : Int) := rfl
                    have t4 : ((nt + n - 1 : Nat) : Int) / (n : Int) = (((nt + n - 1) / n : Nat) : Int) := rfl
                    have hd1 : nt / n ≤ nt := Nat.div_le_self _ _
                    have hd2 : (nt + n - 1) / n ≤ nt + n - 1 := Nat.div_le_self _ _
                    generalize (nt + n - 1) / n = z2 at *
                    generalize nt / n = z1 at *
                    have wc : IntKind.i64.wrap (z1 : Int) = (z1 : Int) := IntWalk.i64_in _ (by omega)
                    have wd : IntKind.i64.wrap (z2 : Int) = (z2 : Int) := IntWalk.i64_in _ (by omega)
                    have j1 : ¬ (q0 : Int) < (z1 : Int) := by omega
                    have j2 : ¬ (z2 : Int) < (q0 : Int) := by omega
                    have we : IntKind.i64.wrap ((nt + n - 1 : Nat) : Int) = ((nt + n - 1 : Nat) : Int) := IntWalk.i64_in _ (by omega)
                    generalize nt + n - 1 = z3 at *
                    go_wp2
                    exact ⟨⟨i + 1, by go_num, by omega, hE⟩, by simp [intOf]; omega⟩
              · obtain rfl : n = i := by omega
                have ii : ¬ (n : Int) < (n : Int) := by omega
                have hTab9 := hTab8.later hE
                go_wp2_with (go_at_call 5; refine (awake42 _ hTab9).mono ?_; rintro e w1 ⟨bs3, d3, rfl, rfl⟩)
                go_ret
                exact RetV.mk (belowP (HE.out.trans (hE.mono HE.out.size)) bs3 d3)
          · go_upto_region 18 with (fail)
            have HE := Lib.hid be
            clear be
            go_loopw [15, 16, 17] (fun I A16 A17 wr => I = .int .i64 0 ∧ Below W8.heap.size W8 wr) (fun _ _ _ _ => 0)
            case atStart => exact ⟨rfl, Below.refl _ _⟩
            case round =>
              obtain ⟨rfl, hE⟩ := hrel
              have hTab9 := hTab8.later hE
              by_cases hlt : 0 < n
              · have ii : (0 : Int) < (n : Int) := by omega
                go_wp2_with (go_at_call 5; refine (awake42 _ hTab9).mono ?_; rintro e w1 ⟨bs3, d3, rfl, rfl⟩)
                go_ret
                exact RetV.mk (belowP (HE.out.trans (hE.mono HE.out.size)) bs3 d3)
              · have ii : ¬ (0 : Int) < (n : Int) := by omega
                go_wp2_with (go_at_call 5; refine (awake42 _ hTab9).mono ?_; rintro e w1 ⟨bs3, d3, rfl, rfl⟩)
                go_ret
                exact RetV.mk (belowP (HE.out.trans (hE.mono HE.out.size)) bs3 d3)
        · rw [if_neg hnn] at hmv
          have q1 : ((nt : Int) == (nu : Int)) = false := by simp; omega
          have q2 : (nt == nu) = false := by simp; omega
          have HNN := Lib.hid hnn
          clear hnn
          have HMV0 := Lib.hid (fun w (h : Rs 1 w A2 nt c2 (its T)) (h2 : Rs 1 w A4 nu c4 (its U)) => moved_tb T U A2 nt c2 A4 nu c4 w h h2 (by omega) (by omega))
          rw [hmv] at HMV0
          clear hmv
          go_upto_region 13 with (fail)
          go_wp2
          refine wp_relS 5 136 rfl (by kernel_rfl) (by kernel_rfl) ?_
          apply Steps.one (MP.eq _) 1 rfl
          · intro o ho FA x hO hD K hK
            obtain rfl := Option.some.inj ho.symm
            clear ho
            have e9 := hO 9 (by kernel_rfl)
            simp only [eval_tmp, List.getElem?_toArray, List.getElem?_cons_succ, List.getElem?_cons_zero, Option.getD_some] at e9
            have ev9 := Lib.hid ((eval_tmp FA 9).trans e9)
            clear hO hD
            refine wanted_if rfl ?_
            refine wp_ldA 27 (.tmp 9) rfl (tbC A2 nt c2) ev9.out (hT.later (below_plus _ _ _)) (whole_ _) o1 o2 (szTb _ _ _) ?_
            exact hK.out _ _ (Ex.refl _) rfl
          apply Steps.one (MP.eq _) 2 rfl
          · intro o ho FA x hO hD K hK
            obtain rfl := Option.some.inj ho.symm
            clear ho
            have ev82 : FA.eval (.tmp 82) = _ := hD 0 82 (by kernel_rfl)
            have e82 := (eval_tmp FA 82).symm.trans ev82
            replace ev82 := Lib.hid ev82
            clear hO hD
            go_simp
            refine (len_tb _ _ _ _).mono ?_
            rintro e w1 ⟨bs2, d2, rfl, rfl⟩
            exact hK.out _ _ (Ex.plus_ _ _ _) rfl
          apply Steps.one (MP.eq _) 3 rfl
          · intro o ho FA x hO hD K hK
            obtain rfl := Option.some.inj ho.symm
            clear ho
            have e11 := hO 11 (by kernel_rfl)
            simp only [eval_tmp, List.getElem?_toArray, List.getElem?_cons_succ, List.getElem?_cons_zero, Option.getD_some] at e11
            have ev11 := Lib.hid ((eval_tmp FA 11).trans e11)
            clear hO hD
            refine wanted_if rfl ?_
            refine wp_ldA 27 (.tmp 11) rfl (tbC A4 nu c4) ev11.out (hU.later (below_plus _ _ _)) (whole_ _) o1 o2 (szTb _ _ _) ?_
            exact hK.out _ _ (Ex.refl _) rfl
          apply Steps.one (MP.eq _) 4 rfl
          · intro o ho FA x hO hD K hK
            obtain rfl := Option.some.inj ho.symm
            clear ho
            have ev84 : FA.eval (.tmp 84) = _ := hD 2 84 (by kernel_rfl)
            have e84 := (eval_tmp FA 84).symm.trans ev84
            replace ev84 := Lib.hid ev84
            clear hO hD
            go_simp
            refine (len_tb _ _ _ _).mono ?_
            rintro e w1 ⟨bs2, d2, rfl, rfl⟩
            exact hK.out _ _ (Ex.plus_ _ _ _) rfl
          apply Steps.one (MP.eq _) 5 rfl
          · intro o ho FA x hO hD K hK
            obtain rfl := Option.some.inj ho.symm
            clear ho
            have ev83 : FA.eval (.tmp 83) = _ := hD 1 83 (by kernel_rfl)
            have e83 := (eval_tmp FA 83).symm.trans ev83
            replace ev83 := Lib.hid ev83
            have ev85 : FA.eval (.tmp 85) = _ := hD 3 85 (by kernel_rfl)
            have e85 := (eval_tmp FA 85).symm.trans ev85
            replace ev85 := Lib.hid ev85
            clear hO hD
            go_simp
            exact hK.out _ _ (Ex.refl _) rfl
          refine Steps.fin_ (fun vs x hp => ?_)
          have p0 : vs 0 = _ := hp 0 (by omega)
          have p1 : vs 1 = _ := hp 1 (by omega)
          have p2 : vs 2 = _ := hp 2 (by omega)
          have p3 : vs 3 = _ := hp 3 (by omega)
          have p4 : vs 4 = _ := hp 4 (by omega)
          clear hp
          simp only [List.take_succ_cons, List.take_zero, List.drop_succ_cons, List.drop_zero, putAll, Nat.zero_add, Nat.reduceAdd, Act.put, List.setIfInBounds_toArray, List.set_cons_zero, List.set_cons_succ, p0, p1, p2, p3, p4]
          clear p0 p1 p2 p3 p4
          clear vs
          have b7_ := below_plus W6 x.bs x.d
          replace be := belowP be x.bs x.d
          replace hT := hT.later b7_
          replace hU := hU.later b7_
          replace hl := hl.later b7_
          replace hr3 := hr3.later b7_
          replace hr5 := hr5.later b7_
          have hTab7 := hTab6.later b7_
          clear b7_ hTab6
          generalize plus W6 x.bs x.d = W7 at *
          have HMV := Lib.hid (HMV0.out W7 hr3 hr5)
          clear HMV0
          go_upto_region 15 with (fail)
          refine wp_region_lit ?_
          refine wpList_ldA (t := 27) 27 (.tmp 9) rfl rfl (tbC A2 nt c2) rfl (hT) (whole_ _) o1 o2 (szTb _ _ _) ?_
          simp only [Act.put, List.setIfInBounds_toArray, List.set_cons_zero, List.set_cons_succ]
          refine wpList_ldA (t := 27) 27 (.tmp 11) rfl rfl (tbC A4 nu c4) rfl (hU) (whole_ _) o1 o2 (szTb _ _ _) ?_
          refine wpList_plain rfl (fun K hK => ?_)
          go_simp
          refine (HMV.out).mono ?_
          rintro e w1 ⟨bs8, d8, rfl, rfl⟩
          with_reducible refine hK _ _ ?_
          clear hK K
          iterate 2 (refine wpList_plain rfl (fun K hK => ?_); go_simp; with_reducible refine hK _ _ ?_; clear hK K)
          have b8_ := below_plus W7 bs8 d8
          replace be := belowP be bs8 d8
          replace hT := hT.later b8_
          replace hl := hl.later b8_
          replace hr3 := hr3.later b8_
          have hTab8 := hTab7.later b8_
          clear b8_ hTab7 hr5 hU HMV
          generalize plus W7 bs8 d8 = W8 at *
          rcases HTE.out with ⟨p, rfl, hRL, rfl, rfl⟩ | ⟨-, -, rfl⟩
          · rw [magT_len] at hnt
            obtain rfl : nt = p := hnt.symm
            have hp2 := refP_two hRL.1
            have hp3 := hRL.2.1
            have HCT := Lib.hid (fun (i : Nat) (hi : i < l.length) => tabN_count (F := magFZ key nt) (S := magSZ key nt) hRL (fun m => magF_lt key nt _ hp2) (fun m => magS_ok key nt _ hp2) i hi nt (Nat.le_refl _))
            have HLO := Lib.hid (fun (i : Nat) (hi : i < l.length) => even_lo hRL i hi)
            have HHI := Lib.hid (fun (i : Nat) (hi : i < l.length) => even_hi hRL i hi)
            have HCT2 : Hid (∀ (i : Nat) (hi : i < l.length), (magT key l nt nt).count l[i] = (nt + (l.length - 1 - i)) / l.length) := Lib.hid (fun i hi => HCT.out i hi)
            have hlenT := magT_len key l nt nt
            clear HTE HCT hRL
            generalize magT key l nt nt = T at *
            go_upto_region 18 with (fail)
            have HE := Lib.hid be
            clear be
            go_loopw [15, 16, 17] (fun I A16 A17 wr => ∃ i : Nat, I = .int .i64 (i : Int) ∧ i ≤ n ∧ Below W8.heap.size W8 wr) (fun I _ _ _ => n - (intOf I).toNat)
            case atStart => exact ⟨0, rfl, Nat.zero_le _, Below.refl _ _⟩
            case round =>
              obtain ⟨i, rfl, hi, hE⟩ := hrel
              by_cases hlt : i < n
              · have ii : (i : Int) < (n : Int) := by omega
                have hiL : i < l.length := by omega
                have hn0 : ¬ (n : Int) = 0 := by omega
                have hn1 : ((n : Int) == 0) = false := by simp; omega
                have hn2 : ¬ n = 0 := by omega
                have hct := HCT2.out i hiL
                have hlo := HLO.out i hiL
                have hhi := HHI.out i hiL
                rw [← hct, hln] at hlo hhi
                clear hct
                obtain ⟨y, hy⟩ : ∃ y, l[i] = y := ⟨_, rfl⟩
                rw [hy] at hlo hhi
                obtain ⟨b3, o3, rfl, -, hat3⟩ := hl.ints_ (by omega)
                have HAT := Lib.hid (show ∀ w', Below W8.heap.size W8 w' → w'.cell? ⟨b3, o3 + i, none⟩ = some (.int .i64 y) from fun w' h => by rw [← hy]; exact hat3 i hiL w' h)
                have HLO2 := Lib.hid hlo
                have HHI2 := Lib.hid hhi
                clear hat3 hy hlo hhi
                go_upto_region 22 with (fail)
                go_loopw [16, 17] (fun C K wr => ∃ k : Nat, C = .int .i64 (((T.take k).count y : Nat) : Int) ∧ K = .int .i64 (k : Int) ∧ k ≤ nt ∧ Below W8.heap.size W8 wr) (fun _ K _ => nt - (intOf K).toNat)
                case atStart => exact ⟨0, by simp, rfl, Nat.zero_le _, hE⟩
                case round =>
                  clear hE
                  obtain ⟨k, rfl, rfl, hk, hE⟩ := hrel
                  by_cases hkt : k < nt
                  · have ik : (k : Int) < (nt : Int) := by omega
                    have hkT : k < T.length := by omega
                    have hg := getZ_in T k hkT
                    have hcs : (T.take (k + 1)).count y = (T.take k).count y + if T[k] = y then 1 else 0 := by
                      rw [List.take_succ_eq_append_getElem hkT, List.count_append, List.count_singleton]
                      congr 1
                      by_cases e : T[k] = y <;> simp [e]
                    have hcl : (T.take k).count y ≤ k := Nat.le_trans List.count_le_length (by rw [List.length_take]; omega)
                    have hT3 := hT.later hE
                    obtain ⟨v, hv⟩ : ∃ v, T[k] = v := ⟨_, rfl⟩
                    rw [hv] at hg hcs
                    have HG := Lib.hid hg
                    have HC := Lib.hid (fun (W : World) (h : Below wr.heap.size wr W) => show Rs 1 W A2 nt c2 (its T) ∧ W.cell? ⟨b3, o3 + i, none⟩ = some (.int .i64 y) from ⟨hr3.later (hE.trans (h.mono hE.size)), HAT.out W (hE.trans (h.mono hE.size))⟩)
                    clear hv hg
                    by_cases hvy : v = y
                    · have hq : (v == y) = true := by simp [hvy]
                      rw [if_pos hvy] at hcs
                      have HCS := Lib.hid hcs
                      clear hcs hvy
                      generalize (T.take k).count y = q0 at *
                      have w0 : IntKind.i64.wrap ((q0 : Int) + 1) = (q0 : Int) + 1 := IntWalk.i64_in _ (by omega)
                      go_upto_region 24 with (fail)
                      go_wp2
                      refine wp_relS 8 136 rfl (by kernel_rfl) (by kernel_rfl) ?_
                      apply Steps.one (MP.eq _) 1 rfl
                      · intro o ho FA x hO hD K hK
                        obtain rfl := Option.some.inj ho.symm
                        clear ho
                        have e9 := hO 9 (by kernel_rfl)
                        simp only [eval_tmp, List.getElem?_toArray, List.getElem?_cons_succ, List.getElem?_cons_zero, Option.getD_some] at e9
                        have ev9 := Lib.hid ((eval_tmp FA 9).trans e9)
                        clear hO hD
                        refine wanted_if rfl ?_
                        refine wp_ldA 27 (.tmp 9) rfl (tbC A2 nt c2) ev9.out (hT3.later (below_plus _ _ _)) (whole_ _) o1 o2 (szTb _ _ _) ?_
                        exact hK.out _ _ (Ex.refl _) rfl
                      apply Steps.one (MP.eq _) 2 rfl
                      · intro o ho FA x hO hD K hK
                        obtain rfl := Option.some.inj ho.symm
                        clear ho
                        have e17 := hO 17 (by kernel_rfl)
                        simp only [eval_tmp, List.getElem?_toArray, List.getElem?_cons_succ, List.getElem?_cons_zero, Option.getD_some] at e17
                        have ev17 := Lib.hid ((eval_tmp FA 17).trans e17)
                        clear hO hD
                        go_simp
                        exact hK.out _ _ (Ex.refl _) rfl
                      apply Steps.one (MP.eq (.int .i64 v)) 3 rfl
                      · intro o ho FA x hO hD K hK
                        obtain rfl := Option.some.inj ho.symm
                        clear ho
                        have ev107 : FA.eval (.tmp 107) = _ := hD 0 107 (by kernel_rfl)
                        have e107 := (eval_tmp FA 107).symm.trans ev107
                        replace ev107 := Lib.hid ev107
                        have ev108 : FA.eval (.tmp 108) = _ := hD 1 108 (by kernel_rfl)
                        have e108 := (eval_tmp FA 108).symm.trans ev108
                        replace ev108 := Lib.hid ev108
                        clear hO hD
                        go_simp
                        refine (at_tb T (k : Int) A2 nt c2 _ (HC.out _ (below_plus _ _ _)).1 (by omega) (by omega)).mono ?_
                        rintro e w1 ⟨bs9, d9, rfl, rfl⟩
                        exact hK.out _ _ (Ex.plus_ _ _ _) (congrArg (Value.int .i64) HG.out)
                      apply Steps.one (MP.eq _) 4 rfl
                      · intro o ho FA x hO hD K hK
                        obtain rfl := Option.some.inj ho.symm
                        clear ho
                        have e2 := hO 2 (by kernel_rfl)
                        simp only [eval_tmp, List.getElem?_toArray, List.getElem?_cons_succ, List.getElem?_cons_zero, Option.getD_some] at e2
                        have ev2 := Lib.hid ((eval_tmp FA 2).trans e2)
                        clear hO hD
                        go_simp
                        exact hK.out _ _ (Ex.refl _) rfl
                      apply Steps.one (MP.eq _) 5 rfl
                      · intro o ho FA x hO hD K hK
                        obtain rfl := Option.some.inj ho.symm
                        clear ho
                        have e15 := hO 15 (by kernel_rfl)
                        simp only [eval_tmp, List.getElem?_toArray, List.getElem?_cons_succ, List.getElem?_cons_zero, Option.getD_some] at e15
                        have ev15 := Lib.hid ((eval_tmp FA 15).trans e15)
                        clear hO hD
                        go_simp
                        exact hK.out _ _ (Ex.refl _) rfl
                      apply Steps.one (MP.eq _) 6 rfl
                      · intro o ho FA x hO hD K hK
                        obtain rfl := Option.some.inj ho.symm
                        clear ho
                        have ev110 : FA.eval (.tmp 110) = _ := hD 3 110 (by kernel_rfl)
                        have e110 := (eval_tmp FA 110).symm.trans ev110
                        replace ev110 := Lib.hid ev110
                        have ev111 : FA.eval (.tmp 111) = _ := hD 4 111 (by kernel_rfl)
                        have e111 := (eval_tmp FA 111).symm.trans ev111
                        replace ev111 := Lib.hid ev111
                        clear hO hD
                        go_simp
                        exact hK.out _ _ (Ex.refl _) rfl
                      apply Steps.one (MP.eq _) 7 rfl
                      · intro o ho FA x hO hD K hK
                        obtain rfl := Option.some.inj ho.symm
                        clear ho
                        have ev112 : FA.eval (.tmp 112) = _ := hD 5 112 (by kernel_rfl)
                        have e112 := (eval_tmp FA 112).symm.trans ev112
                        replace ev112 := Lib.hid ev112
                        clear hO hD
                        have q9 := (HC.out (plus wr x.bs x.d) (below_plus _ _ _)).2
                        go_simp
                        exact hK.out _ _ (Ex.refl _) rfl
                      apply Steps.one (MP.eq _) 8 rfl
                      · intro o ho FA x hO hD K hK
                        obtain rfl := Option.some.inj ho.symm
                        clear ho
                        have ev109 : FA.eval (.tmp 109) = _ := hD 2 109 (by kernel_rfl)
                        have e109 := (eval_tmp FA 109).symm.trans ev109
                        replace ev109 := Lib.hid ev109
                        have ev113 : FA.eval (.tmp 113) = _ := hD 6 113 (by kernel_rfl)
                        have e113 := (eval_tmp FA 113).symm.trans ev113
                        replace ev113 := Lib.hid ev113
                        clear hO hD
                        go_simp
                        exact hK.out _ _ (Ex.refl _) rfl
                      refine Steps.fin_ (fun vs x hp => ?_)
                      have p0 : vs 0 = _ := hp 0 (by omega)
                      have p1 : vs 1 = _ := hp 1 (by omega)
                      have p2 : vs 2 = _ := hp 2 (by omega)
                      have p3 : vs 3 = _ := hp 3 (by omega)
                      have p4 : vs 4 = _ := hp 4 (by omega)
                      have p5 : vs 5 = _ := hp 5 (by omega)
                      have p6 : vs 6 = _ := hp 6 (by omega)
                      have p7 : vs 7 = _ := hp 7 (by omega)
                      clear hp
                      simp only [List.take_succ_cons, List.take_zero, List.drop_succ_cons, List.drop_zero, putAll, Nat.zero_add, Nat.reduceAdd, Act.put, List.setIfInBounds_toArray, List.set_cons_zero, List.set_cons_succ, p0, p1, p2, p3, p4, p5, p6, p7]
                      clear p0 p1 p2 p3 p4 p5 p6 p7
                      clear vs
                      go_wp2
                      exact ⟨⟨k + 1, by rw [HCS.out]; rfl, by go_num, by omega, belowP hE _ _⟩, by simp [intOf]; omega⟩
                    · have hq : (v == y) = false := by simp [hvy]
                      rw [if_neg hvy] at hcs
                      have HCS := Lib.hid hcs
                      clear hcs hvy
                      generalize (T.take k).count y = q0 at *
                      go_upto_region 24 with (fail)
                      go_wp2
                      refine wp_relS 8 136 rfl (by kernel_rfl) (by kernel_rfl) ?_
                      apply Steps.one (MP.eq _) 1 rfl
                      · intro o ho FA x hO hD K hK
                        obtain rfl := Option.some.inj ho.symm
                        clear ho
                        have e9 := hO 9 (by kernel_rfl)
                        simp only [eval_tmp, List.getElem?_toArray, List.getElem?_cons_succ, List.getElem?_cons_zero, Option.getD_some] at e9
                        have ev9 := Lib.hid ((eval_tmp FA 9).trans e9)
                        clear hO hD
                        refine wanted_if rfl ?_
                        refine wp_ldA 27 (.tmp 9) rfl (tbC A2 nt c2) ev9.out (hT3.later (below_plus _ _ _)) (whole_ _) o1 o2 (szTb _ _ _) ?_
                        exact hK.out _ _ (Ex.refl _) rfl
                      apply Steps.one (MP.eq _) 2 rfl
                      · intro o ho FA x hO hD K hK
                        obtain rfl := Option.some.inj ho.symm
                        clear ho
                        have e17 := hO 17 (by kernel_rfl)
                        simp only [eval_tmp, List.getElem?_toArray, List.getElem?_cons_succ, List.getElem?_cons_zero, Option.getD_some] at e17
                        have ev17 := Lib.hid ((eval_tmp FA 17).trans e17)
                        clear hO hD
                        go_simp
                        exact hK.out _ _ (Ex.refl _) rfl
                      apply Steps.one (MP.eq (.int .i64 v)) 3 rfl
                      · intro o ho FA x hO hD K hK
                        obtain rfl := Option.some.inj ho.symm
                        clear ho
                        have ev107 : FA.eval (.tmp 107) = _ := hD 0 107 (by kernel_rfl)
                        have e107 := (eval_tmp FA 107).symm.trans ev107
                        replace ev107 := Lib.hid ev107
                        have ev108 : FA.eval (.tmp 108) = _ := hD 1 108 (by kernel_rfl)
                        have e108 := (eval_tmp FA 108).symm.trans ev108
                        replace ev108 := Lib.hid ev108
                        clear hO hD
                        go_simp
                        refine (at_tb T (k : Int) A2 nt c2 _ (HC.out _ (below_plus _ _ _)).1 (by omega) (by omega)).mono ?_
                        rintro e w1 ⟨bs9, d9, rfl, rfl⟩
                        exact hK.out _ _ (Ex.plus_ _ _ _) (congrArg (Value.int .i64) HG.out)
                      apply Steps.one (MP.eq _) 4 rfl
                      · intro o ho FA x hO hD K hK
                        obtain rfl := Option.some.inj ho.symm
                        clear ho
                        have e2 := hO 2 (by kernel_rfl)
                        simp only [eval_tmp, List.getElem?_toArray, List.getElem?_cons_succ, List.getElem?_cons_zero, Option.getD_some] at e2
                        have ev2 := Lib.hid ((eval_tmp FA 2).trans e2)
                        clear hO hD
                        go_simp
                        exact hK.out _ _ (Ex.refl _) rfl
                      apply Steps.one (MP.eq _) 5 rfl
                      · intro o ho FA x hO hD K hK
                        obtain rfl := Option.some.inj ho.symm
                        clear ho
                        have e15 := hO 15 (by kernel_rfl)
                        simp only [eval_tmp, List.getElem?_toArray, List.getElem?_cons_succ, List.getElem?_cons_zero, Option.getD_some] at e15
                        have ev15 := Lib.hid ((eval_tmp FA 15).trans e15)
                        clear hO hD
                        go_simp
                        exact hK.out _ _ (Ex.refl _) rfl
                      apply Steps.one (MP.eq _) 6 rfl
                      · intro o ho FA x hO hD K hK
                        obtain rfl := Option.some.inj ho.symm
                        clear ho
                        have ev110 : FA.eval (.tmp 110) = _ := hD 3 110 (by kernel_rfl)
                        have e110 := (eval_tmp FA 110).symm.trans ev110
                        replace ev110 := Lib.hid ev110
                        have ev111 : FA.eval (.tmp 111) = _ := hD 4 111 (by kernel_rfl)
                        have e111 := (eval_tmp FA 111).symm.trans ev111
                        replace ev111 := Lib.hid ev111
                        clear hO hD
                        go_simp
                        exact hK.out _ _ (Ex.refl _) rfl
                      apply Steps.one (MP.eq _) 7 rfl
                      · intro o ho FA x hO hD K hK
                        obtain rfl := Option.some.inj ho.symm
                        clear ho
                        have ev112 : FA.eval (.tmp 112) = _ := hD 5 112 (by kernel_rfl)
                        have e112 := (eval_tmp FA 112).symm.trans ev112
                        replace ev112 := Lib.hid ev112
                        clear hO hD
                        have q9 := (HC.out (plus wr x.bs x.d) (below_plus _ _ _)).2
                        go_simp
                        exact hK.out _ _ (Ex.refl _) rfl
                      apply Steps.one (MP.eq _) 8 rfl
                      · intro o ho FA x hO hD K hK
                        obtain rfl := Option.some.inj ho.symm
                        clear ho
                        have ev109 : FA.eval (.tmp 109) = _ := hD 2 109 (by kernel_rfl)
                        have e109 := (eval_tmp FA 109).symm.trans ev109
                        replace ev109 := Lib.hid ev109
                        have ev113 : FA.eval (.tmp 113) = _ := hD 6 113 (by kernel_rfl)
                        have e113 := (eval_tmp FA 113).symm.trans ev113
                        replace ev113 := Lib.hid ev113
                        clear hO hD
                        go_simp
                        exact hK.out _ _ (Ex.refl _) rfl
                      refine Steps.fin_ (fun vs x hp => ?_)
                      have p0 : vs 0 = _ := hp 0 (by omega)
                      have p1 : vs 1 = _ := hp 1 (by omega)
                      have p2 : vs 2 = _ := hp 2 (by omega)
                      have p3 : vs 3 = _ := hp 3 (by omega)
                      have p4 : vs 4 = _ := hp 4 (by omega)
                      have p5 : vs 5 = _ := hp 5 (by omega)
                      have p6 : vs 6 = _ := hp 6 (by omega)
                      have p7 : vs 7 = _ := hp 7 (by omega)
                      clear hp
                      simp only [List.take_succ_cons, List.take_zero, List.drop_succ_cons, List.drop_zero, putAll, Nat.zero_add, Nat.reduceAdd, Act.put, List.setIfInBounds_toArray, List.set_cons_zero, List.set_cons_succ, p0, p1, p2, p3, p4, p5, p6, p7]
                      clear p0 p1 p2 p3 p4 p5 p6 p7
                      clear vs
                      go_wp2
                      exact ⟨⟨k + 1, by rw [HCS.out]; rfl, by go_num, by omega, belowP hE _ _⟩, by simp [intOf]; omega⟩
                  · obtain rfl : nt = k := by omega
                    have ik : ¬ (nt : Int) < (nt : Int) := by omega
                    have e : T.take nt = T := List.take_of_length_le (by omega)
                    have hcl : T.count y ≤ nt := Nat.le_trans List.count_le_length (by omega)
                    have hlo := HLO2.out
                    have hhi := HHI2.out
                    rw [e]
                    clear e HLO2 HHI2
                    generalize T.count y = q0 at *
                    have t1 : Int.tdiv (nt : Int) (n : Int) = ((nt / n : Nat) : Int) := rfl
                    have t2 : (nt : Int) / (n : Int) = ((nt / n : Nat) : Int) := rfl
                    have wa : IntKind.i64.wrap ((nt : Int) + (n : Int)) = (nt : Int) + (n : Int) := IntWalk.i64_in _ (by omega)
                    have wb : IntKind.i64.wrap ((nt : Int) + (n : Int) - 1) = ((nt + n - 1 : Nat) : Int) := by rw [IntWalk.i64_in _ (by omega)]; omega
                    have eb : (nt : Int) + (n : Int) - 1 = ((nt + n - 1 : Nat) : Int) := by omega
                    have t3 : Int.tdiv ((nt + n - 1 : Nat) : Int) (n : Int) = (((nt + n - 1) / n : Nat) : Int) := rfl
                    have t4 : ((nt + n - 1 : Nat) : Int) / (n : Int) = (((nt + n - 1) / n : Nat) : Int) := rfl
                    have hd1 : nt / n ≤ nt := Nat.div_le_self _ _
                    have hd2 : (nt + n - 1) / n ≤ nt + n - 1 := Nat.div_le_self _ _
                    generalize (nt + n - 1) / n = z2 at *
                    generalize nt / n = z1 at *
                    have wc : IntKind.i64.wrap (z1 : Int) = (z1 : Int) := IntWalk.i64_in _ (by omega)
                    have wd : IntKind.i64.wrap (z2 : Int) = (z2 : Int) := IntWalk.i64_in _ (by omega)
                    have j1 : ¬ (q0 : Int) < (z1 : Int) := by omega
                    have j2 : ¬ (z2 : Int) < (q0 : Int) := by omega
                    have we : IntKind.i64.wrap ((nt + n - 1 : Nat) : Int) = ((nt + n - 1 : Nat) : Int) := IntWalk.i64_in _ (by omega)
                    generalize nt + n - 1 = z3 at *
                    go_wp2
                    exact ⟨⟨i + 1, by go_num, by omega, hE⟩, by simp [intOf]; omega⟩
              · obtain rfl : n = i := by omega
                have ii : ¬ (n : Int) < (n : Int) := by omega
                have hTab9 := hTab8.later hE
                go_wp2_with (go_at_call 5; refine (awake42 _ hTab9).mono ?_; rintro e w1 ⟨bs3, d3, rfl, rfl⟩)
                go_ret
                exact RetV.mk (belowP (HE.out.trans (hE.mono HE.out.size)) bs3 d3)
          · go_upto_region 18 with (fail)
            have HE := Lib.hid be
            clear be
            go_loopw [15, 16, 17] (fun I A16 A17 wr => I = .int .i64 0 ∧ Below W8.heap.size W8 wr) (fun _ _ _ _ => 0)
            case atStart => exact ⟨rfl, Below.refl _ _⟩
            case round =>
              obtain ⟨rfl, hE⟩ := hrel
              have hTab9 := hTab8.later hE
              by_cases hlt : 0 < n
              · have ii : (0 : Int) < (n : Int) := by omega
                go_wp2_with (go_at_call 5; refine (awake42 _ hTab9).mono ?_; rintro e w1 ⟨bs3, d3, rfl, rfl⟩)
                go_ret
                exact RetV.mk (belowP (HE.out.trans (hE.mono HE.out.size)) bs3 d3)
              · have ii : ¬ (0 : Int) < (n : Int) := by omega
                go_wp2_with (go_at_call 5; refine (awake42 _ hTab9).mono ?_; rintro e w1 ⟨bs3, d3, rfl, rfl⟩)
                go_ret
                exact RetV.mk (belowP (HE.out.trans (hE.mono HE.out.size)) bs3 d3)
  · clear h300
    have HB1 := Lib.hid (build_any key hk0 s l A n c V hl (by omega) hs3 hs1 hs2 hTabV hTE)
    have HB2 := Lib.hid (fun w (h : Rs 1 w A1 n1 c1 (its m)) (h2 : TabB w) => build_any key hk0 s m A1 n1 c1 w h (by omega) hs3 hs1 hs2 h2 hUE)
    have HR1 := Lib.hid (fun w (h : Rs 1 w A n c (its l)) => refRight_any s l A n c w h (by omega) hs3 hs1 hs2 b1 hb1)
    have HR2 := Lib.hid (fun w (h : Rs 1 w A1 n1 c1 (its m)) => refRight_any s m A1 n1 c1 w h (by omega) hs3 hs1 hs2 b2 hb2)
    have HTE := Lib.hid hTE
    clear hTE hUE hb1 hb2
    rw [hnt] at HB1
    rw [hnu] at HB2
    go_upto_region 3 with (fail)
    refine wp_region_lit ?_
    refine wpList_ldA (t := 22) 22 (.tmp 4) rfl rfl (bcs key) rfl (hk) (whole_ _) u1 u2 (szK16a key hk0) ?_
    iterate 2 (refine wpList_plain rfl (fun K hK => ?_); go_simp; with_reducible refine hK _ _ ?_; clear hK K)
    refine wpList_plain rfl (fun K hK => ?_)
    go_simp
    refine (HB1.out).mono ?_
    rintro e w1 ⟨A2, c2, bs1, d1, rfl, rfl, hr2⟩
    with_reducible refine hK _ _ ?_
    clear hK K
    iterate 4 (refine wpList_plain rfl (fun K hK => ?_); go_simp; with_reducible refine hK _ _ ?_; clear hK K)
    refine wpList_stA (t := 27) 27 (.tmp 9) (.tmp 40) rfl rfl (tbC A2 nt c2) ([.slice none 0 0]) rfl (tbC_one _ _ _) rfl rfl (Bk.newK (k := V.heap.size + bs1.length) _ _ _ (by simp [size_plus]) rfl) (szTb _ _ _) ?_
    intro W2 hT g2
    refine wpList_plain rfl (fun K hK => ?_); go_simp; with_reducible refine hK _ _ ?_; clear hK K
    have b2_ : Below V.heap.size V W2 := below_grown (Below.allocS (below_plus V bs1 d1) _) g2 (by simp [size_plus])
    have hr3 : Rs 1 W2 A2 nt c2 (its T) := hr2.later (below_grown (Below.allocS (Below.refl _ _) _) g2 (by simp [size_plus]))
    replace be := be.trans (b2_.mono be.size)
    replace hk := hk.later b2_
    replace hl := hl.later b2_
    replace hl2 := hl2.later b2_
    have hTab2 := hTabV.later b2_
    have hgT : w.heap.size + 1 ≤ V.heap.size + bs1.length := by omega
    generalize V.heap.size + bs1.length = gT at *
    clear g2 b2_ HB1 hr2 hTabV zV
    go_upto_region 4 with (fail)
    refine wp_region_lit ?_
    refine wpList_ldA (t := 22) 22 (.tmp 4) rfl rfl (bcs key) rfl (hk) (whole_ _) u1 u2 (szK16a key hk0) ?_
    iterate 2 (refine wpList_plain rfl (fun K hK => ?_); go_simp; with_reducible refine hK _ _ ?_; clear hK K)
    refine wpList_plain rfl (fun K hK => ?_)
    go_simp
    refine (HB2.out _ hl2 hTab2).mono ?_
    rintro e w1 ⟨A4, c4, bs4, d4, rfl, rfl, hr4⟩
    with_reducible refine hK _ _ ?_
    clear hK K
    iterate 4 (refine wpList_plain rfl (fun K hK => ?_); go_simp; with_reducible refine hK _ _ ?_; clear hK K)
    refine wpList_stA (t := 27) 27 (.tmp 11) (.tmp 47) rfl rfl (tbC A4 nu c4) ([.slice none 0 0]) rfl (tbC_one _ _ _) rfl rfl (Bk.newK (k := W2.heap.size + bs4.length) _ _ _ (by simp [size_plus]) rfl) (szTb _ _ _) ?_
    intro W4 hU g4
    refine wpList_plain rfl (fun K hK => ?_); go_simp; with_reducible refine hK _ _ ?_; clear hK K
    have b4_ : Below W2.heap.size W2 W4 := below_grown (Below.allocS (below_plus W2 bs4 d4) _) g4 (by simp [size_plus])
    have hr5 : Rs 1 W4 A4 nu c4 (its U) := hr4.later (below_grown (Below.allocS (Below.refl _ _) _) g4 (by simp [size_plus]))
    replace be := be.trans (b4_.mono be.size)
    replace hl := hl.later b4_
    replace hl2 := hl2.later b4_
    replace hT := hT.later b4_
    replace hr3 := hr3.later b4_
    have hTab4 := hTab2.later b4_
    generalize W2.heap.size + bs4.length = gU at *
    clear g4 b4_ HB2 hr4 hTab2 hk
    go_upto_region 5 with (fail)
    refine wp_region_lit ?_
    iterate 4 (refine wpList_plain rfl (fun K hK => ?_); go_simp; with_reducible refine hK _ _ ?_; clear hK K)
    refine wpList_plain rfl (fun K hK => ?_)
    go_simp
    refine (HR1.out _ hl).mono ?_
    rintro e w1 ⟨bs5, d5, rfl, rfl⟩
    with_reducible refine hK _ _ ?_
    clear hK K
    iterate 2 (refine wpList_plain rfl (fun K hK => ?_); go_simp; with_reducible refine hK _ _ ?_; clear hK K)
    iterate 4 (refine wpList_step (fun K hK => ?_); go_simp; with_reducible refine hK _ _ ?_; clear hK K)
    refine wpList_step (fun K hK => ?_)
    go_simp
    refine (HR2.out _ (hl2.later (below_plus _ _ _))).mono ?_
    rintro e w1 ⟨bs6, d6, rfl, rfl⟩
    with_reducible refine hK _ _ ?_
    clear hK K
    refine wpList_step (fun K hK => ?_); go_simp; with_reducible refine hK _ _ ?_; clear hK K
    refine wpList_plain rfl (fun K hK => ?_); go_simp; with_reducible refine hK _ _ ?_; clear hK K
    clear e1 e2
    have b6_ : Below W4.heap.size W4 (plus (plus W4 bs5 d5) bs6 d6) := (below_plus W4 bs5 d5).trans ((below_plus _ bs6 d6).mono (below_plus W4 bs5 d5).size)
    replace be := be.trans (b6_.mono be.size)
    replace hl := hl.later b6_
    replace hT := hT.later b6_
    replace hU := hU.later b6_
    replace hr3 := hr3.later b6_
    replace hr5 := hr5.later b6_
    have hTab5 := hTab4.later b6_
    generalize plus (plus W4 bs5 d5) bs6 d6 = W5 at *
    clear b6_ HR1 HR2 hTab4 hl2
    go_upto_region 9 with (fail)
    have HE := Lib.hid be
    clear be
    go_loopw [13, 14] (fun D I wr => ∃ k : Nat, D = .int .i64 ((cntZ T U k : Nat) : Int) ∧ I = .int .i64 (k : Int) ∧ k ≤ nt ∧ Below W5.heap.size W5 wr) (fun _ I _ => nt - (intOf I).toNat)
    case atStart => exact ⟨0, rfl, rfl, Nat.zero_le _, Below.refl _ _⟩
    case round =>
      obtain ⟨k, rfl, rfl, hk, hE⟩ := hrel
      have hTr := hT.later hE
      by_cases hlt : k < nt
      · have ik : (k : Int) < (nt : Int) := by omega
        have ik3 : (k : Int) < 300 := by omega
        go_upto_region 9 with (fail)
        refine wp_region_lit ?_
        refine wpList_plain rfl (fun K hK => ?_); go_simp; with_reducible refine hK _ _ ?_; clear hK K
        refine wpList_ldA (t := 27) 27 (.tmp 9) rfl rfl (tbC A2 nt c2) rfl (hTr) (whole_ _) o1 o2 (szTb _ _ _) ?_
        refine wpList_plain rfl (fun K hK => ?_)
        go_simp
        refine (len_tb A2 nt c2 _).mono ?_
        rintro e w1 ⟨bs7, d7, rfl, rfl⟩
        with_reducible refine hK _ _ ?_
        clear hK K
        iterate 2 (refine wpList_plain rfl (fun K hK => ?_); go_simp; with_reducible refine hK _ _ ?_; clear hK K)
        iterate 2 (refine wpList_step (fun K hK => ?_); go_simp; with_reducible refine hK _ _ ?_; clear hK K)
        refine wpList_plain rfl (fun K hK => ?_); go_simp; with_reducible refine hK _ _ ?_; clear hK K
        have hE2 := belowP hE bs7 d7
        have hT3 := hT.later hE2
        have hU3 := hU.later hE2
        have HC := Lib.hid (fun (W : World) (h : Below (plus wr bs7 d7).heap.size (plus wr bs7 d7) W) => show Rs 1 W A2 nt c2 (its T) ∧ Rs 1 W A4 nu c4 (its U) from ⟨hr3.later (hE2.trans (h.mono hE2.size)), hr5.later (hE2.trans (h.mono hE2.size))⟩)
        clear hE hTr
        generalize plus wr bs7 d7 = wq at *
        have hc1 : cntZ T U (k + 1) = cntZ T U k + if getZ T k = getZ U k then 0 else 1 := rfl
        have hcl := cntZ_le T U k
        obtain ⟨a, ha⟩ : ∃ a, getZ T (k : Int) = a := ⟨_, rfl⟩
        obtain ⟨b, hb⟩ : ∃ b, getZ U (k : Int) = b := ⟨_, rfl⟩
        rw [ha, hb] at hc1
        have HGa := Lib.hid ha
        have HGb := Lib.hid hb
        clear ha hb
        by_cases hab : a = b
        · have hq : (a == b) = true := by simp [hab]
          rw [if_pos hab] at hc1
          have HC1 := Lib.hid hc1
          clear hc1 hab
          generalize cntZ T U k = q0 at *
          go_upto_region 11 with (fail)
          go_wp2
          refine wp_relS 7 136 rfl (by kernel_rfl) (by kernel_rfl) ?_
          apply Steps.one (MP.eq _) 1 rfl
          · intro o ho FA x hO hD K hK
            obtain rfl := Option.some.inj ho.symm
            clear ho
            have e9 := hO 9 (by kernel_rfl)
            simp only [eval_tmp, List.getElem?_toArray, List.getElem?_cons_succ, List.getElem?_cons_zero, Option.getD_some] at e9
            have ev9 := Lib.hid ((eval_tmp FA 9).trans e9)
            clear hO hD
            refine wanted_if rfl ?_
            refine wp_ldA 27 (.tmp 9) rfl (tbC A2 nt c2) ev9.out (hT3.later (below_plus _ _ _)) (whole_ _) o1 o2 (szTb _ _ _) ?_
            exact hK.out _ _ (Ex.refl _) rfl
          apply Steps.one (MP.eq _) 2 rfl
          · intro o ho FA x hO hD K hK
            obtain rfl := Option.some.inj ho.symm
            clear ho
            have e14 := hO 14 (by kernel_rfl)
            simp only [eval_tmp, List.getElem?_toArray, List.getElem?_cons_succ, List.getElem?_cons_zero, Option.getD_some] at e14
            have ev14 := Lib.hid ((eval_tmp FA 14).trans e14)
            clear hO hD
            go_simp
            exact hK.out _ _ (Ex.refl _) rfl
          apply Steps.one (MP.eq (.int .i64 a)) 3 rfl
          · intro o ho FA x hO hD K hK
            obtain rfl := Option.some.inj ho.symm
            clear ho
            have ev73 : FA.eval (.tmp 73) = _ := hD 0 73 (by kernel_rfl)
            have e73 := (eval_tmp FA 73).symm.trans ev73
            replace ev73 := Lib.hid ev73
            have ev74 : FA.eval (.tmp 74) = _ := hD 1 74 (by kernel_rfl)
            have e74 := (eval_tmp FA 74).symm.trans ev74
            replace ev74 := Lib.hid ev74
            clear hO hD
            go_simp
            refine (at_tb T (k : Int) A2 nt c2 _ (HC.out _ (below_plus _ _ _)).1 (by omega) (by omega)).mono ?_
            rintro e w1 ⟨bs9, d9, rfl, rfl⟩
            exact hK.out _ _ (Ex.plus_ _ _ _) (congrArg (Value.int .i64) HGa.out)
          apply Steps.one (MP.eq _) 4 rfl
          · intro o ho FA x hO hD K hK
            obtain rfl := Option.some.inj ho.symm
            clear ho
            have e11 := hO 11 (by kernel_rfl)
            simp only [eval_tmp, List.getElem?_toArray, List.getElem?_cons_succ, List.getElem?_cons_zero, Option.getD_some] at e11
            have ev11 := Lib.hid ((eval_tmp FA 11).trans e11)
            clear hO hD
            refine wanted_if rfl ?_
            refine wp_ldA 27 (.tmp 11) rfl (tbC A4 nu c4) ev11.out (hU3.later (below_plus _ _ _)) (whole_ _) o1 o2 (szTb _ _ _) ?_
            exact hK.out _ _ (Ex.refl _) rfl
          apply Steps.one (MP.eq _) 5 rfl
          · intro o ho FA x hO hD K hK
            obtain rfl := Option.some.inj ho.symm
            clear ho
            have e14 := hO 14 (by kernel_rfl)
            simp only [eval_tmp, List.getElem?_toArray, List.getElem?_cons_succ, List.getElem?_cons_zero, Option.getD_some] at e14
            have ev14 := Lib.hid ((eval_tmp FA 14).trans e14)
            clear hO hD
            go_simp
            exact hK.out _ _ (Ex.refl _) rfl
          apply Steps.one (MP.eq (.int .i64 b)) 6 rfl
          · intro o ho FA x hO hD K hK
            obtain rfl := Option.some.inj ho.symm
            clear ho
            have ev76 : FA.eval (.tmp 76) = _ := hD 3 76 (by kernel_rfl)
            have e76 := (eval_tmp FA 76).symm.trans ev76
            replace ev76 := Lib.hid ev76
            have ev77 : FA.eval (.tmp 77) = _ := hD 4 77 (by kernel_rfl)
            have e77 := (eval_tmp FA 77).symm.trans ev77
            replace ev77 := Lib.hid ev77
            clear hO hD
            go_simp
            refine (at_tb U (k : Int) A4 nu c4 _ (HC.out _ (below_plus _ _ _)).2 (by omega) (by omega)).mono ?_
            rintro e w1 ⟨bs9, d9, rfl, rfl⟩
            exact hK.out _ _ (Ex.plus_ _ _ _) (congrArg (Value.int .i64) HGb.out)
          apply Steps.one (MP.eq _) 7 rfl
          · intro o ho FA x hO hD K hK
            obtain rfl := Option.some.inj ho.symm
            clear ho
            have ev75 : FA.eval (.tmp 75) = _ := hD 2 75 (by kernel_rfl)
            have e75 := (eval_tmp FA 75).symm.trans ev75
            replace ev75 := Lib.hid ev75
            have ev78 : FA.eval (.tmp 78) = _ := hD 5 78 (by kernel_rfl)
            have e78 := (eval_tmp FA 78).symm.trans ev78
            replace ev78 := Lib.hid ev78
            clear hO hD
            go_simp
            exact hK.out _ _ (Ex.refl _) rfl
          refine Steps.fin_ (fun vs x hp => ?_)
          have p0 : vs 0 = _ := hp 0 (by omega)
          have p1 : vs 1 = _ := hp 1 (by omega)
          have p2 : vs 2 = _ := hp 2 (by omega)
          have p3 : vs 3 = _ := hp 3 (by omega)
          have p4 : vs 4 = _ := hp 4 (by omega)
          have p5 : vs 5 = _ := hp 5 (by omega)
          have p6 : vs 6 = _ := hp 6 (by omega)
          clear hp
          simp only [List.take_succ_cons, List.take_zero, List.drop_succ_cons, List.drop_zero, putAll, Nat.zero_add, Nat.reduceAdd, Act.put, List.setIfInBounds_toArray, List.set_cons_zero, List.set_cons_succ, p0, p1, p2, p3, p4, p5, p6]
          clear p0 p1 p2 p3 p4 p5 p6
          clear vs
          go_wp2
          exact ⟨⟨k + 1, by rw [HC1.out]; rfl, by go_num, by omega, belowP hE2 _ _⟩, by simp [intOf]; omega⟩
        · have hq : (a == b) = false := by simp [hab]
          rw [if_neg hab] at hc1
          have HC1 := Lib.hid hc1
          clear hc1 hab
          generalize cntZ T U k = q0 at *
          have w0 : IntKind.i64.wrap ((q0 : Int) + 1) = (q0 : Int) + 1 := IntWalk.i64_in _ (by omega)
          go_upto_region 11 with (fail)
          go_wp2
          refine wp_relS 7 136 rfl (by kernel_rfl) (by kernel_rfl) ?_
          apply Steps.one (MP.eq _) 1 rfl
          · intro o ho FA x hO hD K hK
            obtain rfl := Option.some.inj ho.symm
            clear ho
            have e9 := hO 9 (by kernel_rfl)
            simp only [eval_tmp, List.getElem?_toArray, List.getElem?_cons_succ, List.getElem?_cons_zero, Option.getD_some] at e9
            have ev9 := Lib.hid ((eval_tmp FA 9).trans e9)
            clear hO hD
            refine wanted_if rfl ?_
            refine wp_ldA 27 (.tmp 9) rfl (tbC A2 nt c2) ev9.out (hT3.later (below_plus _ _ _)) (whole_ _) o1 o2 (szTb _ _ _) ?_
            exact hK.out _ _ (Ex.refl _) rfl
          apply Steps.one (MP.eq _) 2 rfl
          · intro o ho FA x hO hD K hK
            obtain rfl := Option.some.inj ho.symm
            clear ho
            have e14 := hO 14 (by kernel_rfl)
            simp only [eval_tmp, List.getElem?_toArray, List.getElem?_cons_succ, List.getElem?_cons_zero, Option.getD_some] at e14
            have ev14 := Lib.hid ((eval_tmp FA 14).trans e14)
            clear hO hD
            go_simp
            exact hK.out _ _ (Ex.refl _) rfl
          apply Steps.one (MP.eq (.int .i64 a)) 3 rfl
          · intro o ho FA x hO hD K hK
            obtain rfl := Option.some.inj ho.symm
            clear ho
            have ev73 : FA.eval (.tmp 73) = _ := hD 0 73 (by kernel_rfl)
            have e73 := (eval_tmp FA 73).symm.trans ev73
            replace ev73 := Lib.hid ev73
            have ev74 : FA.eval (.tmp 74) = _ := hD 1 74 (by kernel_rfl)
            have e74 := (eval_tmp FA 74).symm.trans ev74
            replace ev74 := Lib.hid ev74
            clear hO hD
            go_simp
            refine (at_tb T (k : Int) A2 nt c2 _ (HC.out _ (below_plus _ _ _)).1 (by omega) (by omega)).mono ?_
            rintro e w1 ⟨bs9, d9, rfl, rfl⟩
            exact hK.out _ _ (Ex.plus_ _ _ _) (congrArg (Value.int .i64) HGa.out)
          apply Steps.one (MP.eq _) 4 rfl
          · intro o ho FA x hO hD K hK
            obtain rfl := Option.some.inj ho.symm
            clear ho
            have e11 := hO 11 (by kernel_rfl)
            simp only [eval_tmp, List.getElem?_toArray, List.getElem?_cons_succ, List.getElem?_cons_zero, Option.getD_some] at e11
            have ev11 := Lib.hid ((eval_tmp FA 11).trans e11)
            clear hO hD
            refine wanted_if rfl ?_
            refine wp_ldA 27 (.tmp 11) rfl (tbC A4 nu c4) ev11.out (hU3.later (below_plus _ _ _)) (whole_ _) o1 o2 (szTb _ _ _) ?_
            exact hK.out _ _ (Ex.refl _) rfl
          apply Steps.one (MP.eq _) 5 rfl
          · intro o ho FA x hO hD K hK
            obtain rfl := Option.some.inj ho.symm
            clear ho
            have e14 := hO 14 (by kernel_rfl)
            simp only [eval_tmp, List.getElem?_toArray, List.getElem?_cons_succ, List.getElem?_cons_zero, Option.getD_some] at e14
            have ev14 := Lib.hid ((eval_tmp FA 14).trans e14)
            clear hO hD
            go_simp
            exact hK.out _ _ (Ex.refl _) rfl
          apply Steps.one (MP.eq (.int .i64 b)) 6 rfl
          · intro o ho FA x hO hD K hK
            obtain rfl := Option.some.inj ho.symm
            clear ho
            have ev76 : FA.eval (.tmp 76) = _ := hD 3 76 (by kernel_rfl)
            have e76 := (eval_tmp FA 76).symm.trans ev76
            replace ev76 := Lib.hid ev76
            have ev77 : FA.eval (.tmp 77) = _ := hD 4 77 (by kernel_rfl)
            have e77 := (eval_tmp FA 77).symm.trans ev77
            replace ev77 := Lib.hid ev77
            clear hO hD
            go_simp
            refine (at_tb U (k : Int) A4 nu c4 _ (HC.out _ (below_plus _ _ _)).2 (by omega) (by omega)).mono ?_
            rintro e w1 ⟨bs9, d9, rfl, rfl⟩
            exact hK.out _ _ (Ex.plus_ _ _ _) (congrArg (Value.int .i64) HGb.out)
          apply Steps.one (MP.eq _) 7 rfl
          · intro o ho FA x hO hD K hK
            obtain rfl := Option.some.inj ho.symm
            clear ho
            have ev75 : FA.eval (.tmp 75) = _ := hD 2 75 (by kernel_rfl)
            have e75 := (eval_tmp FA 75).symm.trans ev75
            replace ev75 := Lib.hid ev75
            have ev78 : FA.eval (.tmp 78) = _ := hD 5 78 (by kernel_rfl)
            have e78 := (eval_tmp FA 78).symm.trans ev78
            replace ev78 := Lib.hid ev78
            clear hO hD
            go_simp
            exact hK.out _ _ (Ex.refl _) rfl
          refine Steps.fin_ (fun vs x hp => ?_)
          have p0 : vs 0 = _ := hp 0 (by omega)
          have p1 : vs 1 = _ := hp 1 (by omega)
          have p2 : vs 2 = _ := hp 2 (by omega)
          have p3 : vs 3 = _ := hp 3 (by omega)
          have p4 : vs 4 = _ := hp 4 (by omega)
          have p5 : vs 5 = _ := hp 5 (by omega)
          have p6 : vs 6 = _ := hp 6 (by omega)
          clear hp
          simp only [List.take_succ_cons, List.take_zero, List.drop_succ_cons, List.drop_zero, putAll, Nat.zero_add, Nat.reduceAdd, Act.put, List.setIfInBounds_toArray, List.set_cons_zero, List.set_cons_succ, p0, p1, p2, p3, p4, p5, p6]
          clear p0 p1 p2 p3 p4 p5 p6
          clear vs
          go_wp2
          exact ⟨⟨k + 1, by rw [HC1.out]; rfl, by go_num, by omega, belowP hE2 _ _⟩, by simp [intOf]; omega⟩
      · obtain rfl : nt = k := by omega
        have ik : ¬ (nt : Int) < (nt : Int) := by omega
        go_upto_region 9 with (fail)
        refine wp_region_lit ?_
        refine wpList_plain rfl (fun K hK => ?_); go_simp; with_reducible refine hK _ _ ?_; clear hK K
        refine wpList_ldA (t := 27) 27 (.tmp 9) rfl rfl (tbC A2 nt c2) rfl (hTr) (whole_ _) o1 o2 (szTb _ _ _) ?_
        refine wpList_plain rfl (fun K hK => ?_)
        go_simp
        refine (len_tb A2 nt c2 _).mono ?_
        rintro e w1 ⟨bs7, d7, rfl, rfl⟩
        with_reducible refine hK _ _ ?_
        clear hK K
        iterate 2 (refine wpList_plain rfl (fun K hK => ?_); go_simp; with_reducible refine hK _ _ ?_; clear hK K)
        iterate 2 (refine wpList_step (fun K hK => ?_); go_simp; with_reducible refine hK _ _ ?_; clear hK K)
        refine wpList_plain rfl (fun K hK => ?_); go_simp; with_reducible refine hK _ _ ?_; clear hK K
        have hE2 := belowP hE bs7 d7
        have be := HE.out.trans (hE2.mono HE.out.size)
        replace hT := hT.later hE2
        replace hU := hU.later hE2
        replace hl := hl.later hE2
        replace hr3 := hr3.later hE2
        replace hr5 := hr5.later hE2
        have hTab6 := hTab5.later hE2
        clear hE hE2 hTr hTab5 HE
        generalize plus wr bs7 d7 = W6 at *
        have hmv := moved_is T U
        rw [hnt, hnu] at hmv
        generalize cntZ T U nt = cz at *
        by_cases hnn : nt = nu
        · rw [if_pos hnn] at hmv
          have q1 : ((nt : Int) == (nu : Int)) = true := by simp [hnn]
          have q2 : (nt == nu) = true := by simp [hnn]
          have HNN := Lib.hid hnn
          clear hnn
          have HMV0 := Lib.hid (fun w (h : Rs 1 w A2 nt c2 (its T)) (h2 : Rs 1 w A4 nu c4 (its U)) => moved_tb T U A2 nt c2 A4 nu c4 w h h2 (by omega) (by omega))
          rw [hmv] at HMV0
          clear hmv
          go_upto_region 13 with (fail)
          go_wp2
          refine wp_relS 5 136 rfl (by kernel_rfl) (by kernel_rfl) ?_
          apply Steps.one (MP.eq _) 1 rfl
          · intro o ho FA x hO hD K hK
            obtain rfl := Option.some.inj ho.symm
            clear ho
            have e9 := hO 9 (by kernel_rfl)
            simp only [eval_tmp, List.getElem?_toArray, List.getElem?_cons_succ, List.getElem?_cons_zero, Option.getD_some] at e9
            have ev9 := Lib.hid ((eval_tmp FA 9).trans e9)
            clear hO hD
            refine wanted_if rfl ?_
            refine wp_ldA 27 (.tmp 9) rfl (tbC A2 nt c2) ev9.out (hT.later (below_plus _ _ _)) (whole_ _) o1 o2 (szTb _ _ _) ?_
            exact hK.out _ _ (Ex.refl _) rfl
          apply Steps.one (MP.eq _) 2 rfl
          · intro o ho FA x hO hD K hK
            obtain rfl := Option.some.inj ho.symm
            clear ho
            have ev82 : FA.eval (.tmp 82) = _ := hD 0 82 (by kernel_rfl)
            have e82 := (eval_tmp FA 82).symm.trans ev82
            replace ev82 := Lib.hid ev82
            clear hO hD
            go_simp
            refine (len_tb _ _ _ _).mono ?_
            rintro e w1 ⟨bs2, d2, rfl, rfl⟩
            exact hK.out _ _ (Ex.plus_ _ _ _) rfl
          apply Steps.one (MP.eq _) 3 rfl
          · intro o ho FA x hO hD K hK
            obtain rfl := Option.some.inj ho.symm
            clear ho
            have e11 := hO 11 (by kernel_rfl)
            simp only [eval_tmp, List.getElem?_toArray, List.getElem?_cons_succ, List.getElem?_cons_zero, Option.getD_some] at e11
            have ev11 := Lib.hid ((eval_tmp FA 11).trans e11)
            clear hO hD
            refine wanted_if rfl ?_
            refine wp_ldA 27 (.tmp 11) rfl (tbC A4 nu c4) ev11.out (hU.later (below_plus _ _ _)) (whole_ _) o1 o2 (szTb _ _ _) ?_
            exact hK.out _ _ (Ex.refl _) rfl
          apply Steps.one (MP.eq _) 4 rfl
          · intro o ho FA x hO hD K hK
            obtain rfl := Option.some.inj ho.symm
            clear ho
            have ev84 : FA.eval (.tmp 84) = _ := hD 2 84 (by kernel_rfl)
            have e84 := (eval_tmp FA 84).symm.trans ev84
            replace ev84 := Lib.hid ev84
            clear hO hD
            go_simp
            refine (len_tb _ _ _ _).mono ?_
            rintro e w1 ⟨bs2, d2, rfl, rfl⟩
            exact hK.out _ _ (Ex.plus_ _ _ _) rfl
          apply Steps.one (MP.eq _) 5 rfl
          · intro o ho FA x hO hD K hK
            obtain rfl := Option.some.inj ho.symm
            clear ho
            have ev83 : FA.eval (.tmp 83) = _ := hD 1 83 (by kernel_rfl)
            have e83 := (eval_tmp FA 83).symm.trans ev83
            replace ev83 := Lib.hid ev83
            have ev85 : FA.eval (.tmp 85) = _ := hD 3 85 (by kernel_rfl)
            have e85 := (eval_tmp FA 85).symm.trans ev85
            replace ev85 := Lib.hid ev85
            clear hO hD
            go_simp
            exact hK.out _ _ (Ex.refl _) rfl
          refine Steps.fin_ (fun vs x hp => ?_)
          have p0 : vs 0 = _ := hp 0 (by omega)
          have p1 : vs 1 = _ := hp 1 (by omega)
          have p2 : vs 2 = _ := hp 2 (by omega)
          have p3 : vs 3 = _ := hp 3 (by omega)
          have p4 : vs 4 = _ := hp 4 (by omega)
          clear hp
          simp only [List.take_succ_cons, List.take_zero, List.drop_succ_cons, List.drop_zero, putAll, Nat.zero_add, Nat.reduceAdd, Act.put, List.setIfInBounds_toArray, List.set_cons_zero, List.set_cons_succ, p0, p1, p2, p3, p4]
          clear p0 p1 p2 p3 p4
          clear vs
          have b7_ := below_plus W6 x.bs x.d
          replace be := belowP be x.bs x.d
          replace hT := hT.later b7_
          replace hU := hU.later b7_
          replace hl := hl.later b7_
          replace hr3 := hr3.later b7_
          replace hr5 := hr5.later b7_
          have hTab7 := hTab6.later b7_
          clear b7_ hTab6
          generalize plus W6 x.bs x.d = W7 at *
          have HMV := Lib.hid (HMV0.out W7 hr3 hr5)
          clear HMV0
          go_upto_region 15 with (fail)
          refine wp_region_lit ?_
          refine wpList_ldA (t := 27) 27 (.tmp 9) rfl rfl (tbC A2 nt c2) rfl (hT) (whole_ _) o1 o2 (szTb _ _ _) ?_
          simp only [Act.put, List.setIfInBounds_toArray, List.set_cons_zero, List.set_cons_succ]
          refine wpList_ldA (t := 27) 27 (.tmp 11) rfl rfl (tbC A4 nu c4) rfl (hU) (whole_ _) o1 o2 (szTb _ _ _) ?_
          refine wpList_plain rfl (fun K hK => ?_)
          go_simp
          refine (HMV.out).mono ?_
          rintro e w1 ⟨bs8, d8, rfl, rfl⟩
          with_reducible refine hK _ _ ?_
          clear hK K
          iterate 2 (refine wpList_plain rfl (fun K hK => ?_); go_simp; with_reducible refine hK _ _ ?_; clear hK K)
          have b8_ := below_plus W7 bs8 d8
          replace be := belowP be bs8 d8
          replace hT := hT.later b8_
          replace hl := hl.later b8_
          replace hr3 := hr3.later b8_
          have hTab8 := hTab7.later b8_
          clear b8_ hTab7 hr5 hU HMV
          generalize plus W7 bs8 d8 = W8 at *
          rcases HTE.out with ⟨p, rfl, hRL, rfl, rfl⟩ | ⟨-, -, rfl⟩
          · rw [magT_len] at hnt
            obtain rfl : nt = p := hnt.symm
            have hp2 := refP_two hRL.1
            have hp3 := hRL.2.1
            have HCT := Lib.hid (fun (i : Nat) (hi : i < l.length) => tabN_count (F := magFZ key nt) (S := magSZ key nt) hRL (fun m => magF_lt key nt _ hp2) (fun m => magS_ok key nt _ hp2) i hi nt (Nat.le_refl _))
            have HLO := Lib.hid (fun (i : Nat) (hi : i < l.length) => even_lo hRL i hi)
            have HHI := Lib.hid (fun (i : Nat) (hi : i < l.length) => even_hi hRL i hi)
            have HCT2 : Hid (∀ (i : Nat) (hi : i < l.length), (magT key l nt nt).count l[i] = (nt + (l.length - 1 - i)) / l.length) := Lib.hid (fun i hi => HCT.out i hi)
            have hlenT := magT_len key l nt nt
            clear HTE HCT hRL
            generalize magT key l nt nt = T at *
            go_upto_region 18 with (fail)
            have HE := Lib.hid be
            clear be
            go_loopw [15, 16, 17] (fun I A16 A17 wr => ∃ i : Nat, I = .int .i64 (i : Int) ∧ i ≤ n ∧ Below W8.heap.size W8 wr) (fun I _ _ _ => n - (intOf I).toNat)
            case atStart => exact ⟨0, rfl, Nat.zero_le _, Below.refl _ _⟩
            case round =>
              obtain ⟨i, rfl, hi, hE⟩ := hrel
              by_cases hlt : i < n
              · have ii : (i : Int) < (n : Int) := by omega
                have hiL : i < l.length := by omega
                have hn0 : ¬ (n : Int) = 0 := by omega
                have hn1 : ((n : Int) == 0) = false := by simp; omega
                have hn2 : ¬ n = 0 := by omega
                have hct := HCT2.out i hiL
                have hlo := HLO.out i hiL
                have hhi := HHI.out i hiL
                rw [← hct, hln] at hlo hhi
                clear hct
                obtain ⟨y, hy⟩ : ∃ y, l[i] = y := ⟨_, rfl⟩
                rw [hy] at hlo hhi
                obtain ⟨b3, o3, rfl, -, hat3⟩ := hl.ints_ (by omega)
                have HAT := Lib.hid (show ∀ w', Below W8.heap.size W8 w' → w'.cell? ⟨b3, o3 + i, none⟩ = some (.int .i64 y) from fun w' h => by rw [← hy]; exact hat3 i hiL w' h)
                have HLO2 := Lib.hid hlo
                have HHI2 := Lib.hid hhi
                clear hat3 hy hlo hhi
                go_upto_region 22 with (fail)
                go_loopw [16, 17] (fun C K wr => ∃ k : Nat, C = .int .i64 (((T.take k).count y : Nat) : Int) ∧ K = .int .i64 (k : Int) ∧ k ≤ nt ∧ Below W8.heap.size W8 wr) (fun _ K _ => nt - (intOf K).toNat)
                case atStart => exact ⟨0, by simp, rfl, Nat.zero_le _, hE⟩
                case round =>
                  clear hE
                  obtain ⟨k, rfl, rfl, hk, hE⟩ := hrel
                  by_cases hkt : k < nt
                  · have ik : (k : Int) < (nt : Int) := by omega
                    have hkT : k < T.length := by omega
                    have hg := getZ_in T k hkT
                    have hcs : (T.take (k + 1)).count y = (T.take k).count y + if T[k] = y then 1 else 0 := by
                      rw [List.take_succ_eq_append_getElem hkT, List.count_append, List.count_singleton]
                      congr 1
                      by_cases e : T[k] = y <;> simp [e]
                    have hcl : (T.take k).count y ≤ k := Nat.le_trans List.count_le_length (by rw [List.length_take]; omega)
                    have hT3 := hT.later hE
                    obtain ⟨v, hv⟩ : ∃ v, T[k] = v := ⟨_, rfl⟩
                    rw [hv] at hg hcs
                    have HG := Lib.hid hg
                    have HC := Lib.hid (fun (W : World) (h : Below wr.heap.size wr W) => show Rs 1 W A2 nt c2 (its T) ∧ W.cell? ⟨b3, o3 + i, none⟩ = some (.int .i64 y) from ⟨hr3.later (hE.trans (h.mono hE.size)), HAT.out W (hE.trans (h.mono hE.size))⟩)
                    clear hv hg
                    by_cases hvy : v = y
                    · have hq : (v == y) = true := by simp [hvy]
                      rw [if_pos hvy] at hcs
                      have HCS := Lib.hid hcs
                      clear hcs hvy
                      generalize (T.take k).count y = q0 at *
                      have w0 : IntKind.i64.wrap ((q0 : Int) + 1) = (q0 : Int) + 1 := IntWalk.i64_in _ (by omega)
                      go_upto_region 24 with (fail)
                      go_wp2
                      refine wp_relS 8 136 rfl (by kernel_rfl) (by kernel_rfl) ?_
                      apply Steps.one (MP.eq _) 1 rfl
                      · intro o ho FA x hO hD K hK
                        obtain rfl := Option.some.inj ho.symm
                        clear ho
                        have e9 := hO 9 (by kernel_rfl)
                        simp only [eval_tmp, List.getElem?_toArray, List.getElem?_cons_succ, List.getElem?_cons_zero, Option.getD_some] at e9
                        have ev9 := Lib.hid ((eval_tmp FA 9).trans e9)
                        clear hO hD
                        refine wanted_if rfl ?_
                        refine wp_ldA 27 (.tmp 9) rfl (tbC A2 nt c2) ev9.out (hT3.later (below_plus _ _ _)) (whole_ _) o1 o2 (szTb _ _ _) ?_
                        exact hK.out _ _ (Ex.refl _) rfl
                      apply Steps.one (MP.eq _) 2 rfl
                      · intro o ho FA x hO hD K hK
                        obtain rfl := Option.some.inj ho.symm
                        clear ho
                        have e17 := hO 17 (by kernel_rfl)
                        simp only [eval_tmp, List.getElem?_toArray, List.getElem?_cons_succ, List.getElem?_cons_zero, Option.getD_some] at e17
                        have ev17 := Lib.hid ((eval_tmp FA 17).trans e17)
                        clear hO hD
                        go_simp
                        exact hK.out _ _ (Ex.refl _) rfl
                      apply Steps.one (MP.eq (.int .i64 v)) 3 rfl
                      · intro o ho FA x hO hD K hK
                        obtain rfl := Option.some.inj ho.symm
                        clear ho
                        have ev107 : FA.eval (.tmp 107) = _ := hD 0 107 (by kernel_rfl)
                        have e107 := (eval_tmp FA 107).symm.trans ev107
                        replace ev107 := Lib.hid ev107
                        have ev108 : FA.eval (.tmp 108) = _ := hD 1 108 (by kernel_rfl)
                        have e108 := (eval_tmp FA 108).symm.trans ev108
                        replace ev108 := Lib.hid ev108
                        clear hO hD
                        go_simp
                        refine (at_tb T (k : Int) A2 nt c2 _ (HC.out _ (below_plus _ _ _)).1 (by omega) (by omega)).mono ?_
                        rintro e w1 ⟨bs9, d9, rfl, rfl⟩
                        exact hK.out _ _ (Ex.plus_ _ _ _) (congrArg (Value.int .i64) HG.out)
                      apply Steps.one (MP.eq _) 4 rfl
                      · intro o ho FA x hO hD K hK
                        obtain rfl := Option.some.inj ho.symm
                        clear ho
                        have e2 := hO 2 (by kernel_rfl)
                        simp only [eval_tmp, List.getElem?_toArray, List.getElem?_cons_succ, List.getElem?_cons_zero, Option.getD_some] at e2
                        have ev2 := Lib.hid ((eval_tmp FA 2).trans e2)
                        clear hO hD
                        go_simp
                        exact hK.out _ _ (Ex.refl _) rfl
                      apply Steps.one (MP.eq _) 5 rfl
                      · intro o ho FA x hO hD K hK
                        obtain rfl := Option.some.inj ho.symm
                        clear ho
                        have e15 := hO 15 (by kernel_rfl)
                        simp only [eval_tmp, List.getElem?_toArray, List.getElem?_cons_succ, List.getElem?_cons_zero, Option.getD_some] at e15
                        have ev15 := Lib.hid ((eval_tmp FA 15).trans e15)
                        clear hO hD
                        go_simp
                        exact hK.out _ _ (Ex.refl _) rfl
                      apply Steps.one (MP.eq _) 6 rfl
                      · intro o ho FA x hO hD K hK
                        obtain rfl := Option.some.inj ho.symm
                        clear ho
                        have ev110 : FA.eval (.tmp 110) = _ := hD 3 110 (by kernel_rfl)
                        have e110 := (eval_tmp FA 110).symm.trans ev110
                        replace ev110 := Lib.hid ev110
                        have ev111 : FA.eval (.tmp 111) = _ := hD 4 111 (by kernel_rfl)
                        have e111 := (eval_tmp FA 111).symm.trans ev111
                        replace ev111 := Lib.hid ev111
                        clear hO hD
                        go_simp
                        exact hK.out _ _ (Ex.refl _) rfl
                      apply Steps.one (MP.eq _) 7 rfl
                      · intro o ho FA x hO hD K hK
                        obtain rfl := Option.some.inj ho.symm
                        clear ho
                        have ev112 : FA.eval (.tmp 112) = _ := hD 5 112 (by kernel_rfl)
                        have e112 := (eval_tmp FA 112).symm.trans ev112
                        replace ev112 := Lib.hid ev112
                        clear hO hD
                        have q9 := (HC.out (plus wr x.bs x.d) (below_plus _ _ _)).2
                        go_simp
                        exact hK.out _ _ (Ex.refl _) rfl
                      apply Steps.one (MP.eq _) 8 rfl
                      · intro o ho FA x hO hD K hK
                        obtain rfl := Option.some.inj ho.symm
                        clear ho
                        have ev109 : FA.eval (.tmp 109) = _ := hD 2 109 (by kernel_rfl)
                        have e109 := (eval_tmp FA 109).symm.trans ev109
                        replace ev109 := Lib.hid ev109
                        have ev113 : FA.eval (.tmp 113) = _ := hD 6 113 (by kernel_rfl)
                        have e113 := (eval_tmp FA 113).symm.trans ev113
                        replace ev113 := Lib.hid ev113
                        clear hO hD
                        go_simp
                        exact hK.out _ _ (Ex.refl _) rfl
                      refine Steps.fin_ (fun vs x hp => ?_)
                      have p0 : vs 0 = _ := hp 0 (by omega)
                      have p1 : vs 1 = _ := hp 1 (by omega)
                      have p2 : vs 2 = _ := hp 2 (by omega)
                      have p3 : vs 3 = _ := hp 3 (by omega)
                      have p4 : vs 4 = _ := hp 4 (by omega)
                      have p5 : vs 5 = _ := hp 5 (by omega)
                      have p6 : vs 6 = _ := hp 6 (by omega)
                      have p7 : vs 7 = _ := hp 7 (by omega)
                      clear hp
                      simp only [List.take_succ_cons, List.take_zero, List.drop_succ_cons, List.drop_zero, putAll, Nat.zero_add, Nat.reduceAdd, Act.put, List.setIfInBounds_toArray, List.set_cons_zero, List.set_cons_succ, p0, p1, p2, p3, p4, p5, p6, p7]
                      clear p0 p1 p2 p3 p4 p5 p6 p7
                      clear vs
                      go_wp2
                      exact ⟨⟨k + 1, by rw [HCS.out]; rfl, by go_num, by omega, belowP hE _ _⟩, by simp [intOf]; omega⟩
                    · have hq : (v == y) = false := by simp [hvy]
                      rw [if_neg hvy] at hcs
                      have HCS := Lib.hid hcs
                      clear hcs hvy
                      generalize (T.take k).count y = q0 at *
                      go_upto_region 24 with (fail)
                      go_wp2
                      refine wp_relS 8 136 rfl (by kernel_rfl) (by kernel_rfl) ?_
                      apply Steps.one (MP.eq _) 1 rfl
                      · intro o ho FA x hO hD K hK
                        obtain rfl := Option.some.inj ho.symm
                        clear ho
                        have e9 := hO 9 (by kernel_rfl)
                        simp only [eval_tmp, List.getElem?_toArray, List.getElem?_cons_succ, List.getElem?_cons_zero, Option.getD_some] at e9
                        have ev9 := Lib.hid ((eval_tmp FA 9).trans e9)
                        clear hO hD
                        refine wanted_if rfl ?_
                        refine wp_ldA 27 (.tmp 9) rfl (tbC A2 nt c2) ev9.out (hT3.later (below_plus _ _ _)) (whole_ _) o1 o2 (szTb _ _ _) ?_
                        exact hK.out _ _ (Ex.refl _) rfl
                      apply Steps.one (MP.eq _) 2 rfl
                      · intro o ho FA x hO hD K hK
                        obtain rfl := Option.some.inj ho.symm
                        clear ho
                        have e17 := hO 17 (by kernel_rfl)
                        simp only [eval_tmp, List.getElem?_toArray, List.getElem?_cons_succ, List.getElem?_cons_zero, Option.getD_some] at e17
                        have ev17 := Lib.hid ((eval_tmp FA 17).trans e17)
                        clear hO hD
                        go_simp
                        exact hK.out _ _ (Ex.refl _) rfl
                      apply Steps.one (MP.eq (.int .i64 v)) 3 rfl
                      · intro o ho FA x hO hD K hK
                        obtain rfl := Option.some.inj ho.symm
                        clear ho
                        have ev107 : FA.eval (.tmp 107) = _ := hD 0 107 (by kernel_rfl)
                        have e107 := (eval_tmp FA 107).symm.trans ev107
                        replace ev107 := Lib.hid ev107
                        have ev108 : FA.eval (.tmp 108) = _ := hD 1 108 (by kernel_rfl)
                        have e108 := (eval_tmp FA 108).symm.trans ev108
                        replace ev108 := Lib.hid ev108
                        clear hO hD
                        go_simp
                        refine (at_tb T (k : Int) A2 nt c2 _ (HC.out _ (below_plus _ _ _)).1 (by omega) (by omega)).mono ?_
                        rintro e w1 ⟨bs9, d9, rfl, rfl⟩
                        exact hK.out _ _ (Ex.plus_ _ _ _) (congrArg (Value.int .i64) HG.out)
                      apply Steps.one (MP.eq _) 4 rfl
                      · intro o ho FA x hO hD K hK
                        obtain rfl := Option.some.inj ho.symm
                        clear ho
                        have e2 := hO 2 (by kernel_rfl)
                        simp only [eval_tmp, List.getElem?_toArray, List.getElem?_cons_succ, List.getElem?_cons_zero, Option.getD_some] at e2
                        have ev2 := Lib.hid ((eval_tmp FA 2).trans e2)
                        clear hO hD
                        go_simp
                        exact hK.out _ _ (Ex.refl _) rfl
                      apply Steps.one (MP.eq _) 5 rfl
                      · intro o ho FA x hO hD K hK
                        obtain rfl := Option.some.inj ho.symm
                        clear ho
                        have e15 := hO 15 (by kernel_rfl)
                        simp only [eval_tmp, List.getElem?_toArray, List.getElem?_cons_succ, List.getElem?_cons_zero, Option.getD_some] at e15
                        have ev15 := Lib.hid ((eval_tmp FA 15).trans e15)
                        clear hO hD
                        go_simp
                        exact hK.out _ _ (Ex.refl _) rfl
                      apply Steps.one (MP.eq _) 6 rfl
                      · intro o ho FA x hO hD K hK
                        obtain rfl := Option.some.inj ho.symm
                        clear ho
                        have ev110 : FA.eval (.tmp 110) = _ := hD 3 110 (by kernel_rfl)
                        have e110 := (eval_tmp FA 110).symm.trans ev110
                        replace ev110 := Lib.hid ev110
                        have ev111 : FA.eval (.tmp 111) = _ := hD 4 111 (by kernel_rfl)
                        have e111 := (eval_tmp FA 111).symm.trans ev111
                        replace ev111 := Lib.hid ev111
                        clear hO hD
                        go_simp
                        exact hK.out _ _ (Ex.refl _) rfl
                      apply Steps.one (MP.eq _) 7 rfl
                      · intro o ho FA x hO hD K hK
                        obtain rfl := Option.some.inj ho.symm
                        clear ho
                        have ev112 : FA.eval (.tmp 112) = _ := hD 5 112 (by kernel_rfl)
                        have e112 := (eval_tmp FA 112).symm.trans ev112
                        replace ev112 := Lib.hid ev112
                        clear hO hD
                        have q9 := (HC.out (plus wr x.bs x.d) (below_plus _ _ _)).2
                        go_simp
                        exact hK.out _ _ (Ex.refl _) rfl
                      apply Steps.one (MP.eq _) 8 rfl
                      · intro o ho FA x hO hD K hK
                        obtain rfl := Option.some.inj ho.symm
                        clear ho
                        have ev109 : FA.eval (.tmp 109) = _ := hD 2 109 (by kernel_rfl)
                        have e109 := (eval_tmp FA 109).symm.trans ev109
                        replace ev109 := Lib.hid ev109
                        have ev113 : FA.eval (.tmp 113) = _ := hD 6 113 (by kernel_rfl)
                        have e113 := (eval_tmp FA 113).symm.trans ev113
                        replace ev113 := Lib.hid ev113
                        clear hO hD
                        go_simp
                        exact hK.out _ _ (Ex.refl _) rfl
                      refine Steps.fin_ (fun vs x hp => ?_)
                      have p0 : vs 0 = _ := hp 0 (by omega)
                      have p1 : vs 1 = _ := hp 1 (by omega)
                      have p2 : vs 2 = _ := hp 2 (by omega)
                      have p3 : vs 3 = _ := hp 3 (by omega)
                      have p4 : vs 4 = _ := hp 4 (by omega)
                      have p5 : vs 5 = _ := hp 5 (by omega)
                      have p6 : vs 6 = _ := hp 6 (by omega)
                      have p7 : vs 7 = _ := hp 7 (by omega)
                      clear hp
                      simp only [List.take_succ_cons, List.take_zero, List.drop_succ_cons, List.drop_zero, putAll, Nat.zero_add, Nat.reduceAdd, Act.put, List.setIfInBounds_toArray, List.set_cons_zero, List.set_cons_succ, p0, p1, p2, p3, p4, p5, p6, p7]
                      clear p0 p1 p2 p3 p4 p5 p6 p7
                      clear vs
                      go_wp2
                      exact ⟨⟨k + 1, by rw [HCS.out]; rfl, by go_num, by omega, belowP hE _ _⟩, by simp [intOf]; omega⟩
                  · obtain rfl : nt = k := by omega
                    have ik : ¬ (nt : Int) < (nt : Int) := by omega
                    have e : T.take nt = T := List.take_of_length_le (by omega)
                    have hcl : T.count y ≤ nt := Nat.le_trans List.count_le_length (by omega)
                    have hlo := HLO2.out
                    have hhi := HHI2.out
                    rw [e]
                    clear e HLO2 HHI2
                    generalize T.count y = q0 at *
                    have t1 : Int.tdiv (nt : Int) (n : Int) = ((nt / n : Nat) : Int) := rfl
                    have t2 : (nt : Int) / (n : Int) = ((nt / n : Nat) : Int) := rfl
                    have wa : IntKind.i64.wrap ((nt : Int) + (n : Int)) = (nt : Int) + (n : Int) := IntWalk.i64_in _ (by omega)
                    have wb : IntKind.i64.wrap ((nt : Int) + (n : Int) - 1) = ((nt + n - 1 : Nat) : Int) := by rw [IntWalk.i64_in _ (by omega)]; omega
                    have eb : (nt : Int) + (n : Int) - 1 = ((nt + n - 1 : Nat) : Int) := by omega
                    have t3 : Int.tdiv ((nt + n - 1 : Nat) : Int) (n : Int) = (((nt + n - 1) / n : Nat) : Int) := rfl
                    have t4 : ((nt + n - 1 : Nat) : Int) / (n : Int) = (((nt + n - 1) / n : Nat) : Int) := rfl
                    have hd1 : nt / n ≤ nt := Nat.div_le_self _ _
                    have hd2 : (nt + n - 1) / n ≤ nt + n - 1 := Nat.div_le_self _ _
                    generalize (nt + n - 1) / n = z2 at *
                    generalize nt / n = z1 at *
                    have wc : IntKind.i64.wrap (z1 : Int) = (z1 : Int) := IntWalk.i64_in _ (by omega)
                    have wd : IntKind.i64.wrap (z2 : Int) = (z2 : Int) := IntWalk.i64_in _ (by omega)
                    have j1 : ¬ (q0 : Int) < (z1 : Int) := by omega
                    have j2 : ¬ (z2 : Int) < (q0 : Int) := by omega
                    have we : IntKind.i64.wrap ((nt + n - 1 : Nat) : Int) = ((nt + n - 1 : Nat) : Int) := IntWalk.i64_in _ (by omega)
                    generalize nt + n - 1 = z3 at *
                    go_wp2
                    exact ⟨⟨i + 1, by go_num, by omega, hE⟩, by simp [intOf]; omega⟩
              · obtain rfl : n = i := by omega
                have ii : ¬ (n : Int) < (n : Int) := by omega
                have hTab9 := hTab8.later hE
                go_wp2_with (go_at_call 5; refine (awake42 _ hTab9).mono ?_; rintro e w1 ⟨bs3, d3, rfl, rfl⟩)
                go_ret
                exact RetV.mk (belowP (HE.out.trans (hE.mono HE.out.size)) bs3 d3)
          · go_upto_region 18 with (fail)
            have HE := Lib.hid be
            clear be
            go_loopw [15, 16, 17] (fun I A16 A17 wr => I = .int .i64 0 ∧ Below W8.heap.size W8 wr) (fun _ _ _ _ => 0)
            case atStart => exact ⟨rfl, Below.refl _ _⟩
            case round =>
              obtain ⟨rfl, hE⟩ := hrel
              have hTab9 := hTab8.later hE
              by_cases hlt : 0 < n
              · have ii : (0 : Int) < (n : Int) := by omega
                go_wp2_with (go_at_call 5; refine (awake42 _ hTab9).mono ?_; rintro e w1 ⟨bs3, d3, rfl, rfl⟩)
                go_ret
                exact RetV.mk (belowP (HE.out.trans (hE.mono HE.out.size)) bs3 d3)
              · have ii : ¬ (0 : Int) < (n : Int) := by omega
                go_wp2_with (go_at_call 5; refine (awake42 _ hTab9).mono ?_; rintro e w1 ⟨bs3, d3, rfl, rfl⟩)
                go_ret
                exact RetV.mk (belowP (HE.out.trans (hE.mono HE.out.size)) bs3 d3)
        · rw [if_neg hnn] at hmv
          have q1 : ((nt : Int) == (nu : Int)) = false := by simp; omega
          have q2 : (nt == nu) = false := by simp; omega
          have HNN := Lib.hid hnn
          clear hnn
          have HMV0 := Lib.hid (fun w (h : Rs 1 w A2 nt c2 (its T)) (h2 : Rs 1 w A4 nu c4 (its U)) => moved_tb T U A2 nt c2 A4 nu c4 w h h2 (by omega) (by omega))
          rw [hmv] at HMV0
          clear hmv
          go_upto_region 13 with (fail)
          go_wp2
          refine wp_relS 5 136 rfl (by kernel_rfl) (by kernel_rfl) ?_
          apply Steps.one (MP.eq _) 1 rfl
          · intro o ho FA x hO hD K hK
            obtain rfl := Option.some.inj ho.symm
            clear ho
            have e9 := hO 9 (by kernel_rfl)
            simp only [eval_tmp, List.getElem?_toArray, List.getElem?_cons_succ, List.getElem?_cons_zero, Option.getD_some] at e9
            have ev9 := Lib.hid ((eval_tmp FA 9).trans e9)
            clear hO hD
            refine wanted_if rfl ?_
            refine wp_ldA 27 (.tmp 9) rfl (tbC A2 nt c2) ev9.out (hT.later (below_plus _ _ _)) (whole_ _) o1 o2 (szTb _ _ _) ?_
            exact hK.out _ _ (Ex.refl _) rfl
          apply Steps.one (MP.eq _) 2 rfl
          · intro o ho FA x hO hD K hK
            obtain rfl := Option.some.inj ho.symm
            clear ho
            have ev82 : FA.eval (.tmp 82) = _ := hD 0 82 (by kernel_rfl)
            have e82 := (eval_tmp FA 82).symm.trans ev82
            replace ev82 := Lib.hid ev82
            clear hO hD
            go_simp
            refine (len_tb _ _ _ _).mono ?_
            rintro e w1 ⟨bs2, d2, rfl, rfl⟩
            exact hK.out _ _ (Ex.plus_ _ _ _) rfl
          apply Steps.one (MP.eq _) 3 rfl
          · intro o ho FA x hO hD K hK
            obtain rfl := Option.some.inj ho.symm
            clear ho
            have e11 := hO 11 (by kernel_rfl)
            simp only [eval_tmp, List.getElem?_toArray, List.getElem?_cons_succ, List.getElem?_cons_zero, Option.getD_some] at e11
            have ev11 := Lib.hid ((eval_tmp FA 11).trans e11)
            clear hO hD
            refine wanted_if rfl ?_
            refine wp_ldA 27 (.tmp 11) rfl (tbC A4 nu c4) ev11.out (hU.later (below_plus _ _ _)) (whole_ _) o1 o2 (szTb _ _ _) ?_
            exact hK.out _ _ (Ex.refl _) rfl
          apply Steps.one (MP.eq _) 4 rfl
          · intro o ho FA x hO hD K hK
            obtain rfl := Option.some.inj ho.symm
            clear ho
            have ev84 : FA.eval (.tmp 84) = _ := hD 2 84 (by kernel_rfl)
            have e84 := (eval_tmp FA 84).symm.trans ev84
            replace ev84 := Lib.hid ev84
            clear hO hD
            go_simp
            refine (len_tb _ _ _ _).mono ?_
            rintro e w1 ⟨bs2, d2, rfl, rfl⟩
            exact hK.out _ _ (Ex.plus_ _ _ _) rfl
          apply Steps.one (MP.eq _) 5 rfl
          · intro o ho FA x hO hD K hK
            obtain rfl := Option.some.inj ho.symm
            clear ho
            have ev83 : FA.eval (.tmp 83) = _ := hD 1 83 (by kernel_rfl)
            have e83 := (eval_tmp FA 83).symm.trans ev83
            replace ev83 := Lib.hid ev83
            have ev85 : FA.eval (.tmp 85) = _ := hD 3 85 (by kernel_rfl)
            have e85 := (eval_tmp FA 85).symm.trans ev85
            replace ev85 := Lib.hid ev85
            clear hO hD
            go_simp
            exact hK.out _ _ (Ex.refl _) rfl
          refine Steps.fin_ (fun vs x hp => ?_)
          have p0 : vs 0 = _ := hp 0 (by omega)
          have p1 : vs 1 = _ := hp 1 (by omega)
          have p2 : vs 2 = _ := hp 2 (by omega)
          have p3 : vs 3 = _ := hp 3 (by omega)
          have p4 : vs 4 = _ := hp 4 (by omega)
          clear hp
          simp only [List.take_succ_cons, List.take_zero, List.drop_succ_cons, List.drop_zero, putAll, Nat.zero_add, Nat.reduceAdd, Act.put, List.setIfInBounds_toArray, List.set_cons_zero, List.set_cons_succ, p0, p1, p2, p3, p4]
          clear p0 p1 p2 p3 p4
          clear vs
          have b7_ := below_plus W6 x.bs x.d
          replace be := belowP be x.bs x.d
          replace hT := hT.later b7_
          replace hU := hU.later b7_
          replace hl := hl.later b7_
          replace hr3 := hr3.later b7_
          replace hr5 := hr5.later b7_
          have hTab7 := hTab6.later b7_
          clear b7_ hTab6
          generalize plus W6 x.bs x.d = W7 at *
          have HMV := Lib.hid (HMV0.out W7 hr3 hr5)
          clear HMV0
          go_upto_region 15 with (fail)
          refine wp_region_lit ?_
          refine wpList_ldA (t := 27) 27 (.tmp 9) rfl rfl (tbC A2 nt c2) rfl (hT) (whole_ _) o1 o2 (szTb _ _ _) ?_
          simp only [Act.put, List.setIfInBounds_toArray, List.set_cons_zero, List.set_cons_succ]
          refine wpList_ldA (t := 27) 27 (.tmp 11) rfl rfl (tbC A4 nu c4) rfl (hU) (whole_ _) o1 o2 (szTb _ _ _) ?_
          refine wpList_plain rfl (fun K hK => ?_)
          go_simp
          refine (HMV.out).mono ?_
          rintro e w1 ⟨bs8, d8, rfl, rfl⟩
          with_reducible refine hK _ _ ?_
          clear hK K
          iterate 2 (refine wpList_plain rfl (fun K hK => ?_); go_simp; with_reducible refine hK _ _ ?_; clear hK K)
          have b8_ := below_plus W7 bs8 d8
          replace be := belowP be bs8 d8
          replace hT := hT.later b8_
          replace hl := hl.later b8_
          replace hr3 := hr3.later b8_
          have hTab8 := hTab7.later b8_
          clear b8_ hTab7 hr5 hU HMV
          generalize plus W7 bs8 d8 = W8 at *
          rcases HTE.out with ⟨p, rfl, hRL, rfl, rfl⟩ | ⟨-, -, rfl⟩
          · rw [magT_len] at hnt
            obtain rfl : nt = p := hnt.symm
            have hp2 := refP_two hRL.1
            have hp3 := hRL.2.1
            have HCT := Lib.hid (fun (i : Nat) (hi : i < l.length) => tabN_count (F := magFZ key nt) (S := magSZ key nt) hRL (fun m => magF_lt key nt _ hp2) (fun m => magS_ok key nt _ hp2) i hi nt (Nat.le_refl _))
            have HLO := Lib.hid (fun (i : Nat) (hi : i < l.length) => even_lo hRL i hi)
            have HHI := Lib.hid (fun (i : Nat) (hi : i < l.length) => even_hi hRL i hi)
            have HCT2 : Hid (∀ (i : Nat) (hi : i < l.length), (magT key l nt nt).count l[i] = (nt + (l.length - 1 - i)) / l.length) := Lib.hid (fun i hi => HCT.out i hi)
            have hlenT := magT_len key l nt nt
            clear HTE HCT hRL
            generalize magT key l nt nt = T at *
            go_upto_region 18 with (fail)
            have HE := Lib.hid be
            clear be
            go_loopw [15, 16, 17] (fun I A16 A17 wr => ∃ i : Nat, I = .int .i64 (i : Int) ∧ i ≤ n ∧ Below W8.heap.size W8 wr) (fun I _ _ _ => n - (intOf I).toNat)
            case atStart => exact ⟨0, rfl, Nat.zero_le _, Below.refl _ _⟩
            case round =>
              obtain ⟨i, rfl, hi, hE⟩ := hrel
              by_cases hlt : i < n
              · have ii : (i : Int) < (n : Int) := by omega
                have hiL : i < l.length := by omega
                have hn0 : ¬ (n : Int) = 0 := by omega
                have hn1 : ((n : Int) == 0) = false := by simp; omega
                have hn2 : ¬ n = 0 := by omega
                have hct := HCT2.out i hiL
                have hlo := HLO.out i hiL
                have hhi := HHI.out i hiL
                rw [← hct, hln] at hlo hhi
                clear hct
                obtain ⟨y, hy⟩ : ∃ y, l[i] = y := ⟨_, rfl⟩
                rw [hy] at hlo hhi
                obtain ⟨b3, o3, rfl, -, hat3⟩ := hl.ints_ (by omega)
                have HAT := Lib.hid (show ∀ w', Below W8.heap.size W8 w' → w'.cell? ⟨b3, o3 + i, none⟩ = some (.int .i64 y) from fun w' h => by rw [← hy]; exact hat3 i hiL w' h)
                have HLO2 := Lib.hid hlo
                have HHI2 := Lib.hid hhi
                clear hat3 hy hlo hhi
                go_upto_region 22 with (fail)
                go_loopw [16, 17] (fun C K wr => ∃ k : Nat, C = .int .i64 (((T.take k).count y : Nat) : Int) ∧ K = .int .i64 (k : Int) ∧ k ≤ nt ∧ Below W8.heap.size W8 wr) (fun _ K _ => nt - (intOf K).toNat)
                case atStart => exact ⟨0, by simp, rfl, Nat.zero_le _, hE⟩
                case round =>
                  clear hE
                  obtain ⟨k, rfl, rfl, hk, hE⟩ := hrel
                  by_cases hkt : k < nt
                  · have ik : (k : Int) < (nt : Int) := by omega
                    have hkT : k < T.length := by omega
                    have hg := getZ_in T k hkT
                    have hcs : (T.take (k + 1)).count y = (T.take k).count y + if T[k] = y then 1 else 0 := by
                      rw [List.take_succ_eq_append_getElem hkT, List.count_append, List.count_singleton]
                      congr 1
                      by_cases e : T[k] = y <;> simp [e]
                    have hcl : (T.take k).count y ≤ k := Nat.le_trans List.count_le_length (by rw [List.length_take]; omega)
                    have hT3 := hT.later hE
                    obtain ⟨v, hv⟩ : ∃ v, T[k] = v := ⟨_, rfl⟩
                    rw [hv] at hg hcs
                    have HG := Lib.hid hg
                    have HC := Lib.hid (fun (W : World) (h : Below wr.heap.size wr W) => show Rs 1 W A2 nt c2 (its T) ∧ W.cell? ⟨b3, o3 + i, none⟩ = some (.int .i64 y) from ⟨hr3.later (hE.trans (h.mono hE.size)), HAT.out W (hE.trans (h.mono hE.size))⟩)
                    clear hv hg
                    by_cases hvy : v = y
                    · have hq : (v == y) = true := by simp [hvy]
                      rw [if_pos hvy] at hcs
                      have HCS := Lib.hid hcs
                      clear hcs hvy
                      generalize (T.take k).count y = q0 at *
                      have w0 : IntKind.i64.wrap ((q0 : Int) + 1) = (q0 : Int) + 1 := IntWalk.i64_in _ (by omega)
                      go_upto_region 24 with (fail)
                      go_wp2
                      refine wp_relS 8 136 rfl (by kernel_rfl) (by kernel_rfl) ?_
                      apply Steps.one (MP.eq _) 1 rfl
                      · intro o ho FA x hO hD K hK
                        obtain rfl := Option.some.inj ho.symm
                        clear ho
                        have e9 := hO 9 (by kernel_rfl)
                        simp only [eval_tmp, List.getElem?_toArray, List.getElem?_cons_succ, List.getElem?_cons_zero, Option.getD_some] at e9
                        have ev9 := Lib.hid ((eval_tmp FA 9).trans e9)
                        clear hO hD
                        refine wanted_if rfl ?_
                        refine wp_ldA 27 (.tmp 9) rfl (tbC A2 nt c2) ev9.out (hT3.later (below_plus _ _ _)) (whole_ _) o1 o2 (szTb _ _ _) ?_
                        exact hK.out _ _ (Ex.refl _) rfl
                      apply Steps.one (MP.eq _) 2 rfl
                      · intro o ho FA x hO hD K hK
                        obtain rfl := Option.some.inj ho.symm
                        clear ho
                        have e17 := hO 17 (by kernel_rfl)
                        simp only [eval_tmp, List.getElem?_toArray, List.getElem?_cons_succ, List.getElem?_cons_zero, Option.getD_some] at e17
                        have ev17 := Lib.hid ((eval_tmp FA 17).trans e17)
                        clear hO hD
                        go_simp
                        exact hK.out _ _ (Ex.refl _) rfl
                      apply Steps.one (MP.eq (.int .i64 v)) 3 rfl
                      · intro o ho FA x hO hD K hK
                        obtain rfl := Option.some.inj ho.symm
                        clear ho
                        have ev107 : FA.eval (.tmp 107) = _ := hD 0 107 (by kernel_rfl)
                        have e107 := (eval_tmp FA 107).symm.trans ev107
                        replace ev107 := Lib.hid ev107
                        have ev108 : FA.eval (.tmp 108) = _ := hD 1 108 (by kernel_rfl)
                        have e108 := (eval_tmp FA 108).symm.trans ev108
                        replace ev108 := Lib.hid ev108
                        clear hO hD
                        go_simp
                        refine (at_tb T (k : Int) A2 nt c2 _ (HC.out _ (below_plus _ _ _)).1 (by omega) (by omega)).mono ?_
                        rintro e w1 ⟨bs9, d9, rfl, rfl⟩
                        exact hK.out _ _ (Ex.plus_ _ _ _) (congrArg (Value.int .i64) HG.out)
                      apply Steps.one (MP.eq _) 4 rfl
                      · intro o ho FA x hO hD K hK
                        obtain rfl := Option.some.inj ho.symm
                        clear ho
                        have e2 := hO 2 (by kernel_rfl)
                        simp only [eval_tmp, List.getElem?_toArray, List.getElem?_cons_succ, List.getElem?_cons_zero, Option.getD_some] at e2
                        have ev2 := Lib.hid ((eval_tmp FA 2).trans e2)
                        clear hO hD
                        go_simp
                        exact hK.out _ _ (Ex.refl _) rfl
                      apply Steps.one (MP.eq _) 5 rfl
                      · intro o ho FA x hO hD K hK
                        obtain rfl := Option.some.inj ho.symm
                        clear ho
                        have e15 := hO 15 (by kernel_rfl)
                        simp only [eval_tmp, List.getElem?_toArray, List.getElem?_cons_succ, List.getElem?_cons_zero, Option.getD_some] at e15
                        have ev15 := Lib.hid ((eval_tmp FA 15).trans e15)
                        clear hO hD
                        go_simp
                        exact hK.out _ _ (Ex.refl _) rfl
                      apply Steps.one (MP.eq _) 6 rfl
                      · intro o ho FA x hO hD K hK
                        obtain rfl := Option.some.inj ho.symm
                        clear ho
                        have ev110 : FA.eval (.tmp 110) = _ := hD 3 110 (by kernel_rfl)
                        have e110 := (eval_tmp FA 110).symm.trans ev110
                        replace ev110 := Lib.hid ev110
                        have ev111 : FA.eval (.tmp 111) = _ := hD 4 111 (by kernel_rfl)
                        have e111 := (eval_tmp FA 111).symm.trans ev111
                        replace ev111 := Lib.hid ev111
                        clear hO hD
                        go_simp
                        exact hK.out _ _ (Ex.refl _) rfl
                      apply Steps.one (MP.eq _) 7 rfl
                      · intro o ho FA x hO hD K hK
                        obtain rfl := Option.some.inj ho.symm
                        clear ho
                        have ev112 : FA.eval (.tmp 112) = _ := hD 5 112 (by kernel_rfl)
                        have e112 := (eval_tmp FA 112).symm.trans ev112
                        replace ev112 := Lib.hid ev112
                        clear hO hD
                        have q9 := (HC.out (plus wr x.bs x.d) (below_plus _ _ _)).2
                        go_simp
                        exact hK.out _ _ (Ex.refl _) rfl
                      apply Steps.one (MP.eq _) 8 rfl
                      · intro o ho FA x hO hD K hK
                        obtain rfl := Option.some.inj ho.symm
                        clear ho
                        have ev109 : FA.eval (.tmp 109) = _ := hD 2 109 (by kernel_rfl)
                        have e109 := (eval_tmp FA 109).symm.trans ev109
                        replace ev109 := Lib.hid ev109
                        have ev113 : FA.eval (.tmp 113) = _ := hD 6 113 (by kernel_rfl)
                        have e113 := (eval_tmp FA 113).symm.trans ev113
                        replace ev113 := Lib.hid ev113
                        clear hO hD
                        go_simp
                        exact hK.out _ _ (Ex.refl _) rfl
                      refine Steps.fin_ (fun vs x hp => ?_)
                      have p0 : vs 0 = _ := hp 0 (by omega)
                      have p1 : vs 1 = _ := hp 1 (by omega)
                      have p2 : vs 2 = _ := hp 2 (by omega)
                      have p3 : vs 3 = _ := hp 3 (by omega)
                      have p4 : vs 4 = _ := hp 4 (by omega)
                      have p5 : vs 5 = _ := hp 5 (by omega)
                      have p6 : vs 6 = _ := hp 6 (by omega)
                      have p7 : vs 7 = _ := hp 7 (by omega)
                      clear hp
                      simp only [List.take_succ_cons, List.take_zero, List.drop_succ_cons, List.drop_zero, putAll, Nat.zero_add, Nat.reduceAdd, Act.put, List.setIfInBounds_toArray, List.set_cons_zero, List.set_cons_succ, p0, p1, p2, p3, p4, p5, p6, p7]
                      clear p0 p1 p2 p3 p4 p5 p6 p7
                      clear vs
                      go_wp2
                      exact ⟨⟨k + 1, by rw [HCS.out]; rfl, by go_num, by omega, belowP hE _ _⟩, by simp [intOf]; omega⟩
                    · have hq : (v == y) = false := by simp [hvy]
                      rw [if_neg hvy] at hcs
                      have HCS := Lib.hid hcs
                      clear hcs hvy
                      generalize (T.take k).count y = q0 at *
                      go_upto_region 24 with (fail)
                      go_wp2
                      refine wp_relS 8 136 rfl (by kernel_rfl) (by kernel_rfl) ?_
                      apply Steps.one (MP.eq _) 1 rfl
                      · intro o ho FA x hO hD K hK
                        obtain rfl := Option.some.inj ho.symm
                        clear ho
                        have e9 := hO 9 (by kernel_rfl)
                        simp only [eval_tmp, List.getElem?_toArray, List.getElem?_cons_succ, List.getElem?_cons_zero, Option.getD_some] at e9
                        have ev9 := Lib.hid ((eval_tmp FA 9).trans e9)
                        clear hO hD
                        refine wanted_if rfl ?_
                        refine wp_ldA 27 (.tmp 9) rfl (tbC A2 nt c2) ev9.out (hT3.later (below_plus _ _ _)) (whole_ _) o1 o2 (szTb _ _ _) ?_
                        exact hK.out _ _ (Ex.refl _) rfl
                      apply Steps.one (MP.eq _) 2 rfl
                      · intro o ho FA x hO hD K hK
                        obtain rfl := Option.some.inj ho.symm
                        clear ho
                        have e17 := hO 17 (by kernel_rfl)
                        simp only [eval_tmp, List.getElem?_toArray, List.getElem?_cons_succ, List.getElem?_cons_zero, Option.getD_some] at e17
                        have ev17 := Lib.hid ((eval_tmp FA 17).trans e17)
                        clear hO hD
                        go_simp
                        exact hK.out _ _ (Ex.refl _) rfl
                      apply Steps.one (MP.eq (.int .i64 v)) 3 rfl
                      · intro o ho FA x hO hD K hK
                        obtain rfl := Option.some.inj ho.symm
                        clear ho
                        have ev107 : FA.eval (.tmp 107) = _ := hD 0 107 (by kernel_rfl)
                        have e107 := (eval_tmp FA 107).symm.trans ev107
                        replace ev107 := Lib.hid ev107
                        have ev108 : FA.eval (.tmp 108) = _ := hD 1 108 (by kernel_rfl)
                        have e108 := (eval_tmp FA 108).symm.trans ev108
                        replace ev108 := Lib.hid ev108
                        clear hO hD
                        go_simp
                        refine (at_tb T (k : Int) A2 nt c2 _ (HC.out _ (below_plus _ _ _)).1 (by omega) (by omega)).mono ?_
                        rintro e w1 ⟨bs9, d9, rfl, rfl⟩
                        exact hK.out _ _ (Ex.plus_ _ _ _) (congrArg (Value.int .i64) HG.out)
                      apply Steps.one (MP.eq _) 4 rfl
                      · intro o ho FA x hO hD K hK
                        obtain rfl := Option.some.inj ho.symm
                        clear ho
                        have e2 := hO 2 (by kernel_rfl)
                        simp only [eval_tmp, List.getElem?_toArray, List.getElem?_cons_succ, List.getElem?_cons_zero, Option.getD_some] at e2
                        have ev2 := Lib.hid ((eval_tmp FA 2).trans e2)
                        clear hO hD
                        go_simp
                        exact hK.out _ _ (Ex.refl _) rfl
                      apply Steps.one (MP.eq _) 5 rfl
                      · intro o ho FA x hO hD K hK
                        obtain rfl := Option.some.inj ho.symm
                        clear ho
                        have e15 := hO 15 (by kernel_rfl)
                        simp only [eval_tmp, List.getElem?_toArray, List.getElem?_cons_succ, List.getElem?_cons_zero, Option.getD_some] at e15
                        have ev15 := Lib.hid ((eval_tmp FA 15).trans e15)
                        clear hO hD
                        go_simp
                        exact hK.out _ _ (Ex.refl _) rfl
                      apply Steps.one (MP.eq _) 6 rfl
                      · intro o ho FA x hO hD K hK
                        obtain rfl := Option.some.inj ho.symm
                        clear ho
                        have ev110 : FA.eval (.tmp 110) = _ := hD 3 110 (by kernel_rfl)
                        have e110 := (eval_tmp FA 110).symm.trans ev110
                        replace ev110 := Lib.hid ev110
                        have ev111 : FA.eval (.tmp 111) = _ := hD 4 111 (by kernel_rfl)
                        have e111 := (eval_tmp FA 111).symm.trans ev111
                        replace ev111 := Lib.hid ev111
                        clear hO hD
                        go_simp
                        exact hK.out _ _ (Ex.refl _) rfl
                      apply Steps.one (MP.eq _) 7 rfl
                      · intro o ho FA x hO hD K hK
                        obtain rfl := Option.some.inj ho.symm
                        clear ho
                        have ev112 : FA.eval (.tmp 112) = _ := hD 5 112 (by kernel_rfl)
                        have e112 := (eval_tmp FA 112).symm.trans ev112
                        replace ev112 := Lib.hid ev112
                        clear hO hD
                        have q9 := (HC.out (plus wr x.bs x.d) (below_plus _ _ _)).2
                        go_simp
                        exact hK.out _ _ (Ex.refl _) rfl
                      apply Steps.one (MP.eq _) 8 rfl
                      · intro o ho FA x hO hD K hK
                        obtain rfl := Option.some.inj ho.symm
                        clear ho
                        have ev109 : FA.eval (.tmp 109) = _ := hD 2 109 (by kernel_rfl)
                        have e109 := (eval_tmp FA 109).symm.trans ev109
                        replace ev109 := Lib.hid ev109
                        have ev113 : FA.eval (.tmp 113) = _ := hD 6 113 (by kernel_rfl)
                        have e113 := (eval_tmp FA 113).symm.trans ev113
                        replace ev113 := Lib.hid ev113
                        clear hO hD
                        go_simp
                        exact hK.out _ _ (Ex.refl _) rfl
                      refine Steps.fin_ (fun vs x hp => ?_)
                      have p0 : vs 0 = _ := hp 0 (by omega)
                      have p1 : vs 1 = _ := hp 1 (by omega)
                      have p2 : vs 2 = _ := hp 2 (by omega)
                      have p3 : vs 3 = _ := hp 3 (by omega)
                      have p4 : vs 4 = _ := hp 4 (by omega)
                      have p5 : vs 5 = _ := hp 5 (by omega)
                      have p6 : vs 6 = _ := hp 6 (by omega)
                      have p7 : vs 7 = _ := hp 7 (by omega)
                      clear hp
                      simp only [List.take_succ_cons, List.take_zero, List.drop_succ_cons, List.drop_zero, putAll, Nat.zero_add, Nat.reduceAdd, Act.put, List.setIfInBounds_toArray, List.set_cons_zero, List.set_cons_succ, p0, p1, p2, p3, p4, p5, p6, p7]
                      clear p0 p1 p2 p3 p4 p5 p6 p7
                      clear vs
                      go_wp2
                      exact ⟨⟨k + 1, by rw [HCS.out]; rfl, by go_num, by omega, belowP hE _ _⟩, by simp [intOf]; omega⟩
                  · obtain rfl : nt = k := by omega
                    have ik : ¬ (nt : Int) < (nt : Int) := by omega
                    have e : T.take nt = T := List.take_of_length_le (by omega)
                    have hcl : T.count y ≤ nt := Nat.le_trans List.count_le_length (by omega)
                    have hlo := HLO2.out
                    have hhi := HHI2.out
                    rw [e]
                    clear e HLO2 HHI2
                    generalize T.count y = q0 at *
                    have t1 : Int.tdiv (nt : Int) (n : Int) = ((nt / n : Nat) : Int) := rfl
                    have t2 : (nt : Int) / (n : Int) = ((nt / n : Nat) : Int) := rfl
                    have wa : IntKind.i64.wrap ((nt : Int) + (n : Int)) = (nt : Int) + (n : Int) := IntWalk.i64_in _ (by omega)
                    have wb : IntKind.i64.wrap ((nt : Int) + (n : Int) - 1) = ((nt + n - 1 : Nat) : Int) := by rw [IntWalk.i64_in _ (by omega)]; omega
                    have eb : (nt : Int) + (n : Int) - 1 = ((nt + n - 1 : Nat) : Int) := by omega
                    have t3 : Int.tdiv ((nt + n - 1 : Nat) : Int) (n : Int) = (((nt + n - 1) / n : Nat) : Int) := rfl
                    have t4 : ((nt + n - 1 : Nat) : Int) / (n : Int) = (((nt + n - 1) / n : Nat) : Int) := rfl
                    have hd1 : nt / n ≤ nt := Nat.div_le_self _ _
                    have hd2 : (nt + n - 1) / n ≤ nt + n - 1 := Nat.div_le_self _ _
                    generalize (nt + n - 1) / n = z2 at *
                    generalize nt / n = z1 at *
                    have wc : IntKind.i64.wrap (z1 : Int) = (z1 : Int) := IntWalk.i64_in _ (by omega)
                    have wd : IntKind.i64.wrap (z2 : Int) = (z2 : Int) := IntWalk.i64_in _ (by omega)
                    have j1 : ¬ (q0 : Int) < (z1 : Int) := by omega
                    have j2 : ¬ (z2 : Int) < (q0 : Int) := by omega
                    have we : IntKind.i64.wrap ((nt + n - 1 : Nat) : Int) = ((nt + n - 1 : Nat) : Int) := IntWalk.i64_in _ (by omega)
                    generalize nt + n - 1 = z3 at *
                    go_wp2
                    exact ⟨⟨i + 1, by go_num, by omega, hE⟩, by simp [intOf]; omega⟩
              · obtain rfl : n = i := by omega
                have ii : ¬ (n : Int) < (n : Int) := by omega
                have hTab9 := hTab8.later hE
                go_wp2_with (go_at_call 5; refine (awake42 _ hTab9).mono ?_; rintro e w1 ⟨bs3, d3, rfl, rfl⟩)
                go_ret
                exact RetV.mk (belowP (HE.out.trans (hE.mono HE.out.size)) bs3 d3)
          · go_upto_region 18 with (fail)
            have HE := Lib.hid be
            clear be
            go_loopw [15, 16, 17] (fun I A16 A17 wr => I = .int .i64 0 ∧ Below W8.heap.size W8 wr) (fun _ _ _ _ => 0)
            case atStart => exact ⟨rfl, Below.refl _ _⟩
            case round =>
              obtain ⟨rfl, hE⟩ := hrel
              have hTab9 := hTab8.later hE
              by_cases hlt : 0 < n
              · have ii : (0 : Int) < (n : Int) := by omega
                go_wp2_with (go_at_call 5; refine (awake42 _ hTab9).mono ?_; rintro e w1 ⟨bs3, d3, rfl, rfl⟩)
                go_ret
                exact RetV.mk (belowP (HE.out.trans (hE.mono HE.out.size)) bs3 d3)
              · have ii : ¬ (0 : Int) < (n : Int) := by omega
                go_wp2_with (go_at_call 5; refine (awake42 _ hTab9).mono ?_; rintro e w1 ⟨bs3, d3, rfl, rfl⟩)
                go_ret
                exact RetV.mk (belowP (HE.out.trans (hE.mono HE.out.size)) bs3 d3)
end Go.Proofs.YtknoenceccpkhaaDoor

/- From a walk to a tied row; the library's table as the row lays it; rows of ints that came in (chapter 42). -/
namespace Go.Proofs.YtknoenceccpkhaaDoor
open Go.ChangeShapes Go.WideShapes Go.ChangeAt Go.RowKit
set_option linter.unusedVariables false

theorem liftL {C : Checked} {os : Go.Os} {f : FuncId} {fn : Func} {s : ChangeSpec} {H : Type} {enc : TypeId × Value → H} {tb : TypeId} {X : World → Prop} (n : Nat) (hX : ∀ w w' : World, w.heap = w'.heap → X w → X w')
    (own : ownKnob C.prog.godebug = none) (started : os.Started) (noInit : C.prog.inits.idxOf? f = none) (hfn : C.prog.funcs[f]? = some fn)
    (witness : ∃ (w : World) (tape : Tape) (i : Input), w.os = os ∧ (w.forCall tape i).Shaped C.prog ∧ i.vars = [] ∧ Input.okWide C.prog (w.forCall tape i) .any w.heap.size f i ∧
      ((s.pre enc C.prog fn [] false (w.forCall tape i).memory i.args ∧ X (w.forCall tape i).memory) ∧ sizedMet enc C.prog fn (OpenSpec.ofChange s) false (w.forCall tape i).memory i.args) ∧ ({} : Assume).holds C.prog (lone (Frame.enter C.prog f i.args .normal) [] (w.forCall tape i)))
    (hl : laidOutB C.prog = true) (hrd : (fn.params.toList.all fun t => C.prog.readableRec t && decide (t < C.prog.types.size)) = true)
    (htb : C.prog.underlying tb = some .bool) (hres : fn.resultTypes = #[tb]) (hn : fn.params.toList.length = n) (hvars : s.vars = [])
    (hspec : ∀ ds : List (DataW H), ds.length = n → (s.fn H ds).results = [.lit (.bool true)] ∧ (s.fn H ds).args = ds ∧ (s.fn H ds).vars = [])
    (walk : ∀ (W : World) (base : Nat) (args : Array Value) (ds : List (DataW H)) (ps : List MemPlace),
      (∀ (j : Nat) t v, fn.params[j]? = some t → args[j]? = some v → Value.okWide C.prog W .any base t v) →
      DataW.TrodAll enc C.prog W 0 (fun _ => true) true fn.params.toList args.toList ds ps → X W →
      Calls C.prog f args W fun e W' => e = .returned (.bool true) ∧ Below W.heap.size W W') :
    ReturnsInHanded {} C os f .any (fun w args => (s.pre enc C.prog fn [] false w args ∧ X w) ∧ sizedMet enc C.prog fn (OpenSpec.ofChange s) false w args) (s.post enc C.prog fn false true false false) := by
  refine returnsInHanded_of_change_and (C := C) (X := fun w _ => X w) (fun w w' _ hh h => hX w w' hh h) own started noInit hfn witness ?_
  intro W base args ds gs before hval hW _ _ hXW _
  have hW' := hW
  obtain ⟨p, q, hA, hV, rfl, _, _⟩ := hW
  rw [hvars] at hV
  obtain ⟨rfl, rfl⟩ := trodVars_none hV
  have hlen : ds.length = n := by
    have aux : ∀ {ts : List TypeId} {vs : List Value} {ds : List (DataW H)} {ps : List MemPlace}, DataW.TrodAll enc C.prog W 0 (fun _ => true) true ts vs ds ps → ds.length = ts.length := by
      intro ts
      induction ts with
      | nil => intro vs ds ps h; obtain ⟨_, rfl, _⟩ := trodAll_nil h; rfl
      | cons t ts ih =>
        intro vs ds ps h
        obtain ⟨v, vs', d, ds', p, q, rfl, rfl, rfl, _, hs⟩ := trodAll_cons h
        simp [ih hs]
    rw [aux hA, hn]
  obtain ⟨r1, r2, r3⟩ := hspec ds hlen
  refine (walk W base args ds p hval hA hXW).mono fun e W' ⟨he, bel⟩ => ?_
  subst he
  refine ⟨_, rfl, ds, [], p ++ [], [], p, [], hW', ?_, ?_, ?_, bel.frame _, fun h => by cases h⟩
  · simp only [List.append_nil, r1, hres]
    exact trodAll_mk1 (shut_bool htb _)
  · simp only [List.append_nil, r2]
    exact trodAll_below hl bel hrd hA
  · simp only [List.append_nil, r3, hvars]
    rfl

/-- what the row lays -/
def laidTab : List (String × DataW Unit) := [("math/bits.deBruijn64tab", Rows.laid_math_bits_deBruijn64tab)]
theorem gTab : Tryd.prog.globalNamed "math/bits.deBruijn64tab" = some 0 := by kernel_rfl
theorem tTab : (Tryd.prog.globals[0]?).map (·.type) = some 75 := by kernel_rfl
theorem laid_list : (Rows.laid_math_bits_deBruijn64tab : DataW Unit) = .agg (deB.map fun b => .lit (.int .u8 (b.toNat : Int))) := by rfl
theorem of_laid {W : World} (h : laidMetH Tryd.prog laidTab W) : TabB W := by
  rw [MakeChecks.laidMetH_plain _ _ _ (by kernel_rfl)] at h
  obtain ⟨ps, ⟨g0, t0, cs0, f0, p0, q0, hg0, ht0, hv0, hd0, _, _⟩, _, hcell⟩ := h
  obtain rfl := Option.some.inj (gTab.symm.trans hg0)
  obtain rfl := Option.some.inj (tTab.symm.trans ht0)
  obtain ⟨xs, m1, rfl, hx1, hlen, hn3, hel⟩ := DataW.trod_array Tryd.underlying75 hd0
  have c1 : Tryd.prog.cellsOf 5 = 1 := by kernel_rfl
  have c64 : Tryd.prog.cellsOf 75 = 64 := by kernel_rfl
  rw [laid_list] at hx1
  have hx2 : (deB.map fun b => DataW.lit (Lit.int .u8 (b.toNat : Int))) = xs.map (·.1) := by
    have := congrArg Prod.fst hx1
    simpa using this
  have hc : ∀ j, j < 64 → W.cell? ⟨0, j, none⟩ = (bcs deB)[j]? := by
    intro j hj
    have h0 := hel j hj
    rw [c1, Nat.mul_one] at h0
    have hxj : xs[j]? = some (xs[j]'(by omega)) := List.getElem?_eq_getElem (by omega)
    rw [hxj] at h0
    obtain ⟨k, e1, e2, _⟩ := DataW.trod_int Tryd.underlying5 h0
    have hjc : j < cs0.toList.length := by rw [hlen, c64]; exact hj
    simp only [List.drop_eq_getElem_cons hjc, List.take_succ_cons, List.take_zero, List.cons.injEq, and_true] at e1
    rw [World.var?_cell hg0 hv0 j]
    have hja : j < cs0.size := by simpa using hjc
    rw [Array.getElem?_eq_getElem hja]
    have e3 : cs0[j] = .int .u8 k := by rw [← e1]; simp
    rw [e3, bcs_get deB j (by rw [deB_len]; exact hj)]
    have h4 := congrArg (fun L : List (DataW Unit) => L[j]?) hx2
    simp only [List.getElem?_map] at h4
    rw [hxj, List.getElem?_eq_getElem (show j < deB.length by rw [deB_len]; exact hj)] at h4
    simp only [Option.map_some, Option.some.injEq] at h4
    rw [e2] at h4
    simp only [DataW.lit.injEq, Lit.int.injEq, true_and] at h4
    rw [← h4]
  have hlt : 0 < W.heap.size := by
    have h1 := hc 0 (by decide)
    exact lt_of_cell (a := ⟨0, 0, none⟩) (h1.trans (bcs_get deB 0 (by decide)))
  refine ⟨deB_len, Nat.le_refl _, .inr ⟨0, 0, rfl, hlt, fun i u hu => ?_⟩⟩
  rw [Nat.zero_add]
  have hi : i < 64 := by
    rcases Nat.lt_or_ge i 64 with h' | h'
    · exact h'
    · rw [List.getElem?_eq_none (by rw [bcs_length, deB_len]; exact h')] at hu
      cases hu
  exact (hc i hi).trans hu
theorem door_met (os : Go.Os) (args : Array Value) : laidMetH Tryd.prog laidTab ((World.doorLaid Tryd.prog 2000 os).forCall (fun _ _ => 0) ⟨#[], args, []⟩).memory :=
  laidMetH_of_parts3 (fuel := 8) (laidMet_of_run' 8 (by kernel_rfl) (by kernel_rfl)) (by kernel_rfl) (by kernel_rfl)

/-- a slice of ints that came in -/
theorem open_its {H : Type} {enc : TypeId × Value → H} {W : World} {base : Nat} {v : Value} {d : DataW H} {p : List MemPlace}
    (hv : Value.okWide Tryd.prog W .any base 23 v) (h : DataW.Trod enc Tryd.prog W 0 (fun _ => true) true 23 v d p) :
    ∃ A n c, ∃ l : List Int, v = .slice A n c ∧ Rs 1 W A n c (its l) ∧ c ≤ maxLen := by
  obtain ⟨a0, len, cap, rfl⟩ := okWide_slice Tryd.underlying23 hv
  obtain ⟨fuel, hf⟩ := h
  rcases open_ints Tryd.underlying23 Tryd.underlying3 (by kernel_rfl) hf with ⟨hcs, _⟩ | ⟨x, l', c', zs, hcs, _, hl, hm, hz, _, hcell, hwz⟩
  · simp [Value.cells] at hcs
    obtain ⟨rfl, rfl, rfl⟩ := hcs
    exact ⟨none, 0, 0, [], rfl, Rs.nil_, by simp⟩
  · simp [Value.cells] at hcs
    obtain ⟨rfl, rfl, rfl⟩ := hcs
    have hz' : zs.length = cap := by simpa using hz
    refine ⟨some x, len, cap, zs.take len, rfl, ⟨by rw [its_len, List.length_take]; omega, hl, ?_⟩, hm⟩
    rcases Nat.eq_zero_or_pos len with h0 | h0
    · exact .inl (by simp [h0, its])
    · have hc0 := hcell 0 (by omega)
      obtain ⟨b, off, spot⟩ := x
      have hspot : spot = none := by simpa [Addr.add] using World.cell?_spot hc0
      subst hspot
      refine .inr ⟨b, off, rfl, lt_of_cell hc0, fun i u hu => ?_⟩
      have hi : i < len := by
        rcases Nat.lt_or_ge i len with h' | h'
        · exact h'
        · rw [List.getElem?_eq_none (by rw [its_len, List.length_take]; omega)] at hu
          cases hu
      have hzi : i < zs.length := by omega
      have hcl := hcell i hzi
      rw [add_plain] at hcl
      rw [hcl, ← hu]
      rw [its_at _ _ (by rw [List.length_take]; omega)]
      simp [List.getD, hzi]
theorem maglevEven_row (W : World) (key : List UInt8) (hk : K16 key) (s : Int) (hs : -9223372036854775808 ≤ s ∧ s ≤ 9223372036854775807) (A : Option Addr) (n c : Nat) (l : List Int) (hl : Rs 1 W A n c (its l)) (hc : c ≤ maxLen) (A1 : Option Addr) (n1 c1 : Nat) (m : List Int) (hm : Rs 1 W A1 n1 c1 (its m)) (hc1 : c1 ≤ maxLen) (hT : TabB W) :
    Calls Tryd.prog 4 #[.agg (bcs key).toArray, .int .i64 s, .slice A n c, .slice A1 n1 c1] W fun e W' => e = .returned (.bool true) ∧ Below W.heap.size W W' := by
  have e : maxLen ≤ 9223372036854775807 := by decide
  refine (maglevEven_walk key hk s hs.1 hs.2 l A n c m A1 n1 c1 W hl hm (by have := hl.2.1; omega) (by have := hm.2.1; omega) hT).mono ?_
  rintro e w' ⟨bs, dd, rfl, rfl⟩
  exact ⟨rfl, below_plus _ _ _⟩
end Go.Proofs.YtknoenceccpkhaaDoor

