/- Texts of the law CodecGoes, part 2. -/
import Derived.Test.YtclhfbbajeoanaaDoorZCodecGoes1
/- A table's and a stack's cells; small functions (chapters 14, 15). -/
namespace Go.Proofs.YtclhfbbajeoanaaDoor
open Go.RowKit
set_option linter.unusedVariables false
set_option linter.unusedSimpArgs false
attribute [local go_sem ↓] sliced_cut

attribute [local go_sem] cutA_zero

def slC (x : Nat × Bool) : List Value := [.int .u8 (x.1 : Int), .bool x.2]
theorem slC_len (x : Nat × Bool) : (slC x).length = 2 := rfl
theorem slC_one (x : Nat × Bool) : ∀ u ∈ slC x, u.oneCell' = true := by simp [slC, Value.oneCell']
/-- the slots of a table, and nobody's behind them -/
def slots (t : Tab) : List (Nat × Bool) := (t ++ List.replicate (64 - t.length) (0, false)).take 64
theorem slots_len0 (t : Tab) : (slots t).length = 64 := by simp [slots]; omega
theorem slots_len (t : Tab) (h : t.length ≤ 64) : (slots t).length = 64 := slots_len0 t
theorem slots_at (t : Tab) (i : Nat) (h : i < t.length) (h64 : i < 64) : (slots t)[i]? = some t[i] := by simp [slots, List.getElem?_take, h64, List.getElem?_append_left h]
def tabC (t : Tab) : List Value := .int .i64 (t.length : Int) :: (slots t).flatMap slC
theorem tabC_len0 (t : Tab) : (tabC t).length = 129 := by
  simp only [tabC, List.length_cons, flat_len slC 2 slC_len, slots_len0 t]
theorem tabC_len (t : Tab) (h : t.length ≤ 64) : (tabC t).length = 129 := by
  simp only [tabC, List.length_cons, flat_len slC 2 slC_len, slots_len t h]
theorem tabC_one (t : Tab) : ∀ u ∈ tabC t, u.oneCell' = true := by
  intro u hu
  rcases List.mem_cons.1 hu with rfl | hu
  · rfl
  · exact flat_one slC slC_one _ u hu
theorem szTab (t : Tab) (h : t.length ≤ 64) : (Tryd.prog.info? 78).map (·.size) = some (tabC t).length := by rw [tabC_len t h]; kernel_rfl
theorem rowTab : ∃ d, Tryd.prog.underlying 78 = some d ∧ d.isRow = true := ⟨_, Tryd.underlying78, rfl⟩
theorem tabC_own (t : Tab) (i : Nat) (h : i < t.length) (h64 : i < 64) : (tabC t)[1 + i * 2]? = some (.int .u8 (t[i].1 : Int)) := by
  have hs : i < (slots t).length := by rw [slots_len0]; exact h64
  have e : (slots t)[i] = t[i] := by have := slots_at t i h h64; rw [List.getElem?_eq_getElem hs] at this; injection this
  have := flat_at slC 2 slC_len (slots t) i hs 0 (.int .u8 (t[i].1 : Int)) (by rw [e]; rfl)
  rw [tabC, Nat.add_comm, List.getElem?_cons_succ]
  exact this
theorem tabC_away (t : Tab) (i : Nat) (h : i < t.length) (h64 : i < 64) : (tabC t)[1 + i * 2 + 1]? = some (.bool t[i].2) := by
  have hs : i < (slots t).length := by rw [slots_len0]; exact h64
  have e : (slots t)[i] = t[i] := by have := slots_at t i h h64; rw [List.getElem?_eq_getElem hs] at this; injection this
  have := flat_at slC 2 slC_len (slots t) i hs 1 (.bool t[i].2) (by rw [e]; rfl)
  rw [tabC, show 1 + i * 2 + 1 = (i * 2 + 1) + 1 by omega, List.getElem?_cons_succ]
  exact this
/-- where a number stands; -1: nowhere -/
def fdT (t : Tab) (n : Int) : Int := if idxT t n < t.length then (idxT t n : Int) else -1
theorem idxT_pred (t : Tab) (n : Int) (h : idxT t n < t.length) : (t[idxT t n].1 : Int) = n := by
  have := List.findIdx_getElem (p := fun s : Nat × Bool => ((s.1 : Int) == n)) (xs := t) (w := h)
  have h2 : ((t[idxT t n].1 : Int) == n) = true := this
  simpa using h2
theorem idxT_step (t : Tab) (n : Int) (i : Nat) (hi : i ≤ idxT t n) (h : i < t.length) : ((t[i].1 : Int) = n → idxT t n = i) ∧ (¬ (t[i].1 : Int) = n → i + 1 ≤ idxT t n) := by
  constructor
  · intro he
    rcases Nat.lt_or_ge i (idxT t n) with h1 | h1
    · have := List.not_of_lt_findIdx h1
      simp [he] at this
    · omega
  · intro he
    rcases Nat.lt_or_ge i (idxT t n) with h1 | h1
    · exact h1
    · have e : idxT t n = i := by omega
      have := idxT_pred t n (by omega)
      simp only [e] at this
      exact absurd this he
theorem number_any (n : Int) (w : World) : Calls Tryd.prog 108 #[.int .i64 n] w fun e w' => e = .returned (.bool (numB n)) ∧ w = w' := by
  unfold numB
  by_cases h1 : 1 ≤ n
  · by_cases h2 : n ≤ 64
    · have d1 : decide (1 ≤ n) = true := decide_eq_true h1
      have d2 : decide (n ≤ 64) = true := decide_eq_true h2
      rw [d1, d2]
      go_enter Tryd.func108, Tryd.ntmps108
      go_wp2
      go_ret
      simp
    · have d1 : decide (1 ≤ n) = true := decide_eq_true h1
      have d2 : decide (n ≤ 64) = false := decide_eq_false h2
      rw [d1, d2]
      go_enter Tryd.func108, Tryd.ntmps108
      go_wp2
      go_ret
      simp
  · have d1 : decide (1 ≤ n) = false := decide_eq_false h1
    rw [d1]
    go_enter Tryd.func108, Tryd.ntmps108
    go_wp2
    go_ret
    simp
set_option maxHeartbeats 4000000 in
set_option maxRecDepth 100000 in
theorem find_any (t : Tab) (hok : TabOk t) (n : Int) (w : World) : Calls Tryd.prog 109 #[.agg (tabC t).toArray, .int .i64 n] w (RetV w (.int .i64 (fdT t n))) := by
  have ht := hok.len
  obtain ⟨dvt1, vt1, vt2⟩ := rowTab
  have b1 : Bk (w.alloc (.cells (tabC t).toArray 78)) w.heap.size 78 (tabC t) := Bk.new w 78 (tabC t).toArray
  have be : Below w.heap.size w (w.alloc (.cells (tabC t).toArray 78)) := Below.allocS (Below.refl _ _) _
  have zV : w.heap.size + 1 ≤ (w.alloc (.cells (tabC t).toArray 78)).heap.size := by simp
  go_enter Tryd.func109, Tryd.ntmps109
  go_upto_region 1 with (fail)
  generalize w.alloc (.cells (tabC t).toArray 78) = V at *
  have q0 : V.cell? ⟨w.heap.size, 0, none⟩ = some (.int .i64 (t.length : Int)) := b1.cell 0
  go_upto_region 2 with (fail)
  have hle : idxT t n ≤ t.length := List.findIdx_le_length
  go_loop [8] (fun I => ∃ i : Nat, I = .int .i64 (i : Int) ∧ i ≤ idxT t n) (fun I => t.length - (intOf I).toNat)
  case atStart => exact ⟨0, rfl, Nat.zero_le _⟩
  case round =>
    obtain ⟨i, rfl, hi⟩ := hrel
    by_cases hlt : i < t.length
    · have q1 : V.cell? ⟨w.heap.size, 1 + i * 2, none⟩ = some (.int .u8 (t[i].1 : Int)) := (b1.cell _).trans (tabC_own t i hlt (by omega))
      have ii : (i : Int) < (t.length : Int) := by omega
      have i64 : (i : Int) < 64 := by omega
      have hst := idxT_step t n i hi hlt
      have hsr := (hok.rg t[i] (List.getElem_mem hlt)).2
      generalize t[i] = s at *
      have hw : IntKind.i64.wrap (s.1 : Int) = (s.1 : Int) := IntWalk.i64_in _ (by omega)
      by_cases hs : (s.1 : Int) = n
      · obtain ⟨he, -⟩ := hst
        have hii := he hs
        subst hs
        have hif := Lib.hid (show fdT t (s.1 : Int) = (i : Int) by unfold fdT; rw [hii, if_pos hlt])
        clear he hii hle hi
        go_wp2
        go_ret
        exact RetV.is_ (by rw [hif.out]; rfl) be
      · obtain ⟨-, he⟩ := hst
        have hii := he hs
        have hsb : ((s.1 : Int) == n) = false := by simpa using hs
        clear he
        go_wp2
        exact ⟨⟨i + 1, by go_num, hii⟩, by simp [intOf]; omega⟩
    · have hif := Lib.hid (show fdT t n = -1 from if_neg (by omega))
      have ii : ¬ (i : Int) < (t.length : Int) := by omega
      clear hle hi
      go_wp2
      go_ret
      exact RetV.is_ (by rw [hif.out]; rfl) be
theorem szSl (x : Nat × Bool) : (Tryd.prog.info? 75).map (·.size) = some (slC x).length := by kernel_rfl
theorem rowSl : ∃ d, Tryd.prog.underlying 75 = some d ∧ d.isRow = true := ⟨_, Tryd.underlying75, rfl⟩
theorem tabC_part (t : Tab) (i : Nat) (h : i < t.length) (h64 : i < 64) : ((tabC t).drop (1 + i * 2)).take (slC t[i]).length = slC t[i] := by
  have h1 := tabC_own t i h h64
  have h2 := tabC_away t i h h64
  have hl := (List.getElem?_eq_some_iff.1 h2).1
  have e1 := (List.getElem?_eq_some_iff.1 h1).2
  have e2 := (List.getElem?_eq_some_iff.1 h2).2
  rw [List.drop_eq_getElem_cons (by omega), e1, List.drop_eq_getElem_cons (by omega), e2]
  rfl
end Go.Proofs.YtclhfbbajeoanaaDoor

/- table.Next (chapter 14). -/
namespace Go.Proofs.YtclhfbbajeoanaaDoor
open Go.RowKit
set_option linter.unusedVariables false
set_option linter.unusedSimpArgs false
attribute [local go_sem ↓] sliced_cut

attribute [local go_sem] cutA_zero

/-- the cells of ints -/
def itK (l : List Int) : List Value := l.map (Value.int .i64)
theorem itK_len (l : List Int) : (itK l).length = l.length := by simp [itK]
theorem itK_at (l : List Int) (i : Nat) (h : i < l.length) : (itK l)[i]? = some (.int .i64 l[i]) := by simp [itK, h]
theorem itK_append (a b : List Int) : itK (a ++ b) = itK a ++ itK b := by simp [itK]
theorem Rs.int_ {w : World} {A : Option Addr} {n c : Nat} {l : List Int} (h : Rs 1 w A n c (itK l)) (i : Nat) (hi : i < l.length) : ∃ b o, A = some ⟨b, o, none⟩ ∧ w.cell? ⟨b, o + i, none⟩ = some (.int .i64 l[i]) := by
  obtain ⟨b, o, hA, _, hc⟩ := h.at_ (by have := h.1; rw [itK_len] at this; omega) (by decide)
  exact ⟨b, o, hA, hc i _ (itK_at l i hi)⟩
/-- a cell of an element, set -/
theorem flat_set {X : Type} (enc : X → List Value) (s : Nat) (hs : ∀ x, (enc x).length = s) : ∀ (L : List X) (j : Nat) (hj : j < L.length) (x : X) (k : Nat) (u : Value), k < s → (enc L[j]).set k u = enc x → (L.flatMap enc).set (j * s + k) u = (L.set j x).flatMap enc
  | y :: t, 0, _, x, k, u, hk, h => by
    simp only [List.getElem_cons_zero] at h
    simp only [List.flatMap_cons, Nat.zero_mul, Nat.zero_add, List.set_cons_zero, ← h]
    rw [List.set_append_left _ _ (by rw [hs]; exact hk)]
  | y :: t, j + 1, hj, x, k, u, hk, h => by
    have ih := flat_set enc s hs t j (by simpa using hj) x k u hk (by simpa using h)
    simp only [List.flatMap_cons, List.set_cons_succ]
    rw [List.set_append_right _ _ (by rw [hs, Nat.add_mul]; omega), hs, show (j + 1) * s + k - s = j * s + k by rw [Nat.add_mul]; omega, ih]
theorem flat_splice {X : Type} (enc : X → List Value) (s : Nat) (hs : ∀ x, (enc x).length = s) (L : List X) (j : Nat) (hj : j < L.length) (x : X) : splice (L.flatMap enc) (j * s) (enc x) = (L.set j x).flatMap enc := by
  have e : L.set j x = L.take j ++ x :: L.drop (j + 1) := List.set_eq_take_append_cons_drop .. |>.trans (if_pos hj)
  unfold splice
  rw [e, List.flatMap_append, List.flatMap_cons, flat_take enc s hs, hs, show j * s + s = (j + 1) * s by rw [Nat.add_mul]; omega, flat_drop enc s hs]
theorem splice_cons (v : Value) (L new : List Value) (o : Nat) : splice (v :: L) (1 + o) new = v :: splice L o new := by
  unfold splice
  rw [Nat.add_comm 1 o, show o + 1 + new.length = (o + new.length) + 1 by omega]
  simp
theorem slots_set (t : Tab) (i : Nat) (h : i < t.length) (s : Nat × Bool) : slots (t.set i s) = (slots t).set i s := by
  unfold slots
  rw [List.length_set, ← List.set_append_left _ _ h, List.take_set]
theorem slots_snoc (t : Tab) (h : t.length < 64) (s : Nat × Bool) : slots (t ++ [s]) = (slots t).set t.length s := by
  unfold slots
  rw [← List.take_set, List.set_append_right _ _ (Nat.le_refl _), Nat.sub_self, List.append_assoc, List.length_append]
  congr 2
  rw [show 64 - t.length = (64 - (t.length + [s].length)) + 1 by simp; omega, List.replicate_succ]
  rfl
theorem tabC_setAway (t : Tab) (i : Nat) (h : i < t.length) (h64 : i < 64) : (tabC t).set (1 + i * 2 + 1) (.bool true) = tabC (t.set i (t[i].1, true)) := by
  have hs : i < (slots t).length := by rw [slots_len0]; exact h64
  have e : (slots t)[i] = t[i] := by have := slots_at t i h h64; rw [List.getElem?_eq_getElem hs] at this; injection this
  unfold tabC
  rw [show 1 + i * 2 + 1 = (i * 2 + 1) + 1 by omega, List.set_cons_succ, slots_set t i h, List.length_set,
    flat_set slC 2 slC_len (slots t) i hs (t[i].1, true) 1 (.bool true) (by decide) (by rw [e]; rfl)]
theorem tabC_setSlot (t : Tab) (i : Nat) (h : i < t.length) (h64 : i < 64) (s : Nat × Bool) : splice (tabC t) (1 + i * 2) (slC s) = tabC (t.set i s) := by
  have hs : i < (slots t).length := by rw [slots_len0]; exact h64
  unfold tabC
  rw [splice_cons, flat_splice slC 2 slC_len _ _ hs, slots_set t i h, List.length_set]
theorem tabC_snoc (t : Tab) (h : t.length < 64) (s : Nat × Bool) : splice ((tabC t).set 0 (.int .i64 ((t.length : Int) + 1))) (1 + t.length * 2) (slC s) = tabC (t ++ [s]) := by
  have hs : t.length < (slots t).length := by rw [slots_len0]; exact h
  unfold tabC
  rw [List.set_cons_zero, splice_cons, flat_splice slC 2 slC_len _ _ hs, slots_snoc t h]
  simp
/-- the first i slots away -/
def awI (t : Tab) (i : Nat) : Tab := awayT (t.take i) ++ t.drop i
theorem awI_len (t : Tab) (i : Nat) : (awI t i).length = t.length := by simp [awI, awayT]; omega
theorem awI_succ (t : Tab) (i : Nat) (h : i < t.length) : (awI t i).set i (((awI t i)[i]'(by rw [awI_len]; exact h)).1, true) = awI t (i + 1) := by
  have hl : (awayT (t.take i)).length = i := by simp [awayT]; omega
  have e : (awI t i)[i]'(by rw [awI_len]; exact h) = t[i] := by
    simp only [awI]
    rw [List.getElem_append_right (by omega)]
    simp [hl]
  rw [e]
  unfold awI
  rw [List.set_append_right _ _ (by omega), hl, Nat.sub_self, List.drop_eq_getElem_cons h, List.set_cons_zero, List.take_succ_eq_append_getElem h]
  simp only [awayT, List.map_append, List.map_cons, List.map_nil, List.append_assoc, List.cons_append, List.nil_append]
theorem awI_all (t : Tab) : awI t t.length = awayT t := by simp [awI]
set_option maxHeartbeats 4000000 in
set_option maxRecDepth 100000 in
theorem tabNext_any (t : Tab) (hok : TabOk t) (l : List Int) (A : Option Addr) (n c : Nat) (w : World) (hr : Rs 1 w A n c (itK l)) (hn : n ≤ 1000000) : Calls Tryd.prog 87 #[.agg (tabC t).toArray, .slice A n c] w (RetV w (.agg (tabC (tNext t l)).toArray)) := by
  have ht := hok.len
  have hln : l.length = n := by have := hr.1; rw [itK_len] at this; omega
  obtain ⟨dvt1, vt1, vt2⟩ := rowTab
  have b1 : Bk ((w.alloc (.cells (tabC t).toArray 78)).alloc (.cells (tabC []).toArray 78)) w.heap.size 78 (tabC t) := (Bk.new w 78 (tabC t).toArray).alloc _
  have b2 : Bk ((w.alloc (.cells (tabC t).toArray 78)).alloc (.cells (tabC []).toArray 78)) (w.heap.size + 1) 78 (tabC []) := Bk.newK _ _ _ (by simp) rfl
  have be : Below w.heap.size w ((w.alloc (.cells (tabC t).toArray 78)).alloc (.cells (tabC []).toArray 78)) := Below.allocS (Below.allocS (Below.refl _ _) _) _
  have zV : w.heap.size + 2 ≤ ((w.alloc (.cells (tabC t).toArray 78)).alloc (.cells (tabC []).toArray 78)).heap.size := by simp
  have hzv : ∀ w, (zeroValue 78).run Tryd.prog w = .ok (.agg (tabC []).toArray) w := fun _ => by kernel_rfl
  go_enter Tryd.func87, Tryd.ntmps87
  go_upto_region 1 with (fail)
  generalize (w.alloc (.cells (tabC t).toArray 78)).alloc (.cells (tabC []).toArray 78) = V at *
  have q0 : V.cell? ⟨w.heap.size, 0, none⟩ = some (.int .i64 (t.length : Int)) := b1.cell 0
  go_upto_region 2 with (fail)
  clear q0 hzv
  have hb0 : Bk V w.heap.size 78 (tabC (awI t 0)) := by rw [show awI t 0 = t by simp [awI, awayT]]; exact b1
  go_loopw [11] (fun I wr => ∃ i : Nat, I = .int .i64 (i : Int) ∧ i ≤ t.length ∧ Bk wr w.heap.size 78 (tabC (awI t i)) ∧ Bk wr (w.heap.size + 1) 78 (tabC []) ∧ Below w.heap.size w wr) (fun I _ => t.length - (intOf I).toNat)
  case atStart => exact ⟨0, rfl, Nat.zero_le _, hb0, b2, be⟩
  case round =>
    clear b1 b2 be hb0 zV
    obtain ⟨i, rfl, hi, b1, b2, be⟩ := hrel
    have zV := b2.lt
    by_cases hlt : i < t.length
    · have ii : (i : Int) < (t.length : Int) := by omega
      have i64 : (i : Int) < 64 := by omega
      have hal : (awI t i).length ≤ 64 := by rw [awI_len]; exact ht
      have hset := tabC_setAway (awI t i) i (by rw [awI_len]; exact hlt) (by omega)
      rw [awI_succ t i hlt] at hset
      go_upto_region 4 with (fail)
      refine wp_region_lit ?_
      iterate 4 (refine wpList_plain rfl (fun K hK => ?_); go_simp; with_reducible refine hK _ _ ?_; clear hK K)
      refine wpList_st1 4 (.tmp 17) (.const (.bool true)) rfl rfl rfl rfl b1 (by rw [tabC_len _ hal]; omega) rfl (by kernel_rfl) ?_
      intro W5 h5 g5
      simp only [Act.put, List.setIfInBounds_toArray, List.set_cons_zero, List.set_cons_succ]
      have b2' := b2.grown g5 (fun e => by injection e with e; omega)
      have be' := below_grown be g5 (Nat.le_refl _)
      have h5' : Bk W5 w.heap.size 78 (tabC (awI t (i + 1))) := by rw [← hset]; exact h5
      clear h5 g5 b1 b2 be hset
      go_wp2
      exact ⟨⟨i + 1, by go_num, by omega, h5', b2', be'⟩, by simp [intOf]; omega⟩
    · obtain rfl : i = t.length := by omega
      have ii : ¬ (t.length : Int) < (t.length : Int) := by omega
      have hb0 : Bk wr w.heap.size 78 (tabC (tNext t (l.take 0))) := by rw [awI_all] at b1; exact b1
      go_upto_region 7 with (fail)
      clear b1 ii hi hlt
      go_loopw [21] (fun I wr => ∃ j : Nat, I = .int .i64 (j : Int) ∧ j ≤ n ∧ Bk wr w.heap.size 78 (tabC (tNext t (l.take j))) ∧ Bk wr (w.heap.size + 1) 78 (tabC []) ∧ Below w.heap.size w wr) (fun I _ => n - (intOf I).toNat)
      case atStart => exact ⟨0, rfl, Nat.zero_le _, hb0, b2, be⟩
      case round =>
        clear b2 be hb0 zV
        obtain ⟨j, rfl, hj, b1, b2, be⟩ := hrel
        have zV := b2.lt
        by_cases hlt : j < n
        · have ii : (j : Int) < (n : Int) := by omega
          have hjL : j < l.length := by omega
          have HS := Lib.hid (show tNext t (l.take (j + 1)) = next1 (tNext t (l.take j)) l[j] by rw [List.take_succ_eq_append_getElem hjL, tNext_snoc])
          obtain ⟨b, o, rfl, -, hc⟩ := (hr.2.2.below be).at_ (by rw [itK_len]; omega)
          have hcj : wr.cell? ⟨b, o + j, none⟩ = some (.int .i64 l[j]) := hc j _ (itK_at l j hjL)
          clear hc
          have hTok := tNext_ok t hok (l.take j)
          generalize tNext t (l.take j) = T at *
          generalize l[j] = x at *
          have hTl := hTok.len
          cases hx : numB x
          · have hs := Lib.hid (show tNext t (l.take (j + 1)) = T by rw [HS.out]; unfold next1; rw [if_neg (by intro h; simp [numB] at hx; omega)])
            clear HS
            go_upto_region 9 with (fail)
            go_wp2_with (go_at_call 108; refine (number_any x _).mono ?_; rintro e w1 ⟨rfl, rfl⟩; rw [hx])
            exact ⟨⟨j + 1, by go_num, by omega, by rw [hs.out]; exact b1, b2, be⟩, by simp [intOf]; omega⟩
          · have hx2 : 1 ≤ x ∧ x ≤ 64 := by simpa [numB] using hx
            obtain ⟨m, rfl⟩ : ∃ m : Nat, x = m := ⟨x.toNat, by omega⟩
            have HF := Lib.hid (fun w => find_any T hTok (m : Int) w)
            have hw8 : IntKind.u8.wrap (m : Int) = (m : Int) := IntWalk.u8_in _ (by omega)
            have HB := Lib.hid hw8
            clear hw8
            by_cases hf : idxT T (m : Int) < T.length
            · have hs := Lib.hid (show tNext t (l.take (j + 1)) = T.set (idxT T (m : Int)) (m, false) by rw [HS.out]; unfold next1; rw [if_pos hx2, if_pos hf]; rfl)
              have hfd : fdT T (m : Int) = (idxT T (m : Int) : Int) := if_pos hf
              rw [hfd] at HF
              have hset := tabC_setSlot T (idxT T (m : Int)) hf (by omega) (m, false)
              rw [← hs.out] at hset
              have hlen := tabC_len T hTl
              generalize idxT T (m : Int) = k at *
              have ik : ¬ (k : Int) < 0 := by omega
              have ik64 : (k : Int) < 64 := by omega
              clear hs HS hfd
              go_upto_region 10 with (go_at_call 108; refine (number_any _ _).mono ?_; rintro e w1 ⟨rfl, rfl⟩; rw [hx])
              refine wp_region_lit ?_
              refine wpList_ldA (t := 78) 78 (.tmp 2) rfl rfl (tabC T) rfl (b1) (whole_ _) vt1 vt2 (szTab T hTl) ?_
              refine wpList_plain rfl (fun K hK => ?_); go_simp; with_reducible refine hK _ _ ?_; clear hK K
              refine wpList_plain rfl (fun K hK => ?_)
              go_simp
              refine (HF.out _).mono ?_
              rintro e w1 ⟨bs1, d1, rfl, rfl⟩
              with_reducible refine hK _ _ ?_
              clear hK K
              refine wpList_plain rfl (fun K hK => ?_); go_simp; with_reducible refine hK _ _ ?_; clear hK K
              replace b1 := b1.later (below_plus wr bs1 d1)
              replace b2 := b2.later (below_plus wr bs1 d1)
              replace be := belowP be bs1 d1
              clear hcj HF
              generalize plus wr bs1 d1 = W1 at *
              have hw8 := HB.out
              go_upto_region 14 with (fail)
              refine wp_region_lit ?_
              iterate 6 (refine wpList_plain rfl (fun K hK => ?_); go_simp; with_reducible refine hK _ _ ?_; clear hK K)
              refine wpList_stM (off := 1 + k * 2) 75 (.tmp 44) (.tmp 42) rfl rfl (slC (m, false)) (tabC T) (by rw [hlen]; simp [slC]; omega) (slC_one _) rfl rfl b1 (szSl _) ?_
              intro W5 h5 g5
              simp only [Act.put, List.setIfInBounds_toArray, List.set_cons_zero, List.set_cons_succ]
              have b2' := b2.grown g5 (fun e => by injection e with e; omega)
              have be' := below_grown be g5 (Nat.le_refl _)
              have h5' : Bk W5 w.heap.size 78 (tabC (tNext t (l.take (j + 1)))) := by rw [← hset]; exact h5
              clear h5 g5 b1 b2 be hset
              go_wp2
              exact ⟨⟨j + 1, by go_num, by omega, h5', b2', be'⟩, by simp [intOf]; omega⟩
            · have hs := Lib.hid (show tNext t (l.take (j + 1)) = T ++ [(m, false)] by rw [HS.out]; unfold next1; rw [if_pos hx2, if_neg hf]; rfl)
              have hfd : fdT T (m : Int) = -1 := if_neg hf
              rw [hfd] at HF
              have h64 : T.length < 64 := hTok.room (n := m) (by omega) (by omega) (fun h => hf (idxT_lt.2 h))
              have hset := tabC_snoc T h64 (m, false)
              rw [← hs.out] at hset
              have hlen := tabC_len T hTl
              have q0 : wr.cell? ⟨w.heap.size, 0, none⟩ = some (.int .i64 (T.length : Int)) := b1.cell 0
              have ik64 : (T.length : Int) < 64 := by omega
              have ik : ¬ (T.length : Int) < 0 := by omega
              have hwT : IntKind.i64.wrap ((T.length : Int) + 1) = (T.length : Int) + 1 := IntWalk.i64_in _ (by omega)
              clear hs HS hfd
              go_upto_region 10 with (go_at_call 108; refine (number_any _ _).mono ?_; rintro e w1 ⟨rfl, rfl⟩; rw [hx])
              refine wp_region_lit ?_
              refine wpList_ldA (t := 78) 78 (.tmp 2) rfl rfl (tabC T) rfl (b1) (whole_ _) vt1 vt2 (szTab T hTl) ?_
              refine wpList_plain rfl (fun K hK => ?_); go_simp; with_reducible refine hK _ _ ?_; clear hK K
              refine wpList_plain rfl (fun K hK => ?_)
              go_simp
              refine (HF.out _).mono ?_
              rintro e w1 ⟨bs1, d1, rfl, rfl⟩
              with_reducible refine hK _ _ ?_
              clear hK K
              refine wpList_plain rfl (fun K hK => ?_); go_simp; with_reducible refine hK _ _ ?_; clear hK K
              replace b1 := b1.later (below_plus wr bs1 d1)
              replace b2 := b2.later (below_plus wr bs1 d1)
              replace be := belowP be bs1 d1
              clear hcj HF q0
              generalize plus wr bs1 d1 = W1 at *
              have hw8 := HB.out
              go_upto_region 12 with (fail)
              refine wp_region_lit ?_
              refine wpList_plain rfl (fun K hK => ?_); go_simp; with_reducible refine hK _ _ ?_; clear hK K
              refine wpList_ld1 (t := 78) (cs := tabC T) 3 (.tmp 33) rfl (by rfl) rfl (b1) rfl Tryd.underlying3 rfl ?_
              refine wpList_plain rfl (fun K hK => ?_); go_simp; with_reducible refine hK _ _ ?_; clear hK K
              go_upto_region 13 with (fail)
              refine wp_region_lit ?_
              refine wpList_plain rfl (fun K hK => ?_); go_simp; with_reducible refine hK _ _ ?_; clear hK K
              refine wpList_ld1 (t := 78) (cs := tabC T) 3 (.tmp 35) rfl (by rfl) rfl (b1) rfl Tryd.underlying3 rfl ?_
              iterate 2 (refine wpList_plain rfl (fun K hK => ?_); go_simp; with_reducible refine hK _ _ ?_; clear hK K)
              refine wpList_st1 3 (.tmp 38) (.tmp 37) rfl rfl rfl rfl b1 (by rw [tabC_len _ hTl]; omega) rfl (by kernel_rfl) ?_
              intro W4 h4 g4
              simp only [Act.put, List.setIfInBounds_toArray, List.set_cons_zero, List.set_cons_succ]
              have b2' := b2.grown g4 (fun e => by injection e with e; omega)
              have be' := below_grown be g4 (Nat.le_refl _)
              replace b1 : Bk W4 w.heap.size 78 ((tabC T).set 0 (.int .i64 ((T.length : Int) + 1))) := h4
              replace b2 := b2'
              replace be := be'
              clear h4 g4
              generalize T.length = k at *
              go_upto_region 14 with (fail)
              refine wp_region_lit ?_
              iterate 6 (refine wpList_plain rfl (fun K hK => ?_); go_simp; with_reducible refine hK _ _ ?_; clear hK K)
              refine wpList_stM (off := 1 + k * 2) 75 (.tmp 44) (.tmp 42) rfl rfl (slC (m, false)) ((tabC T).set 0 (.int .i64 ((k : Int) + 1))) (by rw [List.length_set, hlen]; simp [slC]; omega) (slC_one _) rfl rfl b1 (szSl _) ?_
              intro W5 h5 g5
              simp only [Act.put, List.setIfInBounds_toArray, List.set_cons_zero, List.set_cons_succ]
              have b2' := b2.grown g5 (fun e => by injection e with e; omega)
              have be' := below_grown be g5 (Nat.le_refl _)
              have h5' : Bk W5 w.heap.size 78 (tabC (tNext t (l.take (j + 1)))) := by rw [← hset]; exact h5
              clear h5 g5 b1 b2 be hset
              go_wp2
              exact ⟨⟨j + 1, by go_num, by omega, h5', b2', be'⟩, by simp [intOf]; omega⟩
        · obtain rfl : j = n := by omega
          have ii : ¬ (j : Int) < (j : Int) := by omega
          rw [List.take_of_length_le (by omega)] at b1
          have hTl := (tNext_ok t hok l).len
          clear hj hlt
          go_upto_region 16 with (fail)
          refine wp_region_lit ?_
          refine wpList_ldA (t := 78) 78 (.tmp 2) rfl rfl (tabC (tNext t l)) rfl (b1) (whole_ _) vt1 vt2 (szTab _ hTl) ?_
          simp only [Act.put, List.setIfInBounds_toArray, List.set_cons_zero, List.set_cons_succ]
          refine wpList_stA (t := 78) 78 (.tmp 4) (.tmp 46) rfl rfl (tabC (tNext t l)) (tabC []) (by rw [tabC_len _ hTl]; rfl) (tabC_one _) rfl rfl b2 (szTab _ hTl) ?_
          intro W6 h6 g6
          simp only [Act.put, List.setIfInBounds_toArray, List.set_cons_zero, List.set_cons_succ]
          go_wp2
          refine bodyPost_agg Tryd.results87 rfl h6.range vt1 vt2 (szTab _ hTl) rfl (RetV.mk ?_)
          exact below_grown be g6 (by omega)
end Go.Proofs.YtclhfbbajeoanaaDoor

/- Rows of structs as words that own blocks (wp_own). -/
namespace Go.Proofs.YtclhfbbajeoanaaDoor
open Go.RowKit
set_option linter.unusedVariables false

theorem Rs.kept {F : Nat → Prop} {s : Nat} {w w' : World} {A : Option Addr} {n c : Nat} {cs : List Value} (h : Rs s w A n c cs) (hk : Kept F w w') (hf : ∀ a, A = some a → a.block < w.heap.size → F a.block) : Rs s w' A n c cs := by
  refine ⟨h.1, h.2.1, ?_⟩
  rcases h.2.2 with h' | ⟨b, off, hA, hb, hc⟩
  · exact .inl h'
  · exact .inr ⟨b, off, hA, Nat.lt_of_lt_of_le hb hk.size, fun i u hu => (World.cell?_of_block (hk.block b hb (hf _ hA hb))).trans (hc i u hu)⟩
theorem Os.kept {F : Nat → Prop} {e : TypeId} {s base : Nat} {w w' : World} {A : Option Addr} {n c : Nat} {cs : List Value} (h : Os e s w base A n c cs) (hk : Kept F w w') (hf : ∀ b, (Value.slice A n c).ownBlock = some b → F b) : Os e s w' base A n c cs := by
  refine ⟨h.1, ?_⟩
  rcases h.2 with h' | ⟨g, cap, cur, hv, hb, hg, hr⟩
  · exact .inl h'
  · have ho : (Value.slice A n c).ownBlock = some g := by rw [hv]; rfl
    exact .inr ⟨g, cap, cur, hv, hb, (hk.block g (h.blk g ho).2 (hf g ho)).trans hg, hr⟩
/-- a call hands back a new row -/
def RetOs (e : TypeId) (s : Nat) (w : World) (cs : List Value) (en : Ending) (w' : World) : Prop := ∃ A n c bs d, en = .returned (.slice A n c) ∧ w' = plus w bs d ∧ Os e s (plus w bs d) w.heap.size A n c cs
theorem RetOs.mk {e : TypeId} {s : Nat} {w w' : World} {cs : List Value} {A : Option Addr} {n c : Nat} (h : Os e s w' w.heap.size A n c cs) (hb : Below w.heap.size w w') : RetOs e s w cs (.returned (.slice A n c)) w' := by
  obtain ⟨bs, d, rfl⟩ := plus_of hb
  exact ⟨A, n, c, bs, d, rfl, rfl, h⟩
end Go.Proofs.YtclhfbbajeoanaaDoor

/- The reference's tables (chapter 14). -/
namespace Go.Proofs.YtclhfbbajeoanaaDoor
open Go.RowKit
set_option linter.unusedVariables false
set_option linter.unusedSimpArgs false
attribute [local go_sem ↓] sliced_cut

attribute [local go_sem] cutA_zero

theorem etI : ET Tryd.prog 150 3 (.int .i64 0) 1 8 := ⟨Tryd.underlying150, by kernel_rfl, rfl, by decide, by decide⟩
end Go.Proofs.YtclhfbbajeoanaaDoor

/- A stack's cells; small functions (chapter 15). -/
namespace Go.Proofs.YtclhfbbajeoanaaDoor
open Go.RowKit
set_option linter.unusedVariables false
set_option linter.unusedSimpArgs false
attribute [local go_sem ↓] sliced_cut

attribute [local go_sem] cutA_zero

def levC (e : Nat × Tab) : List Value := .int .i64 (e.1 : Int) :: tabC e.2
theorem levC_len (e : Nat × Tab) : (levC e).length = 130 := by simp [levC, tabC_len0]
theorem levC_one (e : Nat × Tab) : ∀ u ∈ levC e, u.oneCell' = true := by
  intro u hu
  rcases List.mem_cons.1 hu with rfl | hu
  · rfl
  · exact tabC_one _ u hu
def levels (S : Stk) : List (Nat × Tab) := (S.lv ++ List.replicate (8 - S.lv.length) (0, [])).take 8
theorem levels_len (S : Stk) : (levels S).length = 8 := by simp [levels]; omega
theorem levels_at (S : Stk) (i : Nat) (h : i < S.lv.length) (h8 : i < 8) : (levels S)[i]? = some S.lv[i] := by simp [levels, List.getElem?_take, h8, List.getElem?_append_left h]
def stkC (S : Stk) : List Value := .int .i64 (S.lv.length : Int) :: ((levels S).flatMap levC ++ [.int .u64 (S.ev : Int), .int .u64 (S.bz : Int)])
theorem stkC_len (S : Stk) : (stkC S).length = 1043 := by
  simp only [stkC, List.length_cons, List.length_append, flat_len levC 130 levC_len, levels_len]
  rfl
theorem stkC_one (S : Stk) : ∀ u ∈ stkC S, u.oneCell' = true := by
  intro u hu
  rcases List.mem_cons.1 hu with rfl | hu
  · rfl
  · rcases List.mem_append.1 hu with hu | hu
    · exact flat_one levC levC_one _ u hu
    · simp at hu; rcases hu with rfl | rfl <;> rfl
theorem szStk (S : Stk) : (Tryd.prog.info? 120).map (·.size) = some (stkC S).length := by rw [stkC_len]; kernel_rfl
theorem rowStk : ∃ d, Tryd.prog.underlying 120 = some d ∧ d.isRow = true := ⟨_, Tryd.underlying120, rfl⟩
theorem szLev (e : Nat × Tab) : (Tryd.prog.info? 117).map (·.size) = some (levC e).length := by rw [levC_len]; kernel_rfl
theorem rowLev : ∃ d, Tryd.prog.underlying 117 = some d ∧ d.isRow = true := ⟨_, Tryd.underlying117, rfl⟩
theorem stkC_ev (S : Stk) : (stkC S)[1041]? = some (.int .u64 (S.ev : Int)) := by
  rw [stkC, List.getElem?_cons_succ, List.getElem?_append_right (by rw [flat_len levC 130 levC_len, levels_len]; omega), flat_len levC 130 levC_len, levels_len]
  rfl
theorem stkC_bz (S : Stk) : (stkC S)[1042]? = some (.int .u64 (S.bz : Int)) := by
  rw [stkC, List.getElem?_cons_succ, List.getElem?_append_right (by rw [flat_len levC 130 levC_len, levels_len]; omega), flat_len levC 130 levC_len, levels_len]
  rfl
/-- a level's cells, in a stack's -/
theorem stkC_lev (S : Stk) (i : Nat) (h : i < S.lv.length) (h8 : i < 8) (k : Nat) (u : Value) (hk : (levC S.lv[i])[k]? = some u) : (stkC S)[1 + i * 130 + k]? = some u := by
  have hs : i < (levels S).length := by rw [levels_len]; exact h8
  have e : (levels S)[i] = S.lv[i] := by have := levels_at S i h h8; rw [List.getElem?_eq_getElem hs] at this; injection this
  have h1 := flat_at levC 130 levC_len (levels S) i hs k u (by rw [e]; exact hk)
  rw [stkC, show 1 + i * 130 + k = (i * 130 + k) + 1 by omega, List.getElem?_cons_succ, List.getElem?_append_left (List.getElem?_eq_some_iff.1 h1).1]
  exact h1
theorem part_ofS {cs part : List Value} {off : Nat} (h : ∀ (k : Nat) (u : Value), part[k]? = some u → cs[off + k]? = some u) : (cs.drop off).take part.length = part := by
  apply List.ext_getElem?
  intro k
  rw [List.getElem?_take]
  split
  · rename_i hk
    rw [List.getElem?_drop, List.getElem?_eq_getElem hk]
    exact h k _ (List.getElem?_eq_getElem hk)
  · rename_i hk
    rw [List.getElem?_eq_none (by omega)]
theorem stkC_part (S : Stk) (i : Nat) (h : i < S.lv.length) (h8 : i < 8) : ((stkC S).drop (1 + i * 130)).take (levC S.lv[i]).length = levC S.lv[i] := part_ofS (fun k u hk => stkC_lev S i h h8 k u hk)
/-- a set's bit -/
def bitB (n : Int) (f m : Nat) : Nat := if (f : Int) ≤ n ∧ n < (f : Int) + m then 2 ^ (n - f).toNat else 0
theorem bitB_lt (n : Int) (f m : Nat) (hm : m ≤ 64) : bitB n f m < 18446744073709551616 := by
  unfold bitB
  split
  · have : 2 ^ (n - f).toNat < 2 ^ 64 := Nat.pow_lt_pow_right (by decide) (by omega)
    omega
  · decide
theorem hasB_and (x : Nat) (n : Int) (f m : Nat) : (((x &&& bitB n f m : Nat) : Int) == 0) = !hasB x n f m := by
  unfold bitB hasB
  by_cases h : (f : Int) ≤ n ∧ n < (f : Int) + m
  · rw [if_pos h, decide_eq_true h.1, decide_eq_true h.2]
    rw [nat_bit]
    have hd := Nat.testBit_eq_decide_div_mod_eq (x := x) (i := (n - f).toNat)
    have hp : 0 < 2 ^ (n - (f : Int)).toNat := Nat.two_pow_pos _
    rcases Nat.mod_two_eq_zero_or_one (x / 2 ^ (n - (f : Int)).toNat) with h0 | h0
    · rw [hd, h0]; simp
    · rw [hd, h0]
      simp only [Nat.one_mul, decide_true, Bool.and_self, Bool.not_true, beq_eq_false_iff_ne]
      omega
  · rw [if_neg h]
    have : ((decide ((f : Int) ≤ n) && decide (n < (f : Int) + m)) : Bool) = false := by
      simp only [Bool.and_eq_false_iff, decide_eq_false_iff_not]; omega
    rw [this]; simp
theorem bit_any (n : Int) (f m : Nat) (hm : m ≤ 64) (hf : f ≤ 1) (hn : n ≤ 9223372036854775807) (w : World) : Calls Tryd.prog 97 #[.int .i64 n, .int .i64 (f : Int), .int .i64 (m : Int)] w fun e w' => e = .returned (.int .u64 (bitB n f m : Nat)) ∧ w = w' := by
  by_cases h1 : (f : Int) ≤ n
  · obtain ⟨k, rfl⟩ : ∃ k : Nat, n = k := ⟨n.toNat, by omega⟩
    have i1 : ¬ (k : Int) < (f : Int) := by omega
    have hs : IntKind.i64.wrap ((k : Int) - (f : Int)) = ((k - f : Nat) : Int) := by rw [IntWalk.i64_in _ (by omega)]; omega
    by_cases h2 : k - f < m
    · have hb := Lib.hid (show bitB (k : Int) f m = 2 ^ (k - f) by unfold bitB; rw [if_pos (by omega), show ((k : Int) - (f : Int)).toNat = k - f by omega])
      generalize bitB (k : Int) f m = B at *
      have hp : Hid (2 ^ (k - f) < 2 ^ 64) := Lib.hid (Nat.pow_lt_pow_right (by decide) (by omega))
      generalize k - f = d at *
      have i2 : ¬ (m : Int) ≤ (d : Int) := by omega
      have i3 : d < m := h2
      clear h1
      go_enter Tryd.func97, Tryd.ntmps97
      go_wp2
      go_ret
      have h2p : ((2 ^ d : Nat) : Int) = (2 : Int) ^ d := by simp
      have hp2 := hp.out
      have hbo := hb.out
      rw [← h2p]
      clear hp hb h2p
      generalize 2 ^ d = P at *
      rw [IntWalk.u64_in _ (by omega), hbo]
      exact ⟨rfl, rfl⟩
    · have hb := Lib.hid (show bitB (k : Int) f m = 0 by unfold bitB; rw [if_neg (by omega)])
      generalize bitB (k : Int) f m = B at *
      generalize k - f = d at *
      have i2 : (m : Int) ≤ (d : Int) := by omega
      clear h1
      go_enter Tryd.func97, Tryd.ntmps97
      go_wp2
      go_ret
      rw [hb.out]; simp
  · have i1 : n < (f : Int) := by omega
    have hb := Lib.hid (show bitB n f m = 0 by unfold bitB; rw [if_neg (by omega)])
    generalize bitB n f m = B at *
    clear h1
    go_enter Tryd.func97, Tryd.ntmps97
    go_wp2
    go_ret
    rw [hb.out]; simp
theorem backendBit_any (n : Int) (hn : n ≤ 9223372036854775807) (w : World) : Calls Tryd.prog 64 #[.int .i64 n] w fun e w' => e = .returned (.int .u64 (bitB n 1 64 : Nat)) ∧ w = w' := by
  have HB := Lib.hid (fun w => bit_any n 1 64 (by decide) (by decide) hn w)
  generalize bitB n 1 64 = B at *
  go_enter Tryd.func64, Tryd.ntmps64
  go_wp2_with (go_at_call 97; refine (HB.out _).mono ?_; rintro e w1 ⟨rfl, rfl⟩)
  go_ret
  exact ⟨rfl, rfl⟩
theorem versionBit_any (n : Int) (hn : n ≤ 9223372036854775807) (w : World) : Calls Tryd.prog 89 #[.int .i64 n] w fun e w' => e = .returned (.int .u64 (bitB n 0 8 : Nat)) ∧ w = w' := by
  have HB := Lib.hid (fun w => bit_any n 0 8 (by decide) (by decide) hn w)
  generalize bitB n 0 8 = B at *
  go_enter Tryd.func89, Tryd.ntmps89
  go_wp2_with (go_at_call 97; refine (HB.out _).mono ?_; rintro e w1 ⟨rfl, rfl⟩)
  go_ret
  exact ⟨rfl, rfl⟩
set_option maxHeartbeats 4000000 in
set_option maxRecDepth 100000 in
theorem all_any (S : Stk) (h8 : S.lv.length ≤ 8) (g : Nat) (w : World) (hS : Bk w g 120 (stkC S)) : Calls Tryd.prog 80 #[.pointer (some ⟨g, 0, none⟩)] w (RetV w (.slice (some ⟨g, 1, none⟩) S.lv.length 8)) := by
  have h0 : (stkC S)[0]? = some (.int .i64 (S.lv.length : Int)) := rfl
  generalize S.lv.length = n at *
  have i8 : (n : Int) ≤ 8 := by omega
  go_enter Tryd.func80, Tryd.ntmps80
  go_upto_region 3 with (fail)
  refine wp_relS 9 13 rfl (by kernel_rfl) (by kernel_rfl) ?_
  apply Steps.one (MP.eq _) 1 rfl
  · intro o ho FA x hO hD K hK
    obtain rfl := Option.some.inj ho.symm
    clear ho
    have e0 := hO 0 (by kernel_rfl)
    simp only [eval_tmp, List.getElem?_toArray, List.getElem?_cons_succ, List.getElem?_cons_zero, Option.getD_some] at e0
    have ev0 := Lib.hid ((eval_tmp FA 0).trans e0)
    clear hO hD
    go_simp
    exact hK.out _ _ (Ex.refl _) rfl
  apply Steps.one (MP.eq _) 2 rfl
  · intro o ho FA x hO hD K hK
    obtain rfl := Option.some.inj ho.symm
    clear ho
    have ev5 : FA.eval (.tmp 5) = _ := hD 0 5 (by kernel_rfl)
    have e5 := (eval_tmp FA 5).symm.trans ev5
    replace ev5 := Lib.hid ev5
    clear hO hD
    go_simp
    exact hK.out _ _ (Ex.refl _) rfl
  apply Steps.one (MP.eq _) 3 rfl
  · intro o ho FA x hO hD K hK
    obtain rfl := Option.some.inj ho.symm
    clear ho
    have ev6 : FA.eval (.tmp 6) = _ := hD 1 6 (by kernel_rfl)
    have e6 := (eval_tmp FA 6).symm.trans ev6
    replace ev6 := Lib.hid ev6
    clear hO hD
    go_simp
    exact hK.out _ _ (Ex.refl _) rfl
  apply Steps.one (MP.eq _) 4 rfl
  · intro o ho FA x hO hD K hK
    obtain rfl := Option.some.inj ho.symm
    clear ho
    have e0 := hO 0 (by kernel_rfl)
    simp only [eval_tmp, List.getElem?_toArray, List.getElem?_cons_succ, List.getElem?_cons_zero, Option.getD_some] at e0
    have ev0 := Lib.hid ((eval_tmp FA 0).trans e0)
    clear hO hD
    go_simp
    exact hK.out _ _ (Ex.refl _) rfl
  apply Steps.one (MP.eq _) 5 rfl
  · intro o ho FA x hO hD K hK
    obtain rfl := Option.some.inj ho.symm
    clear ho
    have ev8 : FA.eval (.tmp 8) = _ := hD 3 8 (by kernel_rfl)
    have e8 := (eval_tmp FA 8).symm.trans ev8
    replace ev8 := Lib.hid ev8
    clear hO hD
    go_simp
    exact hK.out _ _ (Ex.refl _) rfl
  apply Steps.one (MP.eq _) 6 rfl
  · intro o ho FA x hO hD K hK
    obtain rfl := Option.some.inj ho.symm
    clear ho
    have ev9 : FA.eval (.tmp 9) = _ := hD 4 9 (by kernel_rfl)
    have e9 := (eval_tmp FA 9).symm.trans ev9
    replace ev9 := Lib.hid ev9
    clear hO hD
    go_simp
    exact hK.out _ _ (Ex.refl _) rfl
  apply Steps.one (MP.eq _) 7 rfl
  · intro o ho FA x hO hD K hK
    obtain rfl := Option.some.inj ho.symm
    clear ho
    have ev10 : FA.eval (.tmp 10) = _ := hD 5 10 (by kernel_rfl)
    have e10 := (eval_tmp FA 10).symm.trans ev10
    replace ev10 := Lib.hid ev10
    clear hO hD
    refine wanted_if rfl ?_
    refine wp_ld1 3 (.tmp 10) rfl ev10.out (hS.later (below_plus _ _ _)) h0 Tryd.underlying3 rfl ?_
    exact hK.out _ _ (Ex.refl _) rfl
  apply Steps.one (MP.eq _) 8 rfl
  · intro o ho FA x hO hD K hK
    obtain rfl := Option.some.inj ho.symm
    clear ho
    have ev7 : FA.eval (.tmp 7) = _ := hD 2 7 (by kernel_rfl)
    have e7 := (eval_tmp FA 7).symm.trans ev7
    replace ev7 := Lib.hid ev7
    have ev11 : FA.eval (.tmp 11) = _ := hD 6 11 (by kernel_rfl)
    have e11 := (eval_tmp FA 11).symm.trans ev11
    replace ev11 := Lib.hid ev11
    clear hO hD
    go_simp
    exact hK.out _ _ (Ex.refl _) rfl
  apply Steps.one (MP.eq _) 9 rfl
  · intro o ho FA x hO hD K hK
    obtain rfl := Option.some.inj ho.symm
    clear ho
    have ev12 : FA.eval (.tmp 12) = _ := hD 7 12 (by kernel_rfl)
    have e12 := (eval_tmp FA 12).symm.trans ev12
    replace ev12 := Lib.hid ev12
    clear hO hD
    go_simp
    exact hK.out _ _ (Ex.refl _) rfl
  refine Steps.fin_ (fun vs x hp => ?_)
  have p0 : vs 0 = _ := hp 0 (by omega)
  have p1 : vs 1 = _ := hp 1 (by omega)
  have p2 : vs 2 = _ := hp 2 (by omega)
  have p3 : vs 3 = _ := hp 3 (by omega)
  have p4 : vs 4 = _ := hp 4 (by omega)
  have p5 : vs 5 = _ := hp 5 (by omega)
  have p6 : vs 6 = _ := hp 6 (by omega)
  have p7 : vs 7 = _ := hp 7 (by omega)
  have p8 : vs 8 = _ := hp 8 (by omega)
  clear hp
  simp only [List.take_succ_cons, List.take_zero, List.drop_succ_cons, List.drop_zero, putAll, Nat.zero_add, Nat.reduceAdd, Act.put, List.setIfInBounds_toArray, List.set_cons_zero, List.set_cons_succ, p0, p1, p2, p3, p4, p5, p6, p7, p8]
  clear p0 p1 p2 p3 p4 p5 p6 p7 p8
  clear vs
  go_wp2
  go_ret
  exact RetV.is_ (by simp) (below_plus _ _ _)
/-- where a version stands; -1: nowhere -/
def ixS (S : Stk) (v : Int) : Int := if idxS S v < S.lv.length then (idxS S v : Int) else -1
theorem idxS_step (S : Stk) (n : Int) (i : Nat) (hi : i ≤ idxS S n) (h : i < S.lv.length) : ((S.lv[i].1 : Int) = n → idxS S n = i) ∧ (¬ (S.lv[i].1 : Int) = n → i + 1 ≤ idxS S n) := by
  constructor
  · intro he
    rcases Nat.lt_or_ge i (idxS S n) with h1 | h1
    · have := List.not_of_lt_findIdx h1
      simp [he] at this
    · omega
  · intro he
    rcases Nat.lt_or_ge i (idxS S n) with h1 | h1
    · exact h1
    · have e : idxS S n = i := by omega
      have := idxS_at (S := S) (v := n) (by omega)
      simp only [e] at this
      exact absurd this he
set_option maxHeartbeats 4000000 in
set_option maxRecDepth 100000 in
theorem index_any (S : Stk) (h8 : S.lv.length ≤ 8) (g : Nat) (v : Int) (w : World) (hS : Bk w g 120 (stkC S)) : Calls Tryd.prog 88 #[.pointer (some ⟨g, 0, none⟩), .int .i64 v] w (RetV w (.int .i64 (ixS S v))) := by
  obtain ⟨dv1, vl1, vl2⟩ := rowLev
  have HA := Lib.hid (all_any S h8 g w hS)
  have hzv : ∀ w, (zeroValue 117).run Tryd.prog w = .ok (.agg (levC (0, [])).toArray) w := fun _ => by kernel_rfl
  obtain ⟨ix, hix⟩ : ∃ ix, ixS S v = ix := ⟨_, rfl⟩
  have HIX := Lib.hid hix
  have hle : idxS S v ≤ S.lv.length := idxS_le S v
  rw [hix]
  clear hix
  go_enter Tryd.func88, Tryd.ntmps88
  go_upto_region 2 with (go_at_call 80; refine HA.out.mono ?_; rintro e w1 ⟨bs1, d1, rfl, rfl⟩)
  have be := below_plus w bs1 d1
  clear HA
  generalize plus w bs1 d1 = V at *
  go_loopw [10] (fun I wr => ∃ i : Nat, I = .int .i64 (i : Int) ∧ i ≤ idxS S v ∧ Below w.heap.size w wr) (fun I _ => S.lv.length - (intOf I).toNat)
  case atStart => exact ⟨0, rfl, Nat.zero_le _, be⟩
  case round =>
    clear be
    obtain ⟨i, rfl, hi, be⟩ := hrel
    by_cases hlt : i < S.lv.length
    · have hSr := hS.later be
      have ii : (i : Int) < (S.lv.length : Int) := by omega
      have hst := idxS_step S v i hi hlt
      have hp := stkC_part S i hlt (by omega)
      obtain ⟨e0, he0⟩ : ∃ e0, S.lv[i] = e0 := ⟨_, rfl⟩
      rw [he0] at hst hp
      clear he0
      go_upto_region 3 with (fail)
      refine wp_region_lit ?_
      iterate 2 (refine wpList_plain rfl (fun K hK => ?_); go_simp; with_reducible refine hK _ _ ?_; clear hK K)
      refine wpList_ldA (t := 120) (off := 1 + i * 130) 117 (.tmp 13) rfl rfl (levC e0) rfl hSr hp vl1 vl2 (szLev _) ?_
      iterate 2 (refine wpList_plain rfl (fun K hK => ?_); go_simp; with_reducible refine hK _ _ ?_; clear hK K)
      refine wpList_stA (t := 117) 117 (.tmp 6) (.tmp 14) rfl rfl (levC e0) (levC (0, [])) (by rw [levC_len, levC_len]) (levC_one _) rfl rfl (Bk.new _ _ _) (szLev _) ?_
      intro W4 h4 g4
      simp only [Act.put, List.setIfInBounds_toArray, List.set_cons_zero, List.set_cons_succ]
      have be' : Below w.heap.size w W4 := below_grown (be.alloc be.size _) g4 be.size
      have b4 : Bk W4 wr.heap.size 117 (levC e0) := h4
      have q4 : W4.cell? ⟨wr.heap.size, 0, none⟩ = some (.int .i64 (e0.1 : Int)) := b4.cell 0
      clear h4 g4 b4 hSr
      generalize wr.heap.size = g4 at *
      by_cases hv : (e0.1 : Int) = v
      · have hii := hst.1 hv
        have hfin := Lib.hid (show ix = (i : Int) by rw [← HIX.out]; unfold ixS; rw [hii, if_pos hlt])
        subst hv
        clear hst hii hi hle
        go_wp2
        go_ret
        exact RetV.is_ (by rw [hfin.out]; rfl) be'
      · have hii := hst.2 hv
        have hvb : ((e0.1 : Int) == v) = false := by simpa using hv
        clear hst hi
        go_wp2
        exact ⟨⟨i + 1, by go_num, hii, be'⟩, by simp [intOf]; omega⟩
    · have hfin := Lib.hid (show ix = -1 by rw [← HIX.out]; unfold ixS; rw [if_neg (by omega)])
      have ii : ¬ (i : Int) < (S.lv.length : Int) := by omega
      clear hi hle
      go_wp2
      go_ret
      exact RetV.is_ (by rw [hfin.out]; rfl) be
end Go.Proofs.YtclhfbbajeoanaaDoor

/- The reference's stack: its cells; Index, Free, Dead (chapter 15). -/
namespace Go.Proofs.YtclhfbbajeoanaaDoor
open Go.RowKit
set_option linter.unusedVariables false
set_option linter.unusedSimpArgs false
attribute [local go_sem ↓] sliced_cut

attribute [local go_sem] cutA_zero

abbrev Ent := Nat × Option Addr × Nat × Nat
def enE (e : Ent) : List Value := [.int .i64 (e.1 : Int), .slice e.2.1 e.2.2.1 e.2.2.2]
theorem enE_len (e : Ent) : (enE e).length = 2 := rfl
/-- entries stand for levels -/
def EnOk (w : World) (L : List (Nat × Tab)) (E : List Ent) : Prop := E.length = L.length ∧ ∀ (i : Nat) (h : i < L.length) (h' : i < E.length), E[i].1 = L[i].1 ∧ Rs 1 w E[i].2.1 E[i].2.2.1 E[i].2.2.2 (itK (refT L[i].2))
theorem EnOk.later {w w' : World} {L : List (Nat × Tab)} {E : List Ent} (h : EnOk w L E) (hb : Below w.heap.size w w') : EnOk w' L E := ⟨h.1, fun i h1 h2 => ⟨(h.2 i h1 h2).1, (h.2 i h1 h2).2.later hb⟩⟩
theorem EnOk.nil_ (w : World) : EnOk w [] [] := ⟨rfl, fun i h => absurd h (Nat.not_lt_zero i)⟩
theorem EnOk.erase {w : World} {L : List (Nat × Tab)} {E : List Ent} (h : EnOk w L E) (k : Nat) : EnOk w (L.eraseIdx k) (E.eraseIdx k) := by
  refine ⟨by rw [List.length_eraseIdx, List.length_eraseIdx, h.1], fun i h1 h2 => ?_⟩
  rw [List.getElem_eraseIdx, List.getElem_eraseIdx]
  by_cases hi : i < k
  · simp only [dif_pos hi]
    exact h.2 i _ _
  · simp only [dif_neg hi]
    exact h.2 (i + 1) _ _
/-- an address that is there, and not in the blocks D -/
def Off (D : Nat → Prop) (w : World) (A : Option Addr) : Prop := ∀ a, A = some a → a.block < w.heap.size ∧ ¬ D a.block
theorem Off.none_ {D : Nat → Prop} {w : World} : Off D w none := fun a h => by cases h
theorem Off.size {D : Nat → Prop} {w w' : World} {A : Option Addr} (h : Off D w A) (hs : w.heap.size ≤ w'.heap.size) : Off D w' A := fun a ha => ⟨Nat.lt_of_lt_of_le (h a ha).1 hs, (h a ha).2⟩
theorem Off.more {D D' : Nat → Prop} {w : World} {A : Option Addr} (h : Off D w A) (hd : ∀ b, D' b → D b ∨ w.heap.size ≤ b) : Off D' w A := fun a ha => ⟨(h a ha).1, fun hb => by
  rcases hd _ hb with h1 | h1
  · exact (h a ha).2 h1
  · have := (h a ha).1; omega⟩
/-- the slice A n c of entries stands for the levels; nothing of it lies in the blocks D -/
def RSt (D : Nat → Prop) (w : World) (L : List (Nat × Tab)) (A : Option Addr) (n c : Nat) : Prop := ∃ E, EnOk w L E ∧ Rs 2 w A n c (E.flatMap enE) ∧ Off D w A ∧ ∀ e ∈ E, Off D w e.2.1
section
variable {D : Nat → Prop}
theorem RSt.later {w w' : World} {L : List (Nat × Tab)} {A : Option Addr} {n c : Nat} (h : RSt D w L A n c) (hb : Below w.heap.size w w') : RSt D w' L A n c := by
  obtain ⟨E, h1, h2, h3, h4⟩ := h
  exact ⟨E, h1.later hb, h2.later hb, h3.size hb.size, fun e he => (h4 e he).size hb.size⟩
theorem RSt.more {D' : Nat → Prop} {w : World} {L : List (Nat × Tab)} {A : Option Addr} {n c : Nat} (h : RSt D w L A n c) (hd : ∀ b, D' b → D b ∨ w.heap.size ≤ b) : RSt D' w L A n c := by
  obtain ⟨E, h1, h2, h3, h4⟩ := h
  exact ⟨E, h1, h2, h3.more hd, fun e he => (h4 e he).more hd⟩
theorem RSt.len {w : World} {L : List (Nat × Tab)} {A : Option Addr} {n c : Nat} (h : RSt D w L A n c) : n = L.length := by
  obtain ⟨E, h1, h2, -, -⟩ := h
  have := h2.1
  rw [flat_len enE 2 enE_len, h1.1] at this
  omega
theorem RSt.chg {w w' : World} {L : List (Nat × Tab)} {A : Option Addr} {n c : Nat} (h : RSt D w L A n c) (hc : Chg D w w') : RSt D w' L A n c := by
  obtain ⟨E, h1, h2, h3, h4⟩ := h
  exact ⟨E, ⟨h1.1, fun i a b => ⟨(h1.2 i a b).1, (h1.2 i a b).2.chg hc (fun x hx => (h4 _ (List.getElem_mem b) x hx).2)⟩⟩, h2.chg hc (fun x hx => (h3 x hx).2), h3.size hc.size, fun e he => (h4 e he).size hc.size⟩
theorem RSt.nil_ {w : World} : RSt D w [] none 0 0 := ⟨[], EnOk.nil_ w, Rs.nil_, Off.none_, (fun e h => by cases h)⟩
theorem Off.own {e : TypeId} {s : Nat} {w : World} {base : Nat} {A : Option Addr} {n c : Nat} {cs : List Value} (h : Os e s w base A n c cs) (hD : ∀ b, D b → b < base) : Off D w A := by
  intro a ha
  rcases h.2 with ⟨hv, h0⟩ | ⟨g, cap, cur, hv, hb, hg, _⟩
  · injection hv with h1; rw [h1] at ha; cases ha
  · injection hv with h1
    rw [h1] at ha
    injection ha with ha
    subst ha
    exact ⟨(Array.getElem?_eq_some_iff.1 hg).1, fun hd => by have := hD _ hd; simp at this; omega⟩
end
/-- an entry's cells -/
theorem RSt.at_ {D : Nat → Prop} {w : World} {L : List (Nat × Tab)} {A : Option Addr} {n c : Nat} (h : RSt D w L A n c) (i : Nat) (hi : i < L.length) : ∃ b o A' n' c', A = some ⟨b, o, none⟩ ∧ w.cell? ⟨b, o + i * 2, none⟩ = some (.int .i64 (L[i].1 : Int)) ∧ w.cell? ⟨b, o + i * 2 + 1, none⟩ = some (.slice A' n' c') ∧ Rs 1 w A' n' c' (itK (refT L[i].2)) ∧ Off D w A' := by
  obtain ⟨E, h1, h2, -, h4⟩ := h
  have hiE : i < E.length := by rw [h1.1]; exact hi
  obtain ⟨b, o, hA, _, hc⟩ := h2.at_ (by have := h2.1; rw [flat_len enE 2 enE_len] at this; omega) (by decide)
  obtain ⟨e1, e2⟩ := h1.2 i hi hiE
  refine ⟨b, o, E[i].2.1, E[i].2.2.1, E[i].2.2.2, hA, ?_, ?_, e2, h4 _ (List.getElem_mem hiE)⟩
  · have := hc (i * 2 + 0) (.int .i64 (E[i].1 : Int)) (flat_at enE 2 enE_len E i hiE 0 _ rfl)
    rw [← e1]
    exact this
  · have := hc (i * 2 + 1) (.slice E[i].2.1 E[i].2.2.1 E[i].2.2.2) (flat_at enE 2 enE_len E i hiE 1 _ rfl)
    rw [Nat.add_assoc]
    exact this
def rstC (A : Option Addr) (n c : Nat) (S : Stk) : List Value := .slice A n c :: ((refEv S).map Value.bool ++ (refBz S).map Value.bool)
end Go.Proofs.YtclhfbbajeoanaaDoor

/- Len, Evicted, Free, Newest of a stack (chapter 15). -/
namespace Go.Proofs.YtclhfbbajeoanaaDoor
open Go.RowKit
set_option linter.unusedVariables false
set_option linter.unusedSimpArgs false
attribute [local go_sem ↓] sliced_cut

attribute [local go_sem] cutA_zero

set_option maxHeartbeats 4000000 in
set_option maxRecDepth 100000 in
theorem stkLen_any (S : Stk) (h8 : S.lv.length ≤ 8) (g : Nat) (w : World) (hS : Bk w g 120 (stkC S)) : Calls Tryd.prog 48 #[.pointer (some ⟨g, 0, none⟩)] w (RetV w (.int .i64 (S.lv.length : Nat))) := by
  have HA := Lib.hid (all_any S h8 g w hS)
  go_enter Tryd.func48, Tryd.ntmps48
  go_wp2_with (go_at_call 80; refine HA.out.mono ?_; rintro e w1 ⟨bs1, d1, rfl, rfl⟩)
  go_ret
  exact RetV.is_ rfl (below_plus _ _ _)
set_option maxHeartbeats 4000000 in
set_option maxRecDepth 100000 in
theorem evicted_any (S : Stk) (he : S.ev < 18446744073709551616) (g : Nat) (n : Int) (hn : n ≤ 9223372036854775807) (w : World) (hS : Bk w g 120 (stkC S)) : Calls Tryd.prog 28 #[.pointer (some ⟨g, 0, none⟩), .int .i64 n] w (RetV w (.bool (deadS S n))) := by
  have HB := Lib.hid (fun w => backendBit_any n hn w)
  have hev := stkC_ev S
  have hand := u64_and_nat S.ev (bitB n 1 64) he (bitB_lt n 1 64 (by decide))
  have hz := hasB_and S.ev n 1 64
  have hD := Lib.hid (show deadS S n = hasB S.ev n 1 64 from rfl)
  generalize deadS S n = D at *
  generalize hasB S.ev n 1 64 = b at *
  generalize S.ev &&& bitB n 1 64 = Z at *
  generalize bitB n 1 64 = B at *
  go_enter Tryd.func28, Tryd.ntmps28
  go_upto_region 1 with (fail)
  refine wp_relS 13 17 rfl (by kernel_rfl) (by kernel_rfl) ?_
  apply Steps.one (MP.eq _) 1 rfl
  · intro o ho FA x hO hD K hK
    obtain rfl := Option.some.inj ho.symm
    clear ho
    have e0 := hO 0 (by kernel_rfl)
    simp only [eval_tmp, List.getElem?_toArray, List.getElem?_cons_succ, List.getElem?_cons_zero, Option.getD_some] at e0
    have ev0 := Lib.hid ((eval_tmp FA 0).trans e0)
    clear hO hD
    go_simp
    exact hK.out _ _ (Ex.refl _) rfl
  apply Steps.one (MP.eq _) 2 rfl
  · intro o ho FA x hO hD K hK
    obtain rfl := Option.some.inj ho.symm
    clear ho
    have ev5 : FA.eval (.tmp 5) = _ := hD 0 5 (by kernel_rfl)
    have e5 := (eval_tmp FA 5).symm.trans ev5
    replace ev5 := Lib.hid ev5
    clear hO hD
    go_simp
    exact hK.out _ _ (Ex.refl _) rfl
  apply Steps.one (MP.eq _) 3 rfl
  · intro o ho FA x hO hD K hK
    obtain rfl := Option.some.inj ho.symm
    clear ho
    have ev6 : FA.eval (.tmp 6) = _ := hD 1 6 (by kernel_rfl)
    have e6 := (eval_tmp FA 6).symm.trans ev6
    replace ev6 := Lib.hid ev6
    clear hO hD
    go_simp
    exact hK.out _ _ (Ex.refl _) rfl
  apply Steps.one (MP.eq _) 4 rfl
  · intro o ho FA x hO hD K hK
    obtain rfl := Option.some.inj ho.symm
    clear ho
    have e0 := hO 0 (by kernel_rfl)
    simp only [eval_tmp, List.getElem?_toArray, List.getElem?_cons_succ, List.getElem?_cons_zero, Option.getD_some] at e0
    have ev0 := Lib.hid ((eval_tmp FA 0).trans e0)
    have ev7 : FA.eval (.tmp 7) = _ := hD 2 7 (by kernel_rfl)
    have e7 := (eval_tmp FA 7).symm.trans ev7
    replace ev7 := Lib.hid ev7
    first | have ge7 := slot_of e7 | have ge7 := slot_un e7
    clear hO hD
    first | (go_simp; exact hK.out _ _ (Ex.refl _) rfl) | (rcases ge7 with ge7 | ge7 <;> (go_simp; exact hK.out _ _ (Ex.refl _) rfl))
  apply Steps.one (MP.eq _) 5 rfl
  · intro o ho FA x hO hD K hK
    obtain rfl := Option.some.inj ho.symm
    clear ho
    have ev8 : FA.eval (.tmp 8) = _ := hD 3 8 (by kernel_rfl)
    have e8 := (eval_tmp FA 8).symm.trans ev8
    replace ev8 := Lib.hid ev8
    have ev7 : FA.eval (.tmp 7) = _ := hD 2 7 (by kernel_rfl)
    have e7 := (eval_tmp FA 7).symm.trans ev7
    replace ev7 := Lib.hid ev7
    first | have ge7 := slot_of e7 | have ge7 := slot_un e7
    clear hO hD
    first | (go_simp; exact hK.out _ _ (Ex.refl _) rfl) | (rcases ge7 with ge7 | ge7 <;> (go_simp; exact hK.out _ _ (Ex.refl _) rfl))
  apply Steps.one (MP.eq _) 6 rfl
  · intro o ho FA x hO hD K hK
    obtain rfl := Option.some.inj ho.symm
    clear ho
    have ev9 : FA.eval (.tmp 9) = _ := hD 4 9 (by kernel_rfl)
    have e9 := (eval_tmp FA 9).symm.trans ev9
    replace ev9 := Lib.hid ev9
    have ev7 : FA.eval (.tmp 7) = _ := hD 2 7 (by kernel_rfl)
    have e7 := (eval_tmp FA 7).symm.trans ev7
    replace ev7 := Lib.hid ev7
    first | have ge7 := slot_of e7 | have ge7 := slot_un e7
    clear hO hD
    first | (go_simp; exact hK.out _ _ (Ex.refl _) rfl) | (rcases ge7 with ge7 | ge7 <;> (go_simp; exact hK.out _ _ (Ex.refl _) rfl))
  apply Steps.one (MP.eq _) 7 rfl
  · intro o ho FA x hO hD K hK
    obtain rfl := Option.some.inj ho.symm
    clear ho
    have ev10 : FA.eval (.tmp 10) = _ := hD 5 10 (by kernel_rfl)
    have e10 := (eval_tmp FA 10).symm.trans ev10
    replace ev10 := Lib.hid ev10
    have ev7 : FA.eval (.tmp 7) = _ := hD 2 7 (by kernel_rfl)
    have e7 := (eval_tmp FA 7).symm.trans ev7
    replace ev7 := Lib.hid ev7
    first | have ge7 := slot_of e7 | have ge7 := slot_un e7
    clear hO hD
    refine wanted_ifG (by go_simp) ?_
    refine wp_ld1 27 (.tmp 10) rfl ev10.out (hS.later (below_plus _ _ _)) hev Tryd.underlying27 rfl ?_
    exact hK.out _ _ (Ex.refl _) rfl
  apply Steps.one (MP.eq _) 8 rfl
  · intro o ho FA x hO hD K hK
    obtain rfl := Option.some.inj ho.symm
    clear ho
    have e1 := hO 1 (by kernel_rfl)
    simp only [eval_tmp, List.getElem?_toArray, List.getElem?_cons_succ, List.getElem?_cons_zero, Option.getD_some] at e1
    have ev1 := Lib.hid ((eval_tmp FA 1).trans e1)
    have ev7 : FA.eval (.tmp 7) = _ := hD 2 7 (by kernel_rfl)
    have e7 := (eval_tmp FA 7).symm.trans ev7
    replace ev7 := Lib.hid ev7
    first | have ge7 := slot_of e7 | have ge7 := slot_un e7
    clear hO hD
    first | (go_simp; exact hK.out _ _ (Ex.refl _) rfl) | (rcases ge7 with ge7 | ge7 <;> (go_simp; exact hK.out _ _ (Ex.refl _) rfl))
  apply Steps.one (MP.eq _) 9 rfl
  · intro o ho FA x hO hD K hK
    obtain rfl := Option.some.inj ho.symm
    clear ho
    have ev12 : FA.eval (.tmp 12) = _ := hD 7 12 (by kernel_rfl)
    have e12 := (eval_tmp FA 12).symm.trans ev12
    replace ev12 := Lib.hid ev12
    have ev7 : FA.eval (.tmp 7) = _ := hD 2 7 (by kernel_rfl)
    have e7 := (eval_tmp FA 7).symm.trans ev7
    replace ev7 := Lib.hid ev7
    first | have ge7 := slot_of e7 | have ge7 := slot_un e7
    clear hO hD
    refine wanted_ifG (by go_simp) ?_
    go_simp
    refine (HB.out _).mono ?_
    rintro e w1 ⟨rfl, rfl⟩
    exact hK.out _ _ (Ex.refl _) rfl
  apply Steps.one (MP.eq _) 10 rfl
  · intro o ho FA x hO hD K hK
    obtain rfl := Option.some.inj ho.symm
    clear ho
    have ev11 : FA.eval (.tmp 11) = _ := hD 6 11 (by kernel_rfl)
    have e11 := (eval_tmp FA 11).symm.trans ev11
    replace ev11 := Lib.hid ev11
    have ev13 : FA.eval (.tmp 13) = _ := hD 8 13 (by kernel_rfl)
    have e13 := (eval_tmp FA 13).symm.trans ev13
    replace ev13 := Lib.hid ev13
    have ev7 : FA.eval (.tmp 7) = _ := hD 2 7 (by kernel_rfl)
    have e7 := (eval_tmp FA 7).symm.trans ev7
    replace ev7 := Lib.hid ev7
    first | have ge7 := slot_of e7 | have ge7 := slot_un e7
    clear hO hD
    first | (go_simp; exact hK.out _ _ (Ex.refl _) rfl) | (rcases ge7 with ge7 | ge7 <;> (go_simp; exact hK.out _ _ (Ex.refl _) rfl))
  apply Steps.one (MP.eq _) 11 rfl
  · intro o ho FA x hO hD K hK
    obtain rfl := Option.some.inj ho.symm
    clear ho
    have ev14 : FA.eval (.tmp 14) = _ := hD 9 14 (by kernel_rfl)
    have e14 := (eval_tmp FA 14).symm.trans ev14
    replace ev14 := Lib.hid ev14
    have ev7 : FA.eval (.tmp 7) = _ := hD 2 7 (by kernel_rfl)
    have e7 := (eval_tmp FA 7).symm.trans ev7
    replace ev7 := Lib.hid ev7
    first | have ge7 := slot_of e7 | have ge7 := slot_un e7
    clear hO hD
    first | (go_simp; exact hK.out _ _ (Ex.refl _) rfl) | (rcases ge7 with ge7 | ge7 <;> (go_simp; exact hK.out _ _ (Ex.refl _) rfl))
  apply Steps.one (MP.eq _) 12 rfl
  · intro o ho FA x hO hD K hK
    obtain rfl := Option.some.inj ho.symm
    clear ho
    have ev7 : FA.eval (.tmp 7) = _ := hD 2 7 (by kernel_rfl)
    have e7 := (eval_tmp FA 7).symm.trans ev7
    replace ev7 := Lib.hid ev7
    have ev15 : FA.eval (.tmp 15) = _ := hD 10 15 (by kernel_rfl)
    have e15 := (eval_tmp FA 15).symm.trans ev15
    replace ev15 := Lib.hid ev15
    clear hO hD
    go_simp
    exact hK.out _ _ (Ex.refl _) rfl
  apply Steps.one (MP.eq _) 13 rfl
  · intro o ho FA x hO hD K hK
    obtain rfl := Option.some.inj ho.symm
    clear ho
    have ev16 : FA.eval (.tmp 16) = _ := hD 11 16 (by kernel_rfl)
    have e16 := (eval_tmp FA 16).symm.trans ev16
    replace ev16 := Lib.hid ev16
    clear hO hD
    go_simp
    exact hK.out _ _ (Ex.refl _) rfl
  refine Steps.fin_ (fun vs x hp => ?_)
  have p0 : vs 0 = _ := hp 0 (by omega)
  have p1 : vs 1 = _ := hp 1 (by omega)
  have p2 : vs 2 = _ := hp 2 (by omega)
  have p3 : vs 3 = _ := hp 3 (by omega)
  have p4 : vs 4 = _ := hp 4 (by omega)
  have p5 : vs 5 = _ := hp 5 (by omega)
  have p6 : vs 6 = _ := hp 6 (by omega)
  have p7 : vs 7 = _ := hp 7 (by omega)
  have p8 : vs 8 = _ := hp 8 (by omega)
  have p9 : vs 9 = _ := hp 9 (by omega)
  have p10 : vs 10 = _ := hp 10 (by omega)
  have p11 : vs 11 = _ := hp 11 (by omega)
  have p12 : vs 12 = _ := hp 12 (by omega)
  clear hp
  simp only [List.take_succ_cons, List.take_zero, List.drop_succ_cons, List.drop_zero, putAll, Nat.zero_add, Nat.reduceAdd, Act.put, List.setIfInBounds_toArray, List.set_cons_zero, List.set_cons_succ, p0, p1, p2, p3, p4, p5, p6, p7, p8, p9, p10, p11, p12]
  clear p0 p1 p2 p3 p4 p5 p6 p7 p8 p9 p10 p11 p12
  clear vs
  go_wp2
  go_ret
  exact RetV.is_ (by rw [hD.out]; simp [bne, hz]) (below_plus _ _ _)
/-- the version that is free, and is there one -/
def frV (S : Stk) : Int := if freeS S < 8 then (freeS S : Int) else 0
def frB (S : Stk) : Bool := decide (freeS S < 8)
set_option maxHeartbeats 4000000 in
set_option maxRecDepth 100000 in
theorem free_any (S : Stk) (hok : StkOk S) (g : Nat) (w : World) (hS : Bk w g 120 (stkC S)) : Calls Tryd.prog 106 #[.pointer (some ⟨g, 0, none⟩)] w (RetV w (.tuple #[.int .i64 (frV S), .bool (frB S)])) := by
  have h8 := hok.len
  have hbz := stkC_bz S
  have hf8 := freeS_le S
  obtain ⟨fv, hfv⟩ : ∃ x, frV S = x := ⟨_, rfl⟩
  obtain ⟨fb, hfb⟩ : ∃ x, frB S = x := ⟨_, rfl⟩
  rw [hfv, hfb]
  have HV := Lib.hid hfv
  have HBB := Lib.hid hfb
  clear hfv hfb
  go_enter Tryd.func106, Tryd.ntmps106
  go_upto_region 4 with (fail)
  have be := Below.refl w.heap.size w
  go_loopw [7] (fun I wr => ∃ i : Nat, I = .int .i64 (i : Int) ∧ i ≤ freeS S ∧ Below w.heap.size w wr) (fun I _ => 8 - (intOf I).toNat)
  case atStart => exact ⟨0, rfl, Nat.zero_le _, be⟩
  case round =>
    clear be
    obtain ⟨i, rfl, hi, be⟩ := hrel
    by_cases hlt : i < 8
    · replace hS := hS.later be
      have ii : (i : Int) < 8 := by omega
      have HB := Lib.hid (fun w => versionBit_any (i : Int) (by omega) w)
      have HI := Lib.hid (fun w h => index_any S h8 g (i : Int) w h)
      have hand := u64_and_nat S.bz (bitB (i : Int) 0 8) (by have := hok.bz; omega) (bitB_lt (i : Int) 0 8 (by decide))
      have hz := hasB_and S.bz (i : Int) 0 8
      have hsp := freeS_spec S i hi hlt
      have htk : takenS S i = (hasB S.bz (i : Int) 0 8 || decide (0 ≤ ixS S (i : Int))) := by
        unfold takenS hasB ixS
        have e1 : ((i : Int) - ((0 : Nat) : Int)).toNat = i := by omega
        have e2 : decide (((0 : Nat) : Int) ≤ (i : Int)) = true := decide_eq_true (by omega)
        have e3 : decide ((i : Int) < ((0 : Nat) : Int) + (8 : Nat)) = true := decide_eq_true (by omega)
        rw [e1, e2, e3]
        by_cases h9 : idxS S (i : Int) < S.lv.length
        · simp [h9]
        · simp [h9]
      rw [htk] at hsp
      clear htk
      have hsp2 : (hasB S.bz (i : Int) 0 8 = false ∧ ixS S (i : Int) < 0 → freeS S = i) ∧ (hasB S.bz (i : Int) 0 8 = true ∨ 0 ≤ ixS S (i : Int) → i + 1 ≤ freeS S) := by
        rcases hsp with ⟨h1, h2⟩ | ⟨h1, h2⟩
        · refine ⟨fun ⟨hb, hx⟩ => ?_, fun _ => h2⟩
          rw [hb, Bool.false_or, decide_eq_true_eq] at h1
          omega
        · refine ⟨fun _ => h2.symm, fun h => ?_⟩
          rw [Bool.or_eq_false_iff, decide_eq_false_iff_not] at h1
          rcases h with h | h
          · rw [h] at h1; cases h1.1
          · exact absurd h h1.2
      clear hsp
      generalize hasB S.bz (i : Int) 0 8 = b at *
      generalize S.bz &&& bitB (i : Int) 0 8 = Z at *
      generalize bitB (i : Int) 0 8 = B at *
      generalize ixS S (i : Int) = ix at *
      cases b
      · by_cases hx : ix < 0
        · have hx0 : ¬ 0 ≤ ix := by omega
          have hif : freeS S = i := hsp2.1 ⟨rfl, hx⟩
          have hv := Lib.hid (show fv = (i : Int) by rw [← HV.out]; unfold frV; rw [if_pos (by omega), hif])
          have hbb := Lib.hid (show fb = true by rw [← HBB.out]; unfold frB; exact decide_eq_true (by omega))
          clear hsp2 hif hi hf8
          go_upto_region 6 with (fail)
          refine wp_relS 14 26 rfl (by kernel_rfl) (by kernel_rfl) ?_
          apply Steps.one (MP.eq _) 1 rfl
          · intro o ho FA x hO hD K hK
            obtain rfl := Option.some.inj ho.symm
            clear ho
            have e0 := hO 0 (by kernel_rfl)
            simp only [eval_tmp, List.getElem?_toArray, List.getElem?_cons_succ, List.getElem?_cons_zero, Option.getD_some] at e0
            have ev0 := Lib.hid ((eval_tmp FA 0).trans e0)
            clear hO hD
            go_simp
            exact hK.out _ _ (Ex.refl _) rfl
          apply Steps.one (MP.eq _) 2 rfl
          · intro o ho FA x hO hD K hK
            obtain rfl := Option.some.inj ho.symm
            clear ho
            have ev10 : FA.eval (.tmp 10) = _ := hD 0 10 (by kernel_rfl)
            have e10 := (eval_tmp FA 10).symm.trans ev10
            replace ev10 := Lib.hid ev10
            clear hO hD
            go_simp
            exact hK.out _ _ (Ex.refl _) rfl
          apply Steps.one (MP.eq _) 3 rfl
          · intro o ho FA x hO hD K hK
            obtain rfl := Option.some.inj ho.symm
            clear ho
            have ev11 : FA.eval (.tmp 11) = _ := hD 1 11 (by kernel_rfl)
            have e11 := (eval_tmp FA 11).symm.trans ev11
            replace ev11 := Lib.hid ev11
            clear hO hD
            go_simp
            exact hK.out _ _ (Ex.refl _) rfl
          apply Steps.one (MP.eq _) 4 rfl
          · intro o ho FA x hO hD K hK
            obtain rfl := Option.some.inj ho.symm
            clear ho
            have ev12 : FA.eval (.tmp 12) = _ := hD 2 12 (by kernel_rfl)
            have e12 := (eval_tmp FA 12).symm.trans ev12
            replace ev12 := Lib.hid ev12
            clear hO hD
            refine wanted_if rfl ?_
            refine wp_ld1 27 (.tmp 12) rfl ev12.out (hS.later (below_plus _ _ _)) hbz Tryd.underlying27 rfl ?_
            exact hK.out _ _ (Ex.refl _) rfl
          apply Steps.one (MP.eq _) 5 rfl
          · intro o ho FA x hO hD K hK
            obtain rfl := Option.some.inj ho.symm
            clear ho
            have e4 := hO 4 (by kernel_rfl)
            simp only [eval_tmp, List.getElem?_toArray, List.getElem?_cons_succ, List.getElem?_cons_zero, Option.getD_some] at e4
            have ev4 := Lib.hid ((eval_tmp FA 4).trans e4)
            clear hO hD
            go_simp
            exact hK.out _ _ (Ex.refl _) rfl
          apply Steps.one (MP.eq _) 6 rfl
          · intro o ho FA x hO hD K hK
            obtain rfl := Option.some.inj ho.symm
            clear ho
            have ev14 : FA.eval (.tmp 14) = _ := hD 4 14 (by kernel_rfl)
            have e14 := (eval_tmp FA 14).symm.trans ev14
            replace ev14 := Lib.hid ev14
            clear hO hD
            go_simp
            refine (HB.out _).mono ?_
            rintro e w1 ⟨rfl, rfl⟩
            exact hK.out _ _ (Ex.refl _) rfl
          apply Steps.one (MP.eq _) 7 rfl
          · intro o ho FA x hO hD K hK
            obtain rfl := Option.some.inj ho.symm
            clear ho
            have ev13 : FA.eval (.tmp 13) = _ := hD 3 13 (by kernel_rfl)
            have e13 := (eval_tmp FA 13).symm.trans ev13
            replace ev13 := Lib.hid ev13
            have ev15 : FA.eval (.tmp 15) = _ := hD 5 15 (by kernel_rfl)
            have e15 := (eval_tmp FA 15).symm.trans ev15
            replace ev15 := Lib.hid ev15
            clear hO hD
            go_simp
            exact hK.out _ _ (Ex.refl _) rfl
          apply Steps.one (MP.eq _) 8 rfl
          · intro o ho FA x hO hD K hK
            obtain rfl := Option.some.inj ho.symm
            clear ho
            have ev16 : FA.eval (.tmp 16) = _ := hD 6 16 (by kernel_rfl)
            have e16 := (eval_tmp FA 16).symm.trans ev16
            replace ev16 := Lib.hid ev16
            clear hO hD
            go_simp
            exact hK.out _ _ (Ex.refl _) rfl
          apply Steps.one (MP.eq _) 9 rfl
          · intro o ho FA x hO hD K hK
            obtain rfl := Option.some.inj ho.symm
            clear ho
            have ev17 : FA.eval (.tmp 17) = _ := hD 7 17 (by kernel_rfl)
            have e17 := (eval_tmp FA 17).symm.trans ev17
            replace ev17 := Lib.hid ev17
            clear hO hD
            go_simp
            exact hK.out _ _ (Ex.refl _) rfl
          apply Steps.one (MP.eq _) 10 rfl
          · intro o ho FA x hO hD K hK
            obtain rfl := Option.some.inj ho.symm
            clear ho
            have e0 := hO 0 (by kernel_rfl)
            simp only [eval_tmp, List.getElem?_toArray, List.getElem?_cons_succ, List.getElem?_cons_zero, Option.getD_some] at e0
            have ev0 := Lib.hid ((eval_tmp FA 0).trans e0)
            have ev18 : FA.eval (.tmp 18) = _ := hD 8 18 (by kernel_rfl)
            have e18 := (eval_tmp FA 18).symm.trans ev18
            replace ev18 := Lib.hid ev18
            first | have ge18 := slot_of e18 | have ge18 := slot_un e18
            clear hO hD
            first | (go_simp; exact hK.out _ _ (Ex.refl _) rfl) | (rcases ge18 with ge18 | ge18 <;> (go_simp; exact hK.out _ _ (Ex.refl _) rfl))
          apply Steps.one (MP.eq _) 11 rfl
          · intro o ho FA x hO hD K hK
            obtain rfl := Option.some.inj ho.symm
            clear ho
            have e4 := hO 4 (by kernel_rfl)
            simp only [eval_tmp, List.getElem?_toArray, List.getElem?_cons_succ, List.getElem?_cons_zero, Option.getD_some] at e4
            have ev4 := Lib.hid ((eval_tmp FA 4).trans e4)
            have ev18 : FA.eval (.tmp 18) = _ := hD 8 18 (by kernel_rfl)
            have e18 := (eval_tmp FA 18).symm.trans ev18
            replace ev18 := Lib.hid ev18
            first | have ge18 := slot_of e18 | have ge18 := slot_un e18
            clear hO hD
            first | (go_simp; exact hK.out _ _ (Ex.refl _) rfl) | (rcases ge18 with ge18 | ge18 <;> (go_simp; exact hK.out _ _ (Ex.refl _) rfl))
          apply Steps.one (MP.eq (.int .i64 ix)) 12 rfl
          · intro o ho FA x hO hD K hK
            obtain rfl := Option.some.inj ho.symm
            clear ho
            have ev19 : FA.eval (.tmp 19) = _ := hD 9 19 (by kernel_rfl)
            have e19 := (eval_tmp FA 19).symm.trans ev19
            replace ev19 := Lib.hid ev19
            have ev20 : FA.eval (.tmp 20) = _ := hD 10 20 (by kernel_rfl)
            have e20 := (eval_tmp FA 20).symm.trans ev20
            replace ev20 := Lib.hid ev20
            have ev18 : FA.eval (.tmp 18) = _ := hD 8 18 (by kernel_rfl)
            have e18 := (eval_tmp FA 18).symm.trans ev18
            replace ev18 := Lib.hid ev18
            first | have ge18 := slot_of e18 | have ge18 := slot_un e18
            clear hO hD
            refine wanted_ifG (by go_simp) ?_
            go_simp
            refine (HI.out _ (hS.later (below_plus _ _ _))).mono ?_
            rintro e w1 ⟨bs9, d9, rfl, rfl⟩
            exact hK.out _ _ (Ex.plus_ _ _ _) rfl
          apply Steps.one (MP.eq _) 13 rfl
          · intro o ho FA x hO hD K hK
            obtain rfl := Option.some.inj ho.symm
            clear ho
            have ev21 : FA.eval (.tmp 21) = _ := hD 11 21 (by kernel_rfl)
            have e21 := (eval_tmp FA 21).symm.trans ev21
            replace ev21 := Lib.hid ev21
            have ev18 : FA.eval (.tmp 18) = _ := hD 8 18 (by kernel_rfl)
            have e18 := (eval_tmp FA 18).symm.trans ev18
            replace ev18 := Lib.hid ev18
            first | have ge18 := slot_of e18 | have ge18 := slot_un e18
            clear hO hD
            first | (go_simp; exact hK.out _ _ (Ex.refl _) rfl) | (rcases ge18 with ge18 | ge18 <;> (go_simp; exact hK.out _ _ (Ex.refl _) rfl))
          apply Steps.one (MP.eq _) 14 rfl
          · intro o ho FA x hO hD K hK
            obtain rfl := Option.some.inj ho.symm
            clear ho
            have ev18 : FA.eval (.tmp 18) = _ := hD 8 18 (by kernel_rfl)
            have e18 := (eval_tmp FA 18).symm.trans ev18
            replace ev18 := Lib.hid ev18
            have ev22 : FA.eval (.tmp 22) = _ := hD 12 22 (by kernel_rfl)
            have e22 := (eval_tmp FA 22).symm.trans ev22
            replace ev22 := Lib.hid ev22
            clear hO hD
            go_simp
            exact hK.out _ _ (Ex.refl _) rfl
          refine Steps.fin_ (fun vs x hp => ?_)
          have p0 : vs 0 = _ := hp 0 (by omega)
          have p1 : vs 1 = _ := hp 1 (by omega)
          have p2 : vs 2 = _ := hp 2 (by omega)
          have p3 : vs 3 = _ := hp 3 (by omega)
          have p4 : vs 4 = _ := hp 4 (by omega)
          have p5 : vs 5 = _ := hp 5 (by omega)
          have p6 : vs 6 = _ := hp 6 (by omega)
          have p7 : vs 7 = _ := hp 7 (by omega)
          have p8 : vs 8 = _ := hp 8 (by omega)
          have p9 : vs 9 = _ := hp 9 (by omega)
          have p10 : vs 10 = _ := hp 10 (by omega)
          have p11 : vs 11 = _ := hp 11 (by omega)
          have p12 : vs 12 = _ := hp 12 (by omega)
          have p13 : vs 13 = _ := hp 13 (by omega)
          clear hp
          simp only [List.take_succ_cons, List.take_zero, List.drop_succ_cons, List.drop_zero, putAll, Nat.zero_add, Nat.reduceAdd, Act.put, List.setIfInBounds_toArray, List.set_cons_zero, List.set_cons_succ, p0, p1, p2, p3, p4, p5, p6, p7, p8, p9, p10, p11, p12, p13]
          clear p0 p1 p2 p3 p4 p5 p6 p7 p8 p9 p10 p11 p12 p13
          clear vs
          have be2 := be.trans ((below_plus wr x.bs x.d).mono be.size)
          go_wp2
          go_ret2
          refine RetV.is_ ?_ be2
          rw [hv.out, hbb.out]
          rfl
        · have hx0 : 0 ≤ ix := by omega
          have hif : i + 1 ≤ freeS S := hsp2.2 (.inr hx0)
          clear hsp2 hi
          go_upto_region 6 with (fail)
          refine wp_relS 14 26 rfl (by kernel_rfl) (by kernel_rfl) ?_
          apply Steps.one (MP.eq _) 1 rfl
          · intro o ho FA x hO hD K hK
            obtain rfl := Option.some.inj ho.symm
            clear ho
            have e0 := hO 0 (by kernel_rfl)
            simp only [eval_tmp, List.getElem?_toArray, List.getElem?_cons_succ, List.getElem?_cons_zero, Option.getD_some] at e0
            have ev0 := Lib.hid ((eval_tmp FA 0).trans e0)
            clear hO hD
            go_simp
            exact hK.out _ _ (Ex.refl _) rfl
          apply Steps.one (MP.eq _) 2 rfl
          · intro o ho FA x hO hD K hK
            obtain rfl := Option.some.inj ho.symm
            clear ho
            have ev10 : FA.eval (.tmp 10) = _ := hD 0 10 (by kernel_rfl)
            have e10 := (eval_tmp FA 10).symm.trans ev10
            replace ev10 := Lib.hid ev10
            clear hO hD
            go_simp
            exact hK.out _ _ (Ex.refl _) rfl
          apply Steps.one (MP.eq _) 3 rfl
          · intro o ho FA x hO hD K hK
            obtain rfl := Option.some.inj ho.symm
            clear ho
            have ev11 : FA.eval (.tmp 11) = _ := hD 1 11 (by kernel_rfl)
            have e11 := (eval_tmp FA 11).symm.trans ev11
            replace ev11 := Lib.hid ev11
            clear hO hD
            go_simp
            exact hK.out _ _ (Ex.refl _) rfl
          apply Steps.one (MP.eq _) 4 rfl
          · intro o ho FA x hO hD K hK
            obtain rfl := Option.some.inj ho.symm
            clear ho
            have ev12 : FA.eval (.tmp 12) = _ := hD 2 12 (by kernel_rfl)
            have e12 := (eval_tmp FA 12).symm.trans ev12
            replace ev12 := Lib.hid ev12
            clear hO hD
            refine wanted_if rfl ?_
            refine wp_ld1 27 (.tmp 12) rfl ev12.out (hS.later (below_plus _ _ _)) hbz Tryd.underlying27 rfl ?_
            exact hK.out _ _ (Ex.refl _) rfl
          apply Steps.one (MP.eq _) 5 rfl
          · intro o ho FA x hO hD K hK
            obtain rfl := Option.some.inj ho.symm
            clear ho
            have e4 := hO 4 (by kernel_rfl)
            simp only [eval_tmp, List.getElem?_toArray, List.getElem?_cons_succ, List.getElem?_cons_zero, Option.getD_some] at e4
            have ev4 := Lib.hid ((eval_tmp FA 4).trans e4)
            clear hO hD
            go_simp
            exact hK.out _ _ (Ex.refl _) rfl
          apply Steps.one (MP.eq _) 6 rfl
          · intro o ho FA x hO hD K hK
            obtain rfl := Option.some.inj ho.symm
            clear ho
            have ev14 : FA.eval (.tmp 14) = _ := hD 4 14 (by kernel_rfl)
            have e14 := (eval_tmp FA 14).symm.trans ev14
            replace ev14 := Lib.hid ev14
            clear hO hD
            go_simp
            refine (HB.out _).mono ?_
            rintro e w1 ⟨rfl, rfl⟩
            exact hK.out _ _ (Ex.refl _) rfl
          apply Steps.one (MP.eq _) 7 rfl
          · intro o ho FA x hO hD K hK
            obtain rfl := Option.some.inj ho.symm
            clear ho
            have ev13 : FA.eval (.tmp 13) = _ := hD 3 13 (by kernel_rfl)
            have e13 := (eval_tmp FA 13).symm.trans ev13
            replace ev13 := Lib.hid ev13
            have ev15 : FA.eval (.tmp 15) = _ := hD 5 15 (by kernel_rfl)
            have e15 := (eval_tmp FA 15).symm.trans ev15
            replace ev15 := Lib.hid ev15
            clear hO hD
            go_simp
            exact hK.out _ _ (Ex.refl _) rfl
          apply Steps.one (MP.eq _) 8 rfl
          · intro o ho FA x hO hD K hK
            obtain rfl := Option.some.inj ho.symm
            clear ho
            have ev16 : FA.eval (.tmp 16) = _ := hD 6 16 (by kernel_rfl)
            have e16 := (eval_tmp FA 16).symm.trans ev16
            replace ev16 := Lib.hid ev16
            clear hO hD
            go_simp
            exact hK.out _ _ (Ex.refl _) rfl
          apply Steps.one (MP.eq _) 9 rfl
          · intro o ho FA x hO hD K hK
            obtain rfl := Option.some.inj ho.symm
            clear ho
            have ev17 : FA.eval (.tmp 17) = _ := hD 7 17 (by kernel_rfl)
            have e17 := (eval_tmp FA 17).symm.trans ev17
            replace ev17 := Lib.hid ev17
            clear hO hD
            go_simp
            exact hK.out _ _ (Ex.refl _) rfl
          apply Steps.one (MP.eq _) 10 rfl
          · intro o ho FA x hO hD K hK
            obtain rfl := Option.some.inj ho.symm
            clear ho
            have e0 := hO 0 (by kernel_rfl)
            simp only [eval_tmp, List.getElem?_toArray, List.getElem?_cons_succ, List.getElem?_cons_zero, Option.getD_some] at e0
            have ev0 := Lib.hid ((eval_tmp FA 0).trans e0)
            have ev18 : FA.eval (.tmp 18) = _ := hD 8 18 (by kernel_rfl)
            have e18 := (eval_tmp FA 18).symm.trans ev18
            replace ev18 := Lib.hid ev18
            first | have ge18 := slot_of e18 | have ge18 := slot_un e18
            clear hO hD
            first | (go_simp; exact hK.out _ _ (Ex.refl _) rfl) | (rcases ge18 with ge18 | ge18 <;> (go_simp; exact hK.out _ _ (Ex.refl _) rfl))
          apply Steps.one (MP.eq _) 11 rfl
          · intro o ho FA x hO hD K hK
            obtain rfl := Option.some.inj ho.symm
            clear ho
            have e4 := hO 4 (by kernel_rfl)
            simp only [eval_tmp, List.getElem?_toArray, List.getElem?_cons_succ, List.getElem?_cons_zero, Option.getD_some] at e4
            have ev4 := Lib.hid ((eval_tmp FA 4).trans e4)
            have ev18 : FA.eval (.tmp 18) = _ := hD 8 18 (by kernel_rfl)
            have e18 := (eval_tmp FA 18).symm.trans ev18
            replace ev18 := Lib.hid ev18
            first | have ge18 := slot_of e18 | have ge18 := slot_un e18
            clear hO hD
            first | (go_simp; exact hK.out _ _ (Ex.refl _) rfl) | (rcases ge18 with ge18 | ge18 <;> (go_simp; exact hK.out _ _ (Ex.refl _) rfl))
          apply Steps.one (MP.eq (.int .i64 ix)) 12 rfl
          · intro o ho FA x hO hD K hK
            obtain rfl := Option.some.inj ho.symm
            clear ho
            have ev19 : FA.eval (.tmp 19) = _ := hD 9 19 (by kernel_rfl)
            have e19 := (eval_tmp FA 19).symm.trans ev19
            replace ev19 := Lib.hid ev19
            have ev20 : FA.eval (.tmp 20) = _ := hD 10 20 (by kernel_rfl)
            have e20 := (eval_tmp FA 20).symm.trans ev20
            replace ev20 := Lib.hid ev20
            have ev18 : FA.eval (.tmp 18) = _ := hD 8 18 (by kernel_rfl)
            have e18 := (eval_tmp FA 18).symm.trans ev18
            replace ev18 := Lib.hid ev18
            first | have ge18 := slot_of e18 | have ge18 := slot_un e18
            clear hO hD
            refine wanted_ifG (by go_simp) ?_
            go_simp
            refine (HI.out _ (hS.later (below_plus _ _ _))).mono ?_
            rintro e w1 ⟨bs9, d9, rfl, rfl⟩
            exact hK.out _ _ (Ex.plus_ _ _ _) rfl
          apply Steps.one (MP.eq _) 13 rfl
          · intro o ho FA x hO hD K hK
            obtain rfl := Option.some.inj ho.symm
            clear ho
            have ev21 : FA.eval (.tmp 21) = _ := hD 11 21 (by kernel_rfl)
            have e21 := (eval_tmp FA 21).symm.trans ev21
            replace ev21 := Lib.hid ev21
            have ev18 : FA.eval (.tmp 18) = _ := hD 8 18 (by kernel_rfl)
            have e18 := (eval_tmp FA 18).symm.trans ev18
            replace ev18 := Lib.hid ev18
            first | have ge18 := slot_of e18 | have ge18 := slot_un e18
            clear hO hD
            first | (go_simp; exact hK.out _ _ (Ex.refl _) rfl) | (rcases ge18 with ge18 | ge18 <;> (go_simp; exact hK.out _ _ (Ex.refl _) rfl))
          apply Steps.one (MP.eq _) 14 rfl
          · intro o ho FA x hO hD K hK
            obtain rfl := Option.some.inj ho.symm
            clear ho
            have ev18 : FA.eval (.tmp 18) = _ := hD 8 18 (by kernel_rfl)
            have e18 := (eval_tmp FA 18).symm.trans ev18
            replace ev18 := Lib.hid ev18
            have ev22 : FA.eval (.tmp 22) = _ := hD 12 22 (by kernel_rfl)
            have e22 := (eval_tmp FA 22).symm.trans ev22
            replace ev22 := Lib.hid ev22
            clear hO hD
            go_simp
            exact hK.out _ _ (Ex.refl _) rfl
          refine Steps.fin_ (fun vs x hp => ?_)
          have p0 : vs 0 = _ := hp 0 (by omega)
          have p1 : vs 1 = _ := hp 1 (by omega)
          have p2 : vs 2 = _ := hp 2 (by omega)
          have p3 : vs 3 = _ := hp 3 (by omega)
          have p4 : vs 4 = _ := hp 4 (by omega)
          have p5 : vs 5 = _ := hp 5 (by omega)
          have p6 : vs 6 = _ := hp 6 (by omega)
          have p7 : vs 7 = _ := hp 7 (by omega)
          have p8 : vs 8 = _ := hp 8 (by omega)
          have p9 : vs 9 = _ := hp 9 (by omega)
          have p10 : vs 10 = _ := hp 10 (by omega)
          have p11 : vs 11 = _ := hp 11 (by omega)
          have p12 : vs 12 = _ := hp 12 (by omega)
          have p13 : vs 13 = _ := hp 13 (by omega)
          clear hp
          simp only [List.take_succ_cons, List.take_zero, List.drop_succ_cons, List.drop_zero, putAll, Nat.zero_add, Nat.reduceAdd, Act.put, List.setIfInBounds_toArray, List.set_cons_zero, List.set_cons_succ, p0, p1, p2, p3, p4, p5, p6, p7, p8, p9, p10, p11, p12, p13]
          clear p0 p1 p2 p3 p4 p5 p6 p7 p8 p9 p10 p11 p12 p13
          clear vs
          have be2 := be.trans ((below_plus wr x.bs x.d).mono be.size)
          go_wp2
          exact ⟨⟨i + 1, by go_num, hif, be2⟩, by simp [intOf]; omega⟩
      · have hif : i + 1 ≤ freeS S := hsp2.2 (.inl rfl)
        clear hsp2 hi HI
        go_upto_region 6 with (fail)
        refine wp_relS 14 26 rfl (by kernel_rfl) (by kernel_rfl) ?_
        apply Steps.one (MP.eq _) 1 rfl
        · intro o ho FA x hO hD K hK
          obtain rfl := Option.some.inj ho.symm
          clear ho
          have e0 := hO 0 (by kernel_rfl)
          simp only [eval_tmp, List.getElem?_toArray, List.getElem?_cons_succ, List.getElem?_cons_zero, Option.getD_some] at e0
          have ev0 := Lib.hid ((eval_tmp FA 0).trans e0)
          clear hO hD
          go_simp
          exact hK.out _ _ (Ex.refl _) rfl
        apply Steps.one (MP.eq _) 2 rfl
        · intro o ho FA x hO hD K hK
          obtain rfl := Option.some.inj ho.symm
          clear ho
          have ev10 : FA.eval (.tmp 10) = _ := hD 0 10 (by kernel_rfl)
          have e10 := (eval_tmp FA 10).symm.trans ev10
          replace ev10 := Lib.hid ev10
          clear hO hD
          go_simp
          exact hK.out _ _ (Ex.refl _) rfl
        apply Steps.one (MP.eq _) 3 rfl
        · intro o ho FA x hO hD K hK
          obtain rfl := Option.some.inj ho.symm
          clear ho
          have ev11 : FA.eval (.tmp 11) = _ := hD 1 11 (by kernel_rfl)
          have e11 := (eval_tmp FA 11).symm.trans ev11
          replace ev11 := Lib.hid ev11
          clear hO hD
          go_simp
          exact hK.out _ _ (Ex.refl _) rfl
        apply Steps.one (MP.eq _) 4 rfl
        · intro o ho FA x hO hD K hK
          obtain rfl := Option.some.inj ho.symm
          clear ho
          have ev12 : FA.eval (.tmp 12) = _ := hD 2 12 (by kernel_rfl)
          have e12 := (eval_tmp FA 12).symm.trans ev12
          replace ev12 := Lib.hid ev12
          clear hO hD
          refine wanted_if rfl ?_
          refine wp_ld1 27 (.tmp 12) rfl ev12.out (hS.later (below_plus _ _ _)) hbz Tryd.underlying27 rfl ?_
          exact hK.out _ _ (Ex.refl _) rfl
        apply Steps.one (MP.eq _) 5 rfl
        · intro o ho FA x hO hD K hK
          obtain rfl := Option.some.inj ho.symm
          clear ho
          have e4 := hO 4 (by kernel_rfl)
          simp only [eval_tmp, List.getElem?_toArray, List.getElem?_cons_succ, List.getElem?_cons_zero, Option.getD_some] at e4
          have ev4 := Lib.hid ((eval_tmp FA 4).trans e4)
          clear hO hD
          go_simp
          exact hK.out _ _ (Ex.refl _) rfl
        apply Steps.one (MP.eq _) 6 rfl
        · intro o ho FA x hO hD K hK
          obtain rfl := Option.some.inj ho.symm
          clear ho
          have ev14 : FA.eval (.tmp 14) = _ := hD 4 14 (by kernel_rfl)
          have e14 := (eval_tmp FA 14).symm.trans ev14
          replace ev14 := Lib.hid ev14
          clear hO hD
          go_simp
          refine (HB.out _).mono ?_
          rintro e w1 ⟨rfl, rfl⟩
          exact hK.out _ _ (Ex.refl _) rfl
        apply Steps.one (MP.eq _) 7 rfl
        · intro o ho FA x hO hD K hK
          obtain rfl := Option.some.inj ho.symm
          clear ho
          have ev13 : FA.eval (.tmp 13) = _ := hD 3 13 (by kernel_rfl)
          have e13 := (eval_tmp FA 13).symm.trans ev13
          replace ev13 := Lib.hid ev13
          have ev15 : FA.eval (.tmp 15) = _ := hD 5 15 (by kernel_rfl)
          have e15 := (eval_tmp FA 15).symm.trans ev15
          replace ev15 := Lib.hid ev15
          clear hO hD
          go_simp
          exact hK.out _ _ (Ex.refl _) rfl
        apply Steps.one (MP.eq _) 8 rfl
        · intro o ho FA x hO hD K hK
          obtain rfl := Option.some.inj ho.symm
          clear ho
          have ev16 : FA.eval (.tmp 16) = _ := hD 6 16 (by kernel_rfl)
          have e16 := (eval_tmp FA 16).symm.trans ev16
          replace ev16 := Lib.hid ev16
          clear hO hD
          go_simp
          exact hK.out _ _ (Ex.refl _) rfl
        apply Steps.one (MP.eq _) 9 rfl
        · intro o ho FA x hO hD K hK
          obtain rfl := Option.some.inj ho.symm
          clear ho
          have ev17 : FA.eval (.tmp 17) = _ := hD 7 17 (by kernel_rfl)
          have e17 := (eval_tmp FA 17).symm.trans ev17
          replace ev17 := Lib.hid ev17
          clear hO hD
          go_simp
          exact hK.out _ _ (Ex.refl _) rfl
        apply Steps.one (MP.eq _) 10 rfl
        · intro o ho FA x hO hD K hK
          obtain rfl := Option.some.inj ho.symm
          clear ho
          have e0 := hO 0 (by kernel_rfl)
          simp only [eval_tmp, List.getElem?_toArray, List.getElem?_cons_succ, List.getElem?_cons_zero, Option.getD_some] at e0
          have ev0 := Lib.hid ((eval_tmp FA 0).trans e0)
          have ev18 : FA.eval (.tmp 18) = _ := hD 8 18 (by kernel_rfl)
          have e18 := (eval_tmp FA 18).symm.trans ev18
          replace ev18 := Lib.hid ev18
          first | have ge18 := slot_of e18 | have ge18 := slot_un e18
          clear hO hD
          first | (go_simp; exact hK.out _ _ (Ex.refl _) rfl) | (rcases ge18 with ge18 | ge18 <;> (go_simp; exact hK.out _ _ (Ex.refl _) rfl))
        apply Steps.one (MP.eq _) 11 rfl
        · intro o ho FA x hO hD K hK
          obtain rfl := Option.some.inj ho.symm
          clear ho
          have e4 := hO 4 (by kernel_rfl)
          simp only [eval_tmp, List.getElem?_toArray, List.getElem?_cons_succ, List.getElem?_cons_zero, Option.getD_some] at e4
          have ev4 := Lib.hid ((eval_tmp FA 4).trans e4)
          have ev18 : FA.eval (.tmp 18) = _ := hD 8 18 (by kernel_rfl)
          have e18 := (eval_tmp FA 18).symm.trans ev18
          replace ev18 := Lib.hid ev18
          first | have ge18 := slot_of e18 | have ge18 := slot_un e18
          clear hO hD
          first | (go_simp; exact hK.out _ _ (Ex.refl _) rfl) | (rcases ge18 with ge18 | ge18 <;> (go_simp; exact hK.out _ _ (Ex.refl _) rfl))
        apply Steps.one (MP.eq _) 12 rfl
        · intro o ho FA x hO hD K hK
          obtain rfl := Option.some.inj ho.symm
          clear ho
          have ev19 : FA.eval (.tmp 19) = _ := hD 9 19 (by kernel_rfl)
          have e19 := (eval_tmp FA 19).symm.trans ev19
          replace ev19 := Lib.hid ev19
          have ev20 : FA.eval (.tmp 20) = _ := hD 10 20 (by kernel_rfl)
          have e20 := (eval_tmp FA 20).symm.trans ev20
          replace ev20 := Lib.hid ev20
          have ev18 : FA.eval (.tmp 18) = _ := hD 8 18 (by kernel_rfl)
          have e18 := (eval_tmp FA 18).symm.trans ev18
          replace ev18 := Lib.hid ev18
          first | have ge18 := slot_of e18 | have ge18 := slot_un e18
          clear hO hD
          first | (go_simp; exact hK.out _ _ (Ex.refl _) rfl) | (rcases ge18 with ge18 | ge18 <;> (go_simp; exact hK.out _ _ (Ex.refl _) rfl))
        apply Steps.one (MP.eq _) 13 rfl
        · intro o ho FA x hO hD K hK
          obtain rfl := Option.some.inj ho.symm
          clear ho
          have ev21 : FA.eval (.tmp 21) = _ := hD 11 21 (by kernel_rfl)
          have e21 := (eval_tmp FA 21).symm.trans ev21
          replace ev21 := Lib.hid ev21
          have ev18 : FA.eval (.tmp 18) = _ := hD 8 18 (by kernel_rfl)
          have e18 := (eval_tmp FA 18).symm.trans ev18
          replace ev18 := Lib.hid ev18
          first | have ge18 := slot_of e18 | have ge18 := slot_un e18
          clear hO hD
          first | (go_simp; exact hK.out _ _ (Ex.refl _) rfl) | (rcases ge18 with ge18 | ge18 <;> (go_simp; exact hK.out _ _ (Ex.refl _) rfl))
        apply Steps.one (MP.eq _) 14 rfl
        · intro o ho FA x hO hD K hK
          obtain rfl := Option.some.inj ho.symm
          clear ho
          have ev18 : FA.eval (.tmp 18) = _ := hD 8 18 (by kernel_rfl)
          have e18 := (eval_tmp FA 18).symm.trans ev18
          replace ev18 := Lib.hid ev18
          have ev22 : FA.eval (.tmp 22) = _ := hD 12 22 (by kernel_rfl)
          have e22 := (eval_tmp FA 22).symm.trans ev22
          replace ev22 := Lib.hid ev22
          clear hO hD
          go_simp
          exact hK.out _ _ (Ex.refl _) rfl
        refine Steps.fin_ (fun vs x hp => ?_)
        have p0 : vs 0 = _ := hp 0 (by omega)
        have p1 : vs 1 = _ := hp 1 (by omega)
        have p2 : vs 2 = _ := hp 2 (by omega)
        have p3 : vs 3 = _ := hp 3 (by omega)
        have p4 : vs 4 = _ := hp 4 (by omega)
        have p5 : vs 5 = _ := hp 5 (by omega)
        have p6 : vs 6 = _ := hp 6 (by omega)
        have p7 : vs 7 = _ := hp 7 (by omega)
        have p8 : vs 8 = _ := hp 8 (by omega)
        have p9 : vs 9 = _ := hp 9 (by omega)
        have p10 : vs 10 = _ := hp 10 (by omega)
        have p11 : vs 11 = _ := hp 11 (by omega)
        have p12 : vs 12 = _ := hp 12 (by omega)
        have p13 : vs 13 = _ := hp 13 (by omega)
        clear hp
        simp only [List.take_succ_cons, List.take_zero, List.drop_succ_cons, List.drop_zero, putAll, Nat.zero_add, Nat.reduceAdd, Act.put, List.setIfInBounds_toArray, List.set_cons_zero, List.set_cons_succ, p0, p1, p2, p3, p4, p5, p6, p7, p8, p9, p10, p11, p12, p13]
        clear p0 p1 p2 p3 p4 p5 p6 p7 p8 p9 p10 p11 p12 p13
        clear vs
        have be2 := be.trans ((below_plus wr x.bs x.d).mono be.size)
        go_wp2
        exact ⟨⟨i + 1, by go_num, hif, be2⟩, by simp [intOf]; omega⟩
    · have hv := Lib.hid (show fv = 0 by rw [← HV.out]; unfold frV; rw [if_neg (by omega)])
      have hbb := Lib.hid (show fb = false by rw [← HBB.out]; unfold frB; exact decide_eq_false (by omega))
      have ii : ¬ (i : Int) < 8 := by omega
      clear hi hf8
      go_wp2
      go_ret2
      refine RetV.is_ ?_ be
      rw [hv.out, hbb.out]
      rfl
theorem bodyPost_agg1m {P : Program} {fn : Func} {R : Ending → World → Prop} {a : Act} {w : World} {slot slot2 slot3 ty g : Nat} {d : TypeDesc} {cs : List Value} {u u' : Value} (hfr : fn.results = #[.tmp slot, .cell slot2 ty, .tmp slot3]) (hs : a.tmps.getD slot undef = u) (hs2 : a.tmps.getD slot2 undef = .pointer (some ⟨g, 0, none⟩)) (hs3 : a.tmps.getD slot3 undef = u')
    (hb : w.rangeAt g 0 cs) (hu : P.underlying ty = some d) (hd : d.isRow = true) (hi : (P.info? ty).map (·.size) = some cs.length) (hdf : a.defers = []) (hR : R (.returned (.tuple #[u, .agg cs.toArray, u'])) w) : bodyPost P fn R .ret a w := by
  refine bodyPost_ret (v := .tuple #[u, .agg cs.toArray, u']) ?_ hdf hR
  have h1 := run_loadVar_mid (P := P) w g 0 ty cs d hb hu hd hi
  have hs' : a.tmps[slot]?.getD undef = u := by simpa using hs
  have hs2' : a.tmps[slot2]?.getD undef = .pointer (some ⟨g, 0, none⟩) := by simpa using hs2
  have hs3' : a.tmps[slot3]?.getD undef = u' := by simpa using hs3
  simp [results, hfr, hs', hs2', hs3', asAddr, h1]
theorem stkC_lev0 (S : Stk) (i : Nat) (h : i < S.lv.length) (h8 : i < 8) : (stkC S)[1 + i * 130]? = some (.int .i64 (S.lv[i].1 : Int)) := by
  have := stkC_lev S i h h8 0 (.int .i64 (S.lv[i].1 : Int)) rfl
  simpa using this
theorem stkC_tab (S : Stk) (i : Nat) (h : i < S.lv.length) (h8 : i < 8) : ((stkC S).drop (1 + i * 130 + 1)).take (tabC S.lv[i].2).length = tabC S.lv[i].2 := part_ofS (fun k u hk => by
  have := stkC_lev S i h h8 (k + 1) u (by simpa [levC] using hk)
  rw [show 1 + i * 130 + 1 + k = 1 + i * 130 + (k + 1) by omega]
  exact this)
set_option maxHeartbeats 4000000 in
set_option maxRecDepth 100000 in
theorem newest_yes (S : Stk) (h8 : S.lv.length ≤ 8) (h0 : 0 < S.lv.length) (g : Nat) (w : World) (hS : Bk w g 120 (stkC S)) : Calls Tryd.prog 21 #[.pointer (some ⟨g, 0, none⟩)] w (RetV w (.tuple #[.int .i64 ((S.lv[S.lv.length - 1]).1 : Nat), .agg (tabC (S.lv[S.lv.length - 1]).2).toArray, .bool true])) := by
  obtain ⟨dvt, vt1, vt2⟩ := rowTab
  have hzv : ∀ w, (zeroValue 78).run Tryd.prog w = .ok (.agg (tabC []).toArray) w := fun _ => by kernel_rfl
  have hq := stkC_lev0 S (S.lv.length - 1) (by omega) (by omega)
  have hp := stkC_tab S (S.lv.length - 1) (by omega) (by omega)
  obtain ⟨e0, he0⟩ : ∃ e0, S.lv[S.lv.length - 1]'(by omega) = e0 := ⟨_, rfl⟩
  rw [he0] at hq hp ⊢
  clear he0
  obtain ⟨v0, t0⟩ := e0
  simp only [] at hq hp ⊢
  have HL := Lib.hid (fun w h => stkLen_any S h8 g w h)
  obtain ⟨n, hn⟩ : ∃ n, S.lv.length = n + 1 := ⟨S.lv.length - 1, by omega⟩
  rw [hn] at HL h8
  rw [hn, Nat.add_sub_cancel] at hq hp
  clear hn h0
  have hS1 := hS.alloc (.cells (tabC []).toArray 78)
  have b3 : Bk (w.alloc (.cells (tabC []).toArray 78)) w.heap.size 78 (tabC []) := Bk.new w 78 (tabC []).toArray
  have be : Below w.heap.size w (w.alloc (.cells (tabC []).toArray 78)) := Below.allocS (Below.refl _ _) _
  have n0 : ¬ (((n + 1 : Nat) : Int)) = 0 := by omega
  have n8 : (n : Int) < 8 := by omega
  have nw : IntKind.i64.wrap (((n + 1 : Nat) : Int) - 1) = (n : Int) := by rw [IntWalk.i64_in _ (by omega)]; omega
  have nw2 : IntKind.i64.wrap ((n : Int) + 1 - 1) = (n : Int) := by rw [IntWalk.i64_in _ (by omega)]; omega
  go_enter Tryd.func21, Tryd.ntmps21
  go_upto_region 1 with (fail)
  generalize w.alloc (.cells (tabC []).toArray 78) = V at *
  go_upto_region 4 with (go_at_call 48; refine (HL.out _ hS1).mono ?_; rintro e w1 ⟨bs1, d1, rfl, rfl⟩)
  replace hS1 := hS1.later (below_plus V bs1 d1)
  replace b3 := b3.later (below_plus V bs1 d1)
  replace be := belowP be bs1 d1
  generalize plus V bs1 d1 = W at *
  go_upto_region 5 with (fail)
  refine wp_relS 9 26 rfl (by kernel_rfl) (by kernel_rfl) ?_
  apply Steps.one (MP.eq _) 1 rfl
  · intro o ho FA x hO hD K hK
    obtain rfl := Option.some.inj ho.symm
    clear ho
    have e6 := hO 6 (by kernel_rfl)
    simp only [eval_tmp, List.getElem?_toArray, List.getElem?_cons_succ, List.getElem?_cons_zero, Option.getD_some] at e6
    have ev6 := Lib.hid ((eval_tmp FA 6).trans e6)
    clear hO hD
    go_simp
    exact hK.out _ _ (Ex.refl _) rfl
  apply Steps.one (MP.eq _) 2 rfl
  · intro o ho FA x hO hD K hK
    obtain rfl := Option.some.inj ho.symm
    clear ho
    have ev18 : FA.eval (.tmp 18) = _ := hD 0 18 (by kernel_rfl)
    have e18 := (eval_tmp FA 18).symm.trans ev18
    replace ev18 := Lib.hid ev18
    clear hO hD
    go_simp
    exact hK.out _ _ (Ex.refl _) rfl
  apply Steps.one (MP.eq _) 3 rfl
  · intro o ho FA x hO hD K hK
    obtain rfl := Option.some.inj ho.symm
    clear ho
    have ev19 : FA.eval (.tmp 19) = _ := hD 1 19 (by kernel_rfl)
    have e19 := (eval_tmp FA 19).symm.trans ev19
    replace ev19 := Lib.hid ev19
    clear hO hD
    go_simp
    exact hK.out _ _ (Ex.refl _) rfl
  apply Steps.one (MP.eq _) 4 rfl
  · intro o ho FA x hO hD K hK
    obtain rfl := Option.some.inj ho.symm
    clear ho
    have ev20 : FA.eval (.tmp 20) = _ := hD 2 20 (by kernel_rfl)
    have e20 := (eval_tmp FA 20).symm.trans ev20
    replace ev20 := Lib.hid ev20
    clear hO hD
    refine wanted_if rfl ?_
    refine wp_ld1 3 (.tmp 20) rfl ev20.out (hS1.later (below_plus _ _ _)) hq Tryd.underlying3 rfl ?_
    exact hK.out _ _ (Ex.refl _) rfl
  apply Steps.one (MP.eq _) 5 rfl
  · intro o ho FA x hO hD K hK
    obtain rfl := Option.some.inj ho.symm
    clear ho
    have e6 := hO 6 (by kernel_rfl)
    simp only [eval_tmp, List.getElem?_toArray, List.getElem?_cons_succ, List.getElem?_cons_zero, Option.getD_some] at e6
    have ev6 := Lib.hid ((eval_tmp FA 6).trans e6)
    clear hO hD
    go_simp
    exact hK.out _ _ (Ex.refl _) rfl
  apply Steps.one (MP.eq _) 6 rfl
  · intro o ho FA x hO hD K hK
    obtain rfl := Option.some.inj ho.symm
    clear ho
    have ev22 : FA.eval (.tmp 22) = _ := hD 4 22 (by kernel_rfl)
    have e22 := (eval_tmp FA 22).symm.trans ev22
    replace ev22 := Lib.hid ev22
    clear hO hD
    go_simp
    exact hK.out _ _ (Ex.refl _) rfl
  apply Steps.one (MP.eq _) 7 rfl
  · intro o ho FA x hO hD K hK
    obtain rfl := Option.some.inj ho.symm
    clear ho
    have ev23 : FA.eval (.tmp 23) = _ := hD 5 23 (by kernel_rfl)
    have e23 := (eval_tmp FA 23).symm.trans ev23
    replace ev23 := Lib.hid ev23
    clear hO hD
    go_simp
    exact hK.out _ _ (Ex.refl _) rfl
  apply Steps.one (MP.eq _) 8 rfl
  · intro o ho FA x hO hD K hK
    obtain rfl := Option.some.inj ho.symm
    clear ho
    have ev24 : FA.eval (.tmp 24) = _ := hD 6 24 (by kernel_rfl)
    have e24 := (eval_tmp FA 24).symm.trans ev24
    replace ev24 := Lib.hid ev24
    clear hO hD
    refine wanted_if rfl ?_
    refine wp_ldA 78 (.tmp 24) rfl (tabC t0) ev24.out (hS1.later (below_plus _ _ _)) hp vt1 vt2 (by rw [tabC_len0]; kernel_rfl) ?_
    exact hK.out _ _ (Ex.refl _) rfl
  apply Steps.one (MP.eq _) 9 rfl
  · intro o ho FA x hO hD K hK
    obtain rfl := Option.some.inj ho.symm
    clear ho
    have ev21 : FA.eval (.tmp 21) = _ := hD 3 21 (by kernel_rfl)
    have e21 := (eval_tmp FA 21).symm.trans ev21
    replace ev21 := Lib.hid ev21
    clear hO hD
    go_simp
    exact hK.out _ _ (Ex.refl _) rfl
  refine Steps.fin_ (fun vs x hp => ?_)
  have p0 : vs 0 = _ := hp 0 (by omega)
  have p1 : vs 1 = _ := hp 1 (by omega)
  have p2 : vs 2 = _ := hp 2 (by omega)
  have p3 : vs 3 = _ := hp 3 (by omega)
  have p4 : vs 4 = _ := hp 4 (by omega)
  have p5 : vs 5 = _ := hp 5 (by omega)
  have p6 : vs 6 = _ := hp 6 (by omega)
  have p7 : vs 7 = _ := hp 7 (by omega)
  have p8 : vs 8 = _ := hp 8 (by omega)
  clear hp
  simp only [List.take_succ_cons, List.take_zero, List.drop_succ_cons, List.drop_zero, putAll, Nat.zero_add, Nat.reduceAdd, Act.put, List.setIfInBounds_toArray, List.set_cons_zero, List.set_cons_succ, p0, p1, p2, p3, p4, p5, p6, p7, p8]
  clear p0 p1 p2 p3 p4 p5 p6 p7 p8
  clear vs
  go_wp2_with (refine at_op (.store 78 (.tmp 3) (.tmp 25)) rfl ?_; refine wpList_stA (t := 78) 78 (.tmp 3) (.tmp 25) rfl rfl (tabC t0) (tabC []) (by rw [tabC_len0, tabC_len0]) (tabC_one _) rfl rfl (b3.later (below_plus _ _ _)) (by rw [tabC_len0]; kernel_rfl) ?_; intro W4 h4 g4)
  refine bodyPost_agg1m Tryd.results21 rfl rfl rfl h4.range vt1 vt2 (by rw [tabC_len0]; kernel_rfl) rfl (RetV.mk ?_)
  exact below_grown (belowP be _ _) g4 (Nat.le_refl _)
set_option maxHeartbeats 4000000 in
set_option maxRecDepth 100000 in
theorem newest_no (S : Stk) (h0 : S.lv.length = 0) (g : Nat) (w : World) (hS : Bk w g 120 (stkC S)) : Calls Tryd.prog 21 #[.pointer (some ⟨g, 0, none⟩)] w (RetV w (.tuple #[.int .i64 0, .agg (tabC []).toArray, .bool false])) := by
  obtain ⟨dvt, vt1, vt2⟩ := rowTab
  have hzv : ∀ w, (zeroValue 78).run Tryd.prog w = .ok (.agg (tabC []).toArray) w := fun _ => by kernel_rfl
  have hbd : ∀ w, (Instr.build 78 #[]).run Tryd.prog w = .ok (.agg (tabC []).toArray) w := fun _ => by kernel_rfl
  have HL := Lib.hid (fun w h => stkLen_any S (by omega) g w h)
  rw [h0] at HL
  have hS1 := hS.alloc (.cells (tabC []).toArray 78)
  have b3 : Bk (w.alloc (.cells (tabC []).toArray 78)) w.heap.size 78 (tabC []) := Bk.new w 78 (tabC []).toArray
  have be : Below w.heap.size w (w.alloc (.cells (tabC []).toArray 78)) := Below.allocS (Below.refl _ _) _
  clear h0
  go_enter Tryd.func21, Tryd.ntmps21
  go_upto_region 1 with (fail)
  generalize w.alloc (.cells (tabC []).toArray 78) = V at *
  go_upto_region 3 with (go_at_call 48; refine (HL.out _ hS1).mono ?_; rintro e w1 ⟨bs1, d1, rfl, rfl⟩)
  replace b3 := b3.later (below_plus V bs1 d1)
  replace be := belowP be bs1 d1
  generalize plus V bs1 d1 = W at *
  refine wp_region_lit ?_
  refine wpList_build 78 [] rfl rfl (.agg (tabC []).toArray) ?_ ?_
  · exact hbd _
  refine wpList_plain rfl (fun K hK => ?_); go_simp; with_reducible refine hK _ _ ?_; clear hK K
  refine wpList_stA (t := 78) 78 (.tmp 3) (.tmp 11) rfl rfl (tabC []) (tabC []) rfl (tabC_one _) rfl rfl b3 (szTab _ (Nat.zero_le _)) ?_
  intro W4 h4 g4
  refine wpList_plain rfl (fun K hK => ?_); go_simp; with_reducible refine hK _ _ ?_; clear hK K
  go_wp2
  refine bodyPost_agg1m Tryd.results21 rfl rfl rfl h4.range vt1 vt2 (szTab _ (Nat.zero_le _)) rfl (RetV.mk ?_)
  exact below_grown be g4 (Nat.le_refl _)
end Go.Proofs.YtclhfbbajeoanaaDoor

/- A struct built of parts whose cells are abstract. No program in sight. -/
namespace Go.Proofs.YtclhfbbajeoanaaDoor
open Go.RowKit
set_option linter.unusedVariables false
set_option linter.unusedSimpArgs false

theorem foldl_zipIdx_set (new : List Value) : ∀ (off k : Nat) (cells : Array Value), off + k + new.length ≤ cells.size →
    (new.zipIdx k).foldl (fun cs (x : Value × Nat) => cs.setIfInBounds (off + x.2) x.1) cells = (splice cells.toList (off + k) new).toArray := by
  induction new with
  | nil => intro off k cells h; simp [splice]
  | cons v r ih =>
    intro off k cells h
    simp only [List.zipIdx_cons, List.foldl_cons]
    rw [ih off (k + 1) _ (by simp only [Array.size_setIfInBounds, List.length_cons] at *; omega)]
    congr 1
    simp only [Array.toList_setIfInBounds]
    have hk : off + k < cells.toList.length := by simp only [List.length_cons, Array.length_toList] at *; omega
    generalize cells.toList = L at *
    unfold splice
    rw [show off + (k + 1) = off + k + 1 by omega, List.take_succ_eq_append_getElem (by rw [List.length_set]; exact hk), List.take_set_of_le (Nat.le_refl _), List.getElem_set_self, List.drop_set_of_lt (by omega)]
    simp [Nat.add_assoc, Nat.add_comm 1]
theorem fill_cons (place : Nat → Option (Nat × Nat)) (cells : List Value) (i : Nat) (v : Value) (rest : List (Nat × Value)) (off size : Nat) (vc : List Value) (hp : place i = some (off, size)) (hv : v.cells = vc.toArray) (hs : vc.length = size) (hl : off + size ≤ cells.length) :
    Instr.fill place cells.toArray ((i, v) :: rest) = Instr.fill place (splice cells off vc).toArray rest := by
  rw [Instr.fill, hp]
  simp only [hv, List.size_toArray, hs]
  rw [if_neg (by simp; omega)]
  congr 1
  have := foldl_zipIdx_set vc off 0 cells.toArray (by simp; omega)
  simpa using this
theorem fill_nil (place : Nat → Option (Nat × Nat)) (cells : Array Value) : Instr.fill place cells [] = some cells := rfl
theorem run_build_struct {P : Program} {w : World} {t : TypeId} {fields : Array Field} {zero : List Value} {places : Array (Nat × Nat)} {parts : List (Nat × Value)} {out : List Value}
    (hz : (zeroValue t).run P w = .ok (.agg zero.toArray) w) (hu : P.underlying t = some (.struct fields)) (hp : (Array.mapM (fun (f : Field) => (do let s ← sizeOf f.type; pure (f.offset, s) : Sem (Nat × Nat))) fields).run P w = .ok places w)
    (hf : Instr.fill (fun x => places[x]?) zero.toArray parts = some out.toArray) : (Instr.build t parts.toArray).run P w = .ok (.agg out.toArray) w := by
  unfold Instr.build
  simp only [Sem.run_bind, hz, Result.andThen_ok, run_underlying hu, hp]
  simp only [Value.cells, hf, Sem.run_pure]
end Go.Proofs.YtclhfbbajeoanaaDoor

/- Evict, Admit, Release, add, Push (chapter 15). -/
namespace Go.Proofs.YtclhfbbajeoanaaDoor
open Go.RowKit
set_option linter.unusedVariables false
set_option linter.unusedSimpArgs false
attribute [local go_sem ↓] sliced_cut

attribute [local go_sem] cutA_zero

/-- a call changes one stack, and makes memory -/
def RetSt (w : World) (g : Nat) (S : Stk) (v : Value) (e : Ending) (w' : World) : Prop := e = .returned v ∧ Bk w' g 120 (stkC S) ∧ Chg (fun b => b = g) w w'
theorem RetSt.is_ {w w' : World} {g : Nat} {S : Stk} {v v' : Value} (hv : v' = v) (h : Bk w' g 120 (stkC S)) (hc : Chg (fun b => b = g) w w') : RetSt w g S v (.returned v') w' := ⟨by rw [hv], h, hc⟩
theorem stkC_setEv (S : Stk) (x : Nat) : (stkC S).set 1041 (.int .u64 (x : Int)) = stkC { S with ev := x } := by
  have e : levels { S with ev := x } = levels S := rfl
  unfold stkC
  rw [e, List.set_cons_succ, List.set_append_right _ _ (by rw [flat_len levC 130 levC_len, levels_len]; omega), flat_len levC 130 levC_len, levels_len]
  rfl
theorem stkC_setBz (S : Stk) (x : Nat) : (stkC S).set 1042 (.int .u64 (x : Int)) = stkC { S with bz := x } := by
  have e : levels { S with bz := x } = levels S := rfl
  unfold stkC
  rw [e, List.set_cons_succ, List.set_append_right _ _ (by rw [flat_len levC 130 levC_len, levels_len]; omega), flat_len levC 130 levC_len, levels_len]
  rfl
theorem bitB_in (n : Int) (f m : Nat) (h1 : (f : Int) ≤ n) (h2 : n < (f : Int) + m) : bitB n f m = 2 ^ (n - f).toNat := if_pos ⟨h1, h2⟩
theorem bitB_num (n : Int) : (((bitB n 1 64 : Nat) : Int) == 0) = !numB n := by
  unfold bitB numB
  by_cases h : ((1 : Nat) : Int) ≤ n ∧ n < ((1 : Nat) : Int) + (64 : Nat)
  · have h1 : decide (1 ≤ n) = true := decide_eq_true (by omega)
    have h2 : decide (n ≤ 64) = true := decide_eq_true (by omega)
    rw [if_pos h, h1, h2]
    have := Nat.two_pow_pos (n - ((1 : Nat) : Int)).toNat
    simp only [Bool.and_self, Bool.not_true, beq_eq_false_iff_ne]
    omega
  · rw [if_neg h]
    have : (decide (1 ≤ n) && decide (n ≤ 64)) = false := by
      simp only [Bool.and_eq_false_iff, decide_eq_false_iff_not]; omega
    rw [this]; rfl
theorem numB_rg {n : Int} (h : numB n = true) : 1 ≤ n ∧ n ≤ 64 := by simpa [numB] using h
set_option maxHeartbeats 4000000 in
set_option maxRecDepth 100000 in
theorem evict_any (S : Stk) (hok : StkOk S) (g : Nat) (n : Int) (hn : n ≤ 9223372036854775807) (w : World) (hS : Bk w g 120 (stkC S)) : Calls Tryd.prog 84 #[.pointer (some ⟨g, 0, none⟩), .int .i64 n] w (RetSt w g (eviS S n) (.int .i64 (eviE S n : Nat))) := by
  have HB := Lib.hid (fun w => backendBit_any n hn w)
  have qe : w.cell? ⟨g, 1041, none⟩ = some (.int .u64 (S.ev : Int)) := (hS.cell _).trans (stkC_ev S)
  have hand := u64_and_nat S.ev (bitB n 1 64) hok.ev (bitB_lt n 1 64 (by decide))
  have hor := u64_or_nat S.ev (bitB n 1 64) hok.ev (bitB_lt n 1 64 (by decide))
  have hz := hasB_and S.ev n 1 64
  have hb0 := bitB_num n
  obtain ⟨ES, hES⟩ : ∃ x, eviS S n = x := ⟨_, rfl⟩
  obtain ⟨EE, hEE⟩ : ∃ x, eviE S n = x := ⟨_, rfl⟩
  rw [hES, hEE]
  have HES := Lib.hid hES
  have HEE := Lib.hid hEE
  clear hES hEE
  cases hnb : numB n
  · have he := Lib.hid (show EE = 1 by rw [← HEE.out]; unfold eviE; rw [hnb]; rfl)
    have hs := Lib.hid (show ES = S by rw [← HES.out]; unfold eviS; rw [hnb]; rfl)
    rw [hnb] at hb0
    simp only [Bool.not_false] at hb0
    generalize bitB n 1 64 = B at *
    clear hand hor hz
    go_enter Tryd.func84, Tryd.ntmps84
    go_wp2_with (go_at_call 64; refine (HB.out _).mono ?_; rintro e w1 ⟨rfl, rfl⟩)
    go_ret
    exact RetSt.is_ (by rw [he.out]; rfl) (by rw [hs.out]; exact hS) (Chg.refl _)
  · rw [hnb] at hb0
    simp only [Bool.not_true] at hb0
    have hz2 : (((S.ev &&& bitB n 1 64 : Nat) : Int) == 0) = !deadS S n := hz
    cases hd : deadS S n
    · have hr := numB_rg hnb
      have he := Lib.hid (show EE = 0 by rw [← HEE.out]; unfold eviE; rw [hnb, hd]; rfl)
      have hs := Lib.hid (show ES = { S with ev := S.ev ||| bitB n 1 64 } by
        rw [← HES.out, bitB_in n 1 64 (by omega) (by omega)]; unfold eviS; rw [hnb, hd, show n.toNat - 1 = (n - ((1 : Nat) : Int)).toNat by omega]; rfl)
      have hset := Lib.hid (stkC_setEv S (S.ev ||| bitB n 1 64))
      rw [← hs.out] at hset
      rw [hd] at hz2
      simp only [Bool.not_false, Bool.not_true] at hz2
      clear hz hs
      generalize S.ev &&& bitB n 1 64 = Z at *
      generalize S.ev ||| bitB n 1 64 = Y at *
      generalize bitB n 1 64 = B at *
      go_enter Tryd.func84, Tryd.ntmps84
      go_upto_region 8 with (go_at_call 64; refine (HB.out _).mono ?_; rintro e w1 ⟨rfl, rfl⟩)
      refine wp_region_lit ?_
      iterate 8 (refine wpList_plain rfl (fun K hK => ?_); go_simp; with_reducible refine hK _ _ ?_; clear hK K)
      refine wpList_st1 27 (.tmp 26) (.tmp 24) rfl rfl rfl rfl hS (by rw [stkC_len]; omega) rfl (by kernel_rfl) ?_
      intro W4 h4 g4
      simp only [Act.put, List.setIfInBounds_toArray, List.set_cons_zero, List.set_cons_succ]
      go_wp2
      go_ret
      exact RetSt.is_ (by rw [he.out]; rfl) (by rw [← hset.out]; exact h4) (Chg.one g4 rfl)
    · have he := Lib.hid (show EE = 7 by rw [← HEE.out]; unfold eviE; rw [hnb, hd]; rfl)
      have hs := Lib.hid (show ES = S by rw [← HES.out]; unfold eviS; rw [hnb, hd]; rfl)
      rw [hd] at hz2
      simp only [Bool.not_false, Bool.not_true] at hz2
      clear hz hor
      generalize S.ev &&& bitB n 1 64 = Z at *
      generalize bitB n 1 64 = B at *
      go_enter Tryd.func84, Tryd.ntmps84
      go_wp2_with (go_at_call 64; refine (HB.out _).mono ?_; rintro e w1 ⟨rfl, rfl⟩)
      go_ret
      exact RetSt.is_ (by rw [he.out]; rfl) (by rw [hs.out]; exact hS) (Chg.refl _)
set_option maxHeartbeats 4000000 in
set_option maxRecDepth 100000 in
theorem release_any (S : Stk) (hok : StkOk S) (g : Nat) (n : Int) (hn : n ≤ 9223372036854775807) (w : World) (hS : Bk w g 120 (stkC S)) : Calls Tryd.prog 56 #[.pointer (some ⟨g, 0, none⟩), .int .i64 n] w (RetSt w g (rlsS S n) (.int .i64 (rlsE S n : Nat))) := by
  have HB := Lib.hid (fun w => versionBit_any n hn w)
  have hbz : S.bz < 18446744073709551616 := by have := hok.bz; omega
  have qe : w.cell? ⟨g, 1042, none⟩ = some (.int .u64 (S.bz : Int)) := (hS.cell _).trans (stkC_bz S)
  have hand := u64_and_nat S.bz (bitB n 0 8) hbz (bitB_lt n 0 8 (by decide))
  have hor := u64_andNot_nat S.bz (bitB n 0 8) hbz (bitB_lt n 0 8 (by decide))
  have hz := hasB_and S.bz n 0 8
  obtain ⟨ES, hES⟩ : ∃ x, rlsS S n = x := ⟨_, rfl⟩
  obtain ⟨EE, hEE⟩ : ∃ x, rlsE S n = x := ⟨_, rfl⟩
  rw [hES, hEE]
  have HES := Lib.hid hES
  have HEE := Lib.hid hEE
  clear hES hEE
  cases hd : hasB S.bz n 0 8
  · have he := Lib.hid (show EE = 6 by rw [← HEE.out]; unfold rlsE; rw [hd]; rfl)
    have hs := Lib.hid (show ES = S by rw [← HES.out]; unfold rlsS; rw [hd]; rfl)
    rw [hd] at hz
    simp only [Bool.not_false, Bool.not_true] at hz
    clear hor
    generalize S.bz &&& bitB n 0 8 = Z at *
    generalize bitB n 0 8 = B at *
    go_enter Tryd.func56, Tryd.ntmps56
    go_wp2_with (go_at_call 89; refine (HB.out _).mono ?_; rintro e w1 ⟨rfl, rfl⟩)
    go_ret
    exact RetSt.is_ (by rw [he.out]; rfl) (by rw [hs.out]; exact hS) (Chg.refl _)
  · have hr := hasB_rg hd
    have he := Lib.hid (show EE = 0 by rw [← HEE.out]; unfold rlsE; rw [hd]; rfl)
    have hs := Lib.hid (show ES = { S with bz := S.bz &&& (18446744073709551615 - bitB n 0 8) } by
      rw [← HES.out, bitB_in n 0 8 (by omega) (by omega)]; unfold rlsS clrB; rw [hd, show n.toNat = (n - ((0 : Nat) : Int)).toNat by omega]; rfl)
    have hset := Lib.hid (stkC_setBz S (S.bz &&& (18446744073709551615 - bitB n 0 8)))
    rw [← hs.out] at hset
    rw [hd] at hz
    simp only [Bool.not_false, Bool.not_true] at hz
    clear hs
    generalize S.bz &&& bitB n 0 8 = Z at *
    generalize S.bz &&& (18446744073709551615 - bitB n 0 8) = Y at *
    generalize bitB n 0 8 = B at *
    go_enter Tryd.func56, Tryd.ntmps56
    go_upto_region 6 with (go_at_call 89; refine (HB.out _).mono ?_; rintro e w1 ⟨rfl, rfl⟩)
    refine wp_region_lit ?_
    iterate 8 (refine wpList_plain rfl (fun K hK => ?_); go_simp; with_reducible refine hK _ _ ?_; clear hK K)
    refine wpList_st1 27 (.tmp 24) (.tmp 22) rfl rfl rfl rfl hS (by rw [stkC_len]; omega) rfl (by kernel_rfl) ?_
    intro W4 h4 g4
    simp only [Act.put, List.setIfInBounds_toArray, List.set_cons_zero, List.set_cons_succ]
    go_wp2
    go_ret
    exact RetSt.is_ (by rw [he.out]; rfl) (by rw [← hset.out]; exact h4) (Chg.one g4 rfl)
set_option maxHeartbeats 4000000 in
set_option maxRecDepth 100000 in
theorem admit_any (S : Stk) (hok : StkOk S) (g : Nat) (n : Int) (hn : n ≤ 9223372036854775807) (w : World) (hS : Bk w g 120 (stkC S)) : Calls Tryd.prog 85 #[.pointer (some ⟨g, 0, none⟩), .int .i64 n] w (RetSt w g (admS S n) (.int .i64 (admE S n : Nat))) := by
  have HB := Lib.hid (fun w => backendBit_any n hn w)
  have HE := Lib.hid (fun w h => evicted_any S hok.ev g n hn w h)
  have hev := stkC_ev S
  have hor := u64_andNot_nat S.ev (bitB n 1 64) hok.ev (bitB_lt n 1 64 (by decide))
  obtain ⟨ES, hES⟩ : ∃ x, admS S n = x := ⟨_, rfl⟩
  obtain ⟨EE, hEE⟩ : ∃ x, admE S n = x := ⟨_, rfl⟩
  rw [hES, hEE]
  have HES := Lib.hid hES
  have HEE := Lib.hid hEE
  clear hES hEE
  cases hd : deadS S n
  · have he := Lib.hid (show EE = 6 by rw [← HEE.out]; unfold admE; rw [hd]; rfl)
    have hs := Lib.hid (show ES = S by rw [← HES.out]; unfold admS; rw [hd]; rfl)
    rw [hd] at HE
    go_enter Tryd.func85, Tryd.ntmps85
    go_wp2_with (go_at_call 28; refine (HE.out _ hS).mono ?_; rintro e w1 ⟨bs1, d1, rfl, rfl⟩)
    go_ret
    exact RetSt.is_ (by rw [he.out]; rfl) (by rw [hs.out]; exact hS.later (below_plus _ _ _)) (Chg.of_below (below_plus _ _ _))
  · have hr := hasB_rg hd
    have he := Lib.hid (show EE = 0 by rw [← HEE.out]; unfold admE; rw [hd]; rfl)
    have hs := Lib.hid (show ES = { S with ev := S.ev &&& (18446744073709551615 - bitB n 1 64) } by
      rw [← HES.out, bitB_in n 1 64 (by omega) (by omega)]; unfold admS clrB; rw [hd, show n.toNat - 1 = (n - ((1 : Nat) : Int)).toNat by omega]; rfl)
    have hset := Lib.hid (stkC_setEv S (S.ev &&& (18446744073709551615 - bitB n 1 64)))
    rw [← hs.out] at hset
    rw [hd] at HE
    clear hs
    generalize S.ev &&& (18446744073709551615 - bitB n 1 64) = Y at *
    generalize bitB n 1 64 = B at *
    go_enter Tryd.func85, Tryd.ntmps85
    go_upto_region 5 with (go_at_call 28; refine (HE.out _ hS).mono ?_; rintro e w1 ⟨bs1, d1, rfl, rfl⟩)
    have be := below_plus w bs1 d1
    replace hS := hS.later be
    generalize plus w bs1 d1 = V at *
    refine wp_relS 7 20 rfl (by kernel_rfl) (by kernel_rfl) ?_
    apply Steps.one (MP.eq _) 1 rfl
    · intro o ho FA x hO hD K hK
      obtain rfl := Option.some.inj ho.symm
      clear ho
      have e0 := hO 0 (by kernel_rfl)
      simp only [eval_tmp, List.getElem?_toArray, List.getElem?_cons_succ, List.getElem?_cons_zero, Option.getD_some] at e0
      have ev0 := Lib.hid ((eval_tmp FA 0).trans e0)
      clear hO hD
      go_simp
      exact hK.out _ _ (Ex.refl _) rfl
    apply Steps.one (MP.eq _) 2 rfl
    · intro o ho FA x hO hD K hK
      obtain rfl := Option.some.inj ho.symm
      clear ho
      have ev11 : FA.eval (.tmp 11) = _ := hD 0 11 (by kernel_rfl)
      have e11 := (eval_tmp FA 11).symm.trans ev11
      replace ev11 := Lib.hid ev11
      clear hO hD
      go_simp
      exact hK.out _ _ (Ex.refl _) rfl
    apply Steps.one (MP.eq _) 3 rfl
    · intro o ho FA x hO hD K hK
      obtain rfl := Option.some.inj ho.symm
      clear ho
      have ev12 : FA.eval (.tmp 12) = _ := hD 1 12 (by kernel_rfl)
      have e12 := (eval_tmp FA 12).symm.trans ev12
      replace ev12 := Lib.hid ev12
      clear hO hD
      go_simp
      exact hK.out _ _ (Ex.refl _) rfl
    apply Steps.one (MP.eq _) 4 rfl
    · intro o ho FA x hO hD K hK
      obtain rfl := Option.some.inj ho.symm
      clear ho
      have ev13 : FA.eval (.tmp 13) = _ := hD 2 13 (by kernel_rfl)
      have e13 := (eval_tmp FA 13).symm.trans ev13
      replace ev13 := Lib.hid ev13
      clear hO hD
      refine wanted_if rfl ?_
      refine wp_ld1 27 (.tmp 13) rfl ev13.out (hS.later (below_plus _ _ _)) hev Tryd.underlying27 rfl ?_
      exact hK.out _ _ (Ex.refl _) rfl
    apply Steps.one (MP.eq _) 5 rfl
    · intro o ho FA x hO hD K hK
      obtain rfl := Option.some.inj ho.symm
      clear ho
      have e1 := hO 1 (by kernel_rfl)
      simp only [eval_tmp, List.getElem?_toArray, List.getElem?_cons_succ, List.getElem?_cons_zero, Option.getD_some] at e1
      have ev1 := Lib.hid ((eval_tmp FA 1).trans e1)
      clear hO hD
      go_simp
      exact hK.out _ _ (Ex.refl _) rfl
    apply Steps.one (MP.eq _) 6 rfl
    · intro o ho FA x hO hD K hK
      obtain rfl := Option.some.inj ho.symm
      clear ho
      have ev15 : FA.eval (.tmp 15) = _ := hD 4 15 (by kernel_rfl)
      have e15 := (eval_tmp FA 15).symm.trans ev15
      replace ev15 := Lib.hid ev15
      clear hO hD
      go_simp
      refine (HB.out _).mono ?_
      rintro e w1 ⟨rfl, rfl⟩
      exact hK.out _ _ (Ex.refl _) rfl
    apply Steps.one (MP.eq _) 7 rfl
    · intro o ho FA x hO hD K hK
      obtain rfl := Option.some.inj ho.symm
      clear ho
      have ev14 : FA.eval (.tmp 14) = _ := hD 3 14 (by kernel_rfl)
      have e14 := (eval_tmp FA 14).symm.trans ev14
      replace ev14 := Lib.hid ev14
      have ev16 : FA.eval (.tmp 16) = _ := hD 5 16 (by kernel_rfl)
      have e16 := (eval_tmp FA 16).symm.trans ev16
      replace ev16 := Lib.hid ev16
      clear hO hD
      go_simp
      exact hK.out _ _ (Ex.refl _) rfl
    refine Steps.fin_ (fun vs x hp => ?_)
    have p0 : vs 0 = _ := hp 0 (by omega)
    have p1 : vs 1 = _ := hp 1 (by omega)
    have p2 : vs 2 = _ := hp 2 (by omega)
    have p3 : vs 3 = _ := hp 3 (by omega)
    have p4 : vs 4 = _ := hp 4 (by omega)
    have p5 : vs 5 = _ := hp 5 (by omega)
    have p6 : vs 6 = _ := hp 6 (by omega)
    clear hp
    simp only [List.take_succ_cons, List.take_zero, List.drop_succ_cons, List.drop_zero, putAll, Nat.zero_add, Nat.reduceAdd, Act.put, List.setIfInBounds_toArray, List.set_cons_zero, List.set_cons_succ, p0, p1, p2, p3, p4, p5, p6]
    clear p0 p1 p2 p3 p4 p5 p6
    clear vs
    have be2 := be.trans ((below_plus V x.bs x.d).mono be.size)
    go_wp2_with (refine at_op (.store 27 (.tmp 19) (.tmp 17)) rfl ?_; refine wpList_st1 27 (.tmp 19) (.tmp 17) rfl rfl rfl rfl (hS.later (below_plus _ _ _)) (by rw [stkC_len]; omega) rfl (by kernel_rfl) ?_; intro W4 h4 g4)
    go_ret
    exact RetSt.is_ (by rw [he.out]; rfl) (by rw [← hset.out]; exact h4) ((Chg.of_below be2).trans (Chg.one g4 rfl))
theorem levels_snoc (S : Stk) (h : S.lv.length < 8) (e : Nat × Tab) : levels { S with lv := S.lv ++ [e] } = (levels S).set S.lv.length e := by
  unfold levels
  rw [← List.take_set, List.set_append_right _ _ (Nat.le_refl _), Nat.sub_self, List.append_assoc, List.length_append]
  congr 2
  rw [show 8 - S.lv.length = (8 - (S.lv.length + [e].length)) + 1 by simp; omega, List.replicate_succ]
  rfl
theorem stkC_add (S : Stk) (h : S.lv.length < 8) (e : Nat × Tab) : (splice (stkC S) (1 + S.lv.length * 130) (levC e)).set 0 (.int .i64 ((S.lv.length : Int) + 1)) = stkC { S with lv := S.lv ++ [e] } := by
  have hs : S.lv.length < (levels S).length := by rw [levels_len]; exact h
  have hfl : ((levels S).flatMap levC).length = 1040 := by rw [flat_len levC 130 levC_len, levels_len]
  have hsp : splice ((levels S).flatMap levC ++ [.int .u64 (S.ev : Int), .int .u64 (S.bz : Int)]) (S.lv.length * 130) (levC e) = splice ((levels S).flatMap levC) (S.lv.length * 130) (levC e) ++ [.int .u64 (S.ev : Int), .int .u64 (S.bz : Int)] := by
    unfold splice
    rw [List.take_append_of_le_length (by omega), List.drop_append_of_le_length (by rw [levC_len]; omega)]
    simp only [List.append_assoc]
  unfold stkC
  rw [splice_cons, List.set_cons_zero, hsp, flat_splice levC 130 levC_len _ _ hs, levels_snoc S h]
  simp
set_option maxRecDepth 100000 in
theorem run_buildLev (v : Nat) (t : Tab) (w : World) : (Instr.build 117 #[(0, .int .i64 (v : Int)), (1, .agg (tabC t).toArray)]).run Tryd.prog w = .ok (.agg (levC (v, t)).toArray) w := by
  refine run_build_struct (fields := Tryd.prog.fieldsOf 117) (zero := levC (0, [])) (places := #[(0, 1), (1, 129)]) (parts := [(0, .int .i64 (v : Int)), (1, .agg (tabC t).toArray)]) (by kernel_rfl) (by kernel_rfl) (by kernel_rfl) ?_
  rw [fill_cons _ _ 0 _ _ 0 1 [.int .i64 (v : Int)] rfl rfl rfl (by rw [levC_len]; omega), fill_cons _ _ 1 _ _ 1 129 (tabC t) rfl rfl (tabC_len0 t) (by rw [length_splice _ _ _ (by rw [levC_len]; simp), levC_len]; decide), fill_nil]
  congr 2
  have hz := tabC_len0 []
  unfold levC splice
  simp only [List.length_cons, List.length_nil, List.take_zero, List.nil_append, Nat.zero_add, List.drop_succ_cons, List.drop_zero, List.cons_append, List.take_succ_cons, tabC_len0]
  rw [List.drop_of_length_le (by simp [hz]), List.append_nil]
theorem wp_buildV {P : Program} {Q : Exit → Act → World → Prop} {o : Oper} {a : Act} {w : World} {K : Act → World → Prop} (ty : TypeId) (ps : List (Nat × Operand)) (ho : o.op = .build ty ps.toArray) (v : Value)
    (hv : (Instr.build ty (ps.map fun p => (p.1, a.eval p.2)).toArray).run P w = .ok v w) (h : K (a.put o.dst v) w) : o.wp P a w K Q := by
  unfold Oper.wp execOp
  simp only [ho, Sem.run_bind, List.map_toArray, hv, Result.andThen_ok, Sem.run_pure]
  exact h
set_option maxHeartbeats 4000000 in
set_option maxRecDepth 100000 in
theorem stkAdd_any (S : Stk) (h8 : S.lv.length < 8) (g : Nat) (v : Nat) (t : Tab) (w : World) (hS : Bk w g 120 (stkC S)) : Calls Tryd.prog 107 #[.pointer (some ⟨g, 0, none⟩), .int .i64 (v : Int), .agg (tabC t).toArray] w fun e w' => e = .returned (.tuple #[]) ∧ Bk w' g 120 (stkC { S with lv := S.lv ++ [(v, t)] }) ∧ Chg (fun b => b = g) w w' := by
  obtain ⟨dvt, vt1, vt2⟩ := rowTab
  have h0 : (stkC S)[0]? = some (.int .i64 (S.lv.length : Int)) := rfl
  have hset := Lib.hid (stkC_add S h8 (v, t))
  have b5 : Bk (w.alloc (.cells (tabC t).toArray 78)) w.heap.size 78 (tabC t) := Bk.new w 78 (tabC t).toArray
  have be : Below w.heap.size w (w.alloc (.cells (tabC t).toArray 78)) := Below.allocS (Below.refl _ _) _
  have hg := hS.lt
  replace hS := hS.alloc (.cells (tabC t).toArray 78)
  obtain ⟨n, hn⟩ : ∃ n, S.lv.length = n := ⟨_, rfl⟩
  have HN := Lib.hid hn
  rw [hn] at h0 hset h8
  clear hn
  have n8 : (n : Int) < 8 := by omega
  have nw : IntKind.i64.wrap ((n : Int) + 1) = (n : Int) + 1 := IntWalk.i64_in _ (by omega)
  go_enter Tryd.func107, Tryd.ntmps107
  go_upto_region 1 with (fail)
  generalize w.alloc (.cells (tabC t).toArray 78) = V at *
  refine wp_relS 11 24 rfl (by kernel_rfl) (by kernel_rfl) ?_
  apply Steps.one (MP.eq _) 1 rfl
  · intro o ho FA x hO hD K hK
    obtain rfl := Option.some.inj ho.symm
    clear ho
    have e0 := hO 0 (by kernel_rfl)
    simp only [eval_tmp, List.getElem?_toArray, List.getElem?_cons_succ, List.getElem?_cons_zero, Option.getD_some] at e0
    have ev0 := Lib.hid ((eval_tmp FA 0).trans e0)
    clear hO hD
    go_simp
    exact hK.out _ _ (Ex.refl _) rfl
  apply Steps.one (MP.eq _) 2 rfl
  · intro o ho FA x hO hD K hK
    obtain rfl := Option.some.inj ho.symm
    clear ho
    have e0 := hO 0 (by kernel_rfl)
    simp only [eval_tmp, List.getElem?_toArray, List.getElem?_cons_succ, List.getElem?_cons_zero, Option.getD_some] at e0
    have ev0 := Lib.hid ((eval_tmp FA 0).trans e0)
    clear hO hD
    go_simp
    exact hK.out _ _ (Ex.refl _) rfl
  apply Steps.one (MP.eq _) 3 rfl
  · intro o ho FA x hO hD K hK
    obtain rfl := Option.some.inj ho.symm
    clear ho
    have ev7 : FA.eval (.tmp 7) = _ := hD 1 7 (by kernel_rfl)
    have e7 := (eval_tmp FA 7).symm.trans ev7
    replace ev7 := Lib.hid ev7
    clear hO hD
    go_simp
    exact hK.out _ _ (Ex.refl _) rfl
  apply Steps.one (MP.eq _) 4 rfl
  · intro o ho FA x hO hD K hK
    obtain rfl := Option.some.inj ho.symm
    clear ho
    have ev8 : FA.eval (.tmp 8) = _ := hD 2 8 (by kernel_rfl)
    have e8 := (eval_tmp FA 8).symm.trans ev8
    replace ev8 := Lib.hid ev8
    clear hO hD
    go_simp
    exact hK.out _ _ (Ex.refl _) rfl
  apply Steps.one (MP.eq _) 5 rfl
  · intro o ho FA x hO hD K hK
    obtain rfl := Option.some.inj ho.symm
    clear ho
    have ev9 : FA.eval (.tmp 9) = _ := hD 3 9 (by kernel_rfl)
    have e9 := (eval_tmp FA 9).symm.trans ev9
    replace ev9 := Lib.hid ev9
    clear hO hD
    refine wanted_if rfl ?_
    refine wp_ld1 3 (.tmp 9) rfl ev9.out (hS.later (below_plus _ _ _)) h0 Tryd.underlying3 rfl ?_
    exact hK.out _ _ (Ex.refl _) rfl
  apply Steps.one (MP.eq _) 6 rfl
  · intro o ho FA x hO hD K hK
    obtain rfl := Option.some.inj ho.symm
    clear ho
    have e1 := hO 1 (by kernel_rfl)
    simp only [eval_tmp, List.getElem?_toArray, List.getElem?_cons_succ, List.getElem?_cons_zero, Option.getD_some] at e1
    have ev1 := Lib.hid ((eval_tmp FA 1).trans e1)
    clear hO hD
    go_simp
    exact hK.out _ _ (Ex.refl _) rfl
  apply Steps.one (MP.eq _) 7 rfl
  · intro o ho FA x hO hD K hK
    obtain rfl := Option.some.inj ho.symm
    clear ho
    have e5 := hO 5 (by kernel_rfl)
    simp only [eval_tmp, List.getElem?_toArray, List.getElem?_cons_succ, List.getElem?_cons_zero, Option.getD_some] at e5
    have ev5 := Lib.hid ((eval_tmp FA 5).trans e5)
    clear hO hD
    refine wanted_if rfl ?_
    refine wp_ldA 78 (.tmp 5) rfl (tabC t) ev5.out (b5.later (below_plus _ _ _)) (whole_ _) vt1 vt2 (by rw [tabC_len0]; kernel_rfl) ?_
    exact hK.out _ _ (Ex.refl _) rfl
  apply Steps.one (MP.eq _) 8 rfl
  · intro o ho FA x hO hD K hK
    obtain rfl := Option.some.inj ho.symm
    clear ho
    have ev11 : FA.eval (.tmp 11) = _ := hD 5 11 (by kernel_rfl)
    have e11 := (eval_tmp FA 11).symm.trans ev11
    replace ev11 := Lib.hid ev11
    have ev12 : FA.eval (.tmp 12) = _ := hD 6 12 (by kernel_rfl)
    have e12 := (eval_tmp FA 12).symm.trans ev12
    replace ev12 := Lib.hid ev12
    clear hO hD
    refine wanted_if rfl ?_
    refine wp_buildV 117 [(0, .tmp 11), (1, .tmp 12)] rfl (.agg (levC (v, t)).toArray) (by simp only [List.map_cons, List.map_nil, ev11.out, ev12.out]; exact run_buildLev v t _) ?_
    exact hK.out _ _ (Ex.refl _) rfl
  apply Steps.one (MP.eq _) 9 rfl
  · intro o ho FA x hO hD K hK
    obtain rfl := Option.some.inj ho.symm
    clear ho
    have ev6 : FA.eval (.tmp 6) = _ := hD 0 6 (by kernel_rfl)
    have e6 := (eval_tmp FA 6).symm.trans ev6
    replace ev6 := Lib.hid ev6
    clear hO hD
    go_simp
    exact hK.out _ _ (Ex.refl _) rfl
  apply Steps.one (MP.eq _) 10 rfl
  · intro o ho FA x hO hD K hK
    obtain rfl := Option.some.inj ho.symm
    clear ho
    have ev14 : FA.eval (.tmp 14) = _ := hD 8 14 (by kernel_rfl)
    have e14 := (eval_tmp FA 14).symm.trans ev14
    replace ev14 := Lib.hid ev14
    clear hO hD
    go_simp
    exact hK.out _ _ (Ex.refl _) rfl
  apply Steps.one (MP.eq _) 11 rfl
  · intro o ho FA x hO hD K hK
    obtain rfl := Option.some.inj ho.symm
    clear ho
    have ev15 : FA.eval (.tmp 15) = _ := hD 9 15 (by kernel_rfl)
    have e15 := (eval_tmp FA 15).symm.trans ev15
    replace ev15 := Lib.hid ev15
    have ev10 : FA.eval (.tmp 10) = _ := hD 4 10 (by kernel_rfl)
    have e10 := (eval_tmp FA 10).symm.trans ev10
    replace ev10 := Lib.hid ev10
    clear hO hD
    go_simp
    exact hK.out _ _ (Ex.refl _) rfl
  refine Steps.fin_ (fun vs x hp => ?_)
  have p0 : vs 0 = _ := hp 0 (by omega)
  have p1 : vs 1 = _ := hp 1 (by omega)
  have p2 : vs 2 = _ := hp 2 (by omega)
  have p3 : vs 3 = _ := hp 3 (by omega)
  have p4 : vs 4 = _ := hp 4 (by omega)
  have p5 : vs 5 = _ := hp 5 (by omega)
  have p6 : vs 6 = _ := hp 6 (by omega)
  have p7 : vs 7 = _ := hp 7 (by omega)
  have p8 : vs 8 = _ := hp 8 (by omega)
  have p9 : vs 9 = _ := hp 9 (by omega)
  have p10 : vs 10 = _ := hp 10 (by omega)
  clear hp
  simp only [List.take_succ_cons, List.take_zero, List.drop_succ_cons, List.drop_zero, putAll, Nat.zero_add, Nat.reduceAdd, Act.put, List.setIfInBounds_toArray, List.set_cons_zero, List.set_cons_succ, p0, p1, p2, p3, p4, p5, p6, p7, p8, p9, p10]
  clear p0 p1 p2 p3 p4 p5 p6 p7 p8 p9 p10
  clear vs
  have be2 := be.trans ((below_plus V x.bs x.d).mono be.size)
  replace hS := hS.later (below_plus V x.bs x.d)
  clear b5
  generalize plus V x.bs x.d = W at *
  refine wpList_stM (off := 1 + n * 130) 117 (.tmp 16) (.tmp 13) rfl rfl (levC (v, t)) (stkC S) (by rw [stkC_len, levC_len]; omega) (levC_one _) rfl rfl hS (szLev _) ?_
  intro W4 h4 g4
  simp only [Act.put, List.setIfInBounds_toArray, List.set_cons_zero, List.set_cons_succ]
  have q4 : W4.cell? ⟨g, 0, none⟩ = some (.int .i64 (n : Int)) := by
    rw [h4.cell]
    show (splice (.int .i64 (S.lv.length : Int) :: _) (1 + n * 130) (levC (v, t)))[0]? = _
    rw [splice_cons, HN.out]
    rfl
  go_upto_region 2 with (fail)
  refine wp_region_lit ?_
  iterate 7 (refine wpList_plain rfl (fun K hK => ?_); go_simp; with_reducible refine hK _ _ ?_; clear hK K)
  refine wpList_st1 3 (.tmp 23) (.tmp 21) rfl rfl rfl rfl h4 (by rw [length_splice _ _ _ (by rw [stkC_len, levC_len]; omega), stkC_len]; omega) rfl (by kernel_rfl) ?_
  intro W5 h5 g5
  simp only [Act.put, List.setIfInBounds_toArray, List.set_cons_zero, List.set_cons_succ]
  go_wp2
  go_end0
  refine ⟨rfl, ?_, (Chg.of_below be2).trans ((Chg.one (D := fun b => b = g) g4 rfl).trans (Chg.one (D := fun b => b = g) g5 rfl))⟩
  rw [← hset.out]
  exact h5
set_option maxHeartbeats 4000000 in
set_option maxRecDepth 100000 in
theorem push_any (S : Stk) (hok : StkOk S) (g : Nat) (t : Tab) (w : World) (hS : Bk w g 120 (stkC S)) : Calls Tryd.prog 86 #[.pointer (some ⟨g, 0, none⟩), .agg (tabC t).toArray] w (RetSt w g (pushS S t) (.tuple #[.int .i64 (pushV S : Nat), .int .i64 (pushE S : Nat)])) := by
  obtain ⟨dvt, vt1, vt2⟩ := rowTab
  have HF := Lib.hid (fun w h => free_any S hok g w h)
  obtain ⟨PS, hPS⟩ : ∃ x, pushS S t = x := ⟨_, rfl⟩
  obtain ⟨PV, hPV⟩ : ∃ x, pushV S = x := ⟨_, rfl⟩
  obtain ⟨PE, hPE⟩ : ∃ x, pushE S = x := ⟨_, rfl⟩
  rw [hPS, hPV, hPE]
  have HPS := Lib.hid hPS
  have HPV := Lib.hid hPV
  have HPE := Lib.hid hPE
  clear hPS hPV hPE
  have hlen : freeS S < 8 → S.lv.length < 8 := fun h => by
    rcases Nat.lt_or_ge S.lv.length 8 with h2 | h2
    · exact h2
    · have h3 := (hok.push (t := []) ⟨by simp, by simp⟩).len
      unfold pushS at h3
      rw [if_pos h] at h3
      simp at h3
      omega
  have b3 : Bk (w.alloc (.cells (tabC t).toArray 78)) w.heap.size 78 (tabC t) := Bk.new w 78 (tabC t).toArray
  have be : Below w.heap.size w (w.alloc (.cells (tabC t).toArray 78)) := Below.allocS (Below.refl _ _) _
  replace hS := hS.alloc (.cells (tabC t).toArray 78)
  by_cases hf : freeS S < 8
  · have e1 : frV S = (freeS S : Int) := if_pos hf
    have e2 : frB S = true := decide_eq_true hf
    rw [e1, e2] at HF
    have hs := Lib.hid (show PS = { S with lv := S.lv ++ [(freeS S, t)] } by rw [← HPS.out]; exact if_pos hf)
    have hv := Lib.hid (show PV = freeS S by rw [← HPV.out]; exact if_pos hf)
    have he := Lib.hid (show PE = 0 by rw [← HPE.out]; exact if_pos hf)
    have HA := Lib.hid (fun w h => stkAdd_any S (hlen hf) g (freeS S) t w h)
    generalize freeS S = fv at *
    clear e1 e2 hf hlen
    go_enter Tryd.func86, Tryd.ntmps86
    go_upto_region 1 with (fail)
    generalize w.alloc (.cells (tabC t).toArray 78) = V at *
    go_upto_region 6 with (go_at_call 106; refine (HF.out _ hS).mono ?_; rintro e w1 ⟨bs1, d1, rfl, rfl⟩)
    replace hS := hS.later (below_plus V bs1 d1)
    replace b3 := b3.later (below_plus V bs1 d1)
    replace be := belowP be bs1 d1
    generalize plus V bs1 d1 = W at *
    refine wp_region_lit ?_
    iterate 2 (refine wpList_plain rfl (fun K hK => ?_); go_simp; with_reducible refine hK _ _ ?_; clear hK K)
    refine wpList_ldA (t := 78) 78 (.tmp 3) rfl rfl (tabC t) rfl (b3) (whole_ _) vt1 vt2 ((by rw [tabC_len0]; kernel_rfl)) ?_
    refine wpList_plain rfl (fun K hK => ?_)
    go_simp
    refine (HA.out _ hS).mono ?_
    rintro e w2 ⟨rfl, hS2, hc2⟩
    with_reducible refine hK _ _ ?_
    clear hK K
    go_wp2
    go_ret2
    exact RetSt.is_ (by rw [hv.out, he.out]; rfl) (by rw [hs.out]; exact hS2) ((Chg.of_below be).trans hc2)
  · have e1 : frV S = 0 := if_neg hf
    have e2 : frB S = false := decide_eq_false hf
    rw [e1, e2] at HF
    have hs := Lib.hid (show PS = S by rw [← HPS.out]; exact if_neg hf)
    have hv := Lib.hid (show PV = 0 by rw [← HPV.out]; exact if_neg hf)
    have he := Lib.hid (show PE = 23 by rw [← HPE.out]; exact if_neg hf)
    clear e1 e2 hf hlen
    go_enter Tryd.func86, Tryd.ntmps86
    go_upto_region 1 with (fail)
    generalize w.alloc (.cells (tabC t).toArray 78) = V at *
    go_wp2_with (go_at_call 106; refine (HF.out _ hS).mono ?_; rintro e w1 ⟨bs1, d1, rfl, rfl⟩)
    go_ret2
    exact RetSt.is_ (by rw [hv.out, he.out]; rfl) (by rw [hs.out]; exact hS.later (below_plus _ _ _)) (Chg.of_below (belowP be _ _))
end Go.Proofs.YtclhfbbajeoanaaDoor

/- Retire, Find (chapter 15). -/
namespace Go.Proofs.YtclhfbbajeoanaaDoor
open Go.RowKit
set_option linter.unusedVariables false
set_option linter.unusedSimpArgs false
attribute [local go_sem ↓] sliced_cut

attribute [local go_sem] cutA_zero

theorem wpList_copyS {P : Program} {w : World} {ops : Array Oper} {rest : List Oper} {o : Oper} {a : Act} {Q : Exit → Act → World → Prop} (hgd : o.guard = none) (d s : Operand) (dT sT : TypeId)
    (ho : o.op = .call { callee := .builtin .copy, args := #[d, s], argTypes := #[dT, sT] }) (e : TypeId) (sz : Nat) (hu : P.underlying dT = some (.slice e)) (hsz : (P.info? e).map (·.size) = some sz)
    {g off dLen dCap : Nat} {ad : Addr} {sLen sCap : Nat} (hd : a.eval d = .slice (some ⟨g, off, none⟩) dLen dCap) (hs : a.eval s = .slice (some ad) sLen sCap) {cur : List Value} {t : TypeId} (hb : Bk w g t cur) (cs : List Value) (hn : cs.length = Nat.min sLen dLen * sz)
    (hsrc : ∀ j v, cs[j]? = some v → w.cell? (ad.add j) = some v) (hfit : off + cs.length ≤ cur.length) (h1 : ∀ v ∈ cs, v.oneCell' = true)
    (h : ∀ w', Bk w' g t (splice cur off cs) → w.grownBy w' (some g) → wpList P ops Q rest (a.put o.dst (goInt (Nat.min sLen dLen))) w') : wpList P ops Q (o :: rest) a w := by
  refine wpList_plain hgd fun K hK => ?_
  have hl := run_firstCells_some (P := P) w sz (Nat.min sLen dLen) ad sLen sCap cs hn hsrc
  have hst := run_storeCells_at P g off t cs 0 cur.toArray w hb (by simpa using hfit) h1
  have hrun : (Builtin.copy_ #[dT, sT] o.type #[.slice (some ⟨g, off, none⟩) dLen dCap, .slice (some ad) sLen sCap]).run P w = .ok (goInt (Nat.min sLen dLen)) (w.setRow g (splice cur off cs).toArray) := by
    cases hq : P.info? e with
    | none => simp [hq] at hsz
    | some i =>
      have hi : i.size = sz := by simpa [hq] using hsz
      simp only [Builtin.copy_, Sem.run_bind, run_underlying hu, Builtin.lenOf, sizeOf, typeInfo, hq, hi, Result.andThen_ok, Sem.run_pure, List.getElem?_toArray, List.getElem?_cons_zero, List.getElem?_cons_succ, hl]
      simp [hq, hi, hl, hst, splice]
  unfold Oper.wp execOp
  simp only [ho, resolve, invoke, builtin, Sem.run_bind, Sem.run_pure, Result.andThen_ok, List.map_toArray, List.map_cons, List.map_nil, hd, hs, hrun]
  refine hK _ _ (h _ ?_ ⟨rfl, rfl, rfl, by simp [World.setRow], fun k hk hne => setRow_other w g k _ (fun e => hne (by rw [e]))⟩)
  exact setRow_heap w g _ _ t _ hb
theorem flat_splices {X : Type} (enc : X → List Value) (s : Nat) (hs : ∀ x, (enc x).length = s) (L M : List X) (i : Nat) : splice (L.flatMap enc) (i * s) (M.flatMap enc) = (L.take i ++ (M ++ L.drop (i + M.length))).flatMap enc := by
  unfold splice
  rw [flat_take enc s hs, flat_len enc s hs, ← Nat.add_mul, flat_drop enc s hs, List.flatMap_append, List.flatMap_append]
theorem splice_app (A B new : List Value) (o : Nat) (h : o + new.length ≤ A.length) : splice (A ++ B) o new = splice A o new ++ B := by
  unfold splice
  rw [List.take_append_of_le_length (by omega), List.drop_append_of_le_length h]
  simp only [List.append_assoc]
theorem stkC_retire (S : Stk) (h8 : S.lv.length ≤ 8) (i n : Nat) (hn : S.lv.length = n + 1) (hi : i < n) : splice ((splice (stkC S) (1 + i * 130) ((S.lv.drop (i + 1)).flatMap levC)).set 0 (.int .i64 (n : Int))) (1 + n * 130) (levC (0, [])) = stkC { S with lv := S.lv.eraseIdx i } := by
  have hL : (levels S).length = 8 := levels_len S
  have hfl : ((levels S).flatMap levC).length = 1040 := by rw [flat_len levC 130 levC_len, hL]
  have hdl : ((S.lv.drop (i + 1)).flatMap levC).length = (n - i) * 130 := by rw [flat_len levC 130 levC_len, List.length_drop, hn]; congr 1; omega
  have hml : (S.lv.drop (i + 1)).length = n - i := by rw [List.length_drop]; omega
  have hlen : ((levels S).take i ++ (S.lv.drop (i + 1) ++ (levels S).drop (i + (n - i)))).length = 8 := by simp [hL, hml]; omega
  have hb : i * 130 + (n - i) * 130 ≤ 1040 := by rw [← Nat.add_mul]; omega
  unfold stkC
  rw [splice_cons, List.set_cons_zero, splice_cons, splice_app _ _ _ _ (by rw [hdl, hfl]; exact hb), flat_splices levC 130 levC_len, hml, splice_app _ _ _ _ (by rw [flat_len levC 130 levC_len, hlen, levC_len]; omega),
    flat_splice levC 130 levC_len _ _ (by rw [hlen]; omega)]
  have e1 : (S.lv.eraseIdx i).length = n := by rw [List.length_eraseIdx_of_lt (by omega), hn]; rfl
  have e2 : ((levels S).take i ++ (S.lv.drop (i + 1) ++ (levels S).drop (i + (n - i)))).set n (0, []) = levels { S with lv := S.lv.eraseIdx i } := by
    have hlv : levels S = S.lv ++ List.replicate (8 - (n + 1)) (0, []) := by
      unfold levels
      rw [hn, List.take_of_length_le (by simp [hn]; omega)]
    have hlv2 : levels { S with lv := S.lv.eraseIdx i } = S.lv.eraseIdx i ++ List.replicate (8 - n) (0, []) := by
      unfold levels
      simp only [e1]
      rw [List.take_of_length_le (by simp [e1]; omega)]
    rw [hlv2, hlv, List.take_append_of_le_length (by omega), show i + (n - i) = n by omega, List.drop_append_of_le_length (by omega), ← List.append_assoc, ← List.eraseIdx_eq_take_drop_succ, List.set_append_right _ _ (by rw [e1]; exact Nat.le_refl _), e1, Nat.sub_self,
      List.drop_eq_getElem_cons (by omega), List.drop_of_length_le (by omega), show 8 - n = (8 - (n + 1)) + 1 by omega, List.replicate_succ]
    rfl
  rw [e2, e1]
theorem levels_eq (S : Stk) (h8 : S.lv.length ≤ 8) : levels S = S.lv ++ List.replicate (8 - S.lv.length) (0, []) := by
  unfold levels
  rw [List.take_of_length_le (by simp; omega)]
theorem stkC_drop (S : Stk) (h8 : S.lv.length ≤ 8) (j : Nat) (hj : j ≤ S.lv.length) (q : Nat) (u : Value) (h : ((S.lv.drop j).flatMap levC)[q]? = some u) : (stkC S)[1 + j * 130 + q]? = some u := by
  have e : S.lv.flatMap levC = (S.lv.take j).flatMap levC ++ (S.lv.drop j).flatMap levC := by rw [← List.flatMap_append, List.take_append_drop]
  have hl : ((S.lv.take j).flatMap levC).length = j * 130 := by rw [flat_len levC 130 levC_len, List.length_take]; congr 1; omega
  have hq := (List.getElem?_eq_some_iff.1 h).1
  unfold stkC
  rw [levels_eq S h8, List.flatMap_append, e, show 1 + j * 130 + q = (j * 130 + q) + 1 by omega, List.getElem?_cons_succ, List.append_assoc, List.append_assoc, List.getElem?_append_right (by omega), hl, Nat.add_sub_cancel_left, List.getElem?_append_left hq]
  exact h
set_option maxHeartbeats 4000000 in
set_option maxRecDepth 100000 in
theorem retire_any (S : Stk) (hok : StkOk S) (g : Nat) (v : Int) (hv : v ≤ 9223372036854775807) (w : World) (hS : Bk w g 120 (stkC S)) : Calls Tryd.prog 55 #[.pointer (some ⟨g, 0, none⟩), .int .i64 v] w (RetSt w g (retS S v) (.int .i64 (retE S v : Nat))) := by
  have h8 := hok.len
  have HI := Lib.hid (fun w h => index_any S h8 g v w h)
  obtain ⟨ES, hES⟩ : ∃ x, retS S v = x := ⟨_, rfl⟩
  obtain ⟨EE, hEE⟩ : ∃ x, retE S v = x := ⟨_, rfl⟩
  rw [hES, hEE]
  have HES := Lib.hid hES
  have HEE := Lib.hid hEE
  clear hES hEE
  by_cases hl : idxS S v < S.lv.length
  · have hix : ixS S v = (idxS S v : Int) := if_pos hl
    rw [hix] at HI
    obtain ⟨n, hn⟩ : ∃ n, S.lv.length = n + 1 := ⟨S.lv.length - 1, by omega⟩
    have q0 : w.cell? ⟨g, 0, none⟩ = some (.int .i64 ((n + 1 : Nat) : Int)) := by rw [hS.cell, ← hn]; rfl
    have nw : IntKind.i64.wrap (((n + 1 : Nat) : Int) - 1) = (n : Int) := by rw [IntWalk.i64_in _ (by omega)]; omega
    have nw2 : IntKind.i64.wrap ((n : Int) + 1 - 1) = (n : Int) := by rw [IntWalk.i64_in _ (by omega)]; omega
    by_cases hl2 : idxS S v + 1 < S.lv.length
    · have hbit := Lib.hid (show retS S v = { { S with lv := S.lv.eraseIdx (idxS S v) } with bz := S.bz ||| bitB v 0 8 } by
        have hat := idxS_at hl
        have h9 := (hok.rg _ (List.getElem_mem hl)).1
        rw [bitB_in v 0 8 (by omega) (by omega)]
        unfold retS
        rw [if_pos hl2, show v.toNat = (v - ((0 : Nat) : Int)).toNat by omega])
      have he := Lib.hid (show EE = 0 by rw [← HEE.out]; unfold retE; rw [if_pos hl2])
      have hret := Lib.hid (fun i (h : i < n) => stkC_retire S h8 i n hn h)
      have hlev := Lib.hid (fun i h h8 k u hk => stkC_lev S i h h8 k u hk)
      have hset := Lib.hid (stkC_setBz { S with lv := S.lv.eraseIdx (idxS S v) } (S.bz ||| bitB v 0 8))
      have hbz8 : S.bz < 18446744073709551616 := by have := hok.bz; omega
      have hor := u64_or_nat S.bz (bitB v 0 8) hbz8 (bitB_lt v 0 8 (by decide))
      have HB := Lib.hid (fun w => versionBit_any v hv w)
      have hbz := stkC_bz { S with lv := S.lv.eraseIdx (idxS S v) }
      simp only [] at hbz
      rw [HES.out] at hbit
      clear HES HEE hix
      generalize S.bz ||| bitB v 0 8 = Y at *
      generalize bitB v 0 8 = B at *
      have hb8 := hok.bz
      generalize idxS S v = i at *
      have i0 : ¬ (i : Int) < 0 := by omega
      have i1 : ((i : Int) == (n : Int)) = false := by simp; omega
      have i8 : (i : Int) ≤ 8 := by omega
      have i8' : ¬ 8 = i := by omega
      obtain ⟨j, hj⟩ : ∃ j, j = i + 1 := ⟨_, rfl⟩
      obtain ⟨m, hm⟩ : ∃ m, m = n + 1 := ⟨_, rfl⟩
      have HJ := Lib.hid hj
      have HM := Lib.hid hm
      have ji : (i : Int) + 1 = (j : Int) := by omega
      have mi : (n : Int) + 1 = (m : Int) := by omega
      have i9 : (j : Int) ≤ (m : Int) := by omega
      have i10 : (m : Int) ≤ 8 := by omega
      have i8j : ¬ 8 = j := by omega
      have i8m : j ≤ m := by omega
      have i1' : ((i : Int) == (m : Int) - 1) = false := by simp; omega
      have wj : IntKind.i64.wrap (j : Int) = (j : Int) := IntWalk.i64_in _ (by omega)
      clear hj hm
      have h0 : (stkC S)[0]? = some (.int .i64 (m : Int)) := by rw [HM.out, ← hn]; rfl
      clear hok q0
      go_enter Tryd.func55, Tryd.ntmps55
      go_upto_region 4 with (go_at_call 88; refine (HI.out _ hS).mono ?_; rintro e w1 ⟨bs1, d1, rfl, rfl⟩)
      have be := below_plus w bs1 d1
      replace hS := hS.later be
      clear HI
      generalize plus w bs1 d1 = V at *
      have q1 : V.cell? ⟨g, 0, none⟩ = some (.int .i64 (m : Int)) := by rw [hS.cell]; exact h0
      go_upto_region 8 with (fail)
      clear q1
      refine wp_relS 15 61 rfl (by kernel_rfl) (by kernel_rfl) ?_
      apply Steps.one (MP.eq _) 1 rfl
      · intro o ho FA x hO hD K hK
        obtain rfl := Option.some.inj ho.symm
        clear ho
        have e0 := hO 0 (by kernel_rfl)
        simp only [eval_tmp, List.getElem?_toArray, List.getElem?_cons_succ, List.getElem?_cons_zero, Option.getD_some] at e0
        have ev0 := Lib.hid ((eval_tmp FA 0).trans e0)
        clear hO hD
        go_simp
        exact hK.out _ _ (Ex.refl _) rfl
      apply Steps.one (MP.eq _) 2 rfl
      · intro o ho FA x hO hD K hK
        obtain rfl := Option.some.inj ho.symm
        clear ho
        have ev20 : FA.eval (.tmp 20) = _ := hD 0 20 (by kernel_rfl)
        have e20 := (eval_tmp FA 20).symm.trans ev20
        replace ev20 := Lib.hid ev20
        clear hO hD
        go_simp
        exact hK.out _ _ (Ex.refl _) rfl
      apply Steps.one (MP.eq _) 3 rfl
      · intro o ho FA x hO hD K hK
        obtain rfl := Option.some.inj ho.symm
        clear ho
        have ev21 : FA.eval (.tmp 21) = _ := hD 1 21 (by kernel_rfl)
        have e21 := (eval_tmp FA 21).symm.trans ev21
        replace ev21 := Lib.hid ev21
        clear hO hD
        go_simp
        exact hK.out _ _ (Ex.refl _) rfl
      apply Steps.one (MP.eq _) 4 rfl
      · intro o ho FA x hO hD K hK
        obtain rfl := Option.some.inj ho.symm
        clear ho
        have e5 := hO 5 (by kernel_rfl)
        simp only [eval_tmp, List.getElem?_toArray, List.getElem?_cons_succ, List.getElem?_cons_zero, Option.getD_some] at e5
        have ev5 := Lib.hid ((eval_tmp FA 5).trans e5)
        clear hO hD
        go_simp
        exact hK.out _ _ (Ex.refl _) rfl
      apply Steps.one (MP.eq _) 5 rfl
      · intro o ho FA x hO hD K hK
        obtain rfl := Option.some.inj ho.symm
        clear ho
        have ev22 : FA.eval (.tmp 22) = _ := hD 2 22 (by kernel_rfl)
        have e22 := (eval_tmp FA 22).symm.trans ev22
        replace ev22 := Lib.hid ev22
        have ev23 : FA.eval (.tmp 23) = _ := hD 3 23 (by kernel_rfl)
        have e23 := (eval_tmp FA 23).symm.trans ev23
        replace ev23 := Lib.hid ev23
        clear hO hD
        go_simp
        exact hK.out _ _ (Ex.refl _) rfl
      apply Steps.one (MP.eq _) 6 rfl
      · intro o ho FA x hO hD K hK
        obtain rfl := Option.some.inj ho.symm
        clear ho
        have e0 := hO 0 (by kernel_rfl)
        simp only [eval_tmp, List.getElem?_toArray, List.getElem?_cons_succ, List.getElem?_cons_zero, Option.getD_some] at e0
        have ev0 := Lib.hid ((eval_tmp FA 0).trans e0)
        clear hO hD
        go_simp
        exact hK.out _ _ (Ex.refl _) rfl
      apply Steps.one (MP.eq _) 7 rfl
      · intro o ho FA x hO hD K hK
        obtain rfl := Option.some.inj ho.symm
        clear ho
        have ev25 : FA.eval (.tmp 25) = _ := hD 5 25 (by kernel_rfl)
        have e25 := (eval_tmp FA 25).symm.trans ev25
        replace ev25 := Lib.hid ev25
        clear hO hD
        go_simp
        exact hK.out _ _ (Ex.refl _) rfl
      apply Steps.one (MP.eq _) 8 rfl
      · intro o ho FA x hO hD K hK
        obtain rfl := Option.some.inj ho.symm
        clear ho
        have ev26 : FA.eval (.tmp 26) = _ := hD 6 26 (by kernel_rfl)
        have e26 := (eval_tmp FA 26).symm.trans ev26
        replace ev26 := Lib.hid ev26
        clear hO hD
        go_simp
        exact hK.out _ _ (Ex.refl _) rfl
      apply Steps.one (MP.eq _) 9 rfl
      · intro o ho FA x hO hD K hK
        obtain rfl := Option.some.inj ho.symm
        clear ho
        have e5 := hO 5 (by kernel_rfl)
        simp only [eval_tmp, List.getElem?_toArray, List.getElem?_cons_succ, List.getElem?_cons_zero, Option.getD_some] at e5
        have ev5 := Lib.hid ((eval_tmp FA 5).trans e5)
        clear hO hD
        go_simp
        exact hK.out _ _ (Ex.refl _) rfl
      apply Steps.one (MP.eq _) 10 rfl
      · intro o ho FA x hO hD K hK
        obtain rfl := Option.some.inj ho.symm
        clear ho
        have ev28 : FA.eval (.tmp 28) = _ := hD 8 28 (by kernel_rfl)
        have e28 := (eval_tmp FA 28).symm.trans ev28
        replace ev28 := Lib.hid ev28
        clear hO hD
        go_simp
        exact hK.out _ _ (Ex.refl _) rfl
      apply Steps.one (MP.eq _) 11 rfl
      · intro o ho FA x hO hD K hK
        obtain rfl := Option.some.inj ho.symm
        clear ho
        have e0 := hO 0 (by kernel_rfl)
        simp only [eval_tmp, List.getElem?_toArray, List.getElem?_cons_succ, List.getElem?_cons_zero, Option.getD_some] at e0
        have ev0 := Lib.hid ((eval_tmp FA 0).trans e0)
        clear hO hD
        go_simp
        exact hK.out _ _ (Ex.refl _) rfl
      apply Steps.one (MP.eq _) 12 rfl
      · intro o ho FA x hO hD K hK
        obtain rfl := Option.some.inj ho.symm
        clear ho
        have ev30 : FA.eval (.tmp 30) = _ := hD 10 30 (by kernel_rfl)
        have e30 := (eval_tmp FA 30).symm.trans ev30
        replace ev30 := Lib.hid ev30
        clear hO hD
        go_simp
        exact hK.out _ _ (Ex.refl _) rfl
      apply Steps.one (MP.eq _) 13 rfl
      · intro o ho FA x hO hD K hK
        obtain rfl := Option.some.inj ho.symm
        clear ho
        have ev31 : FA.eval (.tmp 31) = _ := hD 11 31 (by kernel_rfl)
        have e31 := (eval_tmp FA 31).symm.trans ev31
        replace ev31 := Lib.hid ev31
        clear hO hD
        go_simp
        exact hK.out _ _ (Ex.refl _) rfl
      apply Steps.one (MP.eq _) 14 rfl
      · intro o ho FA x hO hD K hK
        obtain rfl := Option.some.inj ho.symm
        clear ho
        have ev32 : FA.eval (.tmp 32) = _ := hD 12 32 (by kernel_rfl)
        have e32 := (eval_tmp FA 32).symm.trans ev32
        replace ev32 := Lib.hid ev32
        clear hO hD
        refine wanted_if rfl ?_
        refine wp_ld1 3 (.tmp 32) rfl ev32.out (hS.later (below_plus _ _ _)) h0 Tryd.underlying3 rfl ?_
        exact hK.out _ _ (Ex.refl _) rfl
      apply Steps.one (MP.eq _) 15 rfl
      · intro o ho FA x hO hD K hK
        obtain rfl := Option.some.inj ho.symm
        clear ho
        have ev27 : FA.eval (.tmp 27) = _ := hD 7 27 (by kernel_rfl)
        have e27 := (eval_tmp FA 27).symm.trans ev27
        replace ev27 := Lib.hid ev27
        have ev29 : FA.eval (.tmp 29) = _ := hD 9 29 (by kernel_rfl)
        have e29 := (eval_tmp FA 29).symm.trans ev29
        replace ev29 := Lib.hid ev29
        have ev33 : FA.eval (.tmp 33) = _ := hD 13 33 (by kernel_rfl)
        have e33 := (eval_tmp FA 33).symm.trans ev33
        replace ev33 := Lib.hid ev33
        clear hO hD
        go_simp
        exact hK.out _ _ (Ex.refl _) rfl
      refine Steps.fin_ (fun vs x hp => ?_)
      have p0 : vs 0 = _ := hp 0 (by omega)
      have p1 : vs 1 = _ := hp 1 (by omega)
      have p2 : vs 2 = _ := hp 2 (by omega)
      have p3 : vs 3 = _ := hp 3 (by omega)
      have p4 : vs 4 = _ := hp 4 (by omega)
      have p5 : vs 5 = _ := hp 5 (by omega)
      have p6 : vs 6 = _ := hp 6 (by omega)
      have p7 : vs 7 = _ := hp 7 (by omega)
      have p8 : vs 8 = _ := hp 8 (by omega)
      have p9 : vs 9 = _ := hp 9 (by omega)
      have p10 : vs 10 = _ := hp 10 (by omega)
      have p11 : vs 11 = _ := hp 11 (by omega)
      have p12 : vs 12 = _ := hp 12 (by omega)
      have p13 : vs 13 = _ := hp 13 (by omega)
      have p14 : vs 14 = _ := hp 14 (by omega)
      clear hp
      simp only [List.take_succ_cons, List.take_zero, List.drop_succ_cons, List.drop_zero, putAll, Nat.zero_add, Nat.reduceAdd, Act.put, List.setIfInBounds_toArray, List.set_cons_zero, List.set_cons_succ, p0, p1, p2, p3, p4, p5, p6, p7, p8, p9, p10, p11, p12, p13, p14]
      clear p0 p1 p2 p3 p4 p5 p6 p7 p8 p9 p10 p11 p12 p13 p14
      clear vs
      have b1 := below_plus V x.bs x.d
      replace hS := hS.later b1
      replace be := be.trans (b1.mono be.size)
      clear b1
      generalize plus V x.bs x.d = W at *
      have hmin : Nat.min (m - j) (8 - i) = n - i := by
        have e : Nat.min (m - j) (8 - i) = min (m - j) (8 - i) := rfl
        have e1 := HJ.out
        have e2 := HM.out
        omega
      have hdl : ((S.lv.drop j).flatMap levC).length = Nat.min (m - j) (8 - i) * 130 := by
        rw [flat_len levC 130 levC_len, List.length_drop, hn, hmin, HJ.out]
        congr 1
        omega
      have hfit : 1 + i * 130 + ((S.lv.drop j).flatMap levC).length ≤ (stkC S).length := by
        rw [hdl, stkC_len, hmin, Nat.add_assoc, ← Nat.add_mul]
        omega
      refine wpList_copyS rfl (.tmp 24) (.tmp 34) 146 146 rfl 117 130 Tryd.underlying146 (by kernel_rfl) (g := g) (off := 1 + i * 130) (ad := ⟨g, 1 + j * 130, none⟩) rfl rfl hS ((S.lv.drop j).flatMap levC) hdl ?_ hfit (flat_one levC levC_one _) ?_
      · intro q u hu
        rw [add_plain, hS.cell]
        exact stkC_drop S h8 j (by have := HJ.out; omega) q u hu
      intro W4 h4 g4
      simp only [Act.put, List.setIfInBounds_toArray, List.set_cons_zero, List.set_cons_succ]
      have hj := HJ.out
      have hm := HM.out
      have hl4 : (splice (stkC S) (1 + i * 130) ((S.lv.drop j).flatMap levC)).length = 1043 := by rw [length_splice _ _ _ hfit, stkC_len]
      have q4 : W4.cell? ⟨g, 0, none⟩ = some (.int .i64 (m : Int)) := by
        rw [h4.cell]
        show (splice (Value.int .i64 (S.lv.length : Int) :: _) (1 + i * 130) _)[0]? = _
        rw [splice_cons, hn, ← hm]
        rfl
      have nwm : IntKind.i64.wrap ((m : Int) - 1) = (n : Int) := by rw [IntWalk.i64_in _ (by omega)]; omega
      have hr2 := hret.out i (by omega)
      rw [← hj] at hr2
      generalize splice (stkC S) (1 + i * 130) ((S.lv.drop j).flatMap levC) = C4 at *
      clear hfit hdl hmin hj hm
      go_upto_region 9 with (fail)
      refine wp_region_lit ?_
      iterate 7 (refine wpList_plain rfl (fun K hK => ?_); go_simp; with_reducible refine hK _ _ ?_; clear hK K)
      refine wpList_st1 3 (.tmp 42) (.tmp 40) rfl rfl rfl rfl h4 (by rw [hl4]; omega) rfl (by kernel_rfl) ?_
      intro W5 h5 g5
      simp only [Act.put, List.setIfInBounds_toArray, List.set_cons_zero, List.set_cons_succ]
      replace h5 : Bk W5 g 120 (C4.set 0 (.int .i64 (n : Int))) := h5
      have c5 : Chg (fun b => b = g) w W5 := (Chg.of_below be).trans ((Chg.one (D := fun b => b = g) g4 rfl).trans (Chg.one (D := fun b => b = g) g5 rfl))
      have q5 : (C4.set 0 (.int .i64 (n : Int)))[0]? = some (.int .i64 (n : Int)) := by
        rw [List.getElem?_set_self (by omega)]
      have hl5 : (C4.set 0 (.int .i64 (n : Int))).length = 1043 := by rw [List.length_set, hl4]
      generalize C4.set 0 (.int .i64 (n : Int)) = C5 at *
      clear q4 h4 g4 g5 hS be
      have n8 : (n : Int) < 8 := by omega
      have hbd : ∀ w, (Instr.build 117 #[]).run Tryd.prog w = .ok (.agg (levC (0, [])).toArray) w := fun _ => by kernel_rfl
      go_upto_region 10 with (fail)
      refine wp_relS 9 61 rfl (by kernel_rfl) (by kernel_rfl) ?_
      apply Steps.one (MP.eq _) 1 rfl
      · intro o ho FA x hO hD K hK
        obtain rfl := Option.some.inj ho.symm
        clear ho
        have e0 := hO 0 (by kernel_rfl)
        simp only [eval_tmp, List.getElem?_toArray, List.getElem?_cons_succ, List.getElem?_cons_zero, Option.getD_some] at e0
        have ev0 := Lib.hid ((eval_tmp FA 0).trans e0)
        clear hO hD
        go_simp
        exact hK.out _ _ (Ex.refl _) rfl
      apply Steps.one (MP.eq _) 2 rfl
      · intro o ho FA x hO hD K hK
        obtain rfl := Option.some.inj ho.symm
        clear ho
        have e0 := hO 0 (by kernel_rfl)
        simp only [eval_tmp, List.getElem?_toArray, List.getElem?_cons_succ, List.getElem?_cons_zero, Option.getD_some] at e0
        have ev0 := Lib.hid ((eval_tmp FA 0).trans e0)
        clear hO hD
        go_simp
        exact hK.out _ _ (Ex.refl _) rfl
      apply Steps.one (MP.eq _) 3 rfl
      · intro o ho FA x hO hD K hK
        obtain rfl := Option.some.inj ho.symm
        clear ho
        have ev44 : FA.eval (.tmp 44) = _ := hD 1 44 (by kernel_rfl)
        have e44 := (eval_tmp FA 44).symm.trans ev44
        replace ev44 := Lib.hid ev44
        clear hO hD
        go_simp
        exact hK.out _ _ (Ex.refl _) rfl
      apply Steps.one (MP.eq _) 4 rfl
      · intro o ho FA x hO hD K hK
        obtain rfl := Option.some.inj ho.symm
        clear ho
        have ev45 : FA.eval (.tmp 45) = _ := hD 2 45 (by kernel_rfl)
        have e45 := (eval_tmp FA 45).symm.trans ev45
        replace ev45 := Lib.hid ev45
        clear hO hD
        go_simp
        exact hK.out _ _ (Ex.refl _) rfl
      apply Steps.one (MP.eq _) 5 rfl
      · intro o ho FA x hO hD K hK
        obtain rfl := Option.some.inj ho.symm
        clear ho
        have ev46 : FA.eval (.tmp 46) = _ := hD 3 46 (by kernel_rfl)
        have e46 := (eval_tmp FA 46).symm.trans ev46
        replace ev46 := Lib.hid ev46
        clear hO hD
        refine wanted_if rfl ?_
        refine wp_ld1 3 (.tmp 46) rfl ev46.out (h5.later (below_plus _ _ _)) q5 Tryd.underlying3 rfl ?_
        exact hK.out _ _ (Ex.refl _) rfl
      apply Steps.one (MP.eq _) 6 rfl
      · intro o ho FA x hO hD K hK
        obtain rfl := Option.some.inj ho.symm
        clear ho
        clear hO hD
        refine wanted_if rfl ?_
        refine wp_buildV 117 [] rfl (.agg (levC (0, [])).toArray) (hbd _) ?_
        exact hK.out _ _ (Ex.refl _) rfl
      apply Steps.one (MP.eq _) 7 rfl
      · intro o ho FA x hO hD K hK
        obtain rfl := Option.some.inj ho.symm
        clear ho
        have ev43 : FA.eval (.tmp 43) = _ := hD 0 43 (by kernel_rfl)
        have e43 := (eval_tmp FA 43).symm.trans ev43
        replace ev43 := Lib.hid ev43
        clear hO hD
        go_simp
        exact hK.out _ _ (Ex.refl _) rfl
      apply Steps.one (MP.eq _) 8 rfl
      · intro o ho FA x hO hD K hK
        obtain rfl := Option.some.inj ho.symm
        clear ho
        have ev49 : FA.eval (.tmp 49) = _ := hD 6 49 (by kernel_rfl)
        have e49 := (eval_tmp FA 49).symm.trans ev49
        replace ev49 := Lib.hid ev49
        clear hO hD
        go_simp
        exact hK.out _ _ (Ex.refl _) rfl
      apply Steps.one (MP.eq _) 9 rfl
      · intro o ho FA x hO hD K hK
        obtain rfl := Option.some.inj ho.symm
        clear ho
        have ev50 : FA.eval (.tmp 50) = _ := hD 7 50 (by kernel_rfl)
        have e50 := (eval_tmp FA 50).symm.trans ev50
        replace ev50 := Lib.hid ev50
        have ev47 : FA.eval (.tmp 47) = _ := hD 4 47 (by kernel_rfl)
        have e47 := (eval_tmp FA 47).symm.trans ev47
        replace ev47 := Lib.hid ev47
        clear hO hD
        go_simp
        exact hK.out _ _ (Ex.refl _) rfl
      refine Steps.fin_ (fun vs x hp => ?_)
      have p0 : vs 0 = _ := hp 0 (by omega)
      have p1 : vs 1 = _ := hp 1 (by omega)
      have p2 : vs 2 = _ := hp 2 (by omega)
      have p3 : vs 3 = _ := hp 3 (by omega)
      have p4 : vs 4 = _ := hp 4 (by omega)
      have p5 : vs 5 = _ := hp 5 (by omega)
      have p6 : vs 6 = _ := hp 6 (by omega)
      have p7 : vs 7 = _ := hp 7 (by omega)
      have p8 : vs 8 = _ := hp 8 (by omega)
      clear hp
      simp only [List.take_succ_cons, List.take_zero, List.drop_succ_cons, List.drop_zero, putAll, Nat.zero_add, Nat.reduceAdd, Act.put, List.setIfInBounds_toArray, List.set_cons_zero, List.set_cons_succ, p0, p1, p2, p3, p4, p5, p6, p7, p8]
      clear p0 p1 p2 p3 p4 p5 p6 p7 p8
      clear vs
      have c6 := c5.trans (Chg.of_below (below_plus W5 x.bs x.d))
      replace h5 := h5.later (below_plus W5 x.bs x.d)
      clear c5
      generalize plus W5 x.bs x.d = W6 at *
      refine wpList_stM (off := 1 + n * 130) 117 (.tmp 51) (.tmp 48) rfl rfl (levC (0, [])) C5 (by rw [hl5, levC_len]; omega) (levC_one _) rfl rfl h5 (szLev _) ?_
      intro W7 h7 g7
      simp only [Act.put, List.setIfInBounds_toArray, List.set_cons_zero, List.set_cons_succ]
      rw [hr2] at h7
      have c7 := c6.trans (Chg.one (D := fun b => b = g) g7 rfl)
      clear c6 g7 h5
      go_upto_region 11 with (fail)
      refine wp_relS 7 61 rfl (by kernel_rfl) (by kernel_rfl) ?_
      apply Steps.one (MP.eq _) 1 rfl
      · intro o ho FA x hO hD K hK
        obtain rfl := Option.some.inj ho.symm
        clear ho
        have e0 := hO 0 (by kernel_rfl)
        simp only [eval_tmp, List.getElem?_toArray, List.getElem?_cons_succ, List.getElem?_cons_zero, Option.getD_some] at e0
        have ev0 := Lib.hid ((eval_tmp FA 0).trans e0)
        clear hO hD
        go_simp
        exact hK.out _ _ (Ex.refl _) rfl
      apply Steps.one (MP.eq _) 2 rfl
      · intro o ho FA x hO hD K hK
        obtain rfl := Option.some.inj ho.symm
        clear ho
        have ev52 : FA.eval (.tmp 52) = _ := hD 0 52 (by kernel_rfl)
        have e52 := (eval_tmp FA 52).symm.trans ev52
        replace ev52 := Lib.hid ev52
        clear hO hD
        go_simp
        exact hK.out _ _ (Ex.refl _) rfl
      apply Steps.one (MP.eq _) 3 rfl
      · intro o ho FA x hO hD K hK
        obtain rfl := Option.some.inj ho.symm
        clear ho
        have ev53 : FA.eval (.tmp 53) = _ := hD 1 53 (by kernel_rfl)
        have e53 := (eval_tmp FA 53).symm.trans ev53
        replace ev53 := Lib.hid ev53
        clear hO hD
        go_simp
        exact hK.out _ _ (Ex.refl _) rfl
      apply Steps.one (MP.eq _) 4 rfl
      · intro o ho FA x hO hD K hK
        obtain rfl := Option.some.inj ho.symm
        clear ho
        have ev54 : FA.eval (.tmp 54) = _ := hD 2 54 (by kernel_rfl)
        have e54 := (eval_tmp FA 54).symm.trans ev54
        replace ev54 := Lib.hid ev54
        clear hO hD
        refine wanted_if rfl ?_
        refine wp_ld1 27 (.tmp 54) rfl ev54.out (h7.later (below_plus _ _ _)) hbz Tryd.underlying27 rfl ?_
        exact hK.out _ _ (Ex.refl _) rfl
      apply Steps.one (MP.eq _) 5 rfl
      · intro o ho FA x hO hD K hK
        obtain rfl := Option.some.inj ho.symm
        clear ho
        have e1 := hO 1 (by kernel_rfl)
        simp only [eval_tmp, List.getElem?_toArray, List.getElem?_cons_succ, List.getElem?_cons_zero, Option.getD_some] at e1
        have ev1 := Lib.hid ((eval_tmp FA 1).trans e1)
        clear hO hD
        go_simp
        exact hK.out _ _ (Ex.refl _) rfl
      apply Steps.one (MP.eq _) 6 rfl
      · intro o ho FA x hO hD K hK
        obtain rfl := Option.some.inj ho.symm
        clear ho
        have ev56 : FA.eval (.tmp 56) = _ := hD 4 56 (by kernel_rfl)
        have e56 := (eval_tmp FA 56).symm.trans ev56
        replace ev56 := Lib.hid ev56
        clear hO hD
        go_simp
        refine (HB.out _).mono ?_
        rintro e w1 ⟨rfl, rfl⟩
        exact hK.out _ _ (Ex.refl _) rfl
      apply Steps.one (MP.eq _) 7 rfl
      · intro o ho FA x hO hD K hK
        obtain rfl := Option.some.inj ho.symm
        clear ho
        have ev55 : FA.eval (.tmp 55) = _ := hD 3 55 (by kernel_rfl)
        have e55 := (eval_tmp FA 55).symm.trans ev55
        replace ev55 := Lib.hid ev55
        have ev57 : FA.eval (.tmp 57) = _ := hD 5 57 (by kernel_rfl)
        have e57 := (eval_tmp FA 57).symm.trans ev57
        replace ev57 := Lib.hid ev57
        clear hO hD
        go_simp
        exact hK.out _ _ (Ex.refl _) rfl
      refine Steps.fin_ (fun vs x hp => ?_)
      have p0 : vs 0 = _ := hp 0 (by omega)
      have p1 : vs 1 = _ := hp 1 (by omega)
      have p2 : vs 2 = _ := hp 2 (by omega)
      have p3 : vs 3 = _ := hp 3 (by omega)
      have p4 : vs 4 = _ := hp 4 (by omega)
      have p5 : vs 5 = _ := hp 5 (by omega)
      have p6 : vs 6 = _ := hp 6 (by omega)
      clear hp
      simp only [List.take_succ_cons, List.take_zero, List.drop_succ_cons, List.drop_zero, putAll, Nat.zero_add, Nat.reduceAdd, Act.put, List.setIfInBounds_toArray, List.set_cons_zero, List.set_cons_succ, p0, p1, p2, p3, p4, p5, p6]
      clear p0 p1 p2 p3 p4 p5 p6
      clear vs
      have c8 := c7.trans (Chg.of_below (below_plus W7 x.bs x.d))
      replace h7 := h7.later (below_plus W7 x.bs x.d)
      clear c7
      generalize plus W7 x.bs x.d = W8 at *
      go_wp2_with (refine at_op (.store 27 (.tmp 60) (.tmp 58)) rfl ?_; refine wpList_st1 27 (.tmp 60) (.tmp 58) rfl rfl rfl rfl h7 (by rw [stkC_len]; omega) rfl (by kernel_rfl) ?_; intro W9 h9 g9)
      go_ret
      exact RetSt.is_ (by rw [he.out]; rfl) (by rw [hbit.out, ← hset.out]; exact h9) (c8.trans (Chg.one (D := fun b => b = g) g9 rfl))
    · have he := Lib.hid (show EE = 1 by rw [← HEE.out]; unfold retE; rw [if_neg hl2, if_pos (by omega)])
      have hs := Lib.hid (show ES = S by rw [← HES.out]; unfold retS; rw [if_neg hl2])
      have hin : idxS S v = n := by omega
      rw [hin] at HI
      clear hix hl hl2 hin
      go_enter Tryd.func55, Tryd.ntmps55
      go_upto_region 4 with (go_at_call 88; refine (HI.out _ hS).mono ?_; rintro e w1 ⟨bs1, d1, rfl, rfl⟩)
      have q1 : (plus w bs1 d1).cell? ⟨g, 0, none⟩ = some (.int .i64 ((n + 1 : Nat) : Int)) := by rw [(hS.later (below_plus _ _ _)).cell, ← hn]; rfl
      go_wp2
      go_ret
      exact RetSt.is_ (by rw [he.out]; rfl) (by rw [hs.out]; exact hS.later (below_plus _ _ _)) (Chg.of_below (below_plus _ _ _))
  · have hix : ixS S v = -1 := if_neg hl
    have he := Lib.hid (show EE = 24 by rw [← HEE.out]; unfold retE; rw [if_neg (by omega), if_neg (by have := idxS_le S v; omega)])
    have hs := Lib.hid (show ES = S by rw [← HES.out]; unfold retS; rw [if_neg (by omega)])
    rw [hix] at HI
    clear hix hl
    go_enter Tryd.func55, Tryd.ntmps55
    go_wp2_with (go_at_call 88; refine (HI.out _ hS).mono ?_; rintro e w1 ⟨bs1, d1, rfl, rfl⟩)
    go_ret
    exact RetSt.is_ (by rw [he.out]; rfl) (by rw [hs.out]; exact hS.later (below_plus _ _ _)) (Chg.of_below (below_plus _ _ _))
end Go.Proofs.YtclhfbbajeoanaaDoor

/- The reference's Evict, Admit, Release, Push, Retire (chapter 15). -/
namespace Go.Proofs.YtclhfbbajeoanaaDoor
open Go.RowKit
set_option linter.unusedVariables false
set_option linter.unusedSimpArgs false
attribute [local go_sem ↓] sliced_cut

attribute [local go_sem] cutA_zero

def stk0 : Stk := ⟨[], 0, 0⟩
/-- a call hands back a stack and more, and changes nothing that was there -/
def RetRS (D : Nat → Prop) (w : World) (S : Stk) (F : Value → Value) (e : Ending) (w' : World) : Prop := ∃ A n c bs d, e = .returned (F (.agg (rstC A n c S).toArray)) ∧ w' = plus w bs d ∧ RSt D (plus w bs d) S.lv A n c
theorem RetRS.mk {D : Nat → Prop} {w w' : World} {S S' : Stk} {F : Value → Value} {A : Option Addr} {n c : Nat} {v : Value} (hv : v = F (.agg (rstC A n c S).toArray)) (h : RSt D w' S.lv A n c) (hb : Below w.heap.size w w') : RetRS D w S F (.returned v) w' := by
  obtain ⟨bs, d, rfl⟩ := plus_of hb
  exact ⟨A, n, c, bs, d, by rw [hv], rfl, h⟩
end Go.Proofs.YtclhfbbajeoanaaDoor

/- does (chapter 15). -/
namespace Go.Proofs.YtclhfbbajeoanaaDoor
open Go.RowKit
set_option linter.unusedVariables false
set_option linter.unusedSimpArgs false
attribute [local go_sem ↓] sliced_cut

attribute [local go_sem] cutA_zero

theorem Chg.wid {D D' : Nat → Prop} {w w' : World} (h : Chg D w w') (hd : ∀ b, D b → D' b) : Chg D' w w' := ⟨h.os, h.tape, h.output, h.size, fun b hb hn => h.block b hb (fun h => hn (hd b h))⟩
theorem Chg.fre {D : Nat → Prop} {w w1 w2 : World} {g : Nat} (h : Chg D w w1) (hg : w1.grownBy w2 (some g)) (hl : w.heap.size ≤ g) : Chg D w w2 :=
  ⟨hg.os.trans h.os, hg.tape.trans h.tape, hg.output.trans h.output, Nat.le_trans h.size hg.size, fun b hb hd => (hg.block b (Nat.lt_of_lt_of_le hb h.size) (fun e => by injection e with e; omega)).trans (h.block b hb hd)⟩
/-- the newest table -/
def newT (S : Stk) : Tab := (S.lv.getLast?.map (·.2)).getD []
theorem newT_ok {S : Stk} (h : StkOk S) : TabOk (newT S) := by
  unfold newT
  cases hl : S.lv.getLast? with
  | none => exact ⟨by simp, by simp⟩
  | some e => exact (h.rg e (List.mem_of_getLast? hl)).2
theorem newest_ex (S : Stk) (h8 : S.lv.length ≤ 8) : ∃ (x : Int) (b : Bool), ∀ (g : Nat) (w : World), Bk w g 120 (stkC S) → Calls Tryd.prog 21 #[.pointer (some ⟨g, 0, none⟩)] w (RetV w (.tuple #[.int .i64 x, .agg (tabC (newT S)).toArray, .bool b])) := by
  by_cases h0 : 0 < S.lv.length
  · refine ⟨((S.lv[S.lv.length - 1]).1 : Nat), true, fun g w h => ?_⟩
    have := newest_yes S h8 h0 g w h
    have e : newT S = (S.lv[S.lv.length - 1]).2 := by
      unfold newT
      rw [List.getLast?_eq_getElem?, List.getElem?_eq_getElem (by omega)]
      rfl
    rw [e]
    exact this
  · refine ⟨0, false, fun g w h => ?_⟩
    have := newest_no S (by omega) g w h
    have e : newT S = [] := by
      unfold newT
      rw [List.getLast?_eq_getElem?, List.getElem?_eq_none (by omega)]
      rfl
    rw [e]
    exact this
end Go.Proofs.YtclhfbbajeoanaaDoor

/- What calls return. -/
namespace Go.Proofs.YtclhfbbajeoanaaDoor
open Go.RowKit
/-- bytes and an error -/
def RetBE (w : World) (l : List UInt8) (E : Int) (e : Ending) (w' : World) : Prop := ∃ A n c bs d, e = .returned (.tuple #[.slice A n c, .int .i64 E]) ∧ w' = plus w bs d ∧ Rb (plus w bs d) A n c l
theorem RetBE.mk {w w' : World} {l : List UInt8} {E : Int} {A : Option Addr} {n c : Nat} (h : Rb w' A n c l) (hb : Below w.heap.size w w') : RetBE w l E (.returned (.tuple #[.slice A n c, .int .i64 E])) w' := by
  obtain ⟨bs, d, rfl⟩ := plus_of hb
  exact ⟨A, n, c, bs, d, rfl, rfl, h⟩
end Go.Proofs.YtclhfbbajeoanaaDoor

/- Addresses of four bytes; steer.flow, steer.stamp (chapter 29). -/
namespace Go.Proofs.YtclhfbbajeoanaaDoor
open Go.RowKit
set_option linter.unusedVariables false
set_option linter.unusedSimpArgs false
attribute [local go_sem ↓] sliced_cut

attribute [local go_sem] cutA_zero

set_option maxHeartbeats 4000000 in
set_option maxRecDepth 100000 in
theorem adrOf4 (x : Nat) (l : List UInt8) (A : Option Addr) (c : Nat) (w : World) (h : Rb w A 4 c l) (hx : num l = x) : Calls Tryd.prog 103 #[.slice A 4 c] w (RetV w (.tuple #[.agg (adC false 0 x).toArray, .int .i64 0])) := by
  obtain ⟨dv, v1, v2⟩ : ∃ d, Tryd.prog.underlying 32 = some d ∧ d.isRow = true := ⟨_, Tryd.underlying32, rfl⟩
  have b2 : Bk (w.alloc (.cells #[.bool false, .int .u64 0, .int .u64 0] 32)) w.heap.size 32 (adC false 0 0) := Bk.new w 32 #[.bool false, .int .u64 0, .int .u64 0]
  have be : Below w.heap.size w (w.alloc (.cells #[.bool false, .int .u64 0, .int .u64 0] 32)) := Below.allocS (Below.refl _ _) _
  have hl := h.1
  have HR := Lib.hid (fun W (h : Rb W A 4 c l) => readK A 4 c l W h (by omega))
  have hx2 : Hid (num ((l.drop 0).take 4) = x) := Lib.hid (by rw [List.drop_zero, List.take_of_length_le (by omega)]; exact hx)
  clear hx
  go_enter Tryd.func103, Tryd.ntmps103
  go_upto_region 1 with (fail)
  replace h := h.later be
  generalize w.alloc (.cells #[.bool false, .int .u64 0, .int .u64 0] 32) = V at *
  have zb := be.size
  have z2 := b2.lt
  go_wp2_with fail
  refine (HR.out _ h).mono ?_
  rintro e w1 ⟨r, bs1, d1, rfl, rfl, hr1, hR⟩
  replace b2 := b2.later (below_plus _ bs1 d1)
  replace be := belowP be bs1 d1
  have hr2 : w.heap.size < r := by omega
  generalize plus V bs1 d1 = V1 at *
  go_wp2_with fail
  refine (numG V1 r l 0 x 4 (by omega) hR (by omega) (by omega) hx2.out).mono ?_
  rintro e V2 ⟨rfl, hR1, hg1⟩
  replace b2 := b2.grown hg1 (by simp; omega)
  replace be := below_grown be hg1 (by omega)
  clear hg1 hR hR1
  go_wp2_with (refine at_op (.store 32 (.tmp 2) (.tmp 13)) rfl ?_; refine wpList_stA (t := 32) 32 (.tmp 2) (.tmp 13) rfl rfl (adC false 0 x) (adC false 0 0) rfl (adC_one _ _ _) rfl rfl (b2) (szAd _ _ _) ?_; intro W4 h4 g4)
  refine bodyPost_agg2 Tryd.results103 rfl rfl h4.range v1 v2 (szAd _ _ _) rfl (RetV.mk ?_)
  exact below_grown be g4 (by omega)
end Go.Proofs.YtclhfbbajeoanaaDoor

/- A reader that is total: what it tells where bytes lack (chapter 23). The state of a reader: some l = l is left; none = it is bad. -/
namespace Go.Proofs.YtclhfbbajeoanaaDoor
open Go.RowKit
set_option linter.unusedVariables false
set_option linter.unusedSimpArgs false
attribute [local go_sem ↓] sliced_cut

attribute [local go_sem] cutA_zero

abbrev StB := Option (List UInt8)
def tkB (n : Nat) : StB → List UInt8
  | none => []
  | some l => if n ≤ l.length then l.take n else []
def drB (n : Nat) : StB → StB
  | none => none
  | some l => if n ≤ l.length then some (l.drop n) else none
def SL (s : StB) : Prop := ∀ l, s = some l → l.length ≤ 1000000
theorem SL.dr {s : StB} (h : SL s) (n : Nat) : SL (drB n s) := by
  intro l hl
  cases s with
  | none => cases hl
  | some x =>
    simp only [drB] at hl
    split at hl
    · injection hl with hl
      subst hl
      have := h x rfl
      rw [List.length_drop]
      omega
    · cases hl
theorem tkB_le (n : Nat) (s : StB) : (tkB n s).length ≤ n := by
  cases s with
  | none => exact Nat.zero_le _
  | some l =>
    simp only [tkB]
    split
    · exact List.length_take_le _ _
    · exact Nat.zero_le _
theorem tkB_drB (n : Nat) (s : StB) (hn : 0 < n) : ((tkB n s).length = n ↔ (drB n s).isSome = true) ∧ ((tkB n s).length = n ∨ tkB n s = []) := by
  cases s with
  | none => simp [tkB, drB]; omega
  | some l =>
    simp only [tkB, drB]
    by_cases h : n ≤ l.length
    · simp [h]
    · simp [h]; omega
def numT (n : Nat) (s : StB) : Nat := num (tkB n s)
theorem numT_lt (n k : Nat) (s : StB) (h : 256 ^ n ≤ k) : numT n s < k := Nat.lt_of_lt_of_le (num_lt n _ (tkB_le n s)) h
/-- the block r is a reader in the state s -/
def RP (w : World) (r : Nat) : StB → Prop
  | none => Rdr w r [] true
  | some l => Rdr w r l false
theorem RP.lt {w : World} {r : Nat} {s : StB} (h : RP w r s) : r < w.heap.size := by
  cases s <;> exact Rdr.lt h
theorem RP.later {w w' : World} {r : Nat} {s : StB} (h : RP w r s) (hb : Below w.heap.size w w') : RP w' r s := by
  cases s <;> exact Rdr.later h hb
theorem RP.far {w : World} {r : Nat} {s : StB} (h : RP w r s) {p : Addr} (hp : r < p.block) (u : Value) : RP (w.setCell p u) r s := by
  cases s <;> exact Rdr.far h hp u
theorem nextT (r n : Nat) (s : StB) (w : World) (h : RP w r s) (hs : SL s) (hn : n ≤ 1000000) : Calls Tryd.prog 72 #[.pointer (some ⟨r, 0, none⟩), .int .i64 n] w fun e w' => ∃ A m c, e = .returned (.slice A m c) ∧ (tkB n s).length = m ∧ m ≤ c ∧ Rd w' r A (bcs (tkB n s)) ∧ RP w' r (drB n s) ∧ w.grownBy w' (some r) := by
  cases s with
  | none =>
    by_cases h0 : n = 0
    · subst h0
      refine (next_any r [] true 0 w h (by simp) (by simp)).mono ?_
      rintro e w1 ⟨A, c, rfl, hc, hrd, hrr, hg⟩
      exact ⟨A, 0, c, rfl, rfl, hc, hrd, hrr, hg⟩
    · refine (next_bad r [] true n w h (.inr (by simp; omega)) (by simp) (by omega)).mono ?_
      rintro e w1 ⟨rfl, hrr, hg⟩
      exact ⟨none, 0, 0, rfl, rfl, Nat.le_refl _, .inl rfl, hrr, hg⟩
  | some l =>
    have hl := hs l rfl
    by_cases hn1 : n ≤ l.length
    · refine (next_any r l false n w h hn1 (by omega)).mono ?_
      rintro e w1 ⟨A, c, rfl, hc, hrd, hrr, hg⟩
      simp only [tkB, drB, hn1, if_true]
      exact ⟨A, n, c, rfl, by simp; omega, hc, hrd, hrr, hg⟩
    · refine (next_bad r l false n w h (.inr (by omega)) (by omega) (by omega)).mono ?_
      rintro e w1 ⟨rfl, hrr, hg⟩
      simp only [tkB, drB, hn1, if_false]
      exact ⟨none, 0, 0, rfl, rfl, Nat.le_refl _, .inl rfl, hrr, hg⟩
/-- what a call leaves: the value, the reader in its next state -/
def RetT (w : World) (r : Nat) (s : StB) (v : Value) (e : Ending) (w' : World) : Prop := e = .returned v ∧ RP w' r s ∧ w.grownBy w' (some r)
theorem numTP (r n : Nat) (s : StB) (w : World) (h : RP w r s) (hs : SL s) (h8 : n ≤ 8) : Calls Tryd.prog 36 #[.pointer (some ⟨r, 0, none⟩), .int .i64 n] w (RetT w r (drB n s) (.int .u64 (numT n s : Nat))) := by
  have hle := tkB_le n s
  have HN := Lib.hid (nextT r n s)
  have HX := Lib.hid (show numT n s = num (tkB n s) from rfl)
  generalize tkB n s = l at *
  generalize numT n s = X at *
  go_enter Tryd.func36, Tryd.ntmps36
  go_wp2_with (go_at_call 72; refine (HN.out _ h hs (by omega)).mono ?_; rintro e w1 ⟨A, m, c, rfl, hm, hc, hrd, hrr, hg⟩)
  have hl : (bcs l).length = m := by rw [bcs_length, hm]
  have HL := Lib.hid hl
  have HM := Lib.hid hm
  have hm8 : m ≤ 8 := by omega
  clear hl hm hle
  go_loop [5, 7, 14] (fun x y i => ∃ j : Nat, j ≤ m ∧ i = .int .i64 j ∧ x = .int .u64 (num (l.take j) : Nat)) (fun _ _ i => m - (intOf i).toNat)
  case atStart => exact ⟨0, Nat.zero_le _, rfl, rfl⟩
  case round =>
    obtain ⟨j, hj, rfl, rfl⟩ := hrel
    by_cases hlt : j < m
    · obtain ⟨b, off, rfl, hb, hcell⟩ := hrd.at_ (by rw [HL.out]; omega)
      have hjl : j < l.length := by rw [HM.out]; exact hlt
      have hcj : w1.cell? ⟨b, off + j, none⟩ = some (.int .u8 (l[j].toNat : Int)) := hcell j _ (by rw [bcs_get _ _ hjl])
      have HS := Lib.hid (num_take_succ l j hjl)
      have hN : num (l.take j) < 72057594037927936 := Nat.lt_of_lt_of_le (num_lt j _ (List.length_take_le _ _)) (pow_le_seven j (by omega))
      have hx : l[j].toNat < 256 := l[j].toNat_lt
      have hor := u64_shl_or (num (l.take j)) (l[j].toNat) hN hx
      clear hcell
      go_wp2
      go_round
      case rel => exact ⟨j + 1, by omega, by go_num, by rw [HS.out]; simp⟩
      case measure => simp [intOf]; omega
    · obtain rfl : j = m := by omega
      have hX : X = num (l.take j) := by rw [HX.out, List.take_of_length_le (by rw [HM.out]; omega)]
      go_wp2
      go_ret
      exact ⟨rfl, hrr, hg⟩
theorem byteT (r : Nat) (s : StB) (w : World) (h : RP w r s) (hs : SL s) : Calls Tryd.prog 41 #[.pointer (some ⟨r, 0, none⟩)] w (RetT w r (drB 1 s) (.int .u8 (numT 1 s : Nat))) := by
  have hx := numT_lt 1 256 s (by decide)
  have HN := Lib.hid (numTP r 1 s)
  generalize numT 1 s = x at *
  go_enter Tryd.func41, Tryd.ntmps41
  go_wp2_with fail
  refine (HN.out _ h hs (by omega)).mono ?_
  rintro e w1 ⟨rfl, hrr, hg⟩
  go_wp2
  go_ret
  exact ⟨rfl, hrr, hg⟩
theorem wordT (r : Nat) (s : StB) (w : World) (h : RP w r s) (hs : SL s) : Calls Tryd.prog 74 #[.pointer (some ⟨r, 0, none⟩)] w (RetT w r (drB 2 s) (.int .u16 (numT 2 s : Nat))) := by
  have hx := numT_lt 2 65536 s (by decide)
  have HN := Lib.hid (numTP r 2 s)
  generalize numT 2 s = x at *
  go_enter Tryd.func74, Tryd.ntmps74
  go_wp2_with fail
  refine (HN.out _ h hs (by omega)).mono ?_
  rintro e w1 ⟨rfl, hrr, hg⟩
  go_wp2
  go_ret
  exact ⟨rfl, hrr, hg⟩
/-- new bytes, the reader moved on -/
def RetTB (w : World) (r : Nat) (s : StB) (l : List UInt8) (e : Ending) (w' : World) : Prop := ∃ A n c, e = .returned (.slice A n c) ∧ Ob w' w.heap.size A n c l ∧ RP w' r s ∧ w.grownBy w' (some r)
theorem bytesT (r n : Nat) (s : StB) (w : World) (h : RP w r s) (hs : SL s) (hn : n ≤ 1000000) : Calls Tryd.prog 38 #[.pointer (some ⟨r, 0, none⟩), .int .i64 n] w (RetTB w r (drB n s) (tkB n s)) := by
  have hle := tkB_le n s
  have HN := Lib.hid (nextT r n s)
  generalize tkB n s = l at *
  go_enter Tryd.func38, Tryd.ntmps38
  go_wp2_with fail
  refine (HN.out _ h hs hn).mono ?_
  rintro e w1 ⟨A, m, c, rfl, hm, hc, hrd, hrr, hg⟩
  go_wp2_with fail
  refine (clone_any _ _ _ l _ (hrd.rb (Nat.le_of_lt hrr.lt) hm hc) (by omega)).mono ?_
  rintro e w2 ⟨A2, n2, c2, bs2, d2, rfl, rfl, ho2⟩
  go_wp2
  go_ret
  exact ⟨A2, n2, c2, rfl, ho2.mono hg.size, hrr.later (below_plus _ _ _), hg.trans (grownBy_of_below (below_plus _ _ _) |> fun h => ⟨h.os, h.tape, h.output, h.size, fun i hi hne => h.block i hi (by simp)⟩)⟩
theorem badT (r : Nat) (s : StB) (w : World) (h : RP w r s) : Calls Tryd.prog 39 #[.pointer (some ⟨r, 0, none⟩)] w fun e w' => e = .returned (.bool s.isNone) ∧ w = w' := by
  cases s with
  | none => exact badG w r [] true h
  | some l => exact badG w r l false h
theorem leftT (r : Nat) (s : StB) (w : World) (h : RP w r s) : Calls Tryd.prog 43 #[.pointer (some ⟨r, 0, none⟩)] w fun e w' => e = .returned (.int .i64 ((s.getD []).length : Nat)) ∧ w = w' := by
  cases s with
  | none => exact leftG w r [] true h
  | some l => exact leftG w r l false h
theorem readT (A : Option Addr) (n c : Nat) (L : List UInt8) (w : World) (h : Rb w A n c L) (hm : n ≤ 549755813888) : Calls Tryd.prog 35 #[.slice A n c] w fun e w' => ∃ r bs d, e = .returned (.pointer (some ⟨r, 0, none⟩)) ∧ w' = plus w bs d ∧ w.heap.size ≤ r ∧ RP (plus w bs d) r (some L) :=
  (read_any A n c L w h hm).mono fun _ _ ⟨r, bs, d, h1, h2, h3, h4⟩ => ⟨r, bs, d, h1, h2, h3, h4⟩
set_option maxHeartbeats 1000000 in
set_option maxRecDepth 100000 in
/-- addr.Of where there are neither 4 nor 16 bytes -/
theorem adrOfN (A : Option Addr) (n c : Nat) (w : World) (h4 : n ≠ 4) (h16 : n ≠ 16) : Calls Tryd.prog 103 #[.slice A n c] w (RetV w (.tuple #[.agg (adC false 0 0).toArray, .int .i64 20])) := by
  have h4' : (n : Int) ≠ 4 := by omega
  have h16' : (n : Int) ≠ 16 := by omega
  obtain ⟨dk, u1, u2⟩ : ∃ d, Tryd.prog.underlying 32 = some d ∧ d.isRow = true := ⟨_, Tryd.underlying32, rfl⟩
  have b2 : Bk (w.alloc (.cells #[.bool false, .int .u64 0, .int .u64 0] 32)) w.heap.size 32 (adC false 0 0) := Bk.new w 32 #[.bool false, .int .u64 0, .int .u64 0]
  have be : Below w.heap.size w (w.alloc (.cells #[.bool false, .int .u64 0, .int .u64 0] 32)) := Below.allocS (Below.refl _ _) _
  go_enter Tryd.func103, Tryd.ntmps103
  go_upto_region 1 with (fail)
  generalize w.alloc (.cells #[.bool false, .int .u64 0, .int .u64 0] 32) = V at *
  go_wp2_with (refine at_op (.store 32 (.tmp 2) (.tmp 24)) rfl ?_; refine wpList_stA (t := 32) 32 (.tmp 2) (.tmp 24) rfl rfl (adC false 0 0) (adC false 0 0) rfl (adC_one _ _ _) rfl rfl (b2) (szAd _ _ _) ?_; intro W4 h4 g4)
  refine bodyPost_agg2 Tryd.results103 rfl rfl h4.range u1 u2 (szAd _ _ _) rfl (RetV.mk ?_)
  exact below_grown be g4 (by omega)
end Go.Proofs.YtclhfbbajeoanaaDoor

/- codec.takeAddr, takeMembers (chapter 23). -/
namespace Go.Proofs.YtclhfbbajeoanaaDoor
open Go.RowKit
set_option linter.unusedVariables false
set_option linter.unusedSimpArgs false
attribute [local go_sem ↓] sliced_cut

attribute [local go_sem] cutA_zero

theorem grown_new {a b c : World} {g r : Nat} (h : a.grownBy b (some r)) (k : b.grownBy c (some g)) (hg : a.heap.size ≤ g) : a.grownBy c (some r) :=
  ⟨k.os.trans h.os, k.tape.trans h.tape, k.output.trans h.output, Nat.le_trans h.size k.size, fun i hi hne => (k.block i (Nat.lt_of_lt_of_le hi h.size) (fun e => by injection e with e; omega)).trans (h.block i hi hne)⟩
theorem grown_below {a b c : World} {r : Nat} (h : a.grownBy b (some r)) (k : Below b.heap.size b c) : a.grownBy c (some r) :=
  ⟨k.os.trans h.os, k.tape.trans h.tape, k.output.trans h.output, Nat.le_trans h.size k.size, fun i hi hne => (k.block i (Nat.lt_of_lt_of_le hi h.size)).trans (h.block i hi hne)⟩
theorem grown_chg {a b c : World} {r : Nat} {D : Nat → Prop} (h : a.grownBy b (some r)) (k : Chg D b c) (hd : ∀ i, D i → a.heap.size ≤ i) : a.grownBy c (some r) :=
  have k2 := k.below (B := a.heap.size) (fun i hi => hd i hi) h.size
  ⟨k2.os.trans h.os, k2.tape.trans h.tape, k2.output.trans h.output, Nat.le_trans h.size k2.size, fun i hi hne => (k2.block i hi).trans (h.block i hi hne)⟩
theorem RP.low {w w' : World} {r : Nat} {s : StB} (h : RP w r s) (hb : Below (r + 1) w w') : RP w' r s := by
  cases s <;> (obtain ⟨A, n, c, h1, h2, h3, h4⟩ := h; exact ⟨A, n, c, (hb.block r (by omega)).trans h1, h2, h3, h4.below ⟨hb.os, hb.tape, hb.output, hb.size, fun k hk => hb.block k (by omega)⟩⟩)
/-- the address that some bytes are -/
def adX (x : List UInt8) : Option (Bool × Nat × Nat) := if x.length = 4 then some (false, 0, num x) else if x.length = 16 then some (true, num (x.take 8), num (x.drop 8)) else none
/-- an address behind its size, and what is left -/
def adS (s : StB) : Option ((Bool × Nat × Nat) × StB) := (adX (tkB (numT 1 s) (drB 1 s))).map fun q => (q, drB (numT 1 s) (drB 1 s))
theorem adX_some {z : Nat} {s : StB} {q : Bool × Nat × Nat} (hz : 0 < z) (h : adX (tkB z s) = some q) : ∃ l, drB z s = some l := by
  have h9 := tkB_drB z s hz
  rcases h9.2 with h8 | h8
  · exact Option.isSome_iff_exists.1 (h9.1.1 h8)
  · rw [h8] at h
    cases h
theorem adX_none {z : Nat} {s : StB} (h4 : z ≠ 4) (h16 : z ≠ 16) : adX (tkB z s) = none := by
  have h9 : (tkB z s).length = z ∨ tkB z s = [] := by
    by_cases hz : 0 < z
    · exact (tkB_drB z s hz).2
    · exact .inr (List.eq_nil_of_length_eq_zero (by have := tkB_le z s; omega))
  rcases h9 with h9 | h9
  · unfold adX
    rw [if_neg (by omega), if_neg (by omega)]
  · rw [h9]
    rfl
theorem adX_16 (x : List UInt8) (h : x.length = 16) : x = dig (num (x.take 8)) 8 ++ dig (num (x.drop 8)) 8 := by
  rw [digNum 8 _ (by rw [List.length_take]; omega), digNum 8 _ (by rw [List.length_drop]; omega), List.take_append_drop]
theorem numL (l : List UInt8) (n k : Nat) (h : l.length ≤ n) (hk : 256 ^ n ≤ k) : num l < k := Nat.lt_of_lt_of_le (num_lt n l h) hk
def RetAX (w : World) (x : List UInt8) (F : Bool → Value) (e : Ending) (w' : World) : Prop := ∃ six ah al ok bs d, e = .returned (.tuple #[.agg (adC six ah al).toArray, F ok]) ∧ w' = plus w bs d ∧ ah < 18446744073709551616 ∧ al < 18446744073709551616 ∧ (ok = true ∧ adX x = some (six, ah, al) ∨ ok = false ∧ adX x = none)
theorem adX_any {w : World} {G : World → (Ending → World → Prop) → Prop} (x : List UInt8) (F : Bool → Value) (hm : ∀ w P Q, (∀ e w', P e w' → Q e w') → G w P → G w Q)
    (h4 : x.length = 4 → G w (RetV w (.tuple #[.agg (adC false 0 (num x)).toArray, F true]))) (h16 : x.length = 16 → G w (RetV w (.tuple #[.agg (adC true (num (x.take 8)) (num (x.drop 8))).toArray, F true]))) (hn : x.length ≠ 4 → x.length ≠ 16 → G w (RetV w (.tuple #[.agg (adC false 0 0).toArray, F false]))) : G w (RetAX w x F) := by
  by_cases c4 : x.length = 4
  · refine hm _ _ _ ?_ (h4 c4)
    rintro e w1 ⟨bs, d, rfl, rfl⟩
    exact ⟨false, 0, num x, true, bs, d, rfl, rfl, by decide, numL x 4 _ (by omega) (by decide), .inl ⟨rfl, by unfold adX; rw [if_pos c4]⟩⟩
  by_cases c16 : x.length = 16
  · refine hm _ _ _ ?_ (h16 c16)
    rintro e w1 ⟨bs, d, rfl, rfl⟩
    exact ⟨true, _, _, true, bs, d, rfl, rfl, numL _ 8 _ (by rw [List.length_take]; omega) (by decide), numL _ 8 _ (by rw [List.length_drop]; omega) (by decide), .inl ⟨rfl, by unfold adX; rw [if_neg c4, if_pos c16]⟩⟩
  · refine hm _ _ _ ?_ (hn c4 c16)
    rintro e w1 ⟨bs, d, rfl, rfl⟩
    exact ⟨false, 0, 0, false, bs, d, rfl, rfl, by decide, by decide, .inr ⟨rfl, by unfold adX; rw [if_neg c4, if_neg c16]⟩⟩
theorem adrOfX (A : Option Addr) (n c : Nat) (x : List UInt8) (w : World) (h : Rb w A n c x) : Calls Tryd.prog 103 #[.slice A n c] w (RetAX w x (fun ok => .int .i64 (if ok then 0 else 20))) := by
  have hl := h.1
  refine adX_any (G := fun w P => Calls Tryd.prog 103 #[.slice A n c] w P) x _ (fun w P Q h1 h2 => h2.mono h1) (fun h4 => ?_) (fun h16 => ?_) (fun h4 h16 => ?_)
  · obtain rfl : n = 4 := by omega
    exact adrOf4 _ x A c w h rfl
  · obtain rfl : n = 16 := by omega
    exact adrOf16 _ _ A c w (numL _ 8 _ (by rw [List.length_take]; omega) (by decide)) (numL _ 8 _ (by rw [List.length_drop]; omega) (by decide)) (by rw [← adX_16 x h16]; exact h)
  · exact adrOfN A n c w (by omega) (by omega)
theorem adrOfT (A : Option Addr) (n c : Nat) (x : List UInt8) (w : World) (h : Rb w A n c x) (hn : n ≤ 16) : Calls Tryd.prog 103 #[.slice A n c] w fun e w' => ∃ six ah al E bs d, e = .returned (.tuple #[.agg (adC six ah al).toArray, .int .i64 E]) ∧ w' = plus w bs d ∧ ah < 18446744073709551616 ∧ al < 18446744073709551616 ∧ (E = 0 ∧ adX x = some (six, ah, al) ∨ E = 20 ∧ adX x = none) :=
  (adrOfX A n c x w h).mono fun e w' ⟨six, ah, al, ok, bs, d, h1, h2, h3, h4, h5⟩ => by
    rcases h5 with ⟨rfl, h5⟩ | ⟨rfl, h5⟩
    · exact ⟨six, ah, al, 0, bs, d, h1, h2, h3, h4, .inl ⟨rfl, h5⟩⟩
    · exact ⟨six, ah, al, 20, bs, d, h1, h2, h3, h4, .inr ⟨rfl, h5⟩⟩
/-- what takeAddr gives -/
def RetTA (w : World) (r : Nat) (s : StB) (e : Ending) (w' : World) : Prop := ∃ six ah al ok, e = .returned (.tuple #[.agg (adC six ah al).toArray, .bool ok]) ∧ w.grownBy w' (some r) ∧ ah < 18446744073709551616 ∧ al < 18446744073709551616 ∧ (ok = false ∧ adS s = none ∨ ok = true ∧ adS s = some ((six, ah, al), drB (numT 1 s) (drB 1 s)) ∧ RP w' r (drB (numT 1 s) (drB 1 s)))
set_option maxHeartbeats 4000000 in
set_option maxRecDepth 100000 in
theorem takeAddr_any (r : Nat) (s : StB) (w : World) (h : RP w r s) (hs : SL s) : Calls Tryd.prog 73 #[.pointer (some ⟨r, 0, none⟩)] w (RetTA w r s) := by
  obtain ⟨dk, u1, u2⟩ : ∃ d, Tryd.prog.underlying 32 = some d ∧ d.isRow = true := ⟨_, Tryd.underlying32, rfl⟩
  have b2 : Bk (w.alloc (.cells #[.bool false, .int .u64 0, .int .u64 0] 32)) w.heap.size 32 (adC false 0 0) := Bk.new w 32 #[.bool false, .int .u64 0, .int .u64 0]
  have be : Below w.heap.size w (w.alloc (.cells #[.bool false, .int .u64 0, .int .u64 0] 32)) := Below.allocS (Below.refl _ _) _
  have zr := h.lt
  have hz256 := numT_lt 1 256 s (by decide)
  have hs1 := hs.dr 1
  have HB := Lib.hid (byteT r s)
  have HBy := Lib.hid (fun w h => bytesT r (numT 1 s) (drB 1 s) w h hs1 (by omega))
  obtain ⟨z, hz⟩ : ∃ z, numT 1 s = z := ⟨_, rfl⟩
  have hz9 := hz
  rw [hz] at HB HBy hz256
  clear hz
  replace hz9 := Lib.hid hz9
  have gr : w.grownBy (w.alloc (.cells #[.bool false, .int .u64 0, .int .u64 0] 32)) (some r) := ⟨be.os, be.tape, be.output, be.size, fun i hi _ => be.block i hi⟩
  go_enter Tryd.func73, Tryd.ntmps73
  go_upto_region 1 with (fail)
  replace h := h.later be
  generalize w.alloc (.cells #[.bool false, .int .u64 0, .int .u64 0] 32) = V at *
  clear be
  go_wp2_with fail
  refine (HB.out _ h hs).mono ?_
  rintro e V1 ⟨rfl, hR1, hg1⟩
  replace b2 := b2.grown hg1 (by simp; omega)
  replace gr := gr.trans hg1
  clear hg1 h
  by_cases h4 : z = 4
  · subst h4
    go_wp2_with fail
    refine (HBy.out V1 hR1).mono ?_
    rintro e V2 ⟨A, n, c, rfl, ho, hR2, hg2⟩
    replace b2 := b2.grown hg2 (by simp; omega)
    replace gr := gr.trans hg2
    have hRb := ho.rb
    clear hg2 hR1 HBy HB
    go_wp2_with fail
    refine (adrOfT A n c _ V2 hRb (by rw [← hRb.1]; have := tkB_le 4 (drB 1 s); omega)).mono ?_
    rintro e w1 ⟨six, ah, al, E, bs1, d1, rfl, rfl, ha1, ha2, hE⟩
    replace b2 := b2.later (below_plus V2 bs1 d1)
    replace gr := grown_below gr (below_plus V2 bs1 d1)
    replace hR2 := hR2.later (below_plus V2 bs1 d1)
    have zV2 := b2.lt
    generalize plus V2 bs1 d1 = V3 at *
    go_upto_region 5 with (refine at_op (.store 32 (.tmp 5) (.tmp 22)) rfl ?_; refine wpList_stA (t := 32) 32 (.tmp 5) (.tmp 22) rfl rfl (adC six ah al) (adC false 0 0) rfl (adC_one _ _ _) rfl rfl (Bk.new _ _ _) (szAd _ _ _) ?_; intro W4 h4 g4)
    have be4 : Below V3.heap.size V3 W4 := below_grown (Below.allocS (Below.refl _ _) _) g4 (Nat.le_refl _)
    have hX : Bk W4 V3.heap.size 32 (adC six ah al) := h4
    replace b2 := b2.later be4
    replace gr := grown_below gr be4
    replace hR2 := hR2.later be4
    have nX : ¬ (fun b => b = w.heap.size) V3.heap.size := fun h => by have h' : V3.heap.size = w.heap.size := h; omega
    clear be4 h4 g4
    generalize V3.heap.size = g5 at *
    rcases hE with ⟨rfl, hE⟩ | ⟨rfl, hE⟩
    · obtain ⟨l5, hl5⟩ := adX_some (by decide : 0 < 4) hE
      have hR5 := hR2
      rw [hl5] at hR5
      have zR := hR5.lt
      go_wp2
      refine wp_suS (fun b => b = w.heap.size) 10 32 2 [8] rfl (by kernel_rfl) (by kernel_rfl) (fun k w' => Bk w' w.heap.size 32 (if k = 0 then adC false 0 0 else adC six ah al)) (fun k w w' h h' => h.later h'.below) (b2) ?_
      apply StepsC.one (MC.eq _) 1 rfl (by decide)
      · intro o ho FA w' hC hO hD K hK
        obtain rfl := Option.some.inj ho.symm
        clear ho
        have e5 := hO 5 (by kernel_rfl)
        simp only [eval_tmp, List.getElem?_toArray, List.getElem?_cons_succ, List.getElem?_cons_zero, Option.getD_some] at e5
        have ev5 := Lib.hid ((eval_tmp FA 5).trans e5)
        clear hO hD
        refine wanted_if rfl ?_
        refine wp_ldA 32 (.tmp 5) rfl (adC six ah al) ev5.out (hX.chg hC nX) (whole_ _) u1 u2 (szAd _ _ _) ?_
        exact hK.out _ _ (Ex.refl _) rfl
      apply StepsC.one (MC.eq _) 2 rfl (by decide)
      · intro o ho FA w' hC hO hD K hK
        obtain rfl := Option.some.inj ho.symm
        clear ho
        have e6 := hO 6 (by kernel_rfl)
        simp only [eval_tmp, List.getElem?_toArray, List.getElem?_cons_succ, List.getElem?_cons_zero, Option.getD_some] at e6
        have ev6 := Lib.hid ((eval_tmp FA 6).trans e6)
        clear hO hD
        go_simp
        exact hK.out _ _ (Ex.refl _) rfl
      apply StepsC.one (MC.eq _) 3 rfl (by decide)
      · intro o ho FA w' hC hO hD K hK
        obtain rfl := Option.some.inj ho.symm
        clear ho
        have ev25 : FA.eval (.tmp 25) = _ := hD 1 25 (by kernel_rfl)
        have e25 := (eval_tmp FA 25).symm.trans ev25
        replace ev25 := Lib.hid ev25
        clear hO hD
        go_simp
        exact hK.out _ _ (Ex.refl _) rfl
      apply StepsC.one (MC.eq _) 4 rfl (by decide)
      · intro o ho FA w' hC hO hD K hK
        obtain rfl := Option.some.inj ho.symm
        clear ho
        have ev26 : FA.eval (.tmp 26) = _ := hD 2 26 (by kernel_rfl)
        have e26 := (eval_tmp FA 26).symm.trans ev26
        replace ev26 := Lib.hid ev26
        clear hO hD
        go_simp
        exact hK.out _ _ (Ex.refl _) rfl
      apply StepsC.one (MC.eq _) 5 rfl (by decide)
      · intro o ho FA w' hC hO hD K hK
        obtain rfl := Option.some.inj ho.symm
        clear ho
        have e0 := hO 0 (by kernel_rfl)
        simp only [eval_tmp, List.getElem?_toArray, List.getElem?_cons_succ, List.getElem?_cons_zero, Option.getD_some] at e0
        have ev0 := Lib.hid ((eval_tmp FA 0).trans e0)
        have ev27 : FA.eval (.tmp 27) = _ := hD 3 27 (by kernel_rfl)
        have e27 := (eval_tmp FA 27).symm.trans ev27
        replace ev27 := Lib.hid ev27
        first | have ge27 := slot_of e27 | have ge27 := slot_un e27
        clear hO hD
        go_simp
        exact hK.out _ _ (Ex.refl _) rfl
      apply StepsC.one (MC.eq _) 6 rfl (by decide)
      · intro o ho FA w' hC hO hD K hK
        obtain rfl := Option.some.inj ho.symm
        clear ho
        have ev28 : FA.eval (.tmp 28) = _ := hD 4 28 (by kernel_rfl)
        have e28 := (eval_tmp FA 28).symm.trans ev28
        replace ev28 := Lib.hid ev28
        have ev27 : FA.eval (.tmp 27) = _ := hD 3 27 (by kernel_rfl)
        have e27 := (eval_tmp FA 27).symm.trans ev27
        replace ev27 := Lib.hid ev27
        first | have ge27 := slot_of e27 | have ge27 := slot_un e27
        clear hO hD
        go_simp
        refine (badT r (some l5) _ (hR5.low (hC.below (B := r + 1) (fun b hb => by have : b = w.heap.size := hb; omega) (by omega)))).mono ?_
        rintro e w1 ⟨rfl, rfl⟩
        exact hK.out _ _ (Ex.refl _) rfl
      apply StepsC.one (MC.eq _) 7 rfl (by decide)
      · intro o ho FA w' hC hO hD K hK
        obtain rfl := Option.some.inj ho.symm
        clear ho
        have ev29 : FA.eval (.tmp 29) = _ := hD 5 29 (by kernel_rfl)
        have e29 := (eval_tmp FA 29).symm.trans ev29
        replace ev29 := Lib.hid ev29
        have ev27 : FA.eval (.tmp 27) = _ := hD 3 27 (by kernel_rfl)
        have e27 := (eval_tmp FA 27).symm.trans ev27
        replace ev27 := Lib.hid ev27
        first | have ge27 := slot_of e27 | have ge27 := slot_un e27
        clear hO hD
        go_simp
        exact hK.out _ _ (Ex.refl _) rfl
      apply StepsC.one (MC.eq _) 8 rfl (by decide)
      · intro o ho FA w' hC hO hD K hK
        obtain rfl := Option.some.inj ho.symm
        clear ho
        have ev27 : FA.eval (.tmp 27) = _ := hD 3 27 (by kernel_rfl)
        have e27 := (eval_tmp FA 27).symm.trans ev27
        replace ev27 := Lib.hid ev27
        have ev30 : FA.eval (.tmp 30) = _ := hD 6 30 (by kernel_rfl)
        have e30 := (eval_tmp FA 30).symm.trans ev30
        replace ev30 := Lib.hid ev30
        clear hO hD
        go_simp
        exact hK.out _ _ (Ex.refl _) rfl
      apply StepsC.mov MC.any 9 0 rfl rfl rfl
      · intro o ho FA w' hC hO hD hS K hK
        obtain rfl := Option.some.inj ho.symm
        clear ho
        have e2 := hO 2 (by kernel_rfl)
        simp only [eval_tmp, List.getElem?_toArray, List.getElem?_cons_succ, List.getElem?_cons_zero, Option.getD_some] at e2
        have ev2 := Lib.hid ((eval_tmp FA 2).trans e2)
        have ev24 : FA.eval (.tmp 24) = _ := hD 0 24 (by kernel_rfl)
        have e24 := (eval_tmp FA 24).symm.trans ev24
        replace ev24 := Lib.hid ev24
        clear hO hD
        refine wanted_if rfl ?_
        refine wp_stA 32 (.tmp 2) (.tmp 24) rfl (adC six ah al) (adC false 0 0) rfl (adC_one _ _ _) ev2.out ev24.out hS (szAd _ _ _) ?_
        intro w'' hn hg
        exact hK.out undef _ (Chg.one hg rfl) hn trivial
      apply StepsC.one (MC.eq _) 10 rfl (by decide)
      · intro o ho FA w' hC hO hD K hK
        obtain rfl := Option.some.inj ho.symm
        clear ho
        have ev31 : FA.eval (.tmp 31) = _ := hD 7 31 (by kernel_rfl)
        have e31 := (eval_tmp FA 31).symm.trans ev31
        replace ev31 := Lib.hid ev31
        clear hO hD
        go_simp
        exact hK.out _ _ (Ex.refl _) rfl
      refine StepsC.fin_ (fun vs w' hC hS hp => ?_)
      have p0 : vs 0 = _ := hp 0 (by omega) rfl
      have p1 : vs 1 = _ := hp 1 (by omega) rfl
      have p2 : vs 2 = _ := hp 2 (by omega) rfl
      have p3 : vs 3 = _ := hp 3 (by omega) rfl
      have p4 : vs 4 = _ := hp 4 (by omega) rfl
      have p5 : vs 5 = _ := hp 5 (by omega) rfl
      have p6 : vs 6 = _ := hp 6 (by omega) rfl
      have p7 : vs 7 = _ := hp 7 (by omega) rfl
      have p9 : vs 9 = _ := hp 9 (by omega) rfl
      clear hp
      simp only [List.take_succ_cons, List.take_zero, List.drop_succ_cons, List.drop_zero, putAll, Nat.zero_add, Nat.reduceAdd, Act.put, List.setIfInBounds_toArray, List.set_cons_zero, List.set_cons_succ, p0, p1, p2, p3, p4, p5, p6, p7, p9]
      clear p0 p1 p2 p3 p4 p5 p6 p7 p9
      clear vs
      have gw : w.grownBy w' (some r) := grown_chg gr hC (fun b hb => by have : b = w.heap.size := hb; omega)
      go_wp2
      refine bodyPost_agg2 Tryd.results73 rfl rfl (Bk.range hS) u1 u2 (szAd _ _ _) rfl ?_
      exact ⟨six, ah, al, true, rfl, gw, ha1, ha2, .inr ⟨rfl, by unfold adS; rw [hz9.out]; simp only [hE, Option.map], by rw [hz9.out, hl5]; exact hR5.low (hC.below (B := r + 1) (fun b hb => by have : b = w.heap.size := hb; omega) (by omega))⟩⟩
    · 
      go_wp2
      refine wp_suS (fun b => b = w.heap.size) 10 32 2 [8] rfl (by kernel_rfl) (by kernel_rfl) (fun k w' => Bk w' w.heap.size 32 (if k = 0 then adC false 0 0 else adC six ah al)) (fun k w w' h h' => h.later h'.below) (b2) ?_
      apply StepsC.one (MC.eq _) 1 rfl (by decide)
      · intro o ho FA w' hC hO hD K hK
        obtain rfl := Option.some.inj ho.symm
        clear ho
        have e5 := hO 5 (by kernel_rfl)
        simp only [eval_tmp, List.getElem?_toArray, List.getElem?_cons_succ, List.getElem?_cons_zero, Option.getD_some] at e5
        have ev5 := Lib.hid ((eval_tmp FA 5).trans e5)
        clear hO hD
        refine wanted_if rfl ?_
        refine wp_ldA 32 (.tmp 5) rfl (adC six ah al) ev5.out (hX.chg hC nX) (whole_ _) u1 u2 (szAd _ _ _) ?_
        exact hK.out _ _ (Ex.refl _) rfl
      apply StepsC.one (MC.eq _) 2 rfl (by decide)
      · intro o ho FA w' hC hO hD K hK
        obtain rfl := Option.some.inj ho.symm
        clear ho
        have e6 := hO 6 (by kernel_rfl)
        simp only [eval_tmp, List.getElem?_toArray, List.getElem?_cons_succ, List.getElem?_cons_zero, Option.getD_some] at e6
        have ev6 := Lib.hid ((eval_tmp FA 6).trans e6)
        clear hO hD
        go_simp
        exact hK.out _ _ (Ex.refl _) rfl
      apply StepsC.one (MC.eq _) 3 rfl (by decide)
      · intro o ho FA w' hC hO hD K hK
        obtain rfl := Option.some.inj ho.symm
        clear ho
        have ev25 : FA.eval (.tmp 25) = _ := hD 1 25 (by kernel_rfl)
        have e25 := (eval_tmp FA 25).symm.trans ev25
        replace ev25 := Lib.hid ev25
        clear hO hD
        go_simp
        exact hK.out _ _ (Ex.refl _) rfl
      apply StepsC.one (MC.eq _) 4 rfl (by decide)
      · intro o ho FA w' hC hO hD K hK
        obtain rfl := Option.some.inj ho.symm
        clear ho
        have ev26 : FA.eval (.tmp 26) = _ := hD 2 26 (by kernel_rfl)
        have e26 := (eval_tmp FA 26).symm.trans ev26
        replace ev26 := Lib.hid ev26
        clear hO hD
        go_simp
        exact hK.out _ _ (Ex.refl _) rfl
      apply StepsC.one (MC.eq _) 5 rfl (by decide)
      · intro o ho FA w' hC hO hD K hK
        obtain rfl := Option.some.inj ho.symm
        clear ho
        have e0 := hO 0 (by kernel_rfl)
        simp only [eval_tmp, List.getElem?_toArray, List.getElem?_cons_succ, List.getElem?_cons_zero, Option.getD_some] at e0
        have ev0 := Lib.hid ((eval_tmp FA 0).trans e0)
        have ev27 : FA.eval (.tmp 27) = _ := hD 3 27 (by kernel_rfl)
        have e27 := (eval_tmp FA 27).symm.trans ev27
        replace ev27 := Lib.hid ev27
        first | have ge27 := slot_of e27 | have ge27 := slot_un e27
        clear hO hD
        go_simp
        exact hK.out _ _ (Ex.refl _) rfl
      apply StepsC.one (MC.eq _) 6 rfl (by decide)
      · intro o ho FA w' hC hO hD K hK
        obtain rfl := Option.some.inj ho.symm
        clear ho
        have ev28 : FA.eval (.tmp 28) = _ := hD 4 28 (by kernel_rfl)
        have e28 := (eval_tmp FA 28).symm.trans ev28
        replace ev28 := Lib.hid ev28
        have ev27 : FA.eval (.tmp 27) = _ := hD 3 27 (by kernel_rfl)
        have e27 := (eval_tmp FA 27).symm.trans ev27
        replace ev27 := Lib.hid ev27
        first | have ge27 := slot_of e27 | have ge27 := slot_un e27
        clear hO hD
        go_simp
        exact hK.out _ _ (Ex.refl _) rfl
      apply StepsC.one (MC.eq _) 7 rfl (by decide)
      · intro o ho FA w' hC hO hD K hK
        obtain rfl := Option.some.inj ho.symm
        clear ho
        have ev29 : FA.eval (.tmp 29) = _ := hD 5 29 (by kernel_rfl)
        have e29 := (eval_tmp FA 29).symm.trans ev29
        replace ev29 := Lib.hid ev29
        have ev27 : FA.eval (.tmp 27) = _ := hD 3 27 (by kernel_rfl)
        have e27 := (eval_tmp FA 27).symm.trans ev27
        replace ev27 := Lib.hid ev27
        first | have ge27 := slot_of e27 | have ge27 := slot_un e27
        clear hO hD
        go_simp
        exact hK.out _ _ (Ex.refl _) rfl
      apply StepsC.one (MC.eq _) 8 rfl (by decide)
      · intro o ho FA w' hC hO hD K hK
        obtain rfl := Option.some.inj ho.symm
        clear ho
        have ev27 : FA.eval (.tmp 27) = _ := hD 3 27 (by kernel_rfl)
        have e27 := (eval_tmp FA 27).symm.trans ev27
        replace ev27 := Lib.hid ev27
        have ev30 : FA.eval (.tmp 30) = _ := hD 6 30 (by kernel_rfl)
        have e30 := (eval_tmp FA 30).symm.trans ev30
        replace ev30 := Lib.hid ev30
        clear hO hD
        go_simp
        exact hK.out _ _ (Ex.refl _) rfl
      apply StepsC.mov MC.any 9 0 rfl rfl rfl
      · intro o ho FA w' hC hO hD hS K hK
        obtain rfl := Option.some.inj ho.symm
        clear ho
        have e2 := hO 2 (by kernel_rfl)
        simp only [eval_tmp, List.getElem?_toArray, List.getElem?_cons_succ, List.getElem?_cons_zero, Option.getD_some] at e2
        have ev2 := Lib.hid ((eval_tmp FA 2).trans e2)
        have ev24 : FA.eval (.tmp 24) = _ := hD 0 24 (by kernel_rfl)
        have e24 := (eval_tmp FA 24).symm.trans ev24
        replace ev24 := Lib.hid ev24
        clear hO hD
        refine wanted_if rfl ?_
        refine wp_stA 32 (.tmp 2) (.tmp 24) rfl (adC six ah al) (adC false 0 0) rfl (adC_one _ _ _) ev2.out ev24.out hS (szAd _ _ _) ?_
        intro w'' hn hg
        exact hK.out undef _ (Chg.one hg rfl) hn trivial
      apply StepsC.one (MC.eq _) 10 rfl (by decide)
      · intro o ho FA w' hC hO hD K hK
        obtain rfl := Option.some.inj ho.symm
        clear ho
        have ev31 : FA.eval (.tmp 31) = _ := hD 7 31 (by kernel_rfl)
        have e31 := (eval_tmp FA 31).symm.trans ev31
        replace ev31 := Lib.hid ev31
        clear hO hD
        go_simp
        exact hK.out _ _ (Ex.refl _) rfl
      refine StepsC.fin_ (fun vs w' hC hS hp => ?_)
      have p0 : vs 0 = _ := hp 0 (by omega) rfl
      have p1 : vs 1 = _ := hp 1 (by omega) rfl
      have p2 : vs 2 = _ := hp 2 (by omega) rfl
      have p3 : vs 3 = _ := hp 3 (by omega) rfl
      have p4 : vs 4 = _ := hp 4 (by omega) rfl
      have p5 : vs 5 = _ := hp 5 (by omega) rfl
      have p6 : vs 6 = _ := hp 6 (by omega) rfl
      have p7 : vs 7 = _ := hp 7 (by omega) rfl
      have p9 : vs 9 = _ := hp 9 (by omega) rfl
      clear hp
      simp only [List.take_succ_cons, List.take_zero, List.drop_succ_cons, List.drop_zero, putAll, Nat.zero_add, Nat.reduceAdd, Act.put, List.setIfInBounds_toArray, List.set_cons_zero, List.set_cons_succ, p0, p1, p2, p3, p4, p5, p6, p7, p9]
      clear p0 p1 p2 p3 p4 p5 p6 p7 p9
      clear vs
      have gw : w.grownBy w' (some r) := grown_chg gr hC (fun b hb => by have : b = w.heap.size := hb; omega)
      go_wp2
      refine bodyPost_agg2 Tryd.results73 rfl rfl (Bk.range hS) u1 u2 (szAd _ _ _) rfl ?_
      exact ⟨six, ah, al, false, rfl, gw, ha1, ha2, .inl ⟨rfl, by unfold adS; rw [hz9.out]; simp only [hE, Option.map]⟩⟩
  by_cases h16 : z = 16
  · subst h16
    go_wp2_with fail
    refine (HBy.out V1 hR1).mono ?_
    rintro e V2 ⟨A, n, c, rfl, ho, hR2, hg2⟩
    replace b2 := b2.grown hg2 (by simp; omega)
    replace gr := gr.trans hg2
    have hRb := ho.rb
    clear hg2 hR1 HBy HB
    go_wp2_with fail
    refine (adrOfT A n c _ V2 hRb (by rw [← hRb.1]; have := tkB_le 16 (drB 1 s); omega)).mono ?_
    rintro e w1 ⟨six, ah, al, E, bs1, d1, rfl, rfl, ha1, ha2, hE⟩
    replace b2 := b2.later (below_plus V2 bs1 d1)
    replace gr := grown_below gr (below_plus V2 bs1 d1)
    replace hR2 := hR2.later (below_plus V2 bs1 d1)
    have zV2 := b2.lt
    generalize plus V2 bs1 d1 = V3 at *
    go_upto_region 5 with (refine at_op (.store 32 (.tmp 5) (.tmp 22)) rfl ?_; refine wpList_stA (t := 32) 32 (.tmp 5) (.tmp 22) rfl rfl (adC six ah al) (adC false 0 0) rfl (adC_one _ _ _) rfl rfl (Bk.new _ _ _) (szAd _ _ _) ?_; intro W4 h4 g4)
    have be4 : Below V3.heap.size V3 W4 := below_grown (Below.allocS (Below.refl _ _) _) g4 (Nat.le_refl _)
    have hX : Bk W4 V3.heap.size 32 (adC six ah al) := h4
    replace b2 := b2.later be4
    replace gr := grown_below gr be4
    replace hR2 := hR2.later be4
    have nX : ¬ (fun b => b = w.heap.size) V3.heap.size := fun h => by have h' : V3.heap.size = w.heap.size := h; omega
    clear be4 h4 g4
    generalize V3.heap.size = g5 at *
    rcases hE with ⟨rfl, hE⟩ | ⟨rfl, hE⟩
    · obtain ⟨l5, hl5⟩ := adX_some (by decide : 0 < 16) hE
      have hR5 := hR2
      rw [hl5] at hR5
      have zR := hR5.lt
      go_wp2
      refine wp_suS (fun b => b = w.heap.size) 10 32 2 [8] rfl (by kernel_rfl) (by kernel_rfl) (fun k w' => Bk w' w.heap.size 32 (if k = 0 then adC false 0 0 else adC six ah al)) (fun k w w' h h' => h.later h'.below) (b2) ?_
      apply StepsC.one (MC.eq _) 1 rfl (by decide)
      · intro o ho FA w' hC hO hD K hK
        obtain rfl := Option.some.inj ho.symm
        clear ho
        have e5 := hO 5 (by kernel_rfl)
        simp only [eval_tmp, List.getElem?_toArray, List.getElem?_cons_succ, List.getElem?_cons_zero, Option.getD_some] at e5
        have ev5 := Lib.hid ((eval_tmp FA 5).trans e5)
        clear hO hD
        refine wanted_if rfl ?_
        refine wp_ldA 32 (.tmp 5) rfl (adC six ah al) ev5.out (hX.chg hC nX) (whole_ _) u1 u2 (szAd _ _ _) ?_
        exact hK.out _ _ (Ex.refl _) rfl
      apply StepsC.one (MC.eq _) 2 rfl (by decide)
      · intro o ho FA w' hC hO hD K hK
        obtain rfl := Option.some.inj ho.symm
        clear ho
        have e6 := hO 6 (by kernel_rfl)
        simp only [eval_tmp, List.getElem?_toArray, List.getElem?_cons_succ, List.getElem?_cons_zero, Option.getD_some] at e6
        have ev6 := Lib.hid ((eval_tmp FA 6).trans e6)
        clear hO hD
        go_simp
        exact hK.out _ _ (Ex.refl _) rfl
      apply StepsC.one (MC.eq _) 3 rfl (by decide)
      · intro o ho FA w' hC hO hD K hK
        obtain rfl := Option.some.inj ho.symm
        clear ho
        have ev25 : FA.eval (.tmp 25) = _ := hD 1 25 (by kernel_rfl)
        have e25 := (eval_tmp FA 25).symm.trans ev25
        replace ev25 := Lib.hid ev25
        clear hO hD
        go_simp
        exact hK.out _ _ (Ex.refl _) rfl
      apply StepsC.one (MC.eq _) 4 rfl (by decide)
      · intro o ho FA w' hC hO hD K hK
        obtain rfl := Option.some.inj ho.symm
        clear ho
        have ev26 : FA.eval (.tmp 26) = _ := hD 2 26 (by kernel_rfl)
        have e26 := (eval_tmp FA 26).symm.trans ev26
        replace ev26 := Lib.hid ev26
        clear hO hD
        go_simp
        exact hK.out _ _ (Ex.refl _) rfl
      apply StepsC.one (MC.eq _) 5 rfl (by decide)
      · intro o ho FA w' hC hO hD K hK
        obtain rfl := Option.some.inj ho.symm
        clear ho
        have e0 := hO 0 (by kernel_rfl)
        simp only [eval_tmp, List.getElem?_toArray, List.getElem?_cons_succ, List.getElem?_cons_zero, Option.getD_some] at e0
        have ev0 := Lib.hid ((eval_tmp FA 0).trans e0)
        have ev27 : FA.eval (.tmp 27) = _ := hD 3 27 (by kernel_rfl)
        have e27 := (eval_tmp FA 27).symm.trans ev27
        replace ev27 := Lib.hid ev27
        first | have ge27 := slot_of e27 | have ge27 := slot_un e27
        clear hO hD
        go_simp
        exact hK.out _ _ (Ex.refl _) rfl
      apply StepsC.one (MC.eq _) 6 rfl (by decide)
      · intro o ho FA w' hC hO hD K hK
        obtain rfl := Option.some.inj ho.symm
        clear ho
        have ev28 : FA.eval (.tmp 28) = _ := hD 4 28 (by kernel_rfl)
        have e28 := (eval_tmp FA 28).symm.trans ev28
        replace ev28 := Lib.hid ev28
        have ev27 : FA.eval (.tmp 27) = _ := hD 3 27 (by kernel_rfl)
        have e27 := (eval_tmp FA 27).symm.trans ev27
        replace ev27 := Lib.hid ev27
        first | have ge27 := slot_of e27 | have ge27 := slot_un e27
        clear hO hD
        go_simp
        refine (badT r (some l5) _ (hR5.low (hC.below (B := r + 1) (fun b hb => by have : b = w.heap.size := hb; omega) (by omega)))).mono ?_
        rintro e w1 ⟨rfl, rfl⟩
        exact hK.out _ _ (Ex.refl _) rfl
      apply StepsC.one (MC.eq _) 7 rfl (by decide)
      · intro o ho FA w' hC hO hD K hK
        obtain rfl := Option.some.inj ho.symm
        clear ho
        have ev29 : FA.eval (.tmp 29) = _ := hD 5 29 (by kernel_rfl)
        have e29 := (eval_tmp FA 29).symm.trans ev29
        replace ev29 := Lib.hid ev29
        have ev27 : FA.eval (.tmp 27) = _ := hD 3 27 (by kernel_rfl)
        have e27 := (eval_tmp FA 27).symm.trans ev27
        replace ev27 := Lib.hid ev27
        first | have ge27 := slot_of e27 | have ge27 := slot_un e27
        clear hO hD
        go_simp
        exact hK.out _ _ (Ex.refl _) rfl
      apply StepsC.one (MC.eq _) 8 rfl (by decide)
      · intro o ho FA w' hC hO hD K hK
        obtain rfl := Option.some.inj ho.symm
        clear ho
        have ev27 : FA.eval (.tmp 27) = _ := hD 3 27 (by kernel_rfl)
        have e27 := (eval_tmp FA 27).symm.trans ev27
        replace ev27 := Lib.hid ev27
        have ev30 : FA.eval (.tmp 30) = _ := hD 6 30 (by kernel_rfl)
        have e30 := (eval_tmp FA 30).symm.trans ev30
        replace ev30 := Lib.hid ev30
        clear hO hD
        go_simp
        exact hK.out _ _ (Ex.refl _) rfl
      apply StepsC.mov MC.any 9 0 rfl rfl rfl
      · intro o ho FA w' hC hO hD hS K hK
        obtain rfl := Option.some.inj ho.symm
        clear ho
        have e2 := hO 2 (by kernel_rfl)
        simp only [eval_tmp, List.getElem?_toArray, List.getElem?_cons_succ, List.getElem?_cons_zero, Option.getD_some] at e2
        have ev2 := Lib.hid ((eval_tmp FA 2).trans e2)
        have ev24 : FA.eval (.tmp 24) = _ := hD 0 24 (by kernel_rfl)
        have e24 := (eval_tmp FA 24).symm.trans ev24
        replace ev24 := Lib.hid ev24
        clear hO hD
        refine wanted_if rfl ?_
        refine wp_stA 32 (.tmp 2) (.tmp 24) rfl (adC six ah al) (adC false 0 0) rfl (adC_one _ _ _) ev2.out ev24.out hS (szAd _ _ _) ?_
        intro w'' hn hg
        exact hK.out undef _ (Chg.one hg rfl) hn trivial
      apply StepsC.one (MC.eq _) 10 rfl (by decide)
      · intro o ho FA w' hC hO hD K hK
        obtain rfl := Option.some.inj ho.symm
        clear ho
        have ev31 : FA.eval (.tmp 31) = _ := hD 7 31 (by kernel_rfl)
        have e31 := (eval_tmp FA 31).symm.trans ev31
        replace ev31 := Lib.hid ev31
        clear hO hD
        go_simp
        exact hK.out _ _ (Ex.refl _) rfl
      refine StepsC.fin_ (fun vs w' hC hS hp => ?_)
      have p0 : vs 0 = _ := hp 0 (by omega) rfl
      have p1 : vs 1 = _ := hp 1 (by omega) rfl
      have p2 : vs 2 = _ := hp 2 (by omega) rfl
      have p3 : vs 3 = _ := hp 3 (by omega) rfl
      have p4 : vs 4 = _ := hp 4 (by omega) rfl
      have p5 : vs 5 = _ := hp 5 (by omega) rfl
      have p6 : vs 6 = _ := hp 6 (by omega) rfl
      have p7 : vs 7 = _ := hp 7 (by omega) rfl
      have p9 : vs 9 = _ := hp 9 (by omega) rfl
      clear hp
      simp only [List.take_succ_cons, List.take_zero, List.drop_succ_cons, List.drop_zero, putAll, Nat.zero_add, Nat.reduceAdd, Act.put, List.setIfInBounds_toArray, List.set_cons_zero, List.set_cons_succ, p0, p1, p2, p3, p4, p5, p6, p7, p9]
      clear p0 p1 p2 p3 p4 p5 p6 p7 p9
      clear vs
      have gw : w.grownBy w' (some r) := grown_chg gr hC (fun b hb => by have : b = w.heap.size := hb; omega)
      go_wp2
      refine bodyPost_agg2 Tryd.results73 rfl rfl (Bk.range hS) u1 u2 (szAd _ _ _) rfl ?_
      exact ⟨six, ah, al, true, rfl, gw, ha1, ha2, .inr ⟨rfl, by unfold adS; rw [hz9.out]; simp only [hE, Option.map], by rw [hz9.out, hl5]; exact hR5.low (hC.below (B := r + 1) (fun b hb => by have : b = w.heap.size := hb; omega) (by omega))⟩⟩
    · 
      go_wp2
      refine wp_suS (fun b => b = w.heap.size) 10 32 2 [8] rfl (by kernel_rfl) (by kernel_rfl) (fun k w' => Bk w' w.heap.size 32 (if k = 0 then adC false 0 0 else adC six ah al)) (fun k w w' h h' => h.later h'.below) (b2) ?_
      apply StepsC.one (MC.eq _) 1 rfl (by decide)
      · intro o ho FA w' hC hO hD K hK
        obtain rfl := Option.some.inj ho.symm
        clear ho
        have e5 := hO 5 (by kernel_rfl)
        simp only [eval_tmp, List.getElem?_toArray, List.getElem?_cons_succ, List.getElem?_cons_zero, Option.getD_some] at e5
        have ev5 := Lib.hid ((eval_tmp FA 5).trans e5)
        clear hO hD
        refine wanted_if rfl ?_
        refine wp_ldA 32 (.tmp 5) rfl (adC six ah al) ev5.out (hX.chg hC nX) (whole_ _) u1 u2 (szAd _ _ _) ?_
        exact hK.out _ _ (Ex.refl _) rfl
      apply StepsC.one (MC.eq _) 2 rfl (by decide)
      · intro o ho FA w' hC hO hD K hK
        obtain rfl := Option.some.inj ho.symm
        clear ho
        have e6 := hO 6 (by kernel_rfl)
        simp only [eval_tmp, List.getElem?_toArray, List.getElem?_cons_succ, List.getElem?_cons_zero, Option.getD_some] at e6
        have ev6 := Lib.hid ((eval_tmp FA 6).trans e6)
        clear hO hD
        go_simp
        exact hK.out _ _ (Ex.refl _) rfl
      apply StepsC.one (MC.eq _) 3 rfl (by decide)
      · intro o ho FA w' hC hO hD K hK
        obtain rfl := Option.some.inj ho.symm
        clear ho
        have ev25 : FA.eval (.tmp 25) = _ := hD 1 25 (by kernel_rfl)
        have e25 := (eval_tmp FA 25).symm.trans ev25
        replace ev25 := Lib.hid ev25
        clear hO hD
        go_simp
        exact hK.out _ _ (Ex.refl _) rfl
      apply StepsC.one (MC.eq _) 4 rfl (by decide)
      · intro o ho FA w' hC hO hD K hK
        obtain rfl := Option.some.inj ho.symm
        clear ho
        have ev26 : FA.eval (.tmp 26) = _ := hD 2 26 (by kernel_rfl)
        have e26 := (eval_tmp FA 26).symm.trans ev26
        replace ev26 := Lib.hid ev26
        clear hO hD
        go_simp
        exact hK.out _ _ (Ex.refl _) rfl
      apply StepsC.one (MC.eq _) 5 rfl (by decide)
      · intro o ho FA w' hC hO hD K hK
        obtain rfl := Option.some.inj ho.symm
        clear ho
        have e0 := hO 0 (by kernel_rfl)
        simp only [eval_tmp, List.getElem?_toArray, List.getElem?_cons_succ, List.getElem?_cons_zero, Option.getD_some] at e0
        have ev0 := Lib.hid ((eval_tmp FA 0).trans e0)
        have ev27 : FA.eval (.tmp 27) = _ := hD 3 27 (by kernel_rfl)
        have e27 := (eval_tmp FA 27).symm.trans ev27
        replace ev27 := Lib.hid ev27
        first | have ge27 := slot_of e27 | have ge27 := slot_un e27
        clear hO hD
        go_simp
        exact hK.out _ _ (Ex.refl _) rfl
      apply StepsC.one (MC.eq _) 6 rfl (by decide)
      · intro o ho FA w' hC hO hD K hK
        obtain rfl := Option.some.inj ho.symm
        clear ho
        have ev28 : FA.eval (.tmp 28) = _ := hD 4 28 (by kernel_rfl)
        have e28 := (eval_tmp FA 28).symm.trans ev28
        replace ev28 := Lib.hid ev28
        have ev27 : FA.eval (.tmp 27) = _ := hD 3 27 (by kernel_rfl)
        have e27 := (eval_tmp FA 27).symm.trans ev27
        replace ev27 := Lib.hid ev27
        first | have ge27 := slot_of e27 | have ge27 := slot_un e27
        clear hO hD
        go_simp
        exact hK.out _ _ (Ex.refl _) rfl
      apply StepsC.one (MC.eq _) 7 rfl (by decide)
      · intro o ho FA w' hC hO hD K hK
        obtain rfl := Option.some.inj ho.symm
        clear ho
        have ev29 : FA.eval (.tmp 29) = _ := hD 5 29 (by kernel_rfl)
        have e29 := (eval_tmp FA 29).symm.trans ev29
        replace ev29 := Lib.hid ev29
        have ev27 : FA.eval (.tmp 27) = _ := hD 3 27 (by kernel_rfl)
        have e27 := (eval_tmp FA 27).symm.trans ev27
        replace ev27 := Lib.hid ev27
        first | have ge27 := slot_of e27 | have ge27 := slot_un e27
        clear hO hD
        go_simp
        exact hK.out _ _ (Ex.refl _) rfl
      apply StepsC.one (MC.eq _) 8 rfl (by decide)
      · intro o ho FA w' hC hO hD K hK
        obtain rfl := Option.some.inj ho.symm
        clear ho
        have ev27 : FA.eval (.tmp 27) = _ := hD 3 27 (by kernel_rfl)
        have e27 := (eval_tmp FA 27).symm.trans ev27
        replace ev27 := Lib.hid ev27
        have ev30 : FA.eval (.tmp 30) = _ := hD 6 30 (by kernel_rfl)
        have e30 := (eval_tmp FA 30).symm.trans ev30
        replace ev30 := Lib.hid ev30
        clear hO hD
        go_simp
        exact hK.out _ _ (Ex.refl _) rfl
      apply StepsC.mov MC.any 9 0 rfl rfl rfl
      · intro o ho FA w' hC hO hD hS K hK
        obtain rfl := Option.some.inj ho.symm
        clear ho
        have e2 := hO 2 (by kernel_rfl)
        simp only [eval_tmp, List.getElem?_toArray, List.getElem?_cons_succ, List.getElem?_cons_zero, Option.getD_some] at e2
        have ev2 := Lib.hid ((eval_tmp FA 2).trans e2)
        have ev24 : FA.eval (.tmp 24) = _ := hD 0 24 (by kernel_rfl)
        have e24 := (eval_tmp FA 24).symm.trans ev24
        replace ev24 := Lib.hid ev24
        clear hO hD
        refine wanted_if rfl ?_
        refine wp_stA 32 (.tmp 2) (.tmp 24) rfl (adC six ah al) (adC false 0 0) rfl (adC_one _ _ _) ev2.out ev24.out hS (szAd _ _ _) ?_
        intro w'' hn hg
        exact hK.out undef _ (Chg.one hg rfl) hn trivial
      apply StepsC.one (MC.eq _) 10 rfl (by decide)
      · intro o ho FA w' hC hO hD K hK
        obtain rfl := Option.some.inj ho.symm
        clear ho
        have ev31 : FA.eval (.tmp 31) = _ := hD 7 31 (by kernel_rfl)
        have e31 := (eval_tmp FA 31).symm.trans ev31
        replace ev31 := Lib.hid ev31
        clear hO hD
        go_simp
        exact hK.out _ _ (Ex.refl _) rfl
      refine StepsC.fin_ (fun vs w' hC hS hp => ?_)
      have p0 : vs 0 = _ := hp 0 (by omega) rfl
      have p1 : vs 1 = _ := hp 1 (by omega) rfl
      have p2 : vs 2 = _ := hp 2 (by omega) rfl
      have p3 : vs 3 = _ := hp 3 (by omega) rfl
      have p4 : vs 4 = _ := hp 4 (by omega) rfl
      have p5 : vs 5 = _ := hp 5 (by omega) rfl
      have p6 : vs 6 = _ := hp 6 (by omega) rfl
      have p7 : vs 7 = _ := hp 7 (by omega) rfl
      have p9 : vs 9 = _ := hp 9 (by omega) rfl
      clear hp
      simp only [List.take_succ_cons, List.take_zero, List.drop_succ_cons, List.drop_zero, putAll, Nat.zero_add, Nat.reduceAdd, Act.put, List.setIfInBounds_toArray, List.set_cons_zero, List.set_cons_succ, p0, p1, p2, p3, p4, p5, p6, p7, p9]
      clear p0 p1 p2 p3 p4 p5 p6 p7 p9
      clear vs
      have gw : w.grownBy w' (some r) := grown_chg gr hC (fun b hb => by have : b = w.heap.size := hb; omega)
      go_wp2
      refine bodyPost_agg2 Tryd.results73 rfl rfl (Bk.range hS) u1 u2 (szAd _ _ _) rfl ?_
      exact ⟨six, ah, al, false, rfl, gw, ha1, ha2, .inl ⟨rfl, by unfold adS; rw [hz9.out]; simp only [hE, Option.map]⟩⟩
  have i4 : ((z : Int) == 4) = false := by simp; omega
  have i16 : ((z : Int) == 16) = false := by simp; omega
  have hno : adS s = none := by unfold adS; rw [adX_none (by rw [hz9.out]; exact h4) (by rw [hz9.out]; exact h16)]; rfl
  replace hno := Lib.hid hno
  have j4 : ¬ (z : Int) = 4 := by omega
  have j16 : ¬ (z : Int) = 16 := by omega
  have k4 : ((z : Int) != 4) = true := by simp; omega
  have k16 : ((z : Int) != 16) = true := by simp; omega
  clear HBy HB hz9
  go_wp2_with (refine at_op (.store 32 (.tmp 2) (.tmp 16)) rfl ?_; refine wpList_stA (t := 32) 32 (.tmp 2) (.tmp 16) rfl rfl (adC false 0 0) (adC false 0 0) rfl (adC_one _ _ _) rfl rfl (b2) (szAd _ _ _) ?_; intro W4 h9 g9)
  refine bodyPost_agg2 Tryd.results73 rfl rfl h9.range u1 u2 (szAd _ _ _) rfl ?_
  exact ⟨false, 0, 0, false, rfl, grown_new gr g9 (Nat.le_refl _), by decide, by decide, .inl ⟨rfl, hno.out⟩⟩
def drs : Nat → StB → StB
  | 0, s => s
  | i + 1, s => drB 1 (drB 1 (drs i s))
def mbs : Nat → StB → List (Int × Int)
  | 0, _ => []
  | i + 1, s => mbs i s ++ [((numT 1 (drs i s) : Int), (numT 1 (drB 1 (drs i s)) : Int))]
theorem mbs_len (s : StB) : ∀ i, (mbs i s).length = i
  | 0 => rfl
  | i + 1 => by simp [mbs, mbs_len s i]
theorem SL.drs {s : StB} (h : SL s) : ∀ i, SL (drs i s)
  | 0 => h
  | i + 1 => ((SL.drs h i).dr 1).dr 1
/-- members behind their number, and what is left -/
def mbS (s : StB) : Option (List (Int × Int) × List UInt8) := if numT 1 s ≤ 64 then (drs (numT 1 s) (drB 1 s)).map fun l => (mbs (numT 1 s) (drB 1 s), l) else none
theorem grown_old {a b c : World} {r : Nat} (h : a.grownBy b (some r)) (k : Below a.heap.size b c) : a.grownBy c (some r) :=
  ⟨k.os.trans h.os, k.tape.trans h.tape, k.output.trans h.output, Nat.le_trans h.size k.size, fun i hi hne => (k.block i hi).trans (h.block i hi hne)⟩
theorem etCm : ET Tryd.prog 43 73 (.agg #[.int .i64 0, .int .i64 0]) 2 16 := ⟨Tryd.underlying43, by kernel_rfl, rfl, by decide, by decide⟩
/-- what takeMembers gives -/
def RetTM (w : World) (r : Nat) (s : StB) (e : Ending) (w' : World) : Prop := ∃ A n c ok, e = .returned (.tuple #[.slice A n c, .bool ok]) ∧ w.grownBy w' (some r) ∧ (ok = false ∧ mbS s = none ∨ ok = true ∧ ∃ L l, mbS s = some (L, l) ∧ RP w' r (some l) ∧ Os 73 2 w' w.heap.size A n c (prs .i64 L))
set_option maxHeartbeats 4000000 in
set_option maxRecDepth 100000 in
theorem takeMembers_any (r : Nat) (s : StB) (w : World) (h : RP w r s) (hs : SL s) : Calls Tryd.prog 75 #[.pointer (some ⟨r, 0, none⟩)] w (RetTM w r s) := by
  have zr := h.lt
  have hz256 := numT_lt 1 256 s (by decide)
  have hs1 := hs.dr 1
  have HB := Lib.hid (byteT r s)
  have HBi := Lib.hid (fun i w h => byteT r (drs i (drB 1 s)) w h (hs1.drs i))
  have HBj := Lib.hid (fun i w h => byteT r (drB 1 (drs i (drB 1 s))) w h ((hs1.drs i).dr 1))
  obtain ⟨n, hn⟩ : ∃ n, numT 1 s = n := ⟨_, rfl⟩
  have hn9 : Hid (mbS s = if n ≤ 64 then (drs n (drB 1 s)).map fun l => (mbs n (drB 1 s), l) else none) := Lib.hid (by unfold mbS; rw [hn])
  rw [hn] at HB hz256
  clear hn
  generalize drB 1 s = s1 at *
  go_enter Tryd.func75, Tryd.ntmps75
  go_wp2_with fail
  refine (HB.out _ h hs).mono ?_
  rintro e V ⟨rfl, hR, hg⟩
  clear HB h
  by_cases h64 : 64 < n
  · have i64 : (64 : Int) < (n : Int) := by omega
    have hno : Hid (mbS s = none) := Lib.hid (by rw [hn9.out, if_neg (by omega)])
    go_wp2
    refine bodyPost_ret (v := .tuple #[.slice none 0 0, .bool false]) (by simp [results, Tryd.results75, go_sem]) rfl ?_
    exact ⟨none, 0, 0, false, rfl, hg, .inl ⟨rfl, hno.out⟩⟩
  have i64 : ¬ (64 : Int) < (n : Int) := by omega
  go_upto_region 6 with (fail)
  have hGv := hg
  clear hg
  go_loopw [5, 14] (fun X I wr => ∃ i : Nat, ∃ A m c, I = .int .i64 (i : Int) ∧ i ≤ n ∧ X = .slice A m c ∧ Os 73 2 wr w.heap.size A m c (prs .i64 (mbs i s1)) ∧ RP wr r (drs i s1) ∧ w.grownBy wr (some r)) (fun _ I _ => n - (intOf I).toNat)
  case atStart => exact ⟨0, none, 0, 0, rfl, Nat.zero_le _, rfl, Os.nil_, hR, hGv⟩
  case round =>
    obtain ⟨i, A, m, c, rfl, hi, rfl, hO, hRr, hG⟩ := hrel
    have hm : m = i := by
      have := hO.rs.1
      rw [prs_length, mbs_len] at this
      omega
    subst hm
    by_cases hlt : m < n
    · have ii : (m : Int) < (n : Int) := by omega
      have hx := numT_lt 1 256 (drs m s1) (by decide)
      have hy := numT_lt 1 256 (drB 1 (drs m s1)) (by decide)
      have HX := Lib.hid (HBi.out m)
      have HY := Lib.hid (HBj.out m)
      have HM := Lib.hid (show mbs (m + 1) s1 = mbs m s1 ++ [((numT 1 (drs m s1) : Int), (numT 1 (drB 1 (drs m s1)) : Int))] from rfl)
      generalize numT 1 (drs m s1) = x at *
      generalize numT 1 (drB 1 (drs m s1)) = y at *
      have zg := hG.size
      go_wp2_with fail
      refine (HX.out _ hRr).mono ?_
      rintro e V1 ⟨rfl, hR1, hg1⟩
      replace hO := hO.grown hg1 (fun k hk e => by have := (hO.blk k hk).1; injection e with e; omega)
      replace hG := hG.trans hg1
      clear hg1 hRr
      go_wp2_with fail
      refine (HY.out _ hR1).mono ?_
      rintro e V2 ⟨rfl, hR2, hg2⟩
      replace hO := hO.grown hg2 (fun k hk e => by have := (hO.blk k hk).1; injection e with e; omega)
      replace hG := hG.trans hg2
      clear hg2 hR1
      have zV2 := hG.size
      go_wp2_with (at_builtin; refine wpList_appS etCm rfl (.tmp 22) (.tmp 26) rfl rfl (hO.later (Below.allocS (Below.refl _ _) _)) rfl (Rs.of_bk (n := 1) (c := 1) (Bk.new V2 _ _) rfl (Nat.le_refl _)) (by simp [Value.oneCell']) (by omega) (by simp; omega) ?_; intro A2 n2 c2 w4 hn2 hO4 hb4 hg4; subst hn2)
      have hb5 : Below w.heap.size V2 w4 := ((Below.refl V2.heap.size V2).alloc (Nat.le_refl _) _ |>.mono (by omega)).trans hb4
      exact ⟨⟨m + 1, A2, _, c2, by go_num, by omega, rfl, by rw [HM.out, prs_append]; exact hO4, hR2.low (hb5.mono (by omega)), grown_old hG hb5⟩, by simp [intOf]; omega⟩
    · obtain rfl : m = n := by omega
      have ii : ¬ (m : Int) < (m : Int) := by omega
      have hyes : Hid (mbS s = (drs m s1).map fun l => (mbs m s1, l)) := Lib.hid (by rw [hn9.out, if_pos (by omega)])
      go_wp2_with fail
      refine (badT r (drs m s1) _ hRr).mono ?_
      rintro e w1 ⟨rfl, rfl⟩
      cases hd : drs m s1 with
      | none =>
        rw [hd] at hyes
        simp only [Option.isNone]
        go_wp2
        refine bodyPost_ret (v := .tuple #[.slice A m c, .bool false]) (by simp [results, Tryd.results75, go_sem]) rfl ?_
        exact ⟨A, _, c, false, rfl, hG, .inl ⟨rfl, hyes.out⟩⟩
      | some l =>
        rw [hd] at hyes hRr
        simp only [Option.isNone]
        go_wp2
        refine bodyPost_ret (v := .tuple #[.slice A m c, .bool true]) (by simp [results, Tryd.results75, go_sem]) rfl ?_
        exact ⟨A, _, c, true, rfl, hG, .inr ⟨rfl, _, l, hyes.out, hRr, hO⟩⟩
end Go.Proofs.YtclhfbbajeoanaaDoor

/- codec.ParseOp (chapter 23). -/
namespace Go.Proofs.YtclhfbbajeoanaaDoor
open Go.RowKit
set_option linter.unusedVariables false
set_option linter.unusedSimpArgs false
attribute [local go_sem ↓] sliced_cut

attribute [local go_sem] cutA_zero

/-- an operation's cells -/
def opC (k v b e : Int) (six : Bool) (ah al pt pr : Nat) (wy : Int) (A : Option Addr) (n c : Nat) : List Value := [.int .i64 k, .int .i64 v, .int .i64 b, .int .i64 e, .bool six, .int .u64 (ah : Int), .int .u64 (al : Int), .int .u16 (pt : Int), .int .u8 (pr : Int), .int .i64 wy, .slice A n c]
theorem opC_one (k v b e : Int) (six : Bool) (ah al pt pr : Nat) (wy : Int) (A : Option Addr) (n c : Nat) : ∀ u ∈ opC k v b e six ah al pt pr wy A n c, u.oneCell' = true := by simp [opC, Value.oneCell']
theorem szOp (k v b e : Int) (six : Bool) (ah al pt pr : Nat) (wy : Int) (A : Option Addr) (n c : Nat) : (Tryd.prog.info? 45).map (·.size) = some (opC k v b e six ah al pt pr wy A n c).length := by kernel_rfl
theorem rowOpC : ∃ d, Tryd.prog.underlying 45 = some d ∧ d.isRow = true := ⟨_, Tryd.underlying45, rfl⟩
/-- an operation -/
structure OpR where
  k : Int
  v : Int
  b : Int
  e : Int
  six : Bool
  ah : Nat
  al : Nat
  pt : Nat
  pr : Nat
  wy : Int
  ms : List (Int × Int)
def OpR.cells (o : OpR) (A : Option Addr) (n c : Nat) : List Value := opC o.k o.v o.b o.e o.six o.ah o.al o.pt o.pr o.wy A n c
def popE (k v b e : Nat) (q : Bool × Nat × Nat) (pt pr wy : Nat) : Option (List (Int × Int) × List UInt8) → Option OpR
  | some (L, []) => some ⟨k, v, b, e, q.1, q.2.1, q.2.2, pt, pr, wy, L⟩
  | _ => none
/-- the operation that some bytes are -/
def popS (L : List UInt8) : Option OpR :=
  let s1 := drB 1 (some L); let s2 := drB 1 s1; let s3 := drB 1 s2; let s4 := drB 1 s3
  (adS s4).bind fun p => popE (numT 1 (some L)) (numT 1 s1) (numT 1 s2) (numT 1 s3) p.1 (numT 2 p.2) (numT 1 (drB 2 p.2)) (numT 1 (drB 1 (drB 2 p.2))) (mbS (drB 1 (drB 1 (drB 2 p.2))))
/-- bounds of what was read -/
def OpR.fine (o : OpR) : Prop := (0 ≤ o.k ∧ o.k < 256) ∧ (0 ≤ o.v ∧ o.v < 256) ∧ (0 ≤ o.b ∧ o.b < 256) ∧ (0 ≤ o.e ∧ o.e < 256) ∧ o.ah < 18446744073709551616 ∧ o.al < 18446744073709551616 ∧ o.pt < 65536 ∧ o.pr < 256 ∧ (0 ≤ o.wy ∧ o.wy < 256) ∧ o.ms.length ≤ 64
/-- what ParseOp gives -/
def RetPO (w : World) (L : List UInt8) (F : Bool → Value) (e : Ending) (w' : World) : Prop := ∃ (o : OpR) (ok : Bool) (A : Option Addr) (n c : Nat) (bs : List Obj) (d : Nat), e = .returned (.tuple #[.agg (o.cells A n c).toArray, F ok]) ∧ w' = plus w bs d ∧ o.fine ∧ Rs 2 (plus w bs d) A n c (prs .i64 o.ms) ∧ (ok = true ∧ popS L = some o ∨ ok = false ∧ popS L = none ∧ o = ⟨0, 0, 0, 0, false, 0, 0, 0, 0, 0, []⟩)
theorem OpR.fine0 : OpR.fine ⟨0, 0, 0, 0, false, 0, 0, 0, 0, 0, []⟩ := by simp [OpR.fine]
theorem RetPO.none_ {w w' : World} {L : List UInt8} {F : Bool → Value} (h : popS L = none) (hb : Below w.heap.size w w') : RetPO w L F (.returned (.tuple #[.agg (opC 0 0 0 0 false 0 0 0 0 0 none 0 0).toArray, F false])) w' := by
  obtain ⟨bs, d, rfl⟩ := plus_of hb
  exact ⟨_, false, none, 0, 0, bs, d, rfl, rfl, OpR.fine0, Rs.nil_, .inr ⟨rfl, h, rfl⟩⟩
end Go.Proofs.YtclhfbbajeoanaaDoor

/- Contracts of tcp.Parse. -/
namespace Go.Proofs.YtclhfbbajeoanaaDoor
open Go.RowKit
set_option linter.unusedVariables false
set_option linter.unusedSimpArgs false
attribute [local go_sem ↓] sliced_cut

attribute [local go_sem] cutA_zero

/-- a segment in new memory, and a second result -/
def RetSeg (w : World) (x0 x1 x2 x3 x4 x5 x6 x7 : Nat) (l l2 : List UInt8) (v : Value) (e : Ending) (w' : World) : Prop :=
  ∃ A n c A2 n2 c2 bs d, e = .returned (.tuple #[.agg #[.int .u16 x0, .int .u16 x1, .int .u32 x2, .int .u32 x3, .int .u8 x4, .int .u16 x5, .int .u16 x6, .int .u16 x7, .slice A n c, .slice A2 n2 c2], v]) ∧ w' = plus w bs d ∧ Rb (plus w bs d) A n c l ∧ Rb (plus w bs d) A2 n2 c2 l2
theorem RetSeg.mk {w w' : World} {x0 x1 x2 x3 x4 x5 x6 x7 : Nat} {l l2 : List UInt8} {A : Option Addr} {n c : Nat} {A2 : Option Addr} {n2 c2 : Nat} {v : Value} (h1 : Rb w' A n c l) (h2 : Rb w' A2 n2 c2 l2) (hb : Below w.heap.size w w') :
    RetSeg w x0 x1 x2 x3 x4 x5 x6 x7 l l2 v (.returned (.tuple #[.agg #[.int .u16 x0, .int .u16 x1, .int .u32 x2, .int .u32 x3, .int .u8 x4, .int .u16 x5, .int .u16 x6, .int .u16 x7, .slice A n c, .slice A2 n2 c2], v])) w' := by
  obtain ⟨bs, d, rfl⟩ := plus_of hb
  exact ⟨A, n, c, A2, n2, c2, bs, d, rfl, rfl, h1, h2⟩
/-- the same, the rows in new blocks -/
def RetSegF (w : World) (x0 x1 x2 x3 x4 x5 x6 x7 : Nat) (l l2 : List UInt8) (v : Value) (e : Ending) (w' : World) : Prop :=
  ∃ A n c A2 n2 c2 bs d, e = .returned (.tuple #[.agg #[.int .u16 x0, .int .u16 x1, .int .u32 x2, .int .u32 x3, .int .u8 x4, .int .u16 x5, .int .u16 x6, .int .u16 x7, .slice A n c, .slice A2 n2 c2], v]) ∧ w' = plus w bs d ∧ Rb (plus w bs d) A n c l ∧ Rb (plus w bs d) A2 n2 c2 l2 ∧ (∀ a, A = some a → w.heap.size ≤ a.block) ∧ ∀ a, A2 = some a → w.heap.size ≤ a.block
theorem Ob.freshT {w : World} {w0 base : Nat} {A : Option Addr} {n c : Nat} {l : List UInt8} (h : Ob w base A n c l) (hb : w0 ≤ base) : ∀ a, A = some a → w0 ≤ a.block := fun a ha => by
  subst ha
  have := (h.blk a.block rfl).1
  omega
theorem RetSegF.mk {w w' : World} {x0 x1 x2 x3 x4 x5 x6 x7 : Nat} {l l2 : List UInt8} {A : Option Addr} {n c : Nat} {A2 : Option Addr} {n2 c2 : Nat} {v : Value} {b1 b2 : Nat} (h1 : Ob w' b1 A n c l) (h2 : Ob w' b2 A2 n2 c2 l2) (hb : Below w.heap.size w w') (f1 : w.heap.size ≤ b1) (f2 : w.heap.size ≤ b2) :
    RetSegF w x0 x1 x2 x3 x4 x5 x6 x7 l l2 v (.returned (.tuple #[.agg #[.int .u16 x0, .int .u16 x1, .int .u32 x2, .int .u32 x3, .int .u8 x4, .int .u16 x5, .int .u16 x6, .int .u16 x7, .slice A n c, .slice A2 n2 c2], v])) w' := by
  obtain ⟨bs, d, rfl⟩ := plus_of hb
  exact ⟨A, n, c, A2, n2, c2, bs, d, rfl, rfl, h1.rb, h2.rb, h1.freshT f1, h2.freshT f2⟩
theorem RetSeg.zero {w w' : World} {v : Value} (hb : Below w.heap.size w w') : RetSeg w 0 0 0 0 0 0 0 0 [] [] v (.returned (.tuple #[.agg #[.int .u16 0, .int .u16 0, .int .u32 0, .int .u32 0, .int .u8 0, .int .u16 0, .int .u16 0, .int .u16 0, .slice none 0 0, .slice none 0 0], v])) w' := RetSeg.mk Rb.nil_ Rb.nil_ hb

end Go.Proofs.YtclhfbbajeoanaaDoor

/- counterfoilref23.ParseOp (chapter 23). -/
namespace Go.Proofs.YtclhfbbajeoanaaDoor
open Go.RowKit
set_option linter.unusedVariables false
set_option linter.unusedSimpArgs false
attribute [local go_sem ↓] sliced_cut

attribute [local go_sem] cutA_zero

theorem rowRo : ∃ d, Tryd.prog.underlying 48 = some d ∧ d.isRow = true := ⟨_, Tryd.underlying48, rfl⟩
end Go.Proofs.YtclhfbbajeoanaaDoor

