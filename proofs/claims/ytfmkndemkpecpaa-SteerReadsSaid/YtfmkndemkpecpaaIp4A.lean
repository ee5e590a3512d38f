/- octet.Set, ref01.Set; addr.Right; headers of IPv4: Size, Right. -/
import Derived.Test.YtfmkndemkpecpaaCom
import Derived.Test.YtfmkndemkpecpaaRet
import Derived.Deep.CutBlock
namespace Go.Proofs.Ytfmkndemkpecpaa
open Go.RowKit
set_option linter.unusedVariables false
set_option linter.unusedSimpArgs false
attribute [local go_sem ↓] sliced_cut
attribute [local go_sem] cutA_zero

/-- bytes r written over l from k on -/
def setB (l : List UInt8) (k : Nat) (r : List UInt8) : List UInt8 := l.take k ++ r ++ l.drop (k + r.length)
theorem setB_length (l : List UInt8) (k : Nat) (r : List UInt8) (h : k + r.length ≤ l.length) : (setB l k r).length = l.length := by
  simp [setB]; omega
theorem setB_cells (l : List UInt8) (k : Nat) (r : List UInt8) : splice (bcs l) k (bcs r) = bcs (setB l k r) := by
  simp [splice, setB, bcs_append, bcs_take, bcs_drop, bcs_length]
/-- own bytes, and an error -/
def RetOE (w : World) (l : List UInt8) (E : Int) (e : Ending) (w' : World) : Prop := ∃ A n c bs d, e = .returned (.tuple #[.slice A n c, .int .i64 E]) ∧ w' = plus w bs d ∧ Ob (plus w bs d) w.heap.size A n c l
theorem RetOE.mk {w w' : World} {l : List UInt8} {E : Int} {A : Option Addr} {n c : Nat} (h : Ob w' w.heap.size A n c l) (hb : Below w.heap.size w w') : RetOE w l E (.returned (.tuple #[.slice A n c, .int .i64 E])) w' := by
  obtain ⟨bs, d, rfl⟩ := plus_of hb
  exact ⟨A, n, c, bs, d, rfl, rfl, h⟩
theorem over_full (l : List UInt8) (n : Nat) (h : l.length = n) : splice (List.replicate n (.int .u8 0)) 0 (bcs l) = bcs l := by
  subst h
  simp [splice, bcs_length]
set_option maxHeartbeats 4000000 in
set_option maxRecDepth 100000 in
theorem octSet (A : Option Addr) (n c : Nat) (l : List UInt8) (k v size : Nat) (w : World) (h : Rb w A n c l) (hk : k + size ≤ n) (hs0 : 1 ≤ size) (hs : size ≤ 8) (hv : v < 18446744073709551616) (hm : n ≤ 549755813888) :
    Calls Try.prog 152 #[.slice A n c, .int .i64 (k : Int), .int .u64 (v : Int), .int .i64 (size : Int)] w (RetOE w (setB l k (dig v size)) 0) := by
  have d1 : decide (size < 1) = false := by simp; omega
  have d2 : decide (8 < size) = false := by simp; omega
  have d4 : decide (n < size) = false := by simp; omega
  have d5 : decide ((n : Int) - (size : Int) < (k : Int)) = false := by simp; omega
  have hl := h.1
  have hkn : k ≠ n := by omega
  go_enter Try.func152, Try.ntmps152
  go_wp2_with (first
    | (at_make; refine wpList_mk bt rfl (.tmp 36) rfl _ n rfl rfl (by omega) ?_; intro w1 hb1 hbe1 hs1)
    | (refine at_op (.call { callee := .builtin .copy, args := #[.tmp 38, .tmp 39], argTypes := #[22, 22] }) rfl ?_; refine wpList_cpy 40 rfl bt rfl (.tmp 38) (.tmp 39) rfl rfl rfl w.heap.size 0 _ hb1 (.inr rfl) l (h.later hbe1) (by omega) (by simp) w.heap.size w hbe1 (Nat.le_refl _) ?_; intro w2 hb2 hbe2))
  rw [over_full l n hl] at hb2
  refine wp_rel 6 49 rfl (by kernel_rfl) (by kernel_rfl) (fun i => match i with | 0 => MP.eq (.slice (some ⟨w.heap.size, 0, none⟩) n n) | 1 => MP.eq (.int .i64 (k : Int)) | 2 => MP.eq (.slice (cutA (some ⟨w.heap.size, 0, none⟩) n k 1) (n - k) (n - k)) | 3 => MP.eq (.int .u64 (v : Int)) | 4 => MP.eq (.int .i64 (size : Int)) | 5 => MP.rb (dig v size) | _ => MP.any) ?_ ?_
  · intro i hi o ho FA x hO hD K hK
    match i, hi, ho, hO, hD, hK with
    | 0, _, ho, hO, hD, hK => 
      obtain rfl := Option.some.inj ho.symm
      clear ho
      have ev10 : FA.eval (.tmp 10) = .slice (some ⟨w.heap.size, 0, none⟩) n n := hO 10 (by kernel_rfl)
      have e10 : FA.tmps[10]?.getD undef = .slice (some ⟨w.heap.size, 0, none⟩) n n := by simpa [Act.eval] using ev10
      replace ev10 := Lib.hid ev10
      clear hO hD
      go_simp
      exact hK.out _ _ (Ex.refl _) rfl
    | 1, _, ho, hO, hD, hK => 
      obtain rfl := Option.some.inj ho.symm
      clear ho
      have ev1 : FA.eval (.tmp 1) = .int .i64 (k : Int) := hO 1 (by kernel_rfl)
      have e1 : FA.tmps[1]?.getD undef = .int .i64 (k : Int) := by simpa [Act.eval] using ev1
      replace ev1 := Lib.hid ev1
      clear hO hD
      go_simp
      exact hK.out _ _ (Ex.refl _) rfl
    | 2, _, ho, hO, hD, hK => 
      obtain rfl := Option.some.inj ho.symm
      clear ho
      have ev41 : FA.eval (.tmp 41) = .slice (some ⟨w.heap.size, 0, none⟩) n n := hD 0 41 (by kernel_rfl)
      have e41 : FA.tmps[41]?.getD undef = .slice (some ⟨w.heap.size, 0, none⟩) n n := by simpa [Act.eval] using ev41
      replace ev41 := Lib.hid ev41
      have ev42 : FA.eval (.tmp 42) = .int .i64 (k : Int) := hD 1 42 (by kernel_rfl)
      have e42 : FA.tmps[42]?.getD undef = .int .i64 (k : Int) := by simpa [Act.eval] using ev42
      replace ev42 := Lib.hid ev42
      clear hO hD
      have hk2 : k ≤ n := by omega
      go_simp
      exact hK.out _ _ (Ex.refl _) rfl
    | 3, _, ho, hO, hD, hK => 
      obtain rfl := Option.some.inj ho.symm
      clear ho
      have ev2 : FA.eval (.tmp 2) = .int .u64 (v : Int) := hO 2 (by kernel_rfl)
      have e2 : FA.tmps[2]?.getD undef = .int .u64 (v : Int) := by simpa [Act.eval] using ev2
      replace ev2 := Lib.hid ev2
      clear hO hD
      go_simp
      exact hK.out _ _ (Ex.refl _) rfl
    | 4, _, ho, hO, hD, hK => 
      obtain rfl := Option.some.inj ho.symm
      clear ho
      have ev3 : FA.eval (.tmp 3) = .int .i64 (size : Int) := hO 3 (by kernel_rfl)
      have e3 : FA.tmps[3]?.getD undef = .int .i64 (size : Int) := by simpa [Act.eval] using ev3
      replace ev3 := Lib.hid ev3
      clear hO hD
      go_simp
      exact hK.out _ _ (Ex.refl _) rfl
    | 5, _, ho, hO, hD, hK => 
      obtain rfl := Option.some.inj ho.symm
      clear ho
      have ev44 : FA.eval (.tmp 44) = .int .u64 (v : Int) := hD 3 44 (by kernel_rfl)
      have e44 : FA.tmps[44]?.getD undef = .int .u64 (v : Int) := by simpa [Act.eval] using ev44
      replace ev44 := Lib.hid ev44
      have ev45 : FA.eval (.tmp 45) = .int .i64 (size : Int) := hD 4 45 (by kernel_rfl)
      have e45 : FA.tmps[45]?.getD undef = .int .i64 (size : Int) := by simpa [Act.eval] using ev45
      replace ev45 := Lib.hid ev45
      clear hO hD
      go_simp
      refine (put_any none 0 0 [] v size _ Rb.nil_ (by omega) hv hs0 hs).mono ?_
      rintro e w3 ⟨A3, n3, c3, bs3, d3, rfl, rfl, ho3⟩
      exact hK.out _ _ (Ex.plus_ _ _ _) ⟨_, _, _, rfl, ho3.rb⟩
    | (k + 6), hi, _, _, _, _ => exact absurd hi (by omega)
  intro vs x hp
  have p0 : vs 0 = .slice (some ⟨w.heap.size, 0, none⟩) n n := hp 0 (by omega)
  have p1 : vs 1 = .int .i64 (k : Int) := hp 1 (by omega)
  have p2 : vs 2 = .slice (cutA (some ⟨w.heap.size, 0, none⟩) n k 1) (n - k) (n - k) := hp 2 (by omega)
  have p3 : vs 3 = .int .u64 (v : Int) := hp 3 (by omega)
  have p4 : vs 4 = .int .i64 (size : Int) := hp 4 (by omega)
  have p5 := hp 5 (by omega)
  clear hp
  simp only [List.take_succ_cons, List.take_zero, List.drop_succ_cons, List.drop_zero, putAll, Nat.zero_add, Nat.reduceAdd, Act.put, List.setIfInBounds_toArray, List.set_cons_zero, List.set_cons_succ, p0, p1, p2, p3, p4]
  clear p0 p1 p2 p3 p4
  generalize vs 5 = y5 at *
  clear vs
  obtain ⟨A3, n3, c3, rfl, h3⟩ := p5
  obtain rfl : n3 = size := by rw [← h3.1, dig_length]
  have hb3 := hb2.later (below_plus _ x.bs x.d)
  have hbe3 := belowP hbe2 x.bs x.d
  generalize plus w2 x.bs x.d = w3 at *
  go_wp2_with (refine at_op (.call { callee := .builtin .copy, args := #[.tmp 43, .tmp 46], argTypes := #[22, 22] }) rfl ?_; refine wpList_cpy 47 rfl bt rfl (.tmp 43) (.tmp 46) rfl rfl rfl w.heap.size k _ hb3 (.inr (by rw [cutA_some _ _ _ _ (by omega)]; simp)) (dig v n3) h3 (by omega) (by rw [bcs_length]; omega) w.heap.size w hbe3 (Nat.le_refl _) ?_; intro w4 hb4 hbe4)
  go_ret2
  rw [setB_cells] at hb4
  exact RetOE.mk (Ob.of_bk hb4 (Nat.le_refl _) (by rw [setB_length _ _ _ (by rw [dig_length]; omega)]; exact hl) (by simp [maxLen]; omega)) hbe4
theorem bcs_set (l : List UInt8) (i : Nat) (b : UInt8) : (bcs l).set i (.int .u8 (b.toNat : Int)) = bcs (l.set i b) := by simp [bcs, List.map_set]
theorem setB_step (l r : List UInt8) (k j : Nat) (hj : j < r.length) (hk : k + r.length ≤ l.length) : (setB l k (r.take j)).set (k + j) r[j] = setB l k (r.take (j + 1)) := by
  have h1 : (l.take k).length = k := by rw [List.length_take]; omega
  have h2 : (r.take j).length = j := by rw [List.length_take]; omega
  have h3 : (r.take (j + 1)).length = j + 1 := by rw [List.length_take]; omega
  unfold setB
  rw [h2, h3, List.set_append_right _ _ (by rw [List.length_append, h1, h2]; omega), List.length_append, h1, h2, Nat.sub_self, List.drop_eq_getElem_cons (by omega), List.set_cons_zero, List.take_succ_eq_append_getElem hj]
  simp only [List.append_assoc, List.cons_append, List.nil_append, Nat.add_assoc]
set_option maxHeartbeats 4000000 in
set_option maxRecDepth 100000 in
theorem refSet (A : Option Addr) (n c : Nat) (l : List UInt8) (k : Nat) (A2 : Option Addr) (n2 c2 : Nat) (r : List UInt8) (w : World) (h : Rb w A n c l) (h2 : Rb w A2 n2 c2 r) (hk : k + n2 ≤ n) (hn : 0 < n) (hm : n ≤ 549755813888) :
    Calls Try.prog 171 #[.slice A n c, .int .i64 (k : Int), .slice A2 n2 c2] w (RetB w (setB l k r)) := by
  have hl := Lib.hid h.1
  have hr := Lib.hid h2.1
  go_enter Try.func171, Try.ntmps171
  go_upto_block 0 with (at_builtin; refine wpList_app0 bt rfl (.tmp 9) (.tmp 10) rfl rfl rfl rfl h (by omega) ?_; intro A1 n1 c1 bs1 d1 ho1)
  obtain rfl : n1 = n := by rw [← ho1.1, hl.out]
  obtain ⟨g, cap, hv, hgb, hgl⟩ := ho1.2.form hn
  injection hv with e1 e2 e3
  subst e1 e3
  have hbe1 : Below w.heap.size w (plus w bs1 d1) := below_plus _ _ _
  generalize plus w bs1 d1 = W at *
  go_wp2
  go_loopw [8] (fun i wr => ∃ j : Nat, j ≤ n2 ∧ i = .int .i64 j ∧ Ob wr w.heap.size (some ⟨g, 0, none⟩) n1 c1 (setB l k (r.take j)) ∧ Below w.heap.size w wr) (fun i _ => n2 - (intOf i).toNat)
  case atStart => exact ⟨0, by omega, rfl, by simpa [setB] using ho1, hbe1⟩
  case round =>
    clear ho1 hbe1
    obtain ⟨j, hj, rfl, ho, hb⟩ := hrel
    by_cases hlt : j < n2
    · obtain ⟨b, off, rfl, hbl, hcell⟩ := h2.2.2.at_ (by rw [bcs_length, hr.out]; omega)
      have hjr : j < r.length := by rw [hr.out]; exact hlt
      have q1 : wr.cell? ⟨b, off + j, none⟩ = some (.int .u8 (r[j].toNat : Int)) := by
        rw [hb.cell (p := ⟨b, off + j, none⟩) hbl]
        exact hcell j _ (bcs_get r j hjr)
      have q2 : wr.cell? ⟨g, k + j, none⟩ = some (.int .u8 ((setB l k (r.take j))[k + j]'(by rw [setB_length _ _ _ (by simp [hl.out]; omega), hl.out]; omega)).toNat) := by
        rw [ho.2.cellAt (k + j) (by omega), bcs_get]
      have q3 := ho.2.frozenAt (k + j)
      have zg := lt_of_cell q2
      have HS := Lib.hid (setB_step l r k j hjr (by rw [hl.out, hr.out]; omega))
      clear hcell
      generalize (setB l k (r.take j))[k + j]'(_) = old at *
      go_wp2
      go_roundw
      case rel =>
        refine ⟨j + 1, by omega, by go_num, ?_, hb.setCell (p := ⟨g, k + j, none⟩) hgb _⟩
        have h5 := (ho.2.stored (k + j) (.int .u8 (r[j].toNat : Int))).1
        rw [bcs_set, HS.out] at h5
        exact ⟨by rw [setB_length _ _ _ (by simp [hl.out]; omega)]; exact hl.out, h5⟩
      case measure => simp [intOf]; omega
    · obtain rfl : j = n2 := by omega
      go_wp2
      go_ret
      rw [List.take_of_length_le (by rw [hr.out]; omega)] at ho
      exact RetB.mk ho hb
end Go.Proofs.Ytfmkndemkpecpaa
