/- Texts of the law PacketReads, part 2. -/
import Derived.Test.YtfmkndemkpecpaaZPacketReads1
/- What many texts need: numbers of bytes, rows that are appended, addresses, stores into the middle of a block. -/
namespace Go.Proofs.Ytfmkndemkpecpaa
open Go.RowKit
set_option linter.unusedVariables false
set_option linter.unusedSimpArgs false
attribute [local go_sem ↓] sliced_cut

attribute [local go_sem] cutA_zero

theorem numDig (n : Nat) : ∀ m, n < 256 ^ m → num (dig n m) = n := by
  intro m
  induction m generalizing n with
  | zero => intro h; simp at h; subst h; rfl
  | succ m ih =>
    intro h
    rw [dig, num_snoc, ih (n / 256) (by rw [Nat.div_lt_iff_lt_mul (by decide)]; rw [Nat.pow_succ] at h; exact h)]
    simp
    omega
theorem digNum : ∀ (m : Nat) (l : List UInt8), l.length = m → dig (num l) m = l := by
  intro m
  induction m with
  | zero => intro l h; rw [List.eq_nil_of_length_eq_zero h]; rfl
  | succ m ih =>
    intro l h
    rcases List.eq_nil_or_concat l with rfl | ⟨l', b, rfl⟩
    · simp at h
    · simp only [List.concat_eq_append] at *
      have hb := b.toNat_lt
      rw [dig, num_snoc, show (num l' * 256 + b.toNat) / 256 = num l' from by omega, show (num l' * 256 + b.toNat) % 256 = b.toNat from by omega, ih l' (by simpa using h)]
      simp
theorem wanted_ifG {ops : Array Oper} {o : Oper} {tmps : Array Value} {X Y : Prop} (h : Region.wanted o (yielded ops tmps) = true) (hx : X) : if Region.wanted o (yielded ops tmps) = true then X else Y := by
  rw [if_pos h]
  exact hx
theorem bodyPost_agg3 {P : Program} {fn : Func} {R : Ending → World → Prop} {a : Act} {w : World} {slot slot2 slot3 ty g : Nat} {d : TypeDesc} {cs : List Value} {u u' : Value} (hfr : fn.results = #[.cell slot ty, .tmp slot2, .tmp slot3]) (hs : a.tmps.getD slot undef = .pointer (some ⟨g, 0, none⟩)) (hs2 : a.tmps.getD slot2 undef = u) (hs3 : a.tmps.getD slot3 undef = u')
    (hb : w.rangeAt g 0 cs) (hu : P.underlying ty = some d) (hd : d.isRow = true) (hi : (P.info? ty).map (·.size) = some cs.length) (hdf : a.defers = []) (hR : R (.returned (.tuple #[.agg cs.toArray, u, u'])) w) : bodyPost P fn R .ret a w := by
  refine bodyPost_ret (v := .tuple #[.agg cs.toArray, u, u']) ?_ hdf hR
  have h1 := run_loadVar_mid (P := P) w g 0 ty cs d hb hu hd hi
  have hs' : a.tmps[slot]?.getD undef = .pointer (some ⟨g, 0, none⟩) := by simpa using hs
  have hs2' : a.tmps[slot2]?.getD undef = u := by simpa using hs2
  have hs3' : a.tmps[slot3]?.getD undef = u' := by simpa using hs3
  simp [results, hfr, hs', hs2', hs3', asAddr, h1]
theorem Rdr.far_ {w w' : World} {r g : Nat} {l : List UInt8} {bad : Bool} (h : Rdr w r l bad) (hg : w.grownBy w' (some g)) (hr : r < g) : Rdr w' r l bad := by
  have hlt := h.lt
  obtain ⟨A, n, c, h1, h2, h3, h4⟩ := h
  exact ⟨A, n, c, h1.grown hg (by simp; omega), h2, h3, h4.keep fun p hp => World.cell?_of_block (hg.block p.block (by omega) (by simp; omega))⟩
theorem dig1 (x : Nat) (h : x < 256) : dig x 1 = [UInt8.ofNat x] := by
  simp [dig, Nat.mod_eq_of_lt h]
theorem whole_ (cs : List Value) : (cs.drop 0).take cs.length = cs := by rw [List.drop_zero]; exact List.take_of_length_le (Nat.le_refl _)
theorem num_mid (p r : List UInt8) (x s k : Nat) (hp : p.length = k) (hx : x < 256 ^ s) : num (((p ++ (dig x s ++ r)).drop k).take s) = x := by
  subst hp
  rw [List.drop_left, List.take_left' (dig_length s x), numDig x s hx]
theorem Kept.size' {F : Nat → Prop} {w w' : World} {o : Obj} (h : Kept F (w.alloc o) w') : w.heap.size ≤ w'.heap.size := by
  have := h.size
  simp at this
  omega
/-- append onto a row of the call's own, whatever the source -/
theorem run_appB {P : Program} (w : World) {ts ty : TypeId} (bt : BT P ts 5) {base : Nat} {A : Option Addr} {n c : Nat} {l : List UInt8} (hown : Ob w base A n c l)
    {A2 : Option Addr} {n2 c2 : Nat} {l2 : List UInt8} (hr : Rb w A2 n2 c2 l2) (hm : n + n2 ≤ 1099511627776) (hbase : base ≤ w.heap.size) :
    ∃ A' n' c' w', (Builtin.append_ #[ts, ts] ty #[.slice A n c, .slice A2 n2 c2]).run P w = .ok (.slice A' n' c') w' ∧ Ob w' base A' n' c' (l ++ l2) ∧ Below base w w' ∧ w.grownBy w' (Value.slice A n c).ownBlock ∧ ((Value.slice A' n' c').ownBlock = (Value.slice A n c).ownBlock ∨ (Value.slice A' n' c').ownBlock = some w.heap.size) := by
  obtain ⟨i, hi, hz0, hz1, hz2⟩ := info_parts bt.info
  have hbel : ∀ {w'}, w.grownBy w' (Value.slice A n c).ownBlock → Below base w w' := fun hg => below_of_grown hg hbase fun k hk => (hown.blk k hk).1
  have fin : ∀ v' w', w'.ownsRow base 5 1 v' (n + n2) (bcs l ++ bcs l2) → ∃ A' n' c', v' = .slice A' n' c' ∧ Ob w' base A' n' c' (l ++ l2) := by
    intro v' w' h
    have hl : (l ++ l2).length = n + n2 := by rw [List.length_append, hown.1, hr.1]
    rw [← bcs_append] at h
    have h2 := h.2
    rcases h2 with ⟨hv, h0⟩ | ⟨g, cap, cur, hv, _⟩
    · refine ⟨none, 0, 0, hv, by omega, ?_⟩
      rw [hv, h0] at h
      exact h
    · refine ⟨_, _, _, hv, hl, ?_⟩
      rw [hv] at h
      exact h
  cases A2 with
  | none =>
    have hn2 : n2 = 0 := by
      rcases hr.2.2 with h | ⟨b, off, h, _⟩
      · have := hr.1; rw [bcs_nil h] at this; simpa using this.symm
      · cases h
    subst hn2
    have hl2 : l2 = [] := List.eq_nil_of_length_eq_zero hr.1
    subst hl2
    refine ⟨A, n, c, w, ?_, by simpa using hown, Below.refl _ _, World.grownBy.refl w _, .inl rfl⟩
    rcases hown.2.2 with ⟨hv, h0⟩ | ⟨g, cap, cur, hv, _, _, hnc, _⟩
    · injection hv with h1 h2 h3
      subst h1 h2 h3
      simp [Builtin.append_, run_underlying bt.sl, sizeOf, typeInfo, hi, Builtin.lenOf, Builtin.firstCells]
    · injection hv with h1 h2 h3
      subst h1 h3
      simp [Builtin.append_, run_underlying bt.sl, sizeOf, typeInfo, hi, Builtin.lenOf, Builtin.firstCells, hnc, storeCells]
  | some ad =>
    have hcells : ∀ j u, (bcs l2)[j]? = some u → w.cell? (ad.add j) = some u := by
      intro j u hu
      rcases hr.2.2 with h | ⟨b, off, h, _, hc⟩
      · rw [h] at hu; simp at hu
      · injection h with h
        subst h
        rw [add_plain]
        exact hc j u hu
    obtain ⟨v', w', hrun, h2, h3, _, h5⟩ := run_append_own_at (P := P) w base ts ty 5 i (.int .u8 0) 1 1 bt.sl hi hz0 hz1 hz2 rfl (by omega) (.slice A n c) n (bcs l) hown.2 ad n2 c2 (bcs l2)
      (by rw [bcs_length, hr.1]; omega) hcells (bcs_one l2) (by simp only [maxLen]; omega) (by omega) hbase
    obtain ⟨A', n', c', rfl, hob⟩ := fin v' w' h2
    exact ⟨A', n', c', w', hrun, hob, hbel h3, h3, h5⟩

/-- append onto own bytes, as one operation -/
theorem own_app {P : Program} {Q : Exit → Act → World → Prop} {w : World} {o : Oper} {a : Act} {K : Act → World → Prop} {ts : TypeId} (bt : BT P ts 5) (s x : Operand)
    (ho : o.op = .call { callee := .builtin .append, args := #[s, x], argTypes := #[ts, ts] }) {base : Nat} {A : Option Addr} {n c : Nat} {l : List UInt8} (hs : a.eval s = .slice A n c) (hown : Ob w base A n c l)
    {A2 : Option Addr} {n2 c2 : Nat} {l2 : List UInt8} (hx : a.eval x = .slice A2 n2 c2) (hr2 : Rb w A2 n2 c2 l2) (hm : n + n2 ≤ 1099511627776) (hbase : base ≤ w.heap.size)
    (h : ∀ A' n' c' w', Ob w' base A' n' c' (l ++ l2) → w.grownBy w' (Value.slice A n c).ownBlock → (∀ b, (Value.slice A' n' c').ownBlock = some b → (Value.slice A n c).ownBlock = some b ∨ w.heap.size ≤ b) → K (a.put o.dst (.slice A' n' c')) w') : o.wp P a w K Q := by
  obtain ⟨A', n', c', w', hrun, h2, h3, h4, h5⟩ := run_appB (P := P) w (ty := o.type) bt hown hr2 hm hbase
  unfold Oper.wp execOp
  simp only [ho, resolve, invoke, builtin, Sem.run_bind, Sem.run_pure, Result.andThen_ok, List.map_toArray, List.map_cons, List.map_nil, hs, hx, hrun]
  refine h A' n' c' w' h2 h4 (fun b hb => ?_)
  rcases h5 with h5 | h5
  · exact .inl (by rw [← h5]; exact hb)
  · rw [h5] at hb
    injection hb with hb
    exact .inr (by omega)
set_option maxHeartbeats 2000000 in
set_option maxRecDepth 100000 in
theorem refAdrBytes (six : Bool) (ah al : Nat) (w : World) (h1 : ah < 18446744073709551616) (h2 : al < 18446744073709551616) : Calls Try.prog 164 #[.agg #[.bool six, .int .u64 ah, .int .u64 al]] w (RetB w (adrB six ah al)) := by
  cases six
  · go_enter Try.func164, Try.ntmps164
    go_wp2_with (go_at_call 129; refine (refBytes_any al 4 _ (by omega) (by omega)).mono ?_; rintro e w1 ⟨A2, n2, c2, bs2, d2, rfl, rfl, ho2⟩)
    go_ret
    exact RetB.mk (by simpa [adrB] using ho2.mono (base' := w.heap.size) (by simp)) (belowP (Below.allocS (Below.refl _ _) _) _ _)
  · have hb0 : Bk (w.alloc (.cells #[.bool true, .int .u64 (ah : Int), .int .u64 (al : Int)] 26)) w.heap.size 26 [.bool true, .int .u64 (ah : Int), .int .u64 (al : Int)] := Bk.new w 26 _
    go_enter Try.func164, Try.ntmps164
    go_wp2
    refine wp_own (fun b => b < (w.alloc (.cells #[.bool true, .int .u64 (ah : Int), .int .u64 (al : Int)] 26)).heap.size) 8 0 16 2 (fun i => match i with | i => i) (fun i => match i with | 6 => [2] | 7 => [6] | _ => []) (fun i => match i with | _ => undef) rfl (by kernel_rfl) (by kernel_rfl) (fun i => match i with | 0 => Own.eq (.pointer (some ⟨w.heap.size, 1, none⟩)) | 1 => Own.eq (.int .u64 (ah : Int)) | 2 => Own.ob w.heap.size (dig ah 8) | 3 => Own.eq (.pointer (some ⟨w.heap.size, 2, none⟩)) | 4 => Own.eq (.int .u64 (al : Int)) | 5 => Own.ob w.heap.size (dig al 8) | 6 => Own.ob w.heap.size (dig ah 8 ++ dig al 8) | 7 => Own.ob w.heap.size (dig ah 8 ++ dig al 8) | _ => Own.any) (fun b h => h) ?_ ?_ ?_ ?_ ?_
    · exact fun t ht => absurd ht (by omega)
    · exact fun t t' ht => absurd ht (by omega)
    · exact fun t ht => absurd ht (by omega)
    · intro i hi o ho FA w' vs H K hK
      match i, hi, ho, H, hK with
      | 0, _, ho, H, hK => 
        obtain rfl := Option.some.inj ho.symm
        clear ho
        have ev1 : FA.eval (.tmp 1) = .pointer (some ⟨w.heap.size, 0, none⟩) := H.out 1 (by kernel_rfl)
        have e1 : FA.tmps[1]?.getD undef = .pointer (some ⟨w.heap.size, 0, none⟩) := by simpa [Act.eval] using ev1
        replace ev1 := Lib.hid ev1
        go_simp
        exact hK.out _ _ (chgX (Ex.refl _)) rfl (fun _ h => h.elim)
      | 1, _, ho, H, hK => 
        obtain rfl := Option.some.inj ho.symm
        clear ho
        have ev9 : FA.eval (.tmp 9) = .pointer (some ⟨w.heap.size, 1, none⟩) := (H.dep 0 9 (by kernel_rfl)).trans (H.word 0 (by omega) (by kernel_rfl))
        have e9 : FA.tmps[9]?.getD undef = .pointer (some ⟨w.heap.size, 1, none⟩) := by simpa [Act.eval] using ev9
        replace ev9 := Lib.hid ev9
        have cc := (hb0.kept H.kept hb0.lt).cell 1
        go_simp
        exact hK.out _ _ (chgX (Ex.refl _)) rfl (fun _ h => h.elim)
      | 2, _, ho, H, hK => 
        obtain rfl := Option.some.inj ho.symm
        clear ho
        have ev10 : FA.eval (.tmp 10) = .int .u64 (ah : Int) := (H.dep 1 10 (by kernel_rfl)).trans (H.word 1 (by omega) (by kernel_rfl))
        have e10 : FA.tmps[10]?.getD undef = .int .u64 (ah : Int) := by simpa [Act.eval] using ev10
        replace ev10 := Lib.hid ev10
        go_simp
        refine (refBytes_any ah 8 _ (by omega) (by omega)).mono ?_
        rintro e w1 ⟨A2, n2, c2, bs2, d2, rfl, rfl, ho2⟩
        exact hK.out _ _ (chgX (Ex.plus_ _ _ _)) ⟨_, _, _, rfl, ho2.mono H.kept.size'⟩ (fun b hb => .inr (ho2.blk b hb).1)
      | 3, _, ho, H, hK => 
        obtain rfl := Option.some.inj ho.symm
        clear ho
        have ev1 : FA.eval (.tmp 1) = .pointer (some ⟨w.heap.size, 0, none⟩) := H.out 1 (by kernel_rfl)
        have e1 : FA.tmps[1]?.getD undef = .pointer (some ⟨w.heap.size, 0, none⟩) := by simpa [Act.eval] using ev1
        replace ev1 := Lib.hid ev1
        go_simp
        exact hK.out _ _ (chgX (Ex.refl _)) rfl (fun _ h => h.elim)
      | 4, _, ho, H, hK => 
        obtain rfl := Option.some.inj ho.symm
        clear ho
        have ev12 : FA.eval (.tmp 12) = .pointer (some ⟨w.heap.size, 2, none⟩) := (H.dep 3 12 (by kernel_rfl)).trans (H.word 3 (by omega) (by kernel_rfl))
        have e12 : FA.tmps[12]?.getD undef = .pointer (some ⟨w.heap.size, 2, none⟩) := by simpa [Act.eval] using ev12
        replace ev12 := Lib.hid ev12
        have cc := (hb0.kept H.kept hb0.lt).cell 2
        go_simp
        exact hK.out _ _ (chgX (Ex.refl _)) rfl (fun _ h => h.elim)
      | 5, _, ho, H, hK => 
        obtain rfl := Option.some.inj ho.symm
        clear ho
        have ev13 : FA.eval (.tmp 13) = .int .u64 (al : Int) := (H.dep 4 13 (by kernel_rfl)).trans (H.word 4 (by omega) (by kernel_rfl))
        have e13 : FA.tmps[13]?.getD undef = .int .u64 (al : Int) := by simpa [Act.eval] using ev13
        replace ev13 := Lib.hid ev13
        go_simp
        refine (refBytes_any al 8 _ (by omega) (by omega)).mono ?_
        rintro e w1 ⟨A2, n2, c2, bs2, d2, rfl, rfl, ho2⟩
        exact hK.out _ _ (chgX (Ex.plus_ _ _ _)) ⟨_, _, _, rfl, ho2.mono H.kept.size'⟩ (fun b hb => .inr (ho2.blk b hb).1)
      | 6, _, ho, H, hK => 
        obtain rfl := Option.some.inj ho.symm
        clear ho
        have ev11 := H.dep 2 11 (by kernel_rfl)
        have e11 : FA.tmps[11]?.getD undef = vs 2 := by simpa [Act.eval] using ev11
        replace ev11 := Lib.hid ev11
        have ev14 := H.dep 5 14 (by kernel_rfl)
        have e14 : FA.tmps[14]?.getD undef = vs 5 := by simpa [Act.eval] using ev14
        replace ev14 := Lib.hid ev14
        obtain ⟨A1, n1, c1, hv1, h1⟩ := H.word 2 (by omega) (by kernel_rfl)
        obtain ⟨A2, n2, c2, hv2, h2⟩ := H.word 5 (by omega) (by kernel_rfl)
        have hn1 : n1 ≤ 100 := by rw [← h1.1]; simp [dig_length]
        have hn2 : n2 ≤ 100 := by rw [← h2.1]; simp [dig_length]
        refine wanted_if rfl ?_
        refine own_app bt (.tmp 11) (.tmp 14) rfl (ev11.out.trans hv1) h1 (ev14.out.trans hv2) h2.rb (by omega) H.kept.size' ?_
        intro A3 n3 c3 w3 ho3 hg3 hf3
        refine hK.out _ _ (Chg.grown hg3 (fun k hk => ⟨2, rfl, by show (vs 2).ownBlock = some k; rw [hv1]; exact hk⟩)) ⟨_, _, _, rfl, ho3⟩ (fun b hb => ?_)
        rcases hf3 b hb with h | h
        · exact .inl ⟨2, rfl, by show (vs 2).ownBlock = some b; rw [hv1]; exact h⟩
        · exact .inr h
      | 7, _, ho, H, hK => 
        obtain rfl := Option.some.inj ho.symm
        clear ho
        have ev15 := H.dep 6 15 (by kernel_rfl)
        have e15 : FA.tmps[15]?.getD undef = vs 6 := by simpa [Act.eval] using ev15
        replace ev15 := Lib.hid ev15
        have hw := H.word 6 (by omega) (by kernel_rfl)
        go_simp
        exact hK.out _ _ (chgX (Ex.refl _)) hw (fun b hb => .inl ⟨6, rfl, hb⟩)
      | (k + 8), hi, _, _, _ => exact absurd hi (by omega)
    intro vs w' hC hV hW hDis hFr
    have p0 : vs 0 = .pointer (some ⟨w.heap.size, 1, none⟩) := hW 0 (by omega) (by kernel_rfl)
    have p1 : vs 1 = .int .u64 (ah : Int) := hW 1 (by omega) (by kernel_rfl)
    have p3 : vs 3 = .pointer (some ⟨w.heap.size, 2, none⟩) := hW 3 (by omega) (by kernel_rfl)
    have p4 : vs 4 = .int .u64 (al : Int) := hW 4 (by omega) (by kernel_rfl)
    have p5 := hW 5 (by omega) (by kernel_rfl)
    have p7 := hW 7 (by omega) (by kernel_rfl)
    clear hW
    simp only [List.take_succ_cons, List.take_zero, List.drop_succ_cons, List.drop_zero, putAll, Nat.zero_add, Nat.reduceAdd, Act.put, List.setIfInBounds_toArray, List.set_cons_zero, List.set_cons_succ, p0, p1, p3, p4]
    obtain ⟨A9, n9, c9, hv9, h9⟩ := p7
    have be := hC.below (Nat.le_refl _) (fun b h => h)
    go_wp2
    go_ret
    exact RetB.mk (by simpa [adrB] using h9) ((Below.allocS (Below.refl _ _) _).trans (be.mono (by simp)))

theorem take_set_succ {α : Type} (l : List α) (o : Nat) (v : α) (h : o < l.length) : (l.set o v).take (o + 1) = l.take o ++ [v] := by
  rw [List.take_succ_eq_append_getElem (by simpa using h), List.take_set_of_le (Nat.le_refl _)]
  simp
theorem Bk.setMid {w : World} {g : Nat} {t : TypeId} : ∀ (new old : List Value) (o : Nat), Bk w g t old → o + new.length ≤ old.length → Bk (w.setCells g o new) g t (splice old o new) := by
  intro new
  induction new generalizing w with
  | nil => intro old o h hl; simp only [World.setCells, over_nil]; exact h
  | cons v r ih =>
    intro old o h hl
    simp only [List.length_cons] at hl
    have := ih (old.set o v) (o + 1) (h.set_ o v) (by simp; omega)
    have e : splice (old.set o v) (o + 1) r = splice old o (v :: r) := by
      unfold splice
      rw [take_set_succ old o v (by omega), List.drop_set_of_lt (by omega)]
      simp [Nat.add_assoc, Nat.add_comm 1]
    rw [e] at this
    exact this
/-- an aggregate stored into the middle of a block -/
theorem wpList_stM {P : Program} {w : World} {ops : Array Oper} {rest : List Oper} {o : Oper} {a : Act} {Q : Exit → Act → World → Prop} (ty : TypeId) (x y : Operand) (ho : o.op = .store ty x y) (hgd : o.guard = none)
    {g off : Nat} {t : TypeId} (new old : List Value) (hl : off + new.length ≤ old.length) (h1 : ∀ u ∈ new, u.oneCell' = true) (hx : a.eval x = .pointer (some ⟨g, off, none⟩)) (hy : a.eval y = .agg new.toArray) (hb : Bk w g t old)
    (hi : (P.info? ty).map (·.size) = some new.length) (h : ∀ w', Bk w' g t (splice old off new) → w.grownBy w' (some g) → wpList P ops Q rest (a.put o.dst undef) w') : wpList P ops Q (o :: rest) a w := by
  refine wpList_store_mid hgd ty x y ho g off new.toArray hx hy (fun j hj => ?_) (by simpa using hi) (all_oneCell_toArray h1) (h _ (Bk.setMid new old off hb hl) ?_)
  · have hj' : off + j < old.length := by simp at hj; omega
    exact ⟨by rw [hb.cell, List.getElem?_eq_getElem hj']; rfl, hb.frozen _⟩
  · generalize off = k
    clear hi h hb hy hl hx
    induction new generalizing w k with
    | nil => exact World.grownBy.refl _ _
    | cons v r ih => exact (grownBy_setCell _ _ _ _).trans (ih (fun u hu => h1 u (List.mem_cons_of_mem _ hu)) _)
theorem adrV6 (a b : Nat) (w : World) : Calls Try.prog 178 #[.int .u64 (a : Int), .int .u64 (b : Int)] w (RetV w (.agg #[.bool true, .int .u64 (a : Int), .int .u64 (b : Int)])) := by
  go_enter Try.func178, Try.ntmps178
  go_wp2
  refine bodyPost_ret (v := .agg #[.bool true, .int .u64 (a : Int), .int .u64 (b : Int)]) (by simp [results, Try.results178, go_sem]) rfl (RetV.mk ?_)
  exact Below.allocS (Below.refl _ _) _
def adC (six : Bool) (a b : Nat) : List Value := [.bool six, .int .u64 (a : Int), .int .u64 (b : Int)]
theorem adC_one (six : Bool) (a b : Nat) : ∀ u ∈ adC six a b, u.oneCell' = true := by
  intro u hu
  simp [adC] at hu
  rcases hu with rfl | rfl | rfl <;> rfl
theorem szAd (six : Bool) (a b : Nat) : (Try.prog.info? 26).map (·.size) = some (adC six a b).length := by kernel_rfl
set_option maxHeartbeats 1000000 in
set_option maxRecDepth 100000 in
theorem adrOf16 (a b : Nat) (A : Option Addr) (c : Nat) (w : World) (ha : a < 18446744073709551616) (hb : b < 18446744073709551616) (h : Rb w A 16 c (dig a 8 ++ dig b 8)) : Calls Try.prog 154 #[.slice A 16 c] w (RetV w (.tuple #[.agg (adC true a b).toArray, .int .i64 0])) := by
  obtain ⟨dk, u1, u2⟩ : ∃ d, Try.prog.underlying 26 = some d ∧ d.isRow = true := ⟨_, Try.underlying26, rfl⟩
  have b2 : Bk (w.alloc (.cells #[.bool false, .int .u64 0, .int .u64 0] 26)) w.heap.size 26 (adC false 0 0) := Bk.new w 26 #[.bool false, .int .u64 0, .int .u64 0]
  have be : Below w.heap.size w (w.alloc (.cells #[.bool false, .int .u64 0, .int .u64 0] 26)) := Below.allocS (Below.refl _ _) _
  have hl : (dig a 8 ++ dig b 8).length = 16 := by simp [dig_length]
  have x0 : num (((dig a 8 ++ dig b 8).drop 0).take 8) = a := by have := num_mid [] (dig b 8) a 8 0 rfl (by omega); simpa using this
  have x1 : num (((dig a 8 ++ dig b 8).drop 8).take 8) = b := by have := num_mid (dig a 8) [] b 8 8 (by simp [dig_length]) (by omega); simpa using this
  have HR := Lib.hid (fun W (h : Rb W A 16 c (dig a 8 ++ dig b 8)) => readK A 16 c (dig a 8 ++ dig b 8) W h (by omega))
  generalize dig a 8 ++ dig b 8 = l at *
  replace x0 := Lib.hid x0
  replace x1 := Lib.hid x1
  have hl1 : l.length ≤ 16 := by omega
  have hl2 : 16 ≤ l.length := by omega
  clear hl
  go_enter Try.func154, Try.ntmps154
  go_wp2_with fail
  refine (HR.out _ (h.alloc _)).mono ?_
  rintro e w1 ⟨r, bs1, d1, rfl, rfl, hr1, hR⟩
  replace b2 := b2.later (below_plus _ bs1 d1)
  replace be := belowP be bs1 d1
  have hr2 : w.heap.size < r := by simp at hr1; omega
  generalize plus (w.alloc (.cells #[.bool false, .int .u64 0, .int .u64 0] 26)) bs1 d1 = W at *
  clear hr1
  go_wp2_with fail
  refine (numG W r l 0 a 8 (by omega) hR (by omega) (by omega) x0.out).mono ?_
  rintro e W1 ⟨rfl, hR1, hg1⟩
  replace b2 := b2.grown hg1 (by simp; omega)
  replace be := below_grown be hg1 (by omega)
  clear hg1 hR
  go_wp2_with fail
  refine (numG W1 r l 8 b 8 (by omega) hR1 (by omega) (by omega) x1.out).mono ?_
  rintro e W2 ⟨rfl, hR2, hg2⟩
  replace b2 := b2.grown hg2 (by simp; omega)
  replace be := below_grown be hg2 (by omega)
  clear hg2 hR1
  go_wp2_with fail
  refine (adrV6 a b _).mono ?_
  rintro e w1 ⟨bs3, d3, rfl, rfl⟩
  go_wp2_with (refine at_op (.store 26 (.tmp 2) (.tmp 23)) rfl ?_; refine wpList_stA (t := 26) 26 (.tmp 2) (.tmp 23) rfl rfl (adC true a b) (adC false 0 0) rfl (adC_one _ _ _) rfl rfl (b2.later (below_plus _ _ _)) (szAd _ _ _) ?_; intro W4 h4 g4)
  refine bodyPost_agg2 Try.results154 rfl rfl h4.range u1 u2 (szAd _ _ _) rfl (RetV.mk ?_)
  exact below_grown (belowP be _ _) g4 (by omega)

end Go.Proofs.Ytfmkndemkpecpaa

/- Rows of bytes as one operation of a region that draws its order. -/
namespace Go.Proofs.Ytfmkndemkpecpaa
open Go.RowKit
set_option linter.unusedVariables false

/-- rows of bytes -/
def MP.rdl (L : List (List UInt8)) : MP := ⟨fun v w => ∃ A m c, v = .slice A m c ∧ RdL w A m L, fun _ _ _ ⟨A, m, c, h1, cs, h2, h3, h4, h5⟩ h => ⟨A, m, c, h1, cs, h2, h3, (h4.below h.below).more h.below.size, fun i u hu => by
  obtain ⟨A', n, c, e, l, hl, hr⟩ := h5 i u hu
  exact ⟨A', n, c, e, l, hl, hr.later h.below⟩⟩⟩
inductive Rows_ (w : World) : List Value → List (List UInt8) → Prop
  | nil : Rows_ w [] []
  | cons {v : Value} {l : List UInt8} {vs : List Value} {L : List (List UInt8)} (h : ∃ A n c, v = .slice A n c ∧ Rb w A n c l) (r : Rows_ w vs L) : Rows_ w (v :: vs) (l :: L)
theorem Rows_.len {w : World} {vs : List Value} {L : List (List UInt8)} (h : Rows_ w vs L) : vs.length = L.length := by
  induction h with
  | nil => rfl
  | cons _ _ ih => simp [ih]
theorem Rows_.get {w : World} {vs : List Value} {L : List (List UInt8)} (h : Rows_ w vs L) : ∀ (i : Nat) (u : Value), vs[i]? = some u → ∃ (A' : Option Addr) (n c : Nat), u = Value.slice A' n c ∧ ∃ l, L[i]? = some l ∧ Rb w A' n c l := by
  induction h with
  | nil => intro i u hu; simp at hu
  | cons h _ ih =>
    intro i u hu
    cases i with
    | zero =>
      simp only [List.getElem?_cons_zero, Option.some.injEq] at hu
      subst hu
      obtain ⟨A, n, c, h1, h2⟩ := h
      exact ⟨A, n, c, h1, _, rfl, h2⟩
    | succ i => exact ih i u (by simpa using hu)
theorem RdL.litW {w : World} {k m : Nat} {t : TypeId} (cs : List Value) (L : List (List UInt8)) (hk : k = w.heap.size) (h : Rows_ w cs L) (hm : m = cs.length := by rfl) : RdL (w.alloc (.cells cs.toArray t)) (some ⟨k, 0, none⟩) m L := by
  subst hk hm
  refine ⟨cs, rfl, h.len.symm, .inr ⟨w.heap.size, 0, rfl, by simp, fun i u hu => ?_⟩, fun i u hu => ?_⟩
  · have := (Bk.new w t cs.toArray).cell i
    rw [Nat.zero_add, this]
    simpa using hu
  · obtain ⟨A', n, c, e, l, hl, hr⟩ := h.get i u hu
    exact ⟨A', n, c, e, l, hl, hr.alloc _⟩
end Go.Proofs.Ytfmkndemkpecpaa

/- The pseudo-header: ip6.Pseudo and counterfoilref05.Pseudo. -/
namespace Go.Proofs.Ytfmkndemkpecpaa
open Go.RowKit
set_option linter.unusedVariables false
set_option linter.unusedSimpArgs false
attribute [local go_sem ↓] sliced_cut

attribute [local go_sem] cutA_zero

/-- the bytes of a pseudo-header -/
def psdB (s6 : Bool) (sh sl : Nat) (d6 : Bool) (dh dl pr sz : Nat) : List UInt8 := adrB s6 sh sl ++ adrB d6 dh dl ++ (if s6 then dig sz 4 ++ dig pr 4 else dig pr 2 ++ dig sz 2)
theorem psdB_length (s6 : Bool) (sh sl : Nat) (d6 : Bool) (dh dl pr sz : Nat) : (psdB s6 sh sl d6 dh dl pr sz).length ≤ 40 := by
  have z1 := adrB_length s6 sh sl
  have z2 := adrB_length d6 dh dl
  cases s6 <;> simp [psdB, dig_length] <;> omega
set_option maxHeartbeats 1000000 in
set_option maxRecDepth 100000 in
theorem pseudo_any (s6 : Bool) (sh sl : Nat) (d6 : Bool) (dh dl pr sz : Nat) (w : World) (h1 : sh < 18446744073709551616) (h2 : sl < 18446744073709551616) (h3 : dh < 18446744073709551616) (h4 : dl < 18446744073709551616) (h5 : pr < 256) (h6 : sz < 65536) : Calls Try.prog 179 #[.agg #[.bool s6, .int .u64 (sh : Int), .int .u64 (sl : Int)], .agg #[.bool d6, .int .u64 (dh : Int), .int .u64 (dl : Int)], .int .u8 (pr : Int), .int .i64 (sz : Int)] w (RetF w (psdB s6 sh sl d6 dh dl pr sz)) := by
  have z1 := adrB_length s6 sh sl
  have z2 := adrB_length d6 dh dl
  go_enter Try.func179, Try.ntmps179
  go_wp2
  refine wp_rel 6 33 rfl (by kernel_rfl) (by kernel_rfl) (fun i => match i with | 0 => MP.eq (.agg #[.bool s6, .int .u64 (sh : Int), .int .u64 (sl : Int)]) | 1 => MP.of w.heap.size (adrB s6 sh sl) | 2 => MP.eq (.agg #[.bool d6, .int .u64 (dh : Int), .int .u64 (dl : Int)]) | 3 => MP.of w.heap.size (adrB d6 dh dl) | 4 => MP.rb (adrB s6 sh sl ++ adrB d6 dh dl) | 5 => MP.rb (adrB s6 sh sl ++ adrB d6 dh dl) | _ => MP.any) ?_ ?_
  · intro i hi o ho FA x hO hD K hK
    match i, hi, ho, hO, hD, hK with
    | 0, _, ho, hO, hD, hK => 
      obtain rfl := Option.some.inj ho.symm
      clear ho
      have ev4 : FA.eval (.tmp 4) = .pointer (some ⟨w.heap.size, 0, none⟩) := hO 4 (by kernel_rfl)
      have e4 : FA.tmps[4]?.getD undef = .pointer (some ⟨w.heap.size, 0, none⟩) := by simpa [Act.eval] using ev4
      replace ev4 := Lib.hid ev4
      clear hO hD
      go_simp
      exact hK.out _ _ (Ex.refl _) rfl
    | 1, _, ho, hO, hD, hK => 
      obtain rfl := Option.some.inj ho.symm
      clear ho
      have ev10 : FA.eval (.tmp 10) = .agg #[.bool s6, .int .u64 (sh : Int), .int .u64 (sl : Int)] := hD 0 10 (by kernel_rfl)
      have e10 : FA.tmps[10]?.getD undef = .agg #[.bool s6, .int .u64 (sh : Int), .int .u64 (sl : Int)] := by simpa [Act.eval] using ev10
      replace ev10 := Lib.hid ev10
      clear hO hD
      go_simp
      refine (adrBytes_any s6 sh sl _ h1 h2).mono ?_
      rintro e w1 ⟨A2, n2, bs2, d2, rfl, rfl, ho2⟩
      exact hK.out _ _ (Ex.plus_ _ _ _) ⟨_, _, rfl, ho2.mono (base' := w.heap.size) (by simp [size_plus]; omega)⟩
    | 2, _, ho, hO, hD, hK => 
      obtain rfl := Option.some.inj ho.symm
      clear ho
      have ev5 : FA.eval (.tmp 5) = .pointer (some ⟨w.heap.size + 1, 0, none⟩) := hO 5 (by kernel_rfl)
      have e5 : FA.tmps[5]?.getD undef = .pointer (some ⟨w.heap.size + 1, 0, none⟩) := by simpa [Act.eval] using ev5
      replace ev5 := Lib.hid ev5
      clear hO hD
      go_simp
      exact hK.out _ _ (Ex.refl _) rfl
    | 3, _, ho, hO, hD, hK => 
      obtain rfl := Option.some.inj ho.symm
      clear ho
      have ev12 : FA.eval (.tmp 12) = .agg #[.bool d6, .int .u64 (dh : Int), .int .u64 (dl : Int)] := hD 2 12 (by kernel_rfl)
      have e12 : FA.tmps[12]?.getD undef = .agg #[.bool d6, .int .u64 (dh : Int), .int .u64 (dl : Int)] := by simpa [Act.eval] using ev12
      replace ev12 := Lib.hid ev12
      clear hO hD
      go_simp
      refine (adrBytes_any d6 dh dl _ h3 h4).mono ?_
      rintro e w1 ⟨A2, n2, bs2, d2, rfl, rfl, ho2⟩
      exact hK.out _ _ (Ex.plus_ _ _ _) ⟨_, _, rfl, ho2.mono (base' := w.heap.size) (by simp [size_plus]; omega)⟩
    | 4, _, ho, hO, hD, hK => 
      obtain rfl := Option.some.inj ho.symm
      clear ho
      have f11 := hD 1 11 (by kernel_rfl)
      generalize eu11 : FA.eval (.tmp 11) = u11 at f11
      have e11 : FA.tmps[11]?.getD undef = u11 := by rw [← eu11]; simp [Act.eval]
      have ev11 := Lib.hid eu11
      clear eu11
      have f13 := hD 3 13 (by kernel_rfl)
      generalize eu13 : FA.eval (.tmp 13) = u13 at f13
      have e13 : FA.tmps[13]?.getD undef = u13 := by rw [← eu13]; simp [Act.eval]
      have ev13 := Lib.hid eu13
      clear eu13
      clear hO hD
      obtain ⟨A1, n1, rfl, hr1⟩ := f11
      obtain ⟨A2, n2, rfl, hr2⟩ := f13
      have hn1 : n1 ≤ 100 := by rw [← hr1.1]; omega
      have hn2 : n2 ≤ 100 := by rw [← hr2.1]; omega
      refine wanted_if rfl ?_
      refine rel_app bt (.tmp 11) (.tmp 13) rfl ev11.out hr1.rb ev13.out hr2.rb (by omega) ?_
      intro A3 n3 c3 w3 hex hr3
      exact hK.out _ _ hex ⟨_, _, _, rfl, hr3⟩
    | 5, _, ho, hO, hD, hK => 
      obtain rfl := Option.some.inj ho.symm
      clear ho
      have f14 := hD 4 14 (by kernel_rfl)
      generalize eu14 : FA.eval (.tmp 14) = u14 at f14
      have e14 : FA.tmps[14]?.getD undef = u14 := by rw [← eu14]; simp [Act.eval]
      have ev14 := Lib.hid eu14
      clear eu14
      clear hO hD
      go_simp
      exact hK.out _ _ (Ex.refl _) f14
    | (k + 6), hi, _, _, _, _ => exact absurd hi (by omega)
  intro vs x hp
  have p0 : vs 0 = .agg #[.bool s6, .int .u64 (sh : Int), .int .u64 (sl : Int)] := hp 0 (by omega)
  have p1 := hp 1 (by omega)
  have p2 : vs 2 = .agg #[.bool d6, .int .u64 (dh : Int), .int .u64 (dl : Int)] := hp 2 (by omega)
  have p3 := hp 3 (by omega)
  have p4 := hp 4 (by omega)
  have p5 := hp 5 (by omega)
  clear hp
  simp only [List.take_succ_cons, List.take_zero, List.drop_succ_cons, List.drop_zero, putAll, Nat.zero_add, Nat.reduceAdd, Act.put, List.setIfInBounds_toArray, List.set_cons_zero, List.set_cons_succ, p0, p2]
  clear p0 p2
  generalize vs 1 = y1 at *
  generalize vs 3 = y3 at *
  generalize vs 4 = y4 at *
  generalize vs 5 = y5 at *
  clear vs
  obtain ⟨A5, n5, c5, rfl, hr5⟩ := p5
  have l5 : n5 ≤ 100 := by rw [← hr5.1]; simp; omega
  cases s6
  · go_wp2_with fail
    refine (put_full _ _ _ _ pr 2 _ hr5 (by omega) (by omega) (by omega) (by omega)).mono ?_
    rintro e w1 ⟨A6, n6, bs6, m6, rfl, rfl, ho6⟩
    have l6 : n6 ≤ 200 := by rw [← ho6.1]; simp [dig_length]; omega
    go_wp2_with fail
    refine (put_full _ _ _ _ sz 2 _ ho6.rb (by omega) (by omega) (by omega) (by omega)).mono ?_
    rintro e w1 ⟨A7, n7, bs7, m7, rfl, rfl, ho7⟩
    go_wp2
    go_ret
    refine RetF.mk ?_ (belowP (belowP (belowP (Below.allocS (Below.allocS (Below.refl _ _) _) _) _ _) _ _) _ _)
    have := ho7.mono (base' := w.heap.size) (by simp [size_plus]; omega)
    simpa [psdB, List.append_assoc] using this
  · go_wp2_with fail
    refine (put_full _ _ _ _ sz 4 _ hr5 (by omega) (by omega) (by omega) (by omega)).mono ?_
    rintro e w1 ⟨A6, n6, bs6, m6, rfl, rfl, ho6⟩
    have l6 : n6 ≤ 200 := by rw [← ho6.1]; simp [dig_length]; omega
    go_wp2_with fail
    refine (put_full _ _ _ _ pr 4 _ ho6.rb (by omega) (by omega) (by omega) (by omega)).mono ?_
    rintro e w1 ⟨A7, n7, bs7, m7, rfl, rfl, ho7⟩
    go_wp2
    go_ret
    refine RetF.mk ?_ (belowP (belowP (belowP (Below.allocS (Below.allocS (Below.refl _ _) _) _) _ _) _ _) _ _)
    have := ho7.mono (base' := w.heap.size) (by simp [size_plus]; omega)
    simpa [psdB, List.append_assoc] using this
theorem dig2 (x : Nat) (h : x < 65536) : dig x 2 = [UInt8.ofNat (x / 256), UInt8.ofNat (x % 256)] := by
  simp [dig, Nat.mod_eq_of_lt (show x / 256 < 256 by omega)]
theorem tail4 (pr sz : Nat) (h5 : pr < 256) (h6 : sz < 65536) : [UInt8.ofNat 0, UInt8.ofNat pr, UInt8.ofNat (sz / 256), UInt8.ofNat (sz % 256)] = dig pr 2 ++ dig sz 2 := by
  rw [dig2 sz h6, dig2 pr (by omega), Nat.div_eq_of_lt h5, Nat.mod_eq_of_lt h5]
  rfl
theorem tail6 (pr sz : Nat) (h5 : pr < 256) : [dig sz 4, [UInt8.ofNat 0, UInt8.ofNat 0, UInt8.ofNat 0, UInt8.ofNat pr]].flatten = dig sz 4 ++ dig pr 4 := by
  have : dig pr 4 = [UInt8.ofNat 0, UInt8.ofNat 0, UInt8.ofNat 0, UInt8.ofNat pr] := by
    simp [dig, Nat.mod_eq_of_lt h5, Nat.div_eq_of_lt h5, Nat.div_eq_of_lt (show pr < 65536 by omega), Nat.div_eq_of_lt (show pr < 16777216 by omega)]
  rw [this]
  simp
set_option maxHeartbeats 4000000 in
set_option maxRecDepth 100000 in
theorem refPseudo_any (s6 : Bool) (sh sl : Nat) (d6 : Bool) (dh dl pr sz : Nat) (w : World) (h1 : sh < 18446744073709551616) (h2 : sl < 18446744073709551616) (h3 : dh < 18446744073709551616) (h4 : dl < 18446744073709551616) (h5 : pr < 256) (h6 : sz < 65536) : Calls Try.prog 120 #[.agg #[.bool s6, .int .u64 (sh : Int), .int .u64 (sl : Int)], .agg #[.bool d6, .int .u64 (dh : Int), .int .u64 (dl : Int)], .int .u8 (pr : Int), .int .i64 (sz : Int)] w (RetB w (psdB s6 sh sl d6 dh dl pr sz)) := by
  have z1 := adrB_length s6 sh sl
  have z2 := adrB_length d6 dh dl
  have hb0 : Bk ((w.alloc (.cells #[.bool s6, .int .u64 (sh : Int), .int .u64 (sl : Int)] 26)).alloc (.cells #[.bool d6, .int .u64 (dh : Int), .int .u64 (dl : Int)] 26)) w.heap.size 26 [.bool s6, .int .u64 (sh : Int), .int .u64 (sl : Int)] := (Bk.new w 26 _).alloc _
  have hb1 : Bk ((w.alloc (.cells #[.bool s6, .int .u64 (sh : Int), .int .u64 (sl : Int)] 26)).alloc (.cells #[.bool d6, .int .u64 (dh : Int), .int .u64 (dl : Int)] 26)) (w.heap.size + 1) 26 [.bool d6, .int .u64 (dh : Int), .int .u64 (dl : Int)] := Bk.newK _ _ _ (by simp) rfl
  have be0 : Below w.heap.size w ((w.alloc (.cells #[.bool s6, .int .u64 (sh : Int), .int .u64 (sl : Int)] 26)).alloc (.cells #[.bool d6, .int .u64 (dh : Int), .int .u64 (dl : Int)] 26)) := Below.allocS (Below.allocS (Below.refl _ _) _) _
  obtain ⟨qh, hqh⟩ : ∃ q, q = sz / 256 := ⟨_, rfl⟩
  obtain ⟨ql, hql⟩ : ∃ q, q = sz % 256 := ⟨_, rfl⟩
  have lqh : qh < 256 := by omega
  have lql : ql < 256 := by omega
  have f0 : (sz : Int) / 256 = (qh : Int) := by omega
  have f1 : (sz : Int) % 256 = (ql : Int) := by omega
  have HT : Hid (([adrB s6 sh sl, adrB d6 dh dl, [UInt8.ofNat 0, UInt8.ofNat pr, UInt8.ofNat qh, UInt8.ofNat ql]] : List (List UInt8)).flatten.length ≤ 549755813888) := Lib.hid (by simp; omega)
  have HT2 : Hid (([adrB s6 sh sl, adrB d6 dh dl, dig sz 4 ++ dig pr 4] : List (List UInt8)).flatten.length ≤ 549755813888) := Lib.hid (by simp [dig_length]; omega)
  have HQ := Lib.hid hqh
  have HR := Lib.hid hql
  clear hqh hql
  go_enter Try.func120, Try.ntmps120
  obtain ⟨dk, u1, u2⟩ : ∃ d, Try.prog.underlying 26 = some d ∧ d.isRow = true := ⟨_, Try.underlying26, rfl⟩
  cases s6
  · go_upto_region 4 with (fail)
    have b0 : Bk (((w.alloc (.cells #[.bool false, .int .u64 (sh : Int), .int .u64 (sl : Int)] 26)).alloc (.cells #[.bool d6, .int .u64 (dh : Int), .int .u64 (dl : Int)] 26)).alloc (.cells #[.int .u8 0, .int .u8 (pr : Int), .int .u8 (qh : Int), .int .u8 (ql : Int)] 5)) w.heap.size 26 (adC false sh sl) := hb0.alloc _
    have b1 : Bk (((w.alloc (.cells #[.bool false, .int .u64 (sh : Int), .int .u64 (sl : Int)] 26)).alloc (.cells #[.bool d6, .int .u64 (dh : Int), .int .u64 (dl : Int)] 26)).alloc (.cells #[.int .u8 0, .int .u8 (pr : Int), .int .u8 (qh : Int), .int .u8 (ql : Int)] 5)) (w.heap.size + 1) 26 (adC d6 dh dl) := hb1.alloc _
    have be : Below w.heap.size w (((w.alloc (.cells #[.bool false, .int .u64 (sh : Int), .int .u64 (sl : Int)] 26)).alloc (.cells #[.bool d6, .int .u64 (dh : Int), .int .u64 (dl : Int)] 26)).alloc (.cells #[.int .u8 0, .int .u8 (pr : Int), .int .u8 (qh : Int), .int .u8 (ql : Int)] 5)) := Below.allocS be0 _
    have h9 : Rb (((w.alloc (.cells #[.bool false, .int .u64 (sh : Int), .int .u64 (sl : Int)] 26)).alloc (.cells #[.bool d6, .int .u64 (dh : Int), .int .u64 (dl : Int)] 26)).alloc (.cells #[.int .u8 0, .int .u8 (pr : Int), .int .u8 (qh : Int), .int .u8 (ql : Int)] 5)) (some ⟨w.heap.size + 1 + 1, 0, none⟩) 4 4 [UInt8.ofNat 0, UInt8.ofNat pr, UInt8.ofNat qh, UInt8.ofNat ql] := Rb.litW _ _ (by simp) rfl (by decide) (by simp [bcs]; omega)
    refine wp_rel 8 34 rfl (by kernel_rfl) (by kernel_rfl) (fun i => match i with | 0 => MP.eq (.agg (adC false sh sl).toArray) | 1 => MP.ob w.heap.size (adrB false sh sl) | 2 => MP.eq (.agg (adC d6 dh dl).toArray) | 3 => MP.ob w.heap.size (adrB d6 dh dl) | 4 => MP.eq (.slice (some ⟨w.heap.size + 1 + 1, 0, none⟩) 4 4) | 5 => MP.rdl [(adrB false sh sl), (adrB d6 dh dl), [UInt8.ofNat 0, UInt8.ofNat pr, UInt8.ofNat qh, UInt8.ofNat ql]] | 6 => MP.ob w.heap.size ([(adrB false sh sl), (adrB d6 dh dl), [UInt8.ofNat 0, UInt8.ofNat pr, UInt8.ofNat qh, UInt8.ofNat ql]]).flatten | 7 => MP.ob w.heap.size ([(adrB false sh sl), (adrB d6 dh dl), [UInt8.ofNat 0, UInt8.ofNat pr, UInt8.ofNat qh, UInt8.ofNat ql]]).flatten | _ => MP.any) ?_ ?_
    · intro i hi o ho FA x hO hD K hK
      match i, hi, ho, hO, hD, hK with
      | 0, _, ho, hO, hD, hK => 
        obtain rfl := Option.some.inj ho.symm
        clear ho
        have ev4 : FA.eval (.tmp 4) = .pointer (some ⟨w.heap.size, 0, none⟩) := hO 4 (by kernel_rfl)
        have e4 : FA.tmps[4]?.getD undef = .pointer (some ⟨w.heap.size, 0, none⟩) := by simpa [Act.eval] using ev4
        replace ev4 := Lib.hid ev4
        clear hO hD
        refine wanted_ifG (by go_simp) ?_
        refine wp_load_mid 26 (.tmp 4) rfl w.heap.size 0 ev4.out (adC false sh sl) _ (Bk.range (b0.later (below_plus _ _ _))) u1 u2 (szAd _ _ _) ?_
        exact hK.out _ _ (Ex.refl _) rfl
      | 1, _, ho, hO, hD, hK => 
        obtain rfl := Option.some.inj ho.symm
        clear ho
        have ev27 : FA.eval (.tmp 27) = .agg (adC false sh sl).toArray := hD 0 27 (by kernel_rfl)
        have e27 : FA.tmps[27]?.getD undef = .agg (adC false sh sl).toArray := by simpa [Act.eval] using ev27
        replace ev27 := Lib.hid ev27
        clear hO hD
        go_simp
        refine (refAdrBytes false sh sl _ (by omega) (by omega)).mono ?_
        rintro e w1 ⟨A2, n2, c2, bs2, d2, rfl, rfl, ho2⟩
        exact hK.out _ _ (Ex.plus_ _ _ _) ⟨_, _, _, rfl, ho2.mono (by have := be.size; simp [size_plus]; omega)⟩
      | 2, _, ho, hO, hD, hK => 
        obtain rfl := Option.some.inj ho.symm
        clear ho
        have ev5 : FA.eval (.tmp 5) = .pointer (some ⟨w.heap.size + 1, 0, none⟩) := hO 5 (by kernel_rfl)
        have e5 : FA.tmps[5]?.getD undef = .pointer (some ⟨w.heap.size + 1, 0, none⟩) := by simpa [Act.eval] using ev5
        replace ev5 := Lib.hid ev5
        clear hO hD
        refine wanted_ifG (by go_simp) ?_
        refine wp_load_mid 26 (.tmp 5) rfl (w.heap.size + 1) 0 ev5.out (adC d6 dh dl) _ (Bk.range (b1.later (below_plus _ _ _))) u1 u2 (szAd _ _ _) ?_
        exact hK.out _ _ (Ex.refl _) rfl
      | 3, _, ho, hO, hD, hK => 
        obtain rfl := Option.some.inj ho.symm
        clear ho
        have ev29 : FA.eval (.tmp 29) = .agg (adC d6 dh dl).toArray := hD 2 29 (by kernel_rfl)
        have e29 : FA.tmps[29]?.getD undef = .agg (adC d6 dh dl).toArray := by simpa [Act.eval] using ev29
        replace ev29 := Lib.hid ev29
        clear hO hD
        go_simp
        refine (refAdrBytes d6 dh dl _ (by omega) (by omega)).mono ?_
        rintro e w1 ⟨A2, n2, c2, bs2, d2, rfl, rfl, ho2⟩
        exact hK.out _ _ (Ex.plus_ _ _ _) ⟨_, _, _, rfl, ho2.mono (by have := be.size; simp [size_plus]; omega)⟩
      | 4, _, ho, hO, hD, hK => 
        obtain rfl := Option.some.inj ho.symm
        clear ho
        have ev9 : FA.eval (.tmp 9) = .slice (some ⟨w.heap.size + 1 + 1, 0, none⟩) 4 4 := hO 9 (by kernel_rfl)
        have e9 : FA.tmps[9]?.getD undef = .slice (some ⟨w.heap.size + 1 + 1, 0, none⟩) 4 4 := by simpa [Act.eval] using ev9
        replace ev9 := Lib.hid ev9
        clear hO hD
        go_simp
        exact hK.out _ _ (Ex.refl _) rfl
      | 5, _, ho, hO, hD, hK => 
        obtain rfl := Option.some.inj ho.symm
        clear ho
        have f28 := hD 1 28 (by kernel_rfl)
        generalize eu28 : FA.eval (.tmp 28) = u28 at f28
        have e28 : FA.tmps[28]?.getD undef = u28 := by rw [← eu28]; simp [Act.eval]
        have ev28 := Lib.hid eu28
        clear eu28
        have f30 := hD 3 30 (by kernel_rfl)
        generalize eu30 : FA.eval (.tmp 30) = u30 at f30
        have e30 : FA.tmps[30]?.getD undef = u30 := by rw [← eu30]; simp [Act.eval]
        have ev30 := Lib.hid eu30
        clear eu30
        have ev31 : FA.eval (.tmp 31) = .slice (some ⟨w.heap.size + 1 + 1, 0, none⟩) 4 4 := hD 4 31 (by kernel_rfl)
        have e31 : FA.tmps[31]?.getD undef = .slice (some ⟨w.heap.size + 1 + 1, 0, none⟩) 4 4 := by simpa [Act.eval] using ev31
        replace ev31 := Lib.hid ev31
        clear hO hD
        obtain ⟨A28, n28, c28, rfl, h28⟩ := f28
        obtain ⟨A30, n30, c30, rfl, h30⟩ := f30
        go_simp
        refine hK.out _ _ (Ex.alloc _ _) ⟨_, _, _, rfl, ?_⟩
        refine RdL.litW _ _ ?_ ?_
        · simp [size_plus]
        · exact .cons ⟨_, _, _, rfl, h28.rb⟩ (.cons ⟨_, _, _, rfl, h30.rb⟩ (.cons ⟨_, _, _, rfl, h9.plus_ _ _⟩ (.nil)))
      | 6, _, ho, hO, hD, hK => 
        obtain rfl := Option.some.inj ho.symm
        clear ho
        have f32 := hD 5 32 (by kernel_rfl)
        generalize eu32 : FA.eval (.tmp 32) = u32 at f32
        have e32 : FA.tmps[32]?.getD undef = u32 := by rw [← eu32]; simp [Act.eval]
        have ev32 := Lib.hid eu32
        clear eu32
        clear hO hD
        obtain ⟨A1, m1, c1, rfl, hl1⟩ := f32
        have hm1 : m1 ≤ 100 := by obtain ⟨_, _, h2, _⟩ := hl1; simp only [List.length_cons, List.length_nil] at h2; omega
        go_simp
        refine (refJoin_any A1 m1 c1 _ _ hl1 (by omega) HT.out).mono ?_
        rintro e w1 ⟨A2, n2, c2, bs2, d2, rfl, rfl, ho2⟩
        exact hK.out _ _ (Ex.plus_ _ _ _) ⟨_, _, _, rfl, ho2.mono (by simp [size_plus]; omega)⟩
      | 7, _, ho, hO, hD, hK => 
        obtain rfl := Option.some.inj ho.symm
        clear ho
        have f33 := hD 6 33 (by kernel_rfl)
        generalize eu33 : FA.eval (.tmp 33) = u33 at f33
        have e33 : FA.tmps[33]?.getD undef = u33 := by rw [← eu33]; simp [Act.eval]
        have ev33 := Lib.hid eu33
        clear eu33
        clear hO hD
        go_simp
        exact hK.out _ _ (Ex.refl _) f33
      | (k + 8), hi, _, _, _, _ => exact absurd hi (by omega)
    intro vs x hp
    have p0 : vs 0 = .agg (adC false sh sl).toArray := hp 0 (by omega)
    have p1 := hp 1 (by omega)
    have p2 : vs 2 = .agg (adC d6 dh dl).toArray := hp 2 (by omega)
    have p3 := hp 3 (by omega)
    have p4 : vs 4 = .slice (some ⟨w.heap.size + 1 + 1, 0, none⟩) 4 4 := hp 4 (by omega)
    have p5 := hp 5 (by omega)
    have p6 := hp 6 (by omega)
    have p7 := hp 7 (by omega)
    clear hp
    simp only [List.take_succ_cons, List.take_zero, List.drop_succ_cons, List.drop_zero, putAll, Nat.zero_add, Nat.reduceAdd, Act.put, List.setIfInBounds_toArray, List.set_cons_zero, List.set_cons_succ, p0, p2, p4]
    clear p0 p2 p4
    generalize vs 1 = y1 at *
    generalize vs 3 = y3 at *
    generalize vs 5 = y5 at *
    generalize vs 6 = y6 at *
    generalize vs 7 = y7 at *
    clear vs
    obtain ⟨A10, n10, c10, rfl, h10⟩ := p7
    rw [show [adrB false sh sl, adrB d6 dh dl, [UInt8.ofNat 0, UInt8.ofNat pr, UInt8.ofNat qh, UInt8.ofNat ql]].flatten = psdB false sh sl d6 dh dl pr sz from by rw [HQ.out, HR.out, tail4 pr sz h5 h6]; simp [psdB]] at h10
    go_wp2
    go_ret
    exact RetB.mk h10 (belowP be _ _)

  · go_wp2_with fail
    refine (refBytes_any sz 4 _ (by omega) (by omega)).mono ?_
    rintro e w1 ⟨A2, n2, c2, bs2, d2, rfl, rfl, ho2⟩
    go_wp2_with fail
    refine (refJoin_any _ 2 _ [dig sz 4, [UInt8.ofNat 0, UInt8.ofNat 0, UInt8.ofNat 0, UInt8.ofNat pr]] _ (RdL.litW [.slice A2 n2 c2, .slice (some ⟨w.heap.size + 1 + 1 + 1 + bs2.length, 0, none⟩) 4 4] _ (by simp [size_plus]) (.cons ⟨_, _, _, rfl, ho2.rb.alloc _⟩ (.cons ⟨_, _, _, rfl, Rb.litW _ _ (by simp [size_plus]) rfl (by decide) (by simp [bcs]; omega)⟩ .nil))) (by omega) (by simp [dig_length])).mono ?_
    rintro e w1 ⟨A9, n9, c9, bs9, d9, rfl, rfl, ho9⟩
    go_upto_region 4 with (fail)
    refine gen_world (fun W => Bk W w.heap.size 26 (adC true sh sl) ∧ Bk W (w.heap.size + 1) 26 (adC d6 dh dl) ∧ Below w.heap.size w W ∧ Rb W A9 n9 c9 (dig sz 4 ++ dig pr 4)) ⟨((((hb0.alloc _).later (below_plus _ _ _)).alloc _).alloc _).later (below_plus _ _ _), ((((hb1.alloc _).later (below_plus _ _ _)).alloc _).alloc _).later (below_plus _ _ _), belowP (Below.allocS (Below.allocS (belowP (Below.allocS be0 _) _ _) _) _) _ _, by rw [← tail6 pr sz h5]; exact ho9.rb⟩ ?_
    rintro W ⟨b0, b1, be, h9⟩
    have hws := be.size
    refine wp_rel 8 34 rfl (by kernel_rfl) (by kernel_rfl) (fun i => match i with | 0 => MP.eq (.agg (adC true sh sl).toArray) | 1 => MP.ob w.heap.size (adrB true sh sl) | 2 => MP.eq (.agg (adC d6 dh dl).toArray) | 3 => MP.ob w.heap.size (adrB d6 dh dl) | 4 => MP.eq (.slice A9 n9 c9) | 5 => MP.rdl [(adrB true sh sl), (adrB d6 dh dl), (dig sz 4 ++ dig pr 4)] | 6 => MP.ob w.heap.size ([(adrB true sh sl), (adrB d6 dh dl), (dig sz 4 ++ dig pr 4)]).flatten | 7 => MP.ob w.heap.size ([(adrB true sh sl), (adrB d6 dh dl), (dig sz 4 ++ dig pr 4)]).flatten | _ => MP.any) ?_ ?_
    · intro i hi o ho FA x hO hD K hK
      match i, hi, ho, hO, hD, hK with
      | 0, _, ho, hO, hD, hK => 
        obtain rfl := Option.some.inj ho.symm
        clear ho
        have ev4 : FA.eval (.tmp 4) = .pointer (some ⟨w.heap.size, 0, none⟩) := hO 4 (by kernel_rfl)
        have e4 : FA.tmps[4]?.getD undef = .pointer (some ⟨w.heap.size, 0, none⟩) := by simpa [Act.eval] using ev4
        replace ev4 := Lib.hid ev4
        clear hO hD
        refine wanted_ifG (by go_simp) ?_
        refine wp_load_mid 26 (.tmp 4) rfl w.heap.size 0 ev4.out (adC true sh sl) _ (Bk.range (b0.later (below_plus _ _ _))) u1 u2 (szAd _ _ _) ?_
        exact hK.out _ _ (Ex.refl _) rfl
      | 1, _, ho, hO, hD, hK => 
        obtain rfl := Option.some.inj ho.symm
        clear ho
        have ev27 : FA.eval (.tmp 27) = .agg (adC true sh sl).toArray := hD 0 27 (by kernel_rfl)
        have e27 : FA.tmps[27]?.getD undef = .agg (adC true sh sl).toArray := by simpa [Act.eval] using ev27
        replace ev27 := Lib.hid ev27
        clear hO hD
        go_simp
        refine (refAdrBytes true sh sl _ (by omega) (by omega)).mono ?_
        rintro e w1 ⟨A2, n2, c2, bs2, d2, rfl, rfl, ho2⟩
        exact hK.out _ _ (Ex.plus_ _ _ _) ⟨_, _, _, rfl, ho2.mono (by have := be.size; simp [size_plus]; omega)⟩
      | 2, _, ho, hO, hD, hK => 
        obtain rfl := Option.some.inj ho.symm
        clear ho
        have ev5 : FA.eval (.tmp 5) = .pointer (some ⟨w.heap.size + 1, 0, none⟩) := hO 5 (by kernel_rfl)
        have e5 : FA.tmps[5]?.getD undef = .pointer (some ⟨w.heap.size + 1, 0, none⟩) := by simpa [Act.eval] using ev5
        replace ev5 := Lib.hid ev5
        clear hO hD
        refine wanted_ifG (by go_simp) ?_
        refine wp_load_mid 26 (.tmp 5) rfl (w.heap.size + 1) 0 ev5.out (adC d6 dh dl) _ (Bk.range (b1.later (below_plus _ _ _))) u1 u2 (szAd _ _ _) ?_
        exact hK.out _ _ (Ex.refl _) rfl
      | 3, _, ho, hO, hD, hK => 
        obtain rfl := Option.some.inj ho.symm
        clear ho
        have ev29 : FA.eval (.tmp 29) = .agg (adC d6 dh dl).toArray := hD 2 29 (by kernel_rfl)
        have e29 : FA.tmps[29]?.getD undef = .agg (adC d6 dh dl).toArray := by simpa [Act.eval] using ev29
        replace ev29 := Lib.hid ev29
        clear hO hD
        go_simp
        refine (refAdrBytes d6 dh dl _ (by omega) (by omega)).mono ?_
        rintro e w1 ⟨A2, n2, c2, bs2, d2, rfl, rfl, ho2⟩
        exact hK.out _ _ (Ex.plus_ _ _ _) ⟨_, _, _, rfl, ho2.mono (by have := be.size; simp [size_plus]; omega)⟩
      | 4, _, ho, hO, hD, hK => 
        obtain rfl := Option.some.inj ho.symm
        clear ho
        have ev9 : FA.eval (.tmp 9) = .slice A9 n9 c9 := hO 9 (by kernel_rfl)
        have e9 : FA.tmps[9]?.getD undef = .slice A9 n9 c9 := by simpa [Act.eval] using ev9
        replace ev9 := Lib.hid ev9
        clear hO hD
        go_simp
        exact hK.out _ _ (Ex.refl _) rfl
      | 5, _, ho, hO, hD, hK => 
        obtain rfl := Option.some.inj ho.symm
        clear ho
        have f28 := hD 1 28 (by kernel_rfl)
        generalize eu28 : FA.eval (.tmp 28) = u28 at f28
        have e28 : FA.tmps[28]?.getD undef = u28 := by rw [← eu28]; simp [Act.eval]
        have ev28 := Lib.hid eu28
        clear eu28
        have f30 := hD 3 30 (by kernel_rfl)
        generalize eu30 : FA.eval (.tmp 30) = u30 at f30
        have e30 : FA.tmps[30]?.getD undef = u30 := by rw [← eu30]; simp [Act.eval]
        have ev30 := Lib.hid eu30
        clear eu30
        have ev31 : FA.eval (.tmp 31) = .slice A9 n9 c9 := hD 4 31 (by kernel_rfl)
        have e31 : FA.tmps[31]?.getD undef = .slice A9 n9 c9 := by simpa [Act.eval] using ev31
        replace ev31 := Lib.hid ev31
        clear hO hD
        obtain ⟨A28, n28, c28, rfl, h28⟩ := f28
        obtain ⟨A30, n30, c30, rfl, h30⟩ := f30
        go_simp
        refine hK.out _ _ (Ex.alloc _ _) ⟨_, _, _, rfl, ?_⟩
        refine RdL.litW _ _ ?_ ?_
        · simp [size_plus]
        · exact .cons ⟨_, _, _, rfl, h28.rb⟩ (.cons ⟨_, _, _, rfl, h30.rb⟩ (.cons ⟨_, _, _, rfl, h9.plus_ _ _⟩ (.nil)))
      | 6, _, ho, hO, hD, hK => 
        obtain rfl := Option.some.inj ho.symm
        clear ho
        have f32 := hD 5 32 (by kernel_rfl)
        generalize eu32 : FA.eval (.tmp 32) = u32 at f32
        have e32 : FA.tmps[32]?.getD undef = u32 := by rw [← eu32]; simp [Act.eval]
        have ev32 := Lib.hid eu32
        clear eu32
        clear hO hD
        obtain ⟨A1, m1, c1, rfl, hl1⟩ := f32
        have hm1 : m1 ≤ 100 := by obtain ⟨_, _, h2, _⟩ := hl1; simp only [List.length_cons, List.length_nil] at h2; omega
        go_simp
        refine (refJoin_any A1 m1 c1 _ _ hl1 (by omega) HT2.out).mono ?_
        rintro e w1 ⟨A2, n2, c2, bs2, d2, rfl, rfl, ho2⟩
        exact hK.out _ _ (Ex.plus_ _ _ _) ⟨_, _, _, rfl, ho2.mono (by simp [size_plus]; omega)⟩
      | 7, _, ho, hO, hD, hK => 
        obtain rfl := Option.some.inj ho.symm
        clear ho
        have f33 := hD 6 33 (by kernel_rfl)
        generalize eu33 : FA.eval (.tmp 33) = u33 at f33
        have e33 : FA.tmps[33]?.getD undef = u33 := by rw [← eu33]; simp [Act.eval]
        have ev33 := Lib.hid eu33
        clear eu33
        clear hO hD
        go_simp
        exact hK.out _ _ (Ex.refl _) f33
      | (k + 8), hi, _, _, _, _ => exact absurd hi (by omega)
    intro vs x hp
    have p0 : vs 0 = .agg (adC true sh sl).toArray := hp 0 (by omega)
    have p1 := hp 1 (by omega)
    have p2 : vs 2 = .agg (adC d6 dh dl).toArray := hp 2 (by omega)
    have p3 := hp 3 (by omega)
    have p4 : vs 4 = .slice A9 n9 c9 := hp 4 (by omega)
    have p5 := hp 5 (by omega)
    have p6 := hp 6 (by omega)
    have p7 := hp 7 (by omega)
    clear hp
    simp only [List.take_succ_cons, List.take_zero, List.drop_succ_cons, List.drop_zero, putAll, Nat.zero_add, Nat.reduceAdd, Act.put, List.setIfInBounds_toArray, List.set_cons_zero, List.set_cons_succ, p0, p2, p4]
    clear p0 p2 p4
    generalize vs 1 = y1 at *
    generalize vs 3 = y3 at *
    generalize vs 5 = y5 at *
    generalize vs 6 = y6 at *
    generalize vs 7 = y7 at *
    clear vs
    obtain ⟨A10, n10, c10, rfl, h10⟩ := p7
    rw [show [adrB true sh sl, adrB d6 dh dl, (dig sz 4 ++ dig pr 4)].flatten = psdB true sh sl d6 dh dl pr sz from by simp [psdB]] at h10
    go_wp2
    go_ret
    exact RetB.mk h10 (belowP be _ _)

end Go.Proofs.Ytfmkndemkpecpaa

/- The Internet checksum: sum.fold, sum.Of, sum.Right, and the reference. -/
namespace Go.Proofs.Ytfmkndemkpecpaa
open Go.RowKit
set_option linter.unusedVariables false
set_option linter.unusedSimpArgs false
attribute [local go_sem ↓] sliced_cut

attribute [local go_sem] cutA_zero

/-- the sum of the words of bytes; low: the first byte is a low one -/
def tot : Bool → List UInt8 → Nat
  | _, [] => 0
  | low, b :: r => (if low then b.toNat else b.toNat * 256) + tot (!low) r
/-- folded -/
def fd (n : Nat) : Nat := if n = 0 then 0 else (n - 1) % 65535 + 1
theorem fd_le (n : Nat) : fd n ≤ 65535 := by
  unfold fd
  split
  · omega
  · have := Nat.mod_lt (n - 1) (show 65535 > 0 by decide)
    omega
theorem fd_small (n : Nat) (h : n ≤ 65535) : fd n = n := by
  unfold fd
  split
  · omega
  · rw [Nat.mod_eq_of_lt (by omega)]
    omega
theorem fd_step (n : Nat) (h : 65535 < n) : fd (n % 65536 + n / 65536) = fd n := by
  unfold fd
  rw [if_neg (by omega), if_neg (by omega)]
  omega
theorem fd_add (a b : Nat) : fd (fd a + b) = fd (a + b) := by
  unfold fd
  by_cases ha : a = 0
  · subst ha; simp
  · rw [if_neg ha, if_neg (by omega), if_neg (by omega)]
    omega
theorem fd_plus (a b : Nat) (ha : a ≤ 65535) (hb : b ≤ 65535) : fd (a + b) = if 65535 < a + b then a + b - 65535 else a + b := by
  split
  · unfold fd
    rw [if_neg (by omega)]
    omega
  · exact fd_small _ (by omega)
theorem tot_append (low : Bool) (a b : List UInt8) : tot low (a ++ b) = tot low a + tot (if a.length % 2 = 0 then low else !low) b := by
  induction a generalizing low with
  | nil => simp [tot]
  | cons x r ih =>
    simp only [List.cons_append, tot, ih]
    have : (if r.length % 2 = 0 then !low else !!low) = (if (x :: r).length % 2 = 0 then low else !low) := by
      simp only [List.length_cons]
      by_cases h : r.length % 2 = 0
      · rw [if_pos h, if_neg (by omega)]
      · rw [if_neg h, if_pos (by omega)]
        simp
    rw [this]
    omega
theorem tot_le (low : Bool) (l : List UInt8) : tot low l ≤ 65280 * l.length := by
  induction l generalizing low with
  | nil => simp [tot]
  | cons x r ih =>
    have := ih (!low)
    have hx := x.toNat_lt
    simp only [tot, List.length_cons]
    split <;> omega
theorem low16 (n : Nat) (hn : n < 18446744073709551616) : bits .and .u64 (n : Int) 65535 = ((n % 65536 : Nat) : Int) := by
  have := u64_and_nat n 65535 hn (by decide)
  rw [show (65535 : Nat) = 2 ^ 16 - 1 from rfl, Nat.and_two_pow_sub_one_eq_mod] at this
  exact this
set_option maxHeartbeats 1000000 in
theorem fold_sum (n : Nat) (w : World) (hn : n < 18446744073709551616) : Calls Try.prog 177 #[.int .u64 n] w fun e w' => e = .returned (.int .u16 (fd n : Nat)) ∧ w = w' := by
  go_enter Try.func177, Try.ntmps177
  go_wp2
  go_loop [0] (fun x => ∃ k : Nat, k < 18446744073709551616 ∧ x = .int .u64 k ∧ fd k = fd n) (fun x => (intOf x).toNat)
  case atStart => exact ⟨n, hn, rfl, rfl⟩
  case round =>
    obtain ⟨k, hk, rfl, hf⟩ := hrel
    have HF := Lib.hid hf
    clear hf
    by_cases hb : 65535 < k
    · have h1 := low16 k hk
      have hs := Lib.hid (fd_step k hb)
      go_wp2
      go_round
      case rel => exact ⟨k % 65536 + k / 65536, by omega, by go_num, by rw [hs.out]; exact HF.out⟩
      case measure => simp [intOf]; omega
    · have h0 : k ≤ 65535 := by omega
      go_wp2
      go_ret
      rw [← HF.out, fd_small k h0]
      exact ⟨rfl, rfl⟩
theorem plus_any (a b : Nat) (w : World) (ha : a ≤ 65535) (hb : b ≤ 65535) : Calls Try.prog 163 #[.int .u32 a, .int .u32 b] w fun e w' => e = .returned (.int .u32 (fd (a + b) : Nat)) ∧ w = w' := by
  have e := Lib.hid (fd_plus a b ha hb)
  by_cases hc : 65535 < a + b
  · rw [if_pos hc] at e
    go_enter Try.func163, Try.ntmps163
    go_wp2
    go_ret
    rw [e.out]
    exact ⟨by simp; omega, rfl⟩
  · rw [if_neg hc] at e
    go_enter Try.func163, Try.ntmps163
    go_wp2
    go_ret
    rw [e.out]
    exact ⟨by simp, rfl⟩
theorem tot_snoc (l : List UInt8) (i : Nat) (h : i < l.length) : tot false (l.take (i + 1)) = tot false (l.take i) + (if i % 2 = 0 then l[i].toNat * 256 else l[i].toNat) := by
  rw [List.take_succ_eq_append_getElem h, tot_append]
  have hl : (l.take i).length = i := by rw [List.length_take]; omega
  rw [hl]
  by_cases hi : i % 2 = 0 <;> simp [hi, tot]
theorem tot_two (l : List UInt8) (i : Nat) (hi : i % 2 = 0) (h : i + 1 < l.length) : tot false (l.take (i + 2)) = tot false (l.take i) + (l[i].toNat * 256 + l[i + 1].toNat) := by
  rw [tot_snoc l (i + 1) h, tot_snoc l i (by omega), if_pos hi, if_neg (by omega)]
  omega
theorem tot_one (l : List UInt8) (i : Nat) (hi : i % 2 = 0) (h : i + 1 = l.length) : tot false (l.take (i + 2)) = tot false (l.take i) + l[i].toNat * 256 := by
  have := tot_snoc l i (by omega)
  rw [if_pos hi] at this
  have e1 : l.take (i + 2) = l.take (i + 1) := by rw [List.take_of_length_le (by omega), List.take_of_length_le (by omega)]
  rw [e1]
  exact this
set_option maxHeartbeats 1000000 in
theorem refSumOf (A : Option Addr) (n c : Nat) (l : List UInt8) (w : World) (h : Rb w A n c l) (hm : n ≤ 1000000) : Calls Try.prog 118 #[.slice A n c] w fun e w' => e = .returned (.int .u16 (65535 - fd (tot false l) : Nat)) ∧ w = w' := by
  have HL := Lib.hid h.1
  have hrd := h.2.2
  go_enter Try.func118, Try.ntmps118
  go_wp2
  go_loop [3, 4, 5] (fun x i y => ∃ j : Nat, j % 2 = 0 ∧ j ≤ n + 1 ∧ i = .int .i64 j ∧ x = .int .u32 (fd (tot false (l.take j)) : Nat)) (fun _ i _ => n + 1 - (intOf i).toNat)
  case atStart => exact ⟨0, rfl, by omega, rfl, rfl⟩
  case round =>
    obtain ⟨j, he, hj, rfl, rfl⟩ := hrel
    have HE := Lib.hid he
    clear he
    have hs := fd_le (tot false (l.take j))
    by_cases hlt : j < n
    · obtain ⟨b, off, rfl, hb, hcell⟩ := hrd.at_ (by rw [bcs_length, HL.out]; omega)
      have hjl : j < l.length := by rw [HL.out]; omega
      have hcj : w.cell? ⟨b, off + j, none⟩ = some (.int .u8 (l[j].toNat : Int)) := hcell j _ (bcs_get _ _ hjl)
      have hx : l[j].toNat < 256 := l[j].toNat_lt
      by_cases hlt2 : j + 1 < n
      · have hjl2 : j + 1 < l.length := by rw [HL.out]; omega
        have hcj2 : w.cell? ⟨b, off + (j + 1), none⟩ = some (.int .u8 (l[j + 1].toNat : Int)) := hcell (j + 1) _ (bcs_get _ _ hjl2)
        have hx2 : l[j + 1].toNat < 256 := l[j + 1].toNat_lt
        have HS : Hid (fd (fd (tot false (l.take j)) + (l[j].toNat * 256 + l[j + 1].toNat)) = fd (tot false (l.take (j + 2)))) := Lib.hid (by rw [fd_add, tot_two l j HE.out hjl2])
        clear hcell hrd
        generalize fd (tot false (l.take j)) = s0 at *
        generalize l[j].toNat = y0 at *
        generalize l[j + 1].toNat = y1 at *
        go_wp2_with (go_at_call 163; refine (plus_any s0 (y0 * 256 + y1) _ hs (by omega)).mono ?_; rintro e w1 ⟨rfl, rfl⟩)
        go_round
        case rel => exact ⟨j + 2, by have := HE.out; omega, by omega, by go_num, by rw [HS.out]⟩
        case measure => simp [intOf]; omega
      · have HS : Hid (fd (fd (tot false (l.take j)) + l[j].toNat * 256) = fd (tot false (l.take (j + 2)))) := Lib.hid (by rw [fd_add, tot_one l j HE.out (by have := HL.out; omega)])
        clear hcell hrd
        generalize fd (tot false (l.take j)) = s0 at *
        generalize l[j].toNat = y0 at *
        go_wp2_with (go_at_call 163; refine (plus_any s0 (y0 * 256) _ hs (by omega)).mono ?_; rintro e w1 ⟨rfl, rfl⟩)
        go_round
        case rel => exact ⟨j + 2, by have := HE.out; omega, by omega, by go_num, by rw [HS.out]⟩
        case measure => simp [intOf]; omega
    · have hle := HL.out
      rw [List.take_of_length_le (by omega)] at *
      clear hle
      go_wp2
      go_ret
      have := fd_le (tot false l)
      exact ⟨by simp; omega, rfl⟩
theorem tot_one1 (p : List UInt8) (x : UInt8) : tot false (p ++ [x]) = tot false p + (if p.length % 2 = 0 then x.toNat * 256 else x.toNat) := by
  rw [tot_append]
  by_cases h : p.length % 2 = 0 <;> simp [h, tot]
theorem take_snoc_ (l : List UInt8) (i : Nat) (h : i < l.length) (p : List UInt8) : p ++ l.take (i + 1) = (p ++ l.take i) ++ [l[i]] := by
  rw [List.take_succ_eq_append_getElem h, List.append_assoc]
theorem xor_ones16 (b : Nat) (hb : b < 2 ^ 16) : (2 ^ 16 - 1) ^^^ b = 2 ^ 16 - 1 - b := by
  apply Nat.eq_of_testBit_eq
  intro i
  rw [Nat.testBit_xor, Nat.testBit_two_pow_sub_one, show 2 ^ 16 - 1 - b = 2 ^ 16 - (b + 1) by omega, Nat.testBit_two_pow_sub_succ hb]
  by_cases h : i < 16
  · simp [h]
  · have : b.testBit i = false := Nat.testBit_lt_two_pow (Nat.lt_of_lt_of_le hb (Nat.pow_le_pow_right (by decide) (by omega)))
    simp [h, this]
theorem not16 (x : Nat) (h : x ≤ 65535) : bits .xor .u16 IntKind.u16.max (x : Int) = ((65535 - x : Nat) : Int) := by
  have := u16_xor_nat 65535 x (by decide) (by omega)
  have e := xor_ones16 x (by omega)
  simp only [Nat.reducePow, Nat.reduceSub] at e
  rw [e] at this
  exact this
/-- the byte that comes next is a low one -/
def LowB (l : List UInt8) (v : Value) : Prop := (l.length % 2 = 0 ∧ v = .bool false) ∨ (l.length % 2 = 1 ∧ v = .bool true)
set_option maxHeartbeats 2000000 in
theorem sumOf (A : Option Addr) (m c : Nat) (L : List (List UInt8)) (w : World) (h : RdL w A m L) (hm : m ≤ 1000000) (ht : L.flatten.length ≤ 1000000) : Calls Try.prog 153 #[.slice A m c] w fun e w' => e = .returned (.int .u16 (65535 - fd (tot false L.flatten) : Nat)) ∧ w = w' := by
  obtain ⟨cs, h1, h2, hrd, hel⟩ := h
  have H1 := Lib.hid h1
  have H2 := Lib.hid h2
  have HE := Lib.hid hel
  clear h1 h2 hel
  go_enter Try.func153, Try.ntmps153
  go_wp2
  go_loop [3, 4, 11] (fun x y i => ∃ j : Nat, j ≤ m ∧ i = .int .i64 j ∧ x = .int .u64 (tot false (L.take j).flatten : Nat) ∧ LowB (L.take j).flatten y) (fun _ _ i => m - (intOf i).toNat)
  case atStart => exact ⟨0, Nat.zero_le _, rfl, rfl, .inl ⟨rfl, rfl⟩⟩
  case round =>
    obtain ⟨j, hj, rfl, rfl, hlow⟩ := hrel
    by_cases hlt : j < m
    · obtain ⟨b, off, rfl, hbl, hcell⟩ := hrd.at_ (by rw [H1.out]; omega)
      have hjc : j < cs.length := by rw [H1.out]; exact hlt
      obtain ⟨A2, n2, c2, he, l, hl, hr2⟩ := HE.out j _ (List.getElem?_eq_getElem hjc)
      have hcj : w.cell? ⟨b, off + j, none⟩ = some (.slice A2 n2 c2) := by
        rw [← he]
        exact hcell j _ (List.getElem?_eq_getElem hjc)
      have HS := Lib.hid (take_flatten_succ L j l hl)
      have hsz : (L.take j).flatten.length + l.length ≤ 1000000 := by
        have e2 := total_take L (j + 1)
        rw [HS.out, List.length_append] at e2
        omega
      have HL := Lib.hid hr2.1
      have hrd2 := hr2.2.2
      have hn2 : n2 ≤ 1000000 := by have := HL.out; omega
      clear hcell hrd hl he hr2
      generalize (L.take j).flatten = p at *
      have HLO := Lib.hid hlow
      have htp : tot false p ≤ 65280 * 1000000 := Nat.le_trans (tot_le false p) (Nat.mul_le_mul_left _ (by omega))
      clear hlow
      go_wp2
      go_loop [3, 4, 17] (fun x y i => ∃ k : Nat, k ≤ n2 ∧ i = .int .i64 k ∧ x = .int .u64 (tot false (p ++ l.take k) : Nat) ∧ LowB (p ++ l.take k) y) (fun _ _ i => n2 - (intOf i).toNat)
      case atStart => exact ⟨0, Nat.zero_le _, rfl, by simp, by simpa using HLO.out⟩
      case round =>
        obtain ⟨k, hk, rfl, rfl, hlow⟩ := hrel
        by_cases hlt2 : k < n2
        · obtain ⟨b2, off2, rfl, hbl2, hcell2⟩ := hrd2.at_ (by rw [bcs_length, HL.out]; omega)
          have hkl : k < l.length := by rw [HL.out]; omega
          have hck : w.cell? ⟨b2, off2 + k, none⟩ = some (.int .u8 (l[k].toNat : Int)) := hcell2 k _ (bcs_get _ _ hkl)
          have hx2 : l[k].toNat < 256 := l[k].toNat_lt
          have htq : tot false (p ++ l.take k) ≤ 65280 * 1000000 := Nat.le_trans (tot_le false _) (Nat.mul_le_mul_left _ (by rw [List.length_append, List.length_take]; omega))
          have HT := Lib.hid (tot_one1 (p ++ l.take k) l[k])
          have HN := Lib.hid (take_snoc_ l k hkl p)
          have HP := Lib.hid hlow
          clear hcell2 hrd2 hlow
          generalize p ++ l.take k = q at *
          rcases HP.out with ⟨h0, rfl⟩ | ⟨h0, rfl⟩
          · have HZ := Lib.hid h0
            clear h0 HP
            go_wp2
            go_round
            case rel =>
              refine ⟨k + 1, by omega, by go_num, ?_, ?_⟩
              · rw [HN.out, HT.out, if_pos HZ.out]; simp
              · rw [HN.out]; right; exact ⟨by rw [List.length_append]; have := HZ.out; simp; omega, rfl⟩
            case measure => simp [intOf]; omega
          · have HZ := Lib.hid h0
            clear h0 HP
            go_wp2
            go_round
            case rel =>
              refine ⟨k + 1, by omega, by go_num, ?_, ?_⟩
              · rw [HN.out, HT.out, if_neg (by have := HZ.out; omega)]; simp
              · rw [HN.out]; left; exact ⟨by rw [List.length_append]; have := HZ.out; simp; omega, rfl⟩
            case measure => simp [intOf]; omega
        · have hkk : l.take k = l := List.take_of_length_le (by rw [HL.out]; omega)
          rw [hkk] at hlow
          have HK := Lib.hid hkk
          have HLW := Lib.hid hlow
          clear hkk hlow
          go_wp2
          go_round
          case rel => exact ⟨j + 1, by omega, by go_num, by rw [HS.out, HK.out], by rw [HS.out]; exact HLW.out⟩
          case measure => simp [intOf]; omega
    · have hjj : L.take j = L := List.take_of_length_le (by rw [H2.out]; omega)
      rw [hjj]
      have htq : tot false L.flatten ≤ 65280 * 1000000 := Nat.le_trans (tot_le false _) (Nat.mul_le_mul_left _ (by omega))
      clear hjj hlow
      generalize hq : tot false L.flatten = t at *
      have HQ := Lib.hid hq
      clear hq
      have hf := fd_le t
      have hx := not16 (fd t) hf
      go_wp2_with (go_at_call 177; refine (fold_sum t _ (by omega)).mono ?_; rintro e w1 ⟨rfl, rfl⟩)
      go_ret
      refine ⟨?_, rfl⟩
      rw [HQ.out]
      rfl
theorem sumRight (A : Option Addr) (m c : Nat) (L : List (List UInt8)) (w : World) (h : RdL w A m L) (hm : m ≤ 1000000) (ht : L.flatten.length ≤ 1000000) : Calls Try.prog 169 #[.slice A m c] w fun e w' => e = .returned (.bool (65535 - fd (tot false L.flatten) == 0)) ∧ w = w' := by
  have HO := Lib.hid (sumOf A m c L w h hm ht)
  generalize 65535 - fd (tot false L.flatten) = z at *
  go_enter Try.func169, Try.ntmps169
  go_wp2_with (go_at_call 153; refine HO.out.mono ?_; rintro e w1 ⟨rfl, rfl⟩)
  go_ret
  refine ⟨?_, rfl⟩
  show Ending.returned (.bool ((z : Int) == 0)) = _
  congr 2
  rw [Bool.eq_iff_iff]
  simp only [beq_iff_eq]
  omega
end Go.Proofs.Ytfmkndemkpecpaa

/- Contracts of the package icmp and its reference. -/
namespace Go.Proofs.Ytfmkndemkpecpaa
open Go.RowKit
set_option linter.unusedVariables false
attribute [local go_sem ↓] sliced_cut

attribute [local go_sem] cutA_zero

/-- a new message -/
def RetM (w : World) (ty code sum word : Int) (l : List UInt8) (e : Ending) (w' : World) : Prop :=
  ∃ A n c bs d, e = .returned (.agg #[.int .u8 ty, .int .u8 code, .int .u16 sum, .int .u32 word, .slice A n c]) ∧ w' = plus w bs d ∧ Ob (plus w bs d) w.heap.size A n c l
theorem RetM.mk {w w' : World} {ty code sum word : Int} {l : List UInt8} {A : Option Addr} {n c : Nat} (ho : Ob w' w.heap.size A n c l) (hb : Below w.heap.size w w') :
    RetM w ty code sum word l (.returned (.agg #[.int .u8 ty, .int .u8 code, .int .u16 sum, .int .u32 word, .slice A n c])) w' := by
  obtain ⟨bs, d, rfl⟩ := plus_of hb
  exact ⟨A, n, c, bs, d, rfl, rfl, ho⟩

theorem icmpSame_any (a b c d : Int) (A : Option Addr) (n k : Nat) (A' : Option Addr) (n' k' : Nat) (l : List UInt8) (w : World) (h : Rb w A n k l) (h' : Rb w A' n' k' l) :
    Calls Try.prog 66 #[.agg #[.int .u8 a, .int .u8 b, .int .u16 c, .int .u32 d, .slice A n k], .agg #[.int .u8 a, .int .u8 b, .int .u16 c, .int .u32 d, .slice A' n' k']] w fun e w' => e = .returned (.bool true) ∧ ∃ bs m, w' = plus w bs m := by
  have e1 := fun o1 o2 => run_str bt Try.underlying9 ((h.alloc o1).alloc o2)
  have e2 := fun o1 o2 => run_str bt Try.underlying9 ((h'.alloc o1).alloc o2)
  go_enter Try.func66, Try.ntmps66
  go_wp2
  go_ret
  exact ⟨rfl, plus_of (((Below.refl _ _).alloc (Nat.le_refl _) _).alloc (by simp) _)⟩

set_option maxHeartbeats 1000000 in
theorem icmpBytes_any (a b c d : Int) (A : Option Addr) (n k : Nat) (l : List UInt8) (w : World) (ha : 0 ≤ a ∧ a ≤ 255) (hb : 0 ≤ b ∧ b ≤ 255) (hc : 0 ≤ c ∧ c ≤ 65535) (hd : 0 ≤ d ∧ d ≤ 4294967295) (h : Rb w A n k l) (hn : n ≤ 1000000) :
    Calls Try.prog 187 #[.agg #[.int .u8 a, .int .u8 b, .int .u16 c, .int .u32 d, .slice A n k]] w (RetB w (dig a.toNat 1 ++ dig b.toNat 1 ++ dig c.toNat 2 ++ dig d.toNat 4 ++ l)) := by
  obtain ⟨a0, a1⟩ := ha
  obtain ⟨b0, b1⟩ := hb
  obtain ⟨c0, c1⟩ := hc
  obtain ⟨d0, d1⟩ := hd
  go_enter Try.func187, Try.ntmps187
  go_wp2_with fail
  refine (put_int _ _ _ [] a 1 _ Rb.nil_ (by omega) a0 (by omega) (by omega) (by omega)).mono ?_
  rintro e w1 ⟨A1, n1, k1, bs1, m1, rfl, rfl, ho1⟩
  have l1 : n1 ≤ 100 := by have := ho1.len; simp [dig_length] at this; omega
  go_wp2_with fail
  refine (put_int _ _ _ _ b 1 _ ho1.rb (by omega) b0 (by omega) (by omega) (by omega)).mono ?_
  rintro e w2 ⟨A2, n2, k2, bs2, m2, rfl, rfl, ho2⟩
  have l2 : n2 ≤ 100 := by have := ho2.len; simp [dig_length] at this; omega
  go_wp2_with fail
  refine (put_int _ _ _ _ c 2 _ ho2.rb (by omega) c0 (by omega) (by omega) (by omega)).mono ?_
  rintro e w3 ⟨A3, n3, k3, bs3, m3, rfl, rfl, ho3⟩
  have l3 : n3 ≤ 100 := by have := ho3.len; simp [dig_length] at this; omega
  go_wp2_with fail
  refine (put_int _ _ _ _ d 4 _ ho3.rb (by omega) d0 (by omega) (by omega) (by omega)).mono ?_
  rintro e w4 ⟨A4, n4, k4, bs4, m4, rfl, rfl, ho4⟩
  have l4 : n4 ≤ 100 := by have := ho4.len; simp [dig_length] at this; omega
  go_wp2_with (at_builtin; refine wpList_appP _ bt rfl (.tmp 23) (.tmp 25) rfl (by exact below_plus _ bs4 m4) rfl ho4 rfl (by exact ((((h.alloc _).plus_ _ _).plus_ _ _).plus_ _ _).plus_ _ _) (by omega) ?_; intro A5 n5 k5 bs5 m5 ho5 _)
  go_ret
  refine RetB.mk ?_ (toPlus (toPlus (toPlus (toPlus ((Below.refl _ _).alloc (Nat.le_refl _) _) (by simp) _ _) (by simp [size_plus]; omega) _ _) (by simp [size_plus]; omega) _ _) (by simp [size_plus]; omega) _ _)
  simpa using ho5.mono (base' := w.heap.size) (by simp [size_plus]; omega)
end Go.Proofs.Ytfmkndemkpecpaa

/- Messages: Bytes, covered, Summed, Fine, Error, Echo; the reference's Bytes, Check, Summed, Error. -/
namespace Go.Proofs.Ytfmkndemkpecpaa
open Go.RowKit
set_option linter.unusedVariables false
set_option linter.unusedSimpArgs false
attribute [local go_sem ↓] sliced_cut

attribute [local go_sem] cutA_zero

def msgC (a b c d : Nat) (A : Option Addr) (n k : Nat) : List Value := [.int .u8 (a : Int), .int .u8 (b : Int), .int .u16 (c : Int), .int .u32 (d : Int), .slice A n k]
theorem msgC_one (a b c d : Nat) (A : Option Addr) (n k : Nat) : ∀ u ∈ msgC a b c d A n k, u.oneCell' = true := by
  intro u hu
  simp only [msgC, List.mem_cons, List.not_mem_nil, or_false] at hu
  rcases hu with rfl | rfl | rfl | rfl | rfl <;> rfl
theorem szMs (a b c d : Nat) (A : Option Addr) (n k : Nat) : (Try.prog.info? 51).map (·.size) = some (msgC a b c d A n k).length := by kernel_rfl
theorem szMr (a b c d : Nat) (A : Option Addr) (n k : Nat) : (Try.prog.info? 58).map (·.size) = some (msgC a b c d A n k).length := by kernel_rfl
theorem rowMs : ∃ d, Try.prog.underlying 51 = some d ∧ d.isRow = true := ⟨_, Try.underlying51, rfl⟩
theorem rowMr : ∃ d, Try.prog.underlying 58 = some d ∧ d.isRow = true := ⟨_, Try.underlying58, rfl⟩
theorem rowAd : ∃ d, Try.prog.underlying 26 = some d ∧ d.isRow = true := ⟨_, Try.underlying26, rfl⟩
/-- the bytes of a message -/
def icmpB (a b c d : Nat) (l : List UInt8) : List UInt8 := dig a 1 ++ dig b 1 ++ dig c 2 ++ dig d 4 ++ l
theorem icmpB_length (a b c d : Nat) (l : List UInt8) : (icmpB a b c d l).length = 8 + l.length := by simp [icmpB, dig_length]; omega
theorem icmpBytes (a b c d : Nat) (A : Option Addr) (n k : Nat) (l : List UInt8) (w : World) (ha : a < 256) (hb : b < 256) (hc : c < 65536) (hd : d < 4294967296) (h : Rb w A n k l) (hn : n ≤ 1000000) : Calls Try.prog 187 #[.agg (msgC a b c d A n k).toArray] w (RetB w (icmpB a b c d l)) := by
  have := icmpBytes_any (a : Int) b c d A n k l w (by omega) (by omega) (by omega) (by omega) h hn
  simpa [icmpB, msgC] using this
set_option maxHeartbeats 4000000 in
set_option maxRecDepth 100000 in
theorem refIcmpBytes (a b c d : Nat) (A : Option Addr) (n k : Nat) (l : List UInt8) (w : World) (ha : a < 256) (hb : b < 256) (hc : c < 65536) (hd : d < 4294967296) (h : Rb w A n k l) (hn : n ≤ 1000000) : Calls Try.prog 122 #[.agg (msgC a b c d A n k).toArray] w (RetB w (icmpB a b c d l)) := by
  have HT : Hid (([[UInt8.ofNat (a), UInt8.ofNat (b)], (dig (c) 2), (dig (d) 4), l]).flatten.length ≤ 549755813888) := Lib.hid (by simp [dig_length, h.1]; omega)
  have HE : Hid (([[UInt8.ofNat (a), UInt8.ofNat (b)], (dig (c) 2), (dig (d) 4), l]).flatten = icmpB a b c d l) := Lib.hid (by simp [icmpB, dig1 a ha, dig1 b hb])
  unfold msgC
  have g0 : IntKind.u64.wrap (c : Int) = (c : Int) := IntWalk.u64_in _ (by omega)
  have g1 : IntKind.u64.wrap (d : Int) = (d : Int) := IntWalk.u64_in _ (by omega)
  go_enter Try.func122, Try.ntmps122
  go_wp2
  refine wp_rel 18 20 rfl (by kernel_rfl) (by kernel_rfl) (fun i => match i with | 0 => MP.eq (.pointer (some ⟨w.heap.size, 0, none⟩)) | 1 => MP.eq (.int .u8 (a : Int)) | 2 => MP.eq (.pointer (some ⟨w.heap.size, 1, none⟩)) | 3 => MP.eq (.int .u8 (b : Int)) | 4 => MP.rb [UInt8.ofNat (a), UInt8.ofNat (b)] | 5 => MP.eq (.pointer (some ⟨w.heap.size, 2, none⟩)) | 6 => MP.eq (.int .u16 (c : Int)) | 7 => MP.eq (.int .u64 (c : Int)) | 8 => MP.rb (dig (c) 2) | 9 => MP.eq (.pointer (some ⟨w.heap.size, 3, none⟩)) | 10 => MP.eq (.int .u32 (d : Int)) | 11 => MP.eq (.int .u64 (d : Int)) | 12 => MP.rb (dig (d) 4) | 13 => MP.eq (.pointer (some ⟨w.heap.size, 4, none⟩)) | 14 => MP.eq (.slice A n k) | 15 => MP.rdl [[UInt8.ofNat (a), UInt8.ofNat (b)], (dig (c) 2), (dig (d) 4), l] | 16 => MP.ob w.heap.size ([[UInt8.ofNat (a), UInt8.ofNat (b)], (dig (c) 2), (dig (d) 4), l]).flatten | 17 => MP.ob w.heap.size ([[UInt8.ofNat (a), UInt8.ofNat (b)], (dig (c) 2), (dig (d) 4), l]).flatten | _ => MP.any) ?_ ?_
  · intro i hi o ho FA x hO hD K hK
    match i, hi, ho, hO, hD, hK with
    | 0, _, ho, hO, hD, hK => 
      obtain rfl := Option.some.inj ho.symm
      clear ho
      have ev1 : FA.eval (.tmp 1) = .pointer (some ⟨w.heap.size, 0, none⟩) := hO 1 (by kernel_rfl)
      have e1 : FA.tmps[1]?.getD undef = .pointer (some ⟨w.heap.size, 0, none⟩) := by simpa [Act.eval] using ev1
      replace ev1 := Lib.hid ev1
      clear hO hD
      go_simp
      exact hK.out _ _ (Ex.refl _) rfl
    | 1, _, ho, hO, hD, hK => 
      obtain rfl := Option.some.inj ho.symm
      clear ho
      have ev3 : FA.eval (.tmp 3) = .pointer (some ⟨w.heap.size, 0, none⟩) := hD 0 3 (by kernel_rfl)
      have e3 : FA.tmps[3]?.getD undef = .pointer (some ⟨w.heap.size, 0, none⟩) := by simpa [Act.eval] using ev3
      replace ev3 := Lib.hid ev3
      clear hO hD
      go_simp
      exact hK.out _ _ (Ex.refl _) rfl
    | 2, _, ho, hO, hD, hK => 
      obtain rfl := Option.some.inj ho.symm
      clear ho
      have ev1 : FA.eval (.tmp 1) = .pointer (some ⟨w.heap.size, 0, none⟩) := hO 1 (by kernel_rfl)
      have e1 : FA.tmps[1]?.getD undef = .pointer (some ⟨w.heap.size, 0, none⟩) := by simpa [Act.eval] using ev1
      replace ev1 := Lib.hid ev1
      clear hO hD
      go_simp
      exact hK.out _ _ (Ex.refl _) rfl
    | 3, _, ho, hO, hD, hK => 
      obtain rfl := Option.some.inj ho.symm
      clear ho
      have ev5 : FA.eval (.tmp 5) = .pointer (some ⟨w.heap.size, 1, none⟩) := hD 2 5 (by kernel_rfl)
      have e5 : FA.tmps[5]?.getD undef = .pointer (some ⟨w.heap.size, 1, none⟩) := by simpa [Act.eval] using ev5
      replace ev5 := Lib.hid ev5
      clear hO hD
      go_simp
      exact hK.out _ _ (Ex.refl _) rfl
    | 4, _, ho, hO, hD, hK => 
      obtain rfl := Option.some.inj ho.symm
      clear ho
      have ev4 : FA.eval (.tmp 4) = .int .u8 (a : Int) := hD 1 4 (by kernel_rfl)
      have e4 : FA.tmps[4]?.getD undef = .int .u8 (a : Int) := by simpa [Act.eval] using ev4
      replace ev4 := Lib.hid ev4
      have ev6 : FA.eval (.tmp 6) = .int .u8 (b : Int) := hD 3 6 (by kernel_rfl)
      have e6 : FA.tmps[6]?.getD undef = .int .u8 (b : Int) := by simpa [Act.eval] using ev6
      replace ev6 := Lib.hid ev6
      clear hO hD
      go_simp
      refine hK.out _ _ (Ex.alloc _ _) ⟨_, _, _, rfl, ?_⟩
      refine Rb.litW _ [UInt8.ofNat (a), UInt8.ofNat (b)] ?_ rfl (by decide) ?_
      · simp [size_plus]
      · simp [bcs]; try omega
    | 5, _, ho, hO, hD, hK => 
      obtain rfl := Option.some.inj ho.symm
      clear ho
      have ev1 : FA.eval (.tmp 1) = .pointer (some ⟨w.heap.size, 0, none⟩) := hO 1 (by kernel_rfl)
      have e1 : FA.tmps[1]?.getD undef = .pointer (some ⟨w.heap.size, 0, none⟩) := by simpa [Act.eval] using ev1
      replace ev1 := Lib.hid ev1
      clear hO hD
      go_simp
      exact hK.out _ _ (Ex.refl _) rfl
    | 6, _, ho, hO, hD, hK => 
      obtain rfl := Option.some.inj ho.symm
      clear ho
      have ev8 : FA.eval (.tmp 8) = .pointer (some ⟨w.heap.size, 2, none⟩) := hD 5 8 (by kernel_rfl)
      have e8 : FA.tmps[8]?.getD undef = .pointer (some ⟨w.heap.size, 2, none⟩) := by simpa [Act.eval] using ev8
      replace ev8 := Lib.hid ev8
      clear hO hD
      go_simp
      exact hK.out _ _ (Ex.refl _) rfl
    | 7, _, ho, hO, hD, hK => 
      obtain rfl := Option.some.inj ho.symm
      clear ho
      have ev9 : FA.eval (.tmp 9) = .int .u16 (c : Int) := hD 6 9 (by kernel_rfl)
      have e9 : FA.tmps[9]?.getD undef = .int .u16 (c : Int) := by simpa [Act.eval] using ev9
      replace ev9 := Lib.hid ev9
      clear hO hD
      go_simp
      exact hK.out _ _ (Ex.refl _) rfl
    | 8, _, ho, hO, hD, hK => 
      obtain rfl := Option.some.inj ho.symm
      clear ho
      have ev10 : FA.eval (.tmp 10) = .int .u64 (c : Int) := hD 7 10 (by kernel_rfl)
      have e10 : FA.tmps[10]?.getD undef = .int .u64 (c : Int) := by simpa [Act.eval] using ev10
      replace ev10 := Lib.hid ev10
      clear hO hD
      go_simp
      refine (refBytes_any (c) 2 _ (by omega) (by omega)).mono ?_
      rintro e w1 ⟨A2, n2, c2, bs2, d2, rfl, rfl, ho2⟩
      exact hK.out _ _ (Ex.plus_ _ _ _) ⟨_, _, _, rfl, ho2.rb⟩
    | 9, _, ho, hO, hD, hK => 
      obtain rfl := Option.some.inj ho.symm
      clear ho
      have ev1 : FA.eval (.tmp 1) = .pointer (some ⟨w.heap.size, 0, none⟩) := hO 1 (by kernel_rfl)
      have e1 : FA.tmps[1]?.getD undef = .pointer (some ⟨w.heap.size, 0, none⟩) := by simpa [Act.eval] using ev1
      replace ev1 := Lib.hid ev1
      clear hO hD
      go_simp
      exact hK.out _ _ (Ex.refl _) rfl
    | 10, _, ho, hO, hD, hK => 
      obtain rfl := Option.some.inj ho.symm
      clear ho
      have ev12 : FA.eval (.tmp 12) = .pointer (some ⟨w.heap.size, 3, none⟩) := hD 9 12 (by kernel_rfl)
      have e12 : FA.tmps[12]?.getD undef = .pointer (some ⟨w.heap.size, 3, none⟩) := by simpa [Act.eval] using ev12
      replace ev12 := Lib.hid ev12
      clear hO hD
      go_simp
      exact hK.out _ _ (Ex.refl _) rfl
    | 11, _, ho, hO, hD, hK => 
      obtain rfl := Option.some.inj ho.symm
      clear ho
      have ev13 : FA.eval (.tmp 13) = .int .u32 (d : Int) := hD 10 13 (by kernel_rfl)
      have e13 : FA.tmps[13]?.getD undef = .int .u32 (d : Int) := by simpa [Act.eval] using ev13
      replace ev13 := Lib.hid ev13
      clear hO hD
      go_simp
      exact hK.out _ _ (Ex.refl _) rfl
    | 12, _, ho, hO, hD, hK => 
      obtain rfl := Option.some.inj ho.symm
      clear ho
      have ev14 : FA.eval (.tmp 14) = .int .u64 (d : Int) := hD 11 14 (by kernel_rfl)
      have e14 : FA.tmps[14]?.getD undef = .int .u64 (d : Int) := by simpa [Act.eval] using ev14
      replace ev14 := Lib.hid ev14
      clear hO hD
      go_simp
      refine (refBytes_any (d) 4 _ (by omega) (by omega)).mono ?_
      rintro e w1 ⟨A2, n2, c2, bs2, d2, rfl, rfl, ho2⟩
      exact hK.out _ _ (Ex.plus_ _ _ _) ⟨_, _, _, rfl, ho2.rb⟩
    | 13, _, ho, hO, hD, hK => 
      obtain rfl := Option.some.inj ho.symm
      clear ho
      have ev1 : FA.eval (.tmp 1) = .pointer (some ⟨w.heap.size, 0, none⟩) := hO 1 (by kernel_rfl)
      have e1 : FA.tmps[1]?.getD undef = .pointer (some ⟨w.heap.size, 0, none⟩) := by simpa [Act.eval] using ev1
      replace ev1 := Lib.hid ev1
      clear hO hD
      go_simp
      exact hK.out _ _ (Ex.refl _) rfl
    | 14, _, ho, hO, hD, hK => 
      obtain rfl := Option.some.inj ho.symm
      clear ho
      have ev16 : FA.eval (.tmp 16) = .pointer (some ⟨w.heap.size, 4, none⟩) := hD 13 16 (by kernel_rfl)
      have e16 : FA.tmps[16]?.getD undef = .pointer (some ⟨w.heap.size, 4, none⟩) := by simpa [Act.eval] using ev16
      replace ev16 := Lib.hid ev16
      clear hO hD
      go_simp
      exact hK.out _ _ (Ex.refl _) rfl
    | 15, _, ho, hO, hD, hK => 
      obtain rfl := Option.some.inj ho.symm
      clear ho
      have f7 := hD 4 7 (by kernel_rfl)
      generalize eu7 : FA.eval (.tmp 7) = u7 at f7
      have e7 : FA.tmps[7]?.getD undef = u7 := by rw [← eu7]; simp [Act.eval]
      have ev7 := Lib.hid eu7
      clear eu7
      have f11 := hD 8 11 (by kernel_rfl)
      generalize eu11 : FA.eval (.tmp 11) = u11 at f11
      have e11 : FA.tmps[11]?.getD undef = u11 := by rw [← eu11]; simp [Act.eval]
      have ev11 := Lib.hid eu11
      clear eu11
      have f15 := hD 12 15 (by kernel_rfl)
      generalize eu15 : FA.eval (.tmp 15) = u15 at f15
      have e15 : FA.tmps[15]?.getD undef = u15 := by rw [← eu15]; simp [Act.eval]
      have ev15 := Lib.hid eu15
      clear eu15
      have ev17 : FA.eval (.tmp 17) = .slice A n k := hD 14 17 (by kernel_rfl)
      have e17 : FA.tmps[17]?.getD undef = .slice A n k := by simpa [Act.eval] using ev17
      replace ev17 := Lib.hid ev17
      clear hO hD
      obtain ⟨A7, n7, c7, rfl, h7⟩ := f7
      obtain ⟨A11, n11, c11, rfl, h11⟩ := f11
      obtain ⟨A15, n15, c15, rfl, h15⟩ := f15
      go_simp
      refine hK.out _ _ (Ex.alloc _ _) ⟨_, _, _, rfl, ?_⟩
      refine RdL.litW _ _ ?_ ?_
      · simp [size_plus]
      · exact .cons ⟨_, _, _, rfl, h7⟩ (.cons ⟨_, _, _, rfl, h11⟩ (.cons ⟨_, _, _, rfl, h15⟩ (.cons ⟨_, _, _, rfl, (h.alloc _).plus_ _ _⟩ (.nil))))
    | 16, _, ho, hO, hD, hK => 
      obtain rfl := Option.some.inj ho.symm
      clear ho
      have f18 := hD 15 18 (by kernel_rfl)
      generalize eu18 : FA.eval (.tmp 18) = u18 at f18
      have e18 : FA.tmps[18]?.getD undef = u18 := by rw [← eu18]; simp [Act.eval]
      have ev18 := Lib.hid eu18
      clear eu18
      clear hO hD
      obtain ⟨A1, m1, c1, rfl, hl1⟩ := f18
      have hm1 : m1 ≤ 100 := by obtain ⟨_, _, h2, _⟩ := hl1; simp only [List.length_cons, List.length_nil] at h2; omega
      go_simp
      refine (refJoin_any A1 m1 c1 _ _ hl1 (by omega) HT.out).mono ?_
      rintro e w1 ⟨A2, n2, c2, bs2, d2, rfl, rfl, ho2⟩
      exact hK.out _ _ (Ex.plus_ _ _ _) ⟨_, _, _, rfl, ho2.mono (by simp [size_plus]; omega)⟩
    | 17, _, ho, hO, hD, hK => 
      obtain rfl := Option.some.inj ho.symm
      clear ho
      have f19 := hD 16 19 (by kernel_rfl)
      generalize eu19 : FA.eval (.tmp 19) = u19 at f19
      have e19 : FA.tmps[19]?.getD undef = u19 := by rw [← eu19]; simp [Act.eval]
      have ev19 := Lib.hid eu19
      clear eu19
      clear hO hD
      go_simp
      exact hK.out _ _ (Ex.refl _) f19
    | (k + 18), hi, _, _, _, _ => exact absurd hi (by omega)
  intro vs x hp
  have p0 : vs 0 = .pointer (some ⟨w.heap.size, 0, none⟩) := hp 0 (by omega)
  have p1 : vs 1 = .int .u8 (a : Int) := hp 1 (by omega)
  have p2 : vs 2 = .pointer (some ⟨w.heap.size, 1, none⟩) := hp 2 (by omega)
  have p3 : vs 3 = .int .u8 (b : Int) := hp 3 (by omega)
  have p4 := hp 4 (by omega)
  have p5 : vs 5 = .pointer (some ⟨w.heap.size, 2, none⟩) := hp 5 (by omega)
  have p6 : vs 6 = .int .u16 (c : Int) := hp 6 (by omega)
  have p7 : vs 7 = .int .u64 (c : Int) := hp 7 (by omega)
  have p8 := hp 8 (by omega)
  have p9 : vs 9 = .pointer (some ⟨w.heap.size, 3, none⟩) := hp 9 (by omega)
  have p10 : vs 10 = .int .u32 (d : Int) := hp 10 (by omega)
  have p11 : vs 11 = .int .u64 (d : Int) := hp 11 (by omega)
  have p12 := hp 12 (by omega)
  have p13 : vs 13 = .pointer (some ⟨w.heap.size, 4, none⟩) := hp 13 (by omega)
  have p14 : vs 14 = .slice A n k := hp 14 (by omega)
  have p15 := hp 15 (by omega)
  have p16 := hp 16 (by omega)
  have p17 := hp 17 (by omega)
  clear hp
  simp only [List.take_succ_cons, List.take_zero, List.drop_succ_cons, List.drop_zero, putAll, Nat.zero_add, Nat.reduceAdd, Act.put, List.setIfInBounds_toArray, List.set_cons_zero, List.set_cons_succ, p0, p1, p2, p3, p5, p6, p7, p9, p10, p11, p13, p14]
  clear p0 p1 p2 p3 p5 p6 p7 p9 p10 p11 p13 p14
  generalize vs 4 = y4 at *
  generalize vs 8 = y8 at *
  generalize vs 12 = y12 at *
  generalize vs 15 = y15 at *
  generalize vs 16 = y16 at *
  generalize vs 17 = y17 at *
  clear vs
  obtain ⟨A9, n9, c9, rfl, h9⟩ := p17
  rw [HE.out] at h9
  go_wp2
  go_ret
  exact RetB.mk h9 (belowP (Below.allocS (Below.refl _ _) _) _ _)
/-- what the checksum covers, ahead of the message -/
def icP (s6 : Bool) (sh sl : Nat) (d6 : Bool) (dh dl : Nat) (z : Nat) : List UInt8 := if s6 then psdB s6 sh sl d6 dh dl 58 z else []
theorem icP_length (s6 : Bool) (sh sl : Nat) (d6 : Bool) (dh dl : Nat) (z : Nat) : (icP s6 sh sl d6 dh dl z).length ≤ 40 := by
  have := psdB_length s6 sh sl d6 dh dl 58 z
  cases s6 <;> simp [icP] at * <;> omega
/-- two slices of bytes -/
def Ret2 (w : World) (l1 l2 : List UInt8) (e : Ending) (w' : World) : Prop := ∃ A1 n1 c1 A2 n2 c2 bs d, e = .returned (.tuple #[.slice A1 n1 c1, .slice A2 n2 c2]) ∧ w' = plus w bs d ∧ Rb (plus w bs d) A1 n1 c1 l1 ∧ Rb (plus w bs d) A2 n2 c2 l2
theorem Ret2.mk {w w' : World} {l1 l2 : List UInt8} {A1 : Option Addr} {n1 c1 : Nat} {A2 : Option Addr} {n2 c2 : Nat} (h1 : Rb w' A1 n1 c1 l1) (h2 : Rb w' A2 n2 c2 l2) (hb : Below w.heap.size w w') : Ret2 w l1 l2 (.returned (.tuple #[.slice A1 n1 c1, .slice A2 n2 c2])) w' := by
  obtain ⟨bs, d, rfl⟩ := plus_of hb
  exact ⟨_, _, _, _, _, _, bs, d, rfl, rfl, h1, h2⟩
set_option maxHeartbeats 4000000 in
set_option maxRecDepth 100000 in
theorem icmpCovered (a b c d : Nat) (A : Option Addr) (n k : Nat) (s6 : Bool) (sh sl : Nat) (d6 : Bool) (dh dl : Nat) (l : List UInt8) (w : World) (ha : a < 256) (hb : b < 256) (hc : c < 65536) (hd : d < 4294967296) (k1 : sh < 18446744073709551616) (k2 : sl < 18446744073709551616) (k3 : dh < 18446744073709551616) (k4 : dl < 18446744073709551616) (h : Rb w A n k l) (hn : n ≤ 10000) : Calls Try.prog 182 #[.agg (msgC a b c d A n k).toArray, .agg (adC s6 sh sl).toArray, .agg (adC d6 dh dl).toArray] w (Ret2 w (icP s6 sh sl d6 dh dl (8 + n)) (icmpB a b c d l)) := by
  obtain ⟨dx, u1, u2⟩ := rowMs
  obtain ⟨dr, r1, r2⟩ := rowMr
  obtain ⟨dy, y1, y2⟩ := rowAd
  have hM : Bk (((w.alloc (.cells (msgC a b c d A n k).toArray 51)).alloc (.cells (adC s6 sh sl).toArray 26)).alloc (.cells (adC d6 dh dl).toArray 26)) w.heap.size 51 (msgC a b c d A n k) := ((Bk.new w 51 (msgC a b c d A n k).toArray).alloc _).alloc _
  have hS : Bk (((w.alloc (.cells (msgC a b c d A n k).toArray 51)).alloc (.cells (adC s6 sh sl).toArray 26)).alloc (.cells (adC d6 dh dl).toArray 26)) (w.heap.size + 1) 26 (adC s6 sh sl) := (Bk.newK _ _ _ (by simp) rfl).alloc _
  have hD : Bk (((w.alloc (.cells (msgC a b c d A n k).toArray 51)).alloc (.cells (adC s6 sh sl).toArray 26)).alloc (.cells (adC d6 dh dl).toArray 26)) (w.heap.size + 1 + 1) 26 (adC d6 dh dl) := Bk.newK _ _ _ (by simp) rfl
  have be : Below w.heap.size w (((w.alloc (.cells (msgC a b c d A n k).toArray 51)).alloc (.cells (adC s6 sh sl).toArray 26)).alloc (.cells (adC d6 dh dl).toArray 26)) := Below.allocS (Below.allocS (Below.allocS (Below.refl _ _) _) _) _
  replace h := ((h.alloc (.cells (msgC a b c d A n k).toArray 51)).alloc (.cells (adC s6 sh sl).toArray 26)).alloc (.cells (adC d6 dh dl).toArray 26)
  have HB := Lib.hid (fun w (h : Rb w A n k l) => icmpBytes a b c d A n k l w ha hb hc hd h (by omega))
  have hlen : n = l.length := h.1.symm
  replace hlen := Lib.hid hlen
  go_enter Try.func182, Try.ntmps182
  go_upto_region 1 with (fail)
  generalize ((w.alloc (.cells (msgC a b c d A n k).toArray 51)).alloc (.cells (adC s6 sh sl).toArray 26)).alloc (.cells (adC d6 dh dl).toArray 26) = W at *
  go_upto_region 2 with (first
    | (refine at_op (.load 51 (.tmp 3)) rfl ?_; refine wpList_ldA (t := 51) 51 (.tmp 3) rfl rfl (msgC a b c d A n k) rfl (by with_reducible repeat (first | exact hM | refine Bk.later ?_ (below_plus _ _ _) | refine Bk.alloc ?_ _)) (whole_ _) u1 u2 (szMs _ _ _ _ _ _ _) ?_)
    | (go_at_call 187; refine (HB.out _ h).mono ?_; rintro e w1 ⟨A1, n1, c1, bs1, d1, rfl, rfl, ho1⟩))
  replace hS := hS.later (below_plus _ bs1 d1)
  replace hD := hD.later (below_plus _ bs1 d1)
  replace be := belowP be bs1 d1
  have hr1 := ho1.rb
  obtain rfl : n1 = 8 + n := by rw [← ho1.1, icmpB_length, hlen.out]
  generalize plus W bs1 d1 = W2 at *
  have q0 : W2.cell? ⟨w.heap.size + 1, 0, none⟩ = some (.bool s6) := hS.cell 0
  cases s6
  · go_wp2
    refine bodyPost_ret (v := .tuple #[.slice none 0 0, .slice A1 (8 + n) c1]) (by simp [results, Try.results182, go_sem]) rfl ?_
    exact Ret2.mk Rb.nil_ hr1 be
  · go_wp2_with (first
      | (refine at_op (.load 26 (.tmp 4)) rfl ?_; refine wpList_ldA (t := 26) 26 (.tmp 4) rfl rfl (adC true sh sl) rfl (by with_reducible repeat (first | exact hS | refine Bk.later ?_ (below_plus _ _ _) | refine Bk.alloc ?_ _)) (whole_ _) y1 y2 (szAd _ _ _) ?_)
      | (refine at_op (.load 26 (.tmp 5)) rfl ?_; refine wpList_ldA (t := 26) 26 (.tmp 5) rfl rfl (adC d6 dh dl) rfl (by with_reducible repeat (first | exact hD | refine Bk.later ?_ (below_plus _ _ _) | refine Bk.alloc ?_ _)) (whole_ _) y1 y2 (szAd _ _ _) ?_)
      | (go_at_call 179; refine (pseudo_any true sh sl d6 dh dl 58 (8 + n) _ k1 k2 k3 k4 (by omega) (by omega)).mono ?_; rintro e w1 ⟨A2, n2, bs2, d2, rfl, rfl, ho2⟩))
    refine bodyPost_ret (v := .tuple #[.slice A2 n2 n2, .slice A1 (8 + n) c1]) (by simp [results, Try.results182, go_sem]) rfl ?_
    exact Ret2.mk ho2.rb (hr1.plus_ _ _) (belowP be _ _)
/-- the sum of all that the checksum covers -/
def icT (s6 : Bool) (sh sl : Nat) (d6 : Bool) (dh dl : Nat) (a b c d : Nat) (l : List UInt8) : Nat := tot false (icP s6 sh sl d6 dh dl (8 + l.length) ++ icmpB a b c d l)
set_option maxHeartbeats 4000000 in
set_option maxRecDepth 100000 in
theorem icmpFine (a b c d : Nat) (A : Option Addr) (n k : Nat) (s6 : Bool) (sh sl : Nat) (d6 : Bool) (dh dl : Nat) (l : List UInt8) (w : World) (ha : a < 256) (hb : b < 256) (hc : c < 65536) (hd : d < 4294967296) (k1 : sh < 18446744073709551616) (k2 : sl < 18446744073709551616) (k3 : dh < 18446744073709551616) (k4 : dl < 18446744073709551616) (h : Rb w A n k l) (hn : n ≤ 10000) : Calls Try.prog 162 #[.agg (msgC a b c d A n k).toArray, .agg (adC s6 sh sl).toArray, .agg (adC d6 dh dl).toArray] w (RetV w (.bool (65535 - fd (icT s6 sh sl d6 dh dl a b c d l) == 0))) := by
  obtain ⟨dx, u1, u2⟩ := rowMs
  obtain ⟨dr, r1, r2⟩ := rowMr
  obtain ⟨dy, y1, y2⟩ := rowAd
  have hM : Bk (((w.alloc (.cells (msgC a b c d A n k).toArray 51)).alloc (.cells (adC s6 sh sl).toArray 26)).alloc (.cells (adC d6 dh dl).toArray 26)) w.heap.size 51 (msgC a b c d A n k) := ((Bk.new w 51 (msgC a b c d A n k).toArray).alloc _).alloc _
  have hS : Bk (((w.alloc (.cells (msgC a b c d A n k).toArray 51)).alloc (.cells (adC s6 sh sl).toArray 26)).alloc (.cells (adC d6 dh dl).toArray 26)) (w.heap.size + 1) 26 (adC s6 sh sl) := (Bk.newK _ _ _ (by simp) rfl).alloc _
  have hD : Bk (((w.alloc (.cells (msgC a b c d A n k).toArray 51)).alloc (.cells (adC s6 sh sl).toArray 26)).alloc (.cells (adC d6 dh dl).toArray 26)) (w.heap.size + 1 + 1) 26 (adC d6 dh dl) := Bk.newK _ _ _ (by simp) rfl
  have be : Below w.heap.size w (((w.alloc (.cells (msgC a b c d A n k).toArray 51)).alloc (.cells (adC s6 sh sl).toArray 26)).alloc (.cells (adC d6 dh dl).toArray 26)) := Below.allocS (Below.allocS (Below.allocS (Below.refl _ _) _) _) _
  replace h := ((h.alloc (.cells (msgC a b c d A n k).toArray 51)).alloc (.cells (adC s6 sh sl).toArray 26)).alloc (.cells (adC d6 dh dl).toArray 26)
  have HC := Lib.hid (fun w (h : Rb w A n k l) => icmpCovered a b c d A n k s6 sh sl d6 dh dl l w ha hb hc hd k1 k2 k3 k4 h hn)
  have hT : ([icP s6 sh sl d6 dh dl (8 + n), icmpB a b c d l] : List (List UInt8)).flatten.length ≤ 1000000 := by have := icP_length s6 sh sl d6 dh dl (8 + n); have := h.1; simp [icmpB_length]; omega
  have HE : Hid (tot false ([icP s6 sh sl d6 dh dl (8 + n), icmpB a b c d l] : List (List UInt8)).flatten = icT s6 sh sl d6 dh dl a b c d l) := Lib.hid (by rw [← h.1]; simp [icT])
  have HO := Lib.hid (fun w A1 c1 (h : RdL w A1 2 [icP s6 sh sl d6 dh dl (8 + n), icmpB a b c d l]) => sumRight A1 2 c1 _ w h (by omega) hT)
  rw [HE.out] at HO
  clear hT
  generalize icT s6 sh sl d6 dh dl a b c d l = t at *
  go_enter Try.func162, Try.ntmps162
  go_upto_region 1 with (fail)
  generalize ((w.alloc (.cells (msgC a b c d A n k).toArray 51)).alloc (.cells (adC s6 sh sl).toArray 26)).alloc (.cells (adC d6 dh dl).toArray 26) = W at *
  go_upto_region 2 with (first
    | (refine at_op (.load 51 (.tmp 3)) rfl ?_; refine wpList_ldA (t := 51) 51 (.tmp 3) rfl rfl (msgC a b c d A n k) rfl (by with_reducible repeat (first | exact hM | refine Bk.later ?_ (below_plus _ _ _) | refine Bk.alloc ?_ _)) (whole_ _) u1 u2 (szMs _ _ _ _ _ _ _) ?_)
    | (refine at_op (.load 26 (.tmp 4)) rfl ?_; refine wpList_ldA (t := 26) 26 (.tmp 4) rfl rfl (adC s6 sh sl) rfl (by with_reducible repeat (first | exact hS | refine Bk.later ?_ (below_plus _ _ _) | refine Bk.alloc ?_ _)) (whole_ _) y1 y2 (szAd _ _ _) ?_)
    | (refine at_op (.load 26 (.tmp 5)) rfl ?_; refine wpList_ldA (t := 26) 26 (.tmp 5) rfl rfl (adC d6 dh dl) rfl (by with_reducible repeat (first | exact hD | refine Bk.later ?_ (below_plus _ _ _) | refine Bk.alloc ?_ _)) (whole_ _) y1 y2 (szAd _ _ _) ?_)
    | (go_at_call 182; refine (HC.out _ h).mono ?_; rintro e w1 ⟨A1, n1, c1, A2, n2, c2, bs1, d1, rfl, rfl, hr1, hr2⟩))
  go_wp2_with fail
  refine (HO.out _ _ _ (RdL.litW [.slice A1 n1 c1, .slice A2 n2 c2] _ (by simp [size_plus]) (.cons ⟨_, _, _, rfl, hr1⟩ (.cons ⟨_, _, _, rfl, hr2⟩ .nil)))).mono ?_
  rintro e w1 ⟨rfl, rfl⟩
  go_wp2
  go_ret
  exact RetV.mk (Below.allocS (belowP be _ _) _)
set_option maxHeartbeats 4000000 in
set_option maxRecDepth 100000 in
theorem refCheck (a b c d : Nat) (A : Option Addr) (n k : Nat) (s6 : Bool) (sh sl : Nat) (d6 : Bool) (dh dl : Nat) (l : List UInt8) (w : World) (ha : a < 256) (hb : b < 256) (hc : c < 65536) (hd : d < 4294967296) (k1 : sh < 18446744073709551616) (k2 : sl < 18446744073709551616) (k3 : dh < 18446744073709551616) (k4 : dl < 18446744073709551616) (h : Rb w A n k l) (hn : n ≤ 10000) : Calls Try.prog 64 #[.agg (msgC a b c d A n k).toArray, .agg (adC s6 sh sl).toArray, .agg (adC d6 dh dl).toArray] w (RetV w (.int .u16 (65535 - fd (icT s6 sh sl d6 dh dl a b c d l) : Nat))) := by
  obtain ⟨dx, u1, u2⟩ := rowMs
  obtain ⟨dr, r1, r2⟩ := rowMr
  obtain ⟨dy, y1, y2⟩ := rowAd
  have hM : Bk (((w.alloc (.cells (msgC a b c d A n k).toArray 58)).alloc (.cells (adC s6 sh sl).toArray 26)).alloc (.cells (adC d6 dh dl).toArray 26)) w.heap.size 58 (msgC a b c d A n k) := ((Bk.new w 58 (msgC a b c d A n k).toArray).alloc _).alloc _
  have hS : Bk (((w.alloc (.cells (msgC a b c d A n k).toArray 58)).alloc (.cells (adC s6 sh sl).toArray 26)).alloc (.cells (adC d6 dh dl).toArray 26)) (w.heap.size + 1) 26 (adC s6 sh sl) := (Bk.newK _ _ _ (by simp) rfl).alloc _
  have hD : Bk (((w.alloc (.cells (msgC a b c d A n k).toArray 58)).alloc (.cells (adC s6 sh sl).toArray 26)).alloc (.cells (adC d6 dh dl).toArray 26)) (w.heap.size + 1 + 1) 26 (adC d6 dh dl) := Bk.newK _ _ _ (by simp) rfl
  have be : Below w.heap.size w (((w.alloc (.cells (msgC a b c d A n k).toArray 58)).alloc (.cells (adC s6 sh sl).toArray 26)).alloc (.cells (adC d6 dh dl).toArray 26)) := Below.allocS (Below.allocS (Below.allocS (Below.refl _ _) _) _) _
  replace h := ((h.alloc (.cells (msgC a b c d A n k).toArray 58)).alloc (.cells (adC s6 sh sl).toArray 26)).alloc (.cells (adC d6 dh dl).toArray 26)
  have HB := Lib.hid (fun w (h : Rb w A n k l) => refIcmpBytes a b c d A n k l w ha hb hc hd h (by omega))
  have HN : Hid (n = l.length) := Lib.hid h.1.symm
  have HL := Lib.hid (icmpB_length a b c d l)
  have HE : Hid (icT s6 sh sl d6 dh dl a b c d l = tot false (icP s6 sh sl d6 dh dl (8 + l.length) ++ icmpB a b c d l)) := Lib.hid rfl
  rw [HE.out]
  clear HE
  generalize icmpB a b c d l = B at *
  go_enter Try.func64, Try.ntmps64
  go_upto_region 1 with (fail)
  generalize ((w.alloc (.cells (msgC a b c d A n k).toArray 58)).alloc (.cells (adC s6 sh sl).toArray 26)).alloc (.cells (adC d6 dh dl).toArray 26) = W at *
  go_upto_region 2 with (first
    | (refine at_op (.load 58 (.tmp 3)) rfl ?_; refine wpList_ldA (t := 58) 58 (.tmp 3) rfl rfl (msgC a b c d A n k) rfl (by with_reducible repeat (first | exact hM | refine Bk.later ?_ (below_plus _ _ _) | refine Bk.alloc ?_ _)) (whole_ _) r1 r2 (szMr _ _ _ _ _ _ _) ?_)
    | (go_at_call 122; refine (HB.out _ h).mono ?_; rintro e w1 ⟨A1, n1, c1, bs1, d1, rfl, rfl, ho1⟩))
  replace hS := hS.later (below_plus _ bs1 d1)
  replace hD := hD.later (below_plus _ bs1 d1)
  replace be := belowP be bs1 d1
  have hr1 := ho1.rb
  have HN1 : Hid (8 + l.length = n1) := Lib.hid (by rw [← ho1.1, HL.out])
  have hn1 : n1 ≤ 10008 := by have := HN1.out; have := HN.out; omega
  have hB : B.length = n1 := ho1.1
  have zb := be.size
  generalize plus W bs1 d1 = W2 at *
  have q0 : W2.cell? ⟨w.heap.size + 1, 0, none⟩ = some (.bool s6) := hS.cell 0
  clear HL ho1 h HB
  cases s6
  · have HO := Lib.hid (fun w (h : Rb w A1 n1 c1 B) => refSumOf A1 n1 c1 B w h (by omega))
    have HZ : Hid (65535 - fd (tot false B) = 65535 - fd (tot false (icP false sh sl d6 dh dl (8 + l.length) ++ B))) := Lib.hid (by simp [icP])
    replace hB := Lib.hid hB
    generalize 65535 - fd (tot false B) = z at *
    go_wp2_with (go_at_call 118; refine (HO.out _ hr1).mono ?_; rintro e w1 ⟨rfl, rfl⟩)
    go_ret
    exact RetV.is_ (by rw [← HZ.out]; rfl) be
  · have hT : ([psdB true sh sl d6 dh dl 58 n1, B] : List (List UInt8)).flatten.length ≤ 40 + n1 := by have := psdB_length true sh sl d6 dh dl 58 n1; simp; omega
    have HZ : Hid (65535 - fd (tot false ([psdB true sh sl d6 dh dl 58 n1, B] : List (List UInt8)).flatten) = 65535 - fd (tot false (icP true sh sl d6 dh dl (8 + l.length) ++ B))) := Lib.hid (by rw [HN1.out]; simp [icP])
    have HJ := Lib.hid (fun w A5 c5 (h : RdL w A5 2 [psdB true sh sl d6 dh dl 58 n1, B]) => refJoin_any A5 2 c5 _ w h (by omega) (by omega))
    have HO := Lib.hid (fun w A5 n5 c5 (h : Rb w A5 n5 c5 ([psdB true sh sl d6 dh dl 58 n1, B] : List (List UInt8)).flatten) => refSumOf A5 n5 c5 _ w h (by rw [← h.1]; omega))
    have HP := Lib.hid (fun w => refPseudo_any true sh sl d6 dh dl 58 n1 w k1 k2 k3 k4 (by omega) (by omega))
    clear hT
    replace hB := Lib.hid hB
    generalize psdB true sh sl d6 dh dl 58 n1 = Pq at *
    generalize 65535 - fd (tot false ([Pq, B] : List (List UInt8)).flatten) = z at *
    go_wp2_with (first
      | (refine at_op (.load 26 (.tmp 4)) rfl ?_; refine wpList_ldA (t := 26) 26 (.tmp 4) rfl rfl (adC true sh sl) rfl (by with_reducible repeat (first | exact hS | refine Bk.later ?_ (below_plus _ _ _) | refine Bk.alloc ?_ _)) (whole_ _) y1 y2 (szAd _ _ _) ?_)
      | (refine at_op (.load 26 (.tmp 5)) rfl ?_; refine wpList_ldA (t := 26) 26 (.tmp 5) rfl rfl (adC d6 dh dl) rfl (by with_reducible repeat (first | exact hD | refine Bk.later ?_ (below_plus _ _ _) | refine Bk.alloc ?_ _)) (whole_ _) y1 y2 (szAd _ _ _) ?_)
      | (go_at_call 120; refine (HP.out _).mono ?_; rintro e w1 ⟨A2, n2, c2, bs2, d2, rfl, rfl, ho2⟩))
    refine (HJ.out _ _ _ (RdL.litW [.slice A2 n2 c2, .slice A1 n1 c1] _ (by simp [size_plus]) (.cons ⟨_, _, _, rfl, ho2.rb⟩ (.cons ⟨_, _, _, rfl, hr1.plus_ _ _⟩ .nil)))).mono ?_
    rintro e w1 ⟨A6, n6, c6, bs6, d6', rfl, rfl, ho6⟩
    go_wp2_with fail
    refine (HO.out _ _ _ _ ho6.rb).mono ?_
    rintro e w1 ⟨rfl, rfl⟩
    go_wp2
    go_ret
    exact RetV.is_ (by rw [← HZ.out]; rfl) (belowP (Below.allocS (belowP be _ _) _) _ _)
/-- a message with its own load -/
def RetMs (w : World) (a b s d : Nat) (l : List UInt8) (e : Ending) (w' : World) : Prop := ∃ A n c bs d', e = .returned (.agg (msgC a b s d A n c).toArray) ∧ w' = plus w bs d' ∧ Rb (plus w bs d') A n c l
theorem RetMs.mk {w w' : World} {a b s d : Nat} {l : List UInt8} {A : Option Addr} {n c : Nat} (ho : Rb w' A n c l) (hb : Below w.heap.size w w') : RetMs w a b s d l (.returned (.agg (msgC a b s d A n c).toArray)) w' := by
  obtain ⟨bs, d, rfl⟩ := plus_of hb
  exact ⟨A, n, c, bs, d, rfl, rfl, ho⟩
end Go.Proofs.Ytfmkndemkpecpaa

/- Contracts of udp.Parse and its reference. -/
namespace Go.Proofs.Ytfmkndemkpecpaa
open Go.RowKit
set_option linter.unusedVariables false
set_option linter.unusedSimpArgs false
attribute [local go_sem ↓] sliced_cut

attribute [local go_sem] cutA_zero

theorem szDg (cs : List Value) (h : cs.length = 4) : (Try.prog.info? 49).map (·.size) = some cs.length := by rw [h]; kernel_rfl
theorem szDgR (cs : List Value) (h : cs.length = 4) : (Try.prog.info? 57).map (·.size) = some cs.length := by rw [h]; kernel_rfl
set_option maxRecDepth 100000 in
theorem run_buildDg0 (w : World) : (Instr.build 49 #[]).run Try.prog w = .ok (.agg #[.int .u16 0, .int .u16 0, .int .u16 0, .slice none 0 0]) w := by kernel_rfl
set_option maxRecDepth 100000 in
theorem run_buildDgR0 (w : World) : (Instr.build 57 #[]).run Try.prog w = .ok (.agg #[.int .u16 0, .int .u16 0, .int .u16 0, .slice none 0 0]) w := by kernel_rfl
theorem dgGetV (A : Option Addr) (n c : Nat) (l : List UInt8) (k s : Int) (k' s' x : Nat) (w : World) (h : Rb w A n c l) (hk : k = k') (hs : s = s') (hx : num ((l.drop k').take s') = x) (hm : n ≤ 1099511627776) (hn : k' + s' ≤ n) (h8 : s' ≤ 8) :
    Calls Try.prog 54 #[.slice A n c, .int .i64 k, .int .i64 s] w fun e w' => e = .returned (.int .u64 (x : Nat)) ∧ w = w' := by
  subst hk hs hx
  exact refGet_any A n c l k' s' w h hm hn h8

def MP.dg (x0 x1 x2 base : Nat) (l : List UInt8) : MP := ⟨fun v w => ∃ A n c, v = .agg #[.int .u16 (x0 : Nat), .int .u16 (x1 : Nat), .int .u16 (x2 : Nat), .slice A n c] ∧ Rb w A n c l ∧ ∀ a, A = some a → base ≤ a.block, fun _ _ _ ⟨A, n, c, h1, h2, h3⟩ h => ⟨A, n, c, h1, h2.later h.below, h3⟩⟩
/-- a datagram in new memory, and a second result -/
def RetDg (w : World) (x0 x1 x2 : Nat) (l : List UInt8) (v : Value) (e : Ending) (w' : World) : Prop :=
  ∃ A n c bs d, e = .returned (.tuple #[.agg #[.int .u16 x0, .int .u16 x1, .int .u16 x2, .slice A n c], v]) ∧ w' = plus w bs d ∧ Rb (plus w bs d) A n c l
theorem RetDg.mk {w w' : World} {x0 x1 x2 : Nat} {l : List UInt8} {A : Option Addr} {n c : Nat} {v : Value} (h1 : Rb w' A n c l) (hb : Below w.heap.size w w') :
    RetDg w x0 x1 x2 l v (.returned (.tuple #[.agg #[.int .u16 x0, .int .u16 x1, .int .u16 x2, .slice A n c], v])) w' := by
  obtain ⟨bs, d, rfl⟩ := plus_of hb
  exact ⟨A, n, c, bs, d, rfl, rfl, h1⟩
/-- the same, the row in a new block -/
def RetDgF (w : World) (x0 x1 x2 : Nat) (l : List UInt8) (v : Value) (e : Ending) (w' : World) : Prop :=
  ∃ A n c bs d, e = .returned (.tuple #[.agg #[.int .u16 x0, .int .u16 x1, .int .u16 x2, .slice A n c], v]) ∧ w' = plus w bs d ∧ Rb (plus w bs d) A n c l ∧ ∀ a, A = some a → w.heap.size ≤ a.block
theorem RetDgF.dg {w : World} {x0 x1 x2 : Nat} {l : List UInt8} {v : Value} {e : Ending} {w' : World} (h : RetDgF w x0 x1 x2 l v e w') : RetDg w x0 x1 x2 l v e w' := by
  obtain ⟨A, n, c, bs, d, h1, h2, h3, -⟩ := h
  exact ⟨A, n, c, bs, d, h1, h2, h3⟩
theorem RetDgF.mk {w w' : World} {x0 x1 x2 : Nat} {l : List UInt8} {A : Option Addr} {n c : Nat} {v : Value} (h1 : Rb w' A n c l) (hf : ∀ a, A = some a → w.heap.size ≤ a.block) (hb : Below w.heap.size w w') :
    RetDgF w x0 x1 x2 l v (.returned (.tuple #[.agg #[.int .u16 x0, .int .u16 x1, .int .u16 x2, .slice A n c], v])) w' := by
  obtain ⟨bs, d, rfl⟩ := plus_of hb
  exact ⟨A, n, c, bs, d, rfl, rfl, h1, hf⟩
theorem RetDg.zero {w w' : World} {v : Value} (hb : Below w.heap.size w w') : RetDg w 0 0 0 [] v (.returned (.tuple #[.agg #[.int .u16 0, .int .u16 0, .int .u16 0, .slice none 0 0], v])) w' := RetDg.mk Rb.nil_ hb
theorem udpParse_short (A : Option Addr) (n c : Nat) (l : List UInt8) (w : World) (hr : Rb w A n c l) (hn : n < 8) : Calls Try.prog 159 #[.slice A n c] w (RetDg w 0 0 0 [] (.int .i64 20)) := by
  have hZ : Bk (w.alloc (.cells #[.int .u16 0, .int .u16 0, .int .u16 0, .slice none 0 0] 49)) w.heap.size 49 [.int .u16 0, .int .u16 0, .int .u16 0, .slice none 0 0] := Bk.new w 49 #[.int .u16 0, .int .u16 0, .int .u16 0, .slice none 0 0]
  go_enter Try.func159, Try.ntmps159
  go_wp2_with (first
    | (refine at_op (.build 49 #[]) rfl ?_; refine wpList_build 49 [] rfl rfl (.agg #[.int .u16 0, .int .u16 0, .int .u16 0, .slice none 0 0]) ?_ ?_; exact run_buildDg0 _)
    | (refine at_op (.store 49 (.tmp 2) (.tmp 10)) rfl ?_; refine wpList_stA (t := 49) 49 (.tmp 2) (.tmp 10) rfl rfl [.int .u16 0, .int .u16 0, .int .u16 0, .slice none 0 0] [.int .u16 0, .int .u16 0, .int .u16 0, .slice none 0 0] rfl (by simp [Value.oneCell']) rfl rfl hZ (szDg _ rfl) ?_; intro w2 hb2 hg2))
  refine bodyPost_agg2 Try.results159 rfl rfl hb2.range Try.underlying49 rfl (szDg _ rfl) rfl (RetDg.zero ?_)
  exact below_grown ((Below.refl _ _).alloc (Nat.le_refl _) _) hg2 (Nat.le_refl _)
theorem refUdpParse_short (A : Option Addr) (n c : Nat) (l : List UInt8) (w : World) (hr : Rb w A n c l) (hn : n < 8) : Calls Try.prog 61 #[.slice A n c] w (RetDg w 0 0 0 [] (.int .i64 20)) := by
  have hZ : Bk (w.alloc (.cells #[.int .u16 0, .int .u16 0, .int .u16 0, .slice none 0 0] 57)) w.heap.size 57 [.int .u16 0, .int .u16 0, .int .u16 0, .slice none 0 0] := Bk.new w 57 #[.int .u16 0, .int .u16 0, .int .u16 0, .slice none 0 0]
  go_enter Try.func61, Try.ntmps61
  go_wp2_with (first
    | (refine at_op (.build 57 #[]) rfl ?_; refine wpList_build 57 [] rfl rfl (.agg #[.int .u16 0, .int .u16 0, .int .u16 0, .slice none 0 0]) ?_ ?_; exact run_buildDgR0 _)
    | (refine at_op (.store 57 (.tmp 2) (.tmp 8)) rfl ?_; refine wpList_stA (t := 57) 57 (.tmp 2) (.tmp 8) rfl rfl [.int .u16 0, .int .u16 0, .int .u16 0, .slice none 0 0] [.int .u16 0, .int .u16 0, .int .u16 0, .slice none 0 0] rfl (by simp [Value.oneCell']) rfl rfl hZ (szDgR _ rfl) ?_; intro w2 hb2 hg2))
  refine bodyPost_agg2 Try.results61 rfl rfl hb2.range Try.underlying57 rfl (szDgR _ rfl) rfl (RetDg.zero ?_)
  exact below_grown ((Below.refl _ _).alloc (Nat.le_refl _) _) hg2 (Nat.le_refl _)

set_option maxHeartbeats 4000000 in
set_option maxRecDepth 100000 in
theorem udpParse_form (A : Option Addr) (n c : Nat) (l : List UInt8) (w : World) (hr : Rb w A n c l) (h8 : 8 ≤ n) (hn : n ≤ 1000000) (x0 : Nat) (x1 : Nat) (xs : Nat) (x2 : Nat) (hx0 : num ((l.drop 0).take 2) = x0) (hx1 : num ((l.drop 2).take 2) = x1) (hxs : num ((l.drop 4).take 2) = xs) (hx2 : num ((l.drop 6).take 2) = x2) (hs : xs < 8) :
    Calls Try.prog 159 #[.slice A n c] w (RetDg w 0 0 0 [] (.int .i64 21)) := by
  have hc := hr.cap
  have h8i : (8 : Int) ≤ (n : Int) := by omega
  have kxs : xs < 65536 := by rw [← hxs]; exact num_lt' l 4 2 65536 (by decide)
  have Hx0 := Lib.hid hx0
  have Hx1 := Lib.hid hx1
  have Hxs := Lib.hid hxs
  have Hx2 := Lib.hid hx2
  clear hx0 hx1 hxs hx2
  have t1 : decide ((xs : Int) < 8) = true := by simp; omega
  go_enter Try.func159, Try.ntmps159
  go_wp2_with fail
  refine (readK _ _ _ (l.take 8) _ ((hr.take h8).alloc _) (by omega)).mono ?_
  rintro e w1 ⟨r, bs1, d1, rfl, rfl, hr1, hR0⟩
  have HL := Lib.hid (show (l.take 8).length = 8 by rw [List.length_take, hr.1]; omega)
  go_wp2_with fail
  refine (wordK _ _ _ r (l.take 8) 0 x0 hR0 hr1 (by rw [HL.out]; omega) (by rw [HL.out]; omega) (by rw [num_in _ _ _ _ (by omega)]; exact Hx0.out)).mono ?_
  rintro e w1 ⟨bs2, d2, rfl, rfl, hR1, -⟩
  go_wp2_with fail
  refine (wordK _ _ _ r (l.take 8) 2 x1 hR1 hr1 (by rw [HL.out]; omega) (by rw [HL.out]; omega) (by rw [num_in _ _ _ _ (by omega)]; exact Hx1.out)).mono ?_
  rintro e w1 ⟨bs3, d3, rfl, rfl, hR2, -⟩
  have hB0 : Below w.heap.size w (plus (w.alloc (.cells #[.int .u16 0, .int .u16 0, .int .u16 0, .slice none 0 0] 49)) bs3 d3) := belowP ((Below.refl _ _).alloc (Nat.le_refl _) _) _ _
  have hX6 : Bk ((plus (w.alloc (.cells #[.int .u16 0, .int .u16 0, .int .u16 0, .slice none 0 0] 49)) bs3 d3).alloc (.cells #[.int .u16 (x0 : Nat), .int .u16 (x1 : Nat), .int .u16 0, .slice none 0 0] 49)) (w.heap.size + 1 + bs3.length) 49 [.int .u16 (x0 : Nat), .int .u16 (x1 : Nat), .int .u16 0, .slice none 0 0] := by
    have := Bk.new (plus (w.alloc (.cells #[.int .u16 0, .int .u16 0, .int .u16 0, .slice none 0 0] 49)) bs3 d3) 49 #[.int .u16 (x0 : Nat), .int .u16 (x1 : Nat), .int .u16 0, .slice none 0 0]
    rw [size_plus, World.size_alloc] at this
    exact this
  have hZ6 : Bk ((plus (w.alloc (.cells #[.int .u16 0, .int .u16 0, .int .u16 0, .slice none 0 0] 49)) bs3 d3).alloc (.cells #[.int .u16 (x0 : Nat), .int .u16 (x1 : Nat), .int .u16 0, .slice none 0 0] 49)) w.heap.size 49 [.int .u16 0, .int .u16 0, .int .u16 0, .slice none 0 0] := ((Bk.new w 49 #[.int .u16 0, .int .u16 0, .int .u16 0, .slice none 0 0]).later (below_plus _ _ _)).alloc _
  have hlt : r < w.heap.size + 1 + bs3.length := by have := hR2.lt; simpa [size_plus] using this
  have hR6 := hR2.later ((Below.refl _ _).alloc (Nat.le_refl _) (.cells #[.int .u16 (x0 : Nat), .int .u16 (x1 : Nat), .int .u16 0, .slice none 0 0] 49))
  have hB6 := hB0.alloc hB0.size (.cells #[.int .u16 (x0 : Nat), .int .u16 (x1 : Nat), .int .u16 0, .slice none 0 0] 49)
  have hr2 : w.heap.size < r := by have := hr1; simp at this; omega
  go_wp2_with fail
  generalize (plus (w.alloc (.cells #[.int .u16 0, .int .u16 0, .int .u16 0, .slice none 0 0] 49)) bs3 d3).alloc _ = W1 at hX6 hZ6 hR6 hB6 ⊢
  generalize w.heap.size + 1 + bs3.length = g at *
  refine (wordG _ r (l.take 8) 4 xs hR6 (by rw [HL.out]; omega) (by rw [HL.out]; omega) (by rw [num_in _ _ _ _ (by omega)]; exact Hxs.out)).mono ?_
  clear hR6
  rintro e w1 ⟨rfl, hR6, hg6⟩
  replace hX6 := hX6.grown hg6 (by simp; omega)
  replace hZ6 := hZ6.grown hg6 (by simp; omega)
  replace hB6 := hB6.trans (below_of_grown hg6 hB6.size (fun k hk => by injection hk with hk; omega))
  clear hg6 hR0 hR1 hR2 hB0
  go_wp2_with (first
    | (refine at_op (.build 49 #[]) rfl ?_; refine wpList_build 49 [] rfl rfl (.agg #[.int .u16 0, .int .u16 0, .int .u16 0, .slice none 0 0]) ?_ ?_; exact run_buildDg0 _)
    | (refine at_op (.store 49 (.tmp 2) (.tmp 24)) rfl ?_; refine wpList_stA (t := 49) 49 (.tmp 2) (.tmp 24) rfl rfl [.int .u16 0, .int .u16 0, .int .u16 0, .slice none 0 0] [.int .u16 0, .int .u16 0, .int .u16 0, .slice none 0 0] rfl (by simp [Value.oneCell']) rfl rfl hZ6 (szDg _ rfl) ?_; intro w2 hb2 hg2))
  refine bodyPost_agg2 Try.results159 rfl rfl hb2.range Try.underlying49 rfl (szDg _ rfl) rfl (RetDg.zero ?_)
  exact below_grown hB6 hg2 (Nat.le_refl _)

set_option maxHeartbeats 4000000 in
set_option maxRecDepth 100000 in
theorem udpParse_short2 (A : Option Addr) (n c : Nat) (l : List UInt8) (w : World) (hr : Rb w A n c l) (h8 : 8 ≤ n) (hn : n ≤ 1000000) (x0 : Nat) (x1 : Nat) (xs : Nat) (x2 : Nat) (hx0 : num ((l.drop 0).take 2) = x0) (hx1 : num ((l.drop 2).take 2) = x1) (hxs : num ((l.drop 4).take 2) = xs) (hx2 : num ((l.drop 6).take 2) = x2) (hs : 8 ≤ xs) (hz : n < xs) :
    Calls Try.prog 159 #[.slice A n c] w (RetDg w 0 0 0 [] (.int .i64 20)) := by
  have hc := hr.cap
  have h8i : (8 : Int) ≤ (n : Int) := by omega
  have kxs : xs < 65536 := by rw [← hxs]; exact num_lt' l 4 2 65536 (by decide)
  have Hx0 := Lib.hid hx0
  have Hx1 := Lib.hid hx1
  have Hxs := Lib.hid hxs
  have Hx2 := Lib.hid hx2
  clear hx0 hx1 hxs hx2
  have t1 : decide ((xs : Int) < 8) = false := by simp; omega
  have t2 : decide (n < xs) = true := by simp; omega
  go_enter Try.func159, Try.ntmps159
  go_wp2_with fail
  refine (readK _ _ _ (l.take 8) _ ((hr.take h8).alloc _) (by omega)).mono ?_
  rintro e w1 ⟨r, bs1, d1, rfl, rfl, hr1, hR0⟩
  have HL := Lib.hid (show (l.take 8).length = 8 by rw [List.length_take, hr.1]; omega)
  go_wp2_with fail
  refine (wordK _ _ _ r (l.take 8) 0 x0 hR0 hr1 (by rw [HL.out]; omega) (by rw [HL.out]; omega) (by rw [num_in _ _ _ _ (by omega)]; exact Hx0.out)).mono ?_
  rintro e w1 ⟨bs2, d2, rfl, rfl, hR1, -⟩
  go_wp2_with fail
  refine (wordK _ _ _ r (l.take 8) 2 x1 hR1 hr1 (by rw [HL.out]; omega) (by rw [HL.out]; omega) (by rw [num_in _ _ _ _ (by omega)]; exact Hx1.out)).mono ?_
  rintro e w1 ⟨bs3, d3, rfl, rfl, hR2, -⟩
  have hB0 : Below w.heap.size w (plus (w.alloc (.cells #[.int .u16 0, .int .u16 0, .int .u16 0, .slice none 0 0] 49)) bs3 d3) := belowP ((Below.refl _ _).alloc (Nat.le_refl _) _) _ _
  have hX6 : Bk ((plus (w.alloc (.cells #[.int .u16 0, .int .u16 0, .int .u16 0, .slice none 0 0] 49)) bs3 d3).alloc (.cells #[.int .u16 (x0 : Nat), .int .u16 (x1 : Nat), .int .u16 0, .slice none 0 0] 49)) (w.heap.size + 1 + bs3.length) 49 [.int .u16 (x0 : Nat), .int .u16 (x1 : Nat), .int .u16 0, .slice none 0 0] := by
    have := Bk.new (plus (w.alloc (.cells #[.int .u16 0, .int .u16 0, .int .u16 0, .slice none 0 0] 49)) bs3 d3) 49 #[.int .u16 (x0 : Nat), .int .u16 (x1 : Nat), .int .u16 0, .slice none 0 0]
    rw [size_plus, World.size_alloc] at this
    exact this
  have hZ6 : Bk ((plus (w.alloc (.cells #[.int .u16 0, .int .u16 0, .int .u16 0, .slice none 0 0] 49)) bs3 d3).alloc (.cells #[.int .u16 (x0 : Nat), .int .u16 (x1 : Nat), .int .u16 0, .slice none 0 0] 49)) w.heap.size 49 [.int .u16 0, .int .u16 0, .int .u16 0, .slice none 0 0] := ((Bk.new w 49 #[.int .u16 0, .int .u16 0, .int .u16 0, .slice none 0 0]).later (below_plus _ _ _)).alloc _
  have hlt : r < w.heap.size + 1 + bs3.length := by have := hR2.lt; simpa [size_plus] using this
  have hR6 := hR2.later ((Below.refl _ _).alloc (Nat.le_refl _) (.cells #[.int .u16 (x0 : Nat), .int .u16 (x1 : Nat), .int .u16 0, .slice none 0 0] 49))
  have hB6 := hB0.alloc hB0.size (.cells #[.int .u16 (x0 : Nat), .int .u16 (x1 : Nat), .int .u16 0, .slice none 0 0] 49)
  have hr2 : w.heap.size < r := by have := hr1; simp at this; omega
  go_wp2_with fail
  generalize (plus (w.alloc (.cells #[.int .u16 0, .int .u16 0, .int .u16 0, .slice none 0 0] 49)) bs3 d3).alloc _ = W1 at hX6 hZ6 hR6 hB6 ⊢
  generalize w.heap.size + 1 + bs3.length = g at *
  refine (wordG _ r (l.take 8) 4 xs hR6 (by rw [HL.out]; omega) (by rw [HL.out]; omega) (by rw [num_in _ _ _ _ (by omega)]; exact Hxs.out)).mono ?_
  clear hR6
  rintro e w1 ⟨rfl, hR6, hg6⟩
  replace hX6 := hX6.grown hg6 (by simp; omega)
  replace hZ6 := hZ6.grown hg6 (by simp; omega)
  replace hB6 := hB6.trans (below_of_grown hg6 hB6.size (fun k hk => by injection hk with hk; omega))
  clear hg6 hR0 hR1 hR2 hB0
  go_wp2_with (first
    | (refine at_op (.build 49 #[]) rfl ?_; refine wpList_build 49 [] rfl rfl (.agg #[.int .u16 0, .int .u16 0, .int .u16 0, .slice none 0 0]) ?_ ?_; exact run_buildDg0 _)
    | (refine at_op (.store 49 (.tmp 2) (.tmp 29)) rfl ?_; refine wpList_stA (t := 49) 49 (.tmp 2) (.tmp 29) rfl rfl [.int .u16 0, .int .u16 0, .int .u16 0, .slice none 0 0] [.int .u16 0, .int .u16 0, .int .u16 0, .slice none 0 0] rfl (by simp [Value.oneCell']) rfl rfl hZ6 (szDg _ rfl) ?_; intro w2 hb2 hg2))
  refine bodyPost_agg2 Try.results159 rfl rfl hb2.range Try.underlying49 rfl (szDg _ rfl) rfl (RetDg.zero ?_)
  exact below_grown hB6 hg2 (Nat.le_refl _)

set_option maxHeartbeats 4000000 in
set_option maxRecDepth 100000 in
theorem udpParse_okF (A : Option Addr) (n c : Nat) (l : List UInt8) (w : World) (hr : Rb w A n c l) (h8 : 8 ≤ n) (hn : n ≤ 1000000) (x0 : Nat) (x1 : Nat) (xs : Nat) (x2 : Nat) (hx0 : num ((l.drop 0).take 2) = x0) (hx1 : num ((l.drop 2).take 2) = x1) (hxs : num ((l.drop 4).take 2) = xs) (hx2 : num ((l.drop 6).take 2) = x2) (hs : 8 ≤ xs) (hz : xs ≤ n) :
    Calls Try.prog 159 #[.slice A n c] w (RetDgF w x0 x1 x2 ((l.drop 8).take (xs - 8)) (.int .i64 0)) := by
  have hc := hr.cap
  have h8i : (8 : Int) ≤ (n : Int) := by omega
  have kxs : xs < 65536 := by rw [← hxs]; exact num_lt' l 4 2 65536 (by decide)
  have Hx0 := Lib.hid hx0
  have Hx1 := Lib.hid hx1
  have Hxs := Lib.hid hxs
  have Hx2 := Lib.hid hx2
  clear hx0 hx1 hxs hx2
  have t1 : decide ((xs : Int) < 8) = false := by simp; omega
  have t2 : decide (n < xs) = false := by simp; omega
  go_enter Try.func159, Try.ntmps159
  go_wp2_with fail
  refine (readK _ _ _ (l.take 8) _ ((hr.take h8).alloc _) (by omega)).mono ?_
  rintro e w1 ⟨r, bs1, d1, rfl, rfl, hr1, hR0⟩
  have HL := Lib.hid (show (l.take 8).length = 8 by rw [List.length_take, hr.1]; omega)
  go_wp2_with fail
  refine (wordK _ _ _ r (l.take 8) 0 x0 hR0 hr1 (by rw [HL.out]; omega) (by rw [HL.out]; omega) (by rw [num_in _ _ _ _ (by omega)]; exact Hx0.out)).mono ?_
  rintro e w1 ⟨bs2, d2, rfl, rfl, hR1, -⟩
  go_wp2_with fail
  refine (wordK _ _ _ r (l.take 8) 2 x1 hR1 hr1 (by rw [HL.out]; omega) (by rw [HL.out]; omega) (by rw [num_in _ _ _ _ (by omega)]; exact Hx1.out)).mono ?_
  rintro e w1 ⟨bs3, d3, rfl, rfl, hR2, -⟩
  have hB0 : Below w.heap.size w (plus (w.alloc (.cells #[.int .u16 0, .int .u16 0, .int .u16 0, .slice none 0 0] 49)) bs3 d3) := belowP ((Below.refl _ _).alloc (Nat.le_refl _) _) _ _
  have hX6 : Bk ((plus (w.alloc (.cells #[.int .u16 0, .int .u16 0, .int .u16 0, .slice none 0 0] 49)) bs3 d3).alloc (.cells #[.int .u16 (x0 : Nat), .int .u16 (x1 : Nat), .int .u16 0, .slice none 0 0] 49)) (w.heap.size + 1 + bs3.length) 49 [.int .u16 (x0 : Nat), .int .u16 (x1 : Nat), .int .u16 0, .slice none 0 0] := by
    have := Bk.new (plus (w.alloc (.cells #[.int .u16 0, .int .u16 0, .int .u16 0, .slice none 0 0] 49)) bs3 d3) 49 #[.int .u16 (x0 : Nat), .int .u16 (x1 : Nat), .int .u16 0, .slice none 0 0]
    rw [size_plus, World.size_alloc] at this
    exact this
  have hZ6 : Bk ((plus (w.alloc (.cells #[.int .u16 0, .int .u16 0, .int .u16 0, .slice none 0 0] 49)) bs3 d3).alloc (.cells #[.int .u16 (x0 : Nat), .int .u16 (x1 : Nat), .int .u16 0, .slice none 0 0] 49)) w.heap.size 49 [.int .u16 0, .int .u16 0, .int .u16 0, .slice none 0 0] := ((Bk.new w 49 #[.int .u16 0, .int .u16 0, .int .u16 0, .slice none 0 0]).later (below_plus _ _ _)).alloc _
  have hlt : r < w.heap.size + 1 + bs3.length := by have := hR2.lt; simpa [size_plus] using this
  have hR6 := hR2.later ((Below.refl _ _).alloc (Nat.le_refl _) (.cells #[.int .u16 (x0 : Nat), .int .u16 (x1 : Nat), .int .u16 0, .slice none 0 0] 49))
  have hB6 := hB0.alloc hB0.size (.cells #[.int .u16 (x0 : Nat), .int .u16 (x1 : Nat), .int .u16 0, .slice none 0 0] 49)
  have hr2 : w.heap.size < r := by have := hr1; simp at this; omega
  go_wp2_with fail
  generalize (plus (w.alloc (.cells #[.int .u16 0, .int .u16 0, .int .u16 0, .slice none 0 0] 49)) bs3 d3).alloc _ = W1 at hX6 hZ6 hR6 hB6 ⊢
  generalize w.heap.size + 1 + bs3.length = g at *
  refine (wordG _ r (l.take 8) 4 xs hR6 (by rw [HL.out]; omega) (by rw [HL.out]; omega) (by rw [num_in _ _ _ _ (by omega)]; exact Hxs.out)).mono ?_
  clear hR6
  rintro e w1 ⟨rfl, hR6, hg6⟩
  replace hX6 := hX6.grown hg6 (by simp; omega)
  replace hZ6 := hZ6.grown hg6 (by simp; omega)
  replace hB6 := hB6.trans (below_of_grown hg6 hB6.size (fun k hk => by injection hk with hk; omega))
  clear hg6 hR0 hR1 hR2 hB0
  go_wp2_with fail
  refine (wordG _ r (l.take 8) 6 x2 hR6 (by rw [HL.out]; omega) (by rw [HL.out]; omega) (by rw [num_in _ _ _ _ (by omega)]; exact Hx2.out)).mono ?_
  clear hR6
  rintro e v0 ⟨rfl, hR6, hg6⟩
  replace hX6 := hX6.grown hg6 (by simp; omega)
  replace hZ6 := hZ6.grown hg6 (by simp; omega)
  replace hB6 := hB6.trans (below_of_grown hg6 hB6.size (fun k hk => by injection hk with hk; omega))
  clear hg6
  have q : v0.cell? ⟨g, 2, none⟩ = some (.int .u16 0) := hX6.cell 2
  have f := hX6.frozen 2
  go_wp2_with fail
  clear q f
  replace hX6 := hX6.set_ 2 (.int .u16 (x2 : Nat))
  simp only [List.set_cons_zero, List.set_cons_succ] at hX6
  replace hZ6 := hZ6.far (p := ⟨g, 2, none⟩) (by simp; omega) (.int .u16 (x2 : Nat))
  replace hB6 := hB6.setCell (p := ⟨g, 2, none⟩) (by simp; omega) (.int .u16 (x2 : Nat))
  clear hR6
  generalize v0.setCell ⟨g, 2, none⟩ (.int .u16 (x2 : Nat)) = W3 at hX6 hZ6 hB6 ⊢
  refine (clone_any _ _ _ ((l.drop 8).take (xs - 8)) _ (((hr.cut (k := 8) (by omega)).take (k := xs - 8) (by omega)).later hB6) (by omega)).mono ?_
  rintro e wc ⟨A1, n1, c1, bsA, dA, rfl, rfl, ho0⟩
  have q : W3.cell? ⟨g, 3, none⟩ = some (.slice none 0 0) := hX6.cell 3
  have f := hX6.frozen 3
  have hgl := hX6.lt
  go_upto_region 12 with fail
  clear q f
  replace ho0 := (ho0.swap (W' := W3.setCell ⟨g, 3, none⟩ (.slice A1 n1 c1)) (d' := dA) (Nat.le_refl _) (by simp)).mono (show w.heap.size + 1 ≤ W3.heap.size by omega)
  replace hX6 := (hX6.set_ 3 (.slice A1 n1 c1)).later (below_plus _ bsA dA)
  simp only [List.set_cons_zero, List.set_cons_succ] at hX6
  replace hZ6 := (hZ6.far (p := ⟨g, 3, none⟩) (by simp; omega) (.slice A1 n1 c1)).later (below_plus _ bsA dA)
  replace hB6 := belowP (hB6.setCell (p := ⟨g, 3, none⟩) (by simp; omega) (.slice A1 n1 c1)) bsA dA
  generalize plus (W3.setCell ⟨g, 3, none⟩ (.slice A1 n1 c1)) bsA dA = W5 at hX6 hZ6 hB6 ho0 ⊢
  go_wp2_with (first
    | (refine at_op (.load 49 (.tmp 5)) rfl ?_; refine wpList_ldA (t := 49) 49 (.tmp 5) rfl rfl [.int .u16 (x0 : Nat), .int .u16 (x1 : Nat), .int .u16 (x2 : Nat), .slice A1 n1 c1] rfl hX6 rfl Try.underlying49 rfl (szDg _ rfl) ?_)
    | (refine at_op (.store 49 (.tmp 2) (.tmp 38)) rfl ?_; refine wpList_stA (t := 49) 49 (.tmp 2) (.tmp 38) rfl rfl [.int .u16 (x0 : Nat), .int .u16 (x1 : Nat), .int .u16 (x2 : Nat), .slice A1 n1 c1] [.int .u16 0, .int .u16 0, .int .u16 0, .slice none 0 0] rfl (by simp [Value.oneCell']) rfl rfl hZ6 (szDg _ rfl) ?_; intro w2 hb2 hg2))
  refine bodyPost_agg2 Try.results159 rfl rfl hb2.range Try.underlying49 rfl (szDg _ rfl) rfl (RetDgF.mk ?_ ?_ (below_grown hB6 hg2 (Nat.le_refl _)))
  · exact (ho0.grown hg2 (fun k hk => by have := (ho0.blk k hk).1; simp; omega)).rb
  · intro a ha
    subst ha
    have := (ho0.blk a.block rfl).1
    omega

set_option maxHeartbeats 4000000 in
set_option maxRecDepth 100000 in
theorem refUdpParse_form (A : Option Addr) (n c : Nat) (l : List UInt8) (w : World) (hr : Rb w A n c l) (h8 : 8 ≤ n) (hn : n ≤ 1000000) (x0 : Nat) (x1 : Nat) (xs : Nat) (x2 : Nat) (hx0 : num ((l.drop 0).take 2) = x0) (hx1 : num ((l.drop 2).take 2) = x1) (hxs : num ((l.drop 4).take 2) = xs) (hx2 : num ((l.drop 6).take 2) = x2) (hs : xs < 8) :
    Calls Try.prog 61 #[.slice A n c] w (RetDg w 0 0 0 [] (.int .i64 21)) := by
  have hc := hr.cap
  have h8i : (8 : Int) ≤ (n : Int) := by omega
  have kx0 : x0 < 65536 := by rw [← hx0]; exact num_lt' l 0 2 65536 (by decide)
  have kx1 : x1 < 65536 := by rw [← hx1]; exact num_lt' l 2 2 65536 (by decide)
  have kxs : xs < 65536 := by rw [← hxs]; exact num_lt' l 4 2 65536 (by decide)
  have kx2 : x2 < 65536 := by rw [← hx2]; exact num_lt' l 6 2 65536 (by decide)
  have Hx0 := Lib.hid hx0
  have Hx1 := Lib.hid hx1
  have Hxs := Lib.hid hxs
  have Hx2 := Lib.hid hx2
  clear hx0 hx1 hxs hx2
  have cw : ∀ y : Nat, y < 65536 → IntKind.u16.wrap (y : Int) = (y : Int) := fun y hy => by rw [IntKind.wrap_u16]; omega
  have cx0 := cw x0 kx0
  have cx1 := cw x1 kx1
  have cx2 := cw x2 kx2
  clear cw
  have t1 : decide ((xs : Int) < 8) = true := by simp; omega
  have hZ : Bk (w.alloc (.cells #[.int .u16 0, .int .u16 0, .int .u16 0, .slice none 0 0] 57)) w.heap.size 57 [.int .u16 0, .int .u16 0, .int .u16 0, .slice none 0 0] := Bk.new w 57 #[.int .u16 0, .int .u16 0, .int .u16 0, .slice none 0 0]
  go_enter Try.func61, Try.ntmps61
  go_wp2_with fail
  refine (dgGetV _ n c l _ _ 4 2 xs _ (hr.alloc _) rfl rfl Hxs.out (by omega) (by omega) (by omega)).mono ?_
  rintro e w1 ⟨rfl, rfl⟩
  go_wp2_with (first
    | (refine at_op (.build 57 #[]) rfl ?_; refine wpList_build 57 [] rfl rfl (.agg #[.int .u16 0, .int .u16 0, .int .u16 0, .slice none 0 0]) ?_ ?_; exact run_buildDgR0 _)
    | (refine at_op (.store 57 (.tmp 2) (.tmp 14)) rfl ?_; refine wpList_stA (t := 57) 57 (.tmp 2) (.tmp 14) rfl rfl [.int .u16 0, .int .u16 0, .int .u16 0, .slice none 0 0] [.int .u16 0, .int .u16 0, .int .u16 0, .slice none 0 0] rfl (by simp [Value.oneCell']) rfl rfl hZ (szDgR _ rfl) ?_; intro w2 hb2 hg2))
  refine bodyPost_agg2 Try.results61 rfl rfl hb2.range Try.underlying57 rfl (szDgR _ rfl) rfl (RetDg.zero ?_)
  exact below_grown ((Below.refl _ _).alloc (Nat.le_refl _) _) hg2 (Nat.le_refl _)

set_option maxHeartbeats 4000000 in
set_option maxRecDepth 100000 in
theorem refUdpParse_short2 (A : Option Addr) (n c : Nat) (l : List UInt8) (w : World) (hr : Rb w A n c l) (h8 : 8 ≤ n) (hn : n ≤ 1000000) (x0 : Nat) (x1 : Nat) (xs : Nat) (x2 : Nat) (hx0 : num ((l.drop 0).take 2) = x0) (hx1 : num ((l.drop 2).take 2) = x1) (hxs : num ((l.drop 4).take 2) = xs) (hx2 : num ((l.drop 6).take 2) = x2) (hs : 8 ≤ xs) (hz : n < xs) :
    Calls Try.prog 61 #[.slice A n c] w (RetDg w 0 0 0 [] (.int .i64 20)) := by
  have hc := hr.cap
  have h8i : (8 : Int) ≤ (n : Int) := by omega
  have kx0 : x0 < 65536 := by rw [← hx0]; exact num_lt' l 0 2 65536 (by decide)
  have kx1 : x1 < 65536 := by rw [← hx1]; exact num_lt' l 2 2 65536 (by decide)
  have kxs : xs < 65536 := by rw [← hxs]; exact num_lt' l 4 2 65536 (by decide)
  have kx2 : x2 < 65536 := by rw [← hx2]; exact num_lt' l 6 2 65536 (by decide)
  have Hx0 := Lib.hid hx0
  have Hx1 := Lib.hid hx1
  have Hxs := Lib.hid hxs
  have Hx2 := Lib.hid hx2
  clear hx0 hx1 hxs hx2
  have cw : ∀ y : Nat, y < 65536 → IntKind.u16.wrap (y : Int) = (y : Int) := fun y hy => by rw [IntKind.wrap_u16]; omega
  have cx0 := cw x0 kx0
  have cx1 := cw x1 kx1
  have cx2 := cw x2 kx2
  clear cw
  have t1 : decide ((xs : Int) < 8) = false := by simp; omega
  have t2 : decide (n < xs) = true := by simp; omega
  have hZ : Bk (w.alloc (.cells #[.int .u16 0, .int .u16 0, .int .u16 0, .slice none 0 0] 57)) w.heap.size 57 [.int .u16 0, .int .u16 0, .int .u16 0, .slice none 0 0] := Bk.new w 57 #[.int .u16 0, .int .u16 0, .int .u16 0, .slice none 0 0]
  go_enter Try.func61, Try.ntmps61
  go_wp2_with fail
  refine (dgGetV _ n c l _ _ 4 2 xs _ (hr.alloc _) rfl rfl Hxs.out (by omega) (by omega) (by omega)).mono ?_
  rintro e w1 ⟨rfl, rfl⟩
  go_wp2_with (first
    | (refine at_op (.build 57 #[]) rfl ?_; refine wpList_build 57 [] rfl rfl (.agg #[.int .u16 0, .int .u16 0, .int .u16 0, .slice none 0 0]) ?_ ?_; exact run_buildDgR0 _)
    | (refine at_op (.store 57 (.tmp 2) (.tmp 19)) rfl ?_; refine wpList_stA (t := 57) 57 (.tmp 2) (.tmp 19) rfl rfl [.int .u16 0, .int .u16 0, .int .u16 0, .slice none 0 0] [.int .u16 0, .int .u16 0, .int .u16 0, .slice none 0 0] rfl (by simp [Value.oneCell']) rfl rfl hZ (szDgR _ rfl) ?_; intro w2 hb2 hg2))
  refine bodyPost_agg2 Try.results61 rfl rfl hb2.range Try.underlying57 rfl (szDgR _ rfl) rfl (RetDg.zero ?_)
  exact below_grown ((Below.refl _ _).alloc (Nat.le_refl _) _) hg2 (Nat.le_refl _)

set_option maxHeartbeats 4000000 in
set_option maxRecDepth 100000 in
theorem refUdpParse_okF (A : Option Addr) (n c : Nat) (l : List UInt8) (w : World) (hr : Rb w A n c l) (h8 : 8 ≤ n) (hn : n ≤ 1000000) (x0 : Nat) (x1 : Nat) (xs : Nat) (x2 : Nat) (hx0 : num ((l.drop 0).take 2) = x0) (hx1 : num ((l.drop 2).take 2) = x1) (hxs : num ((l.drop 4).take 2) = xs) (hx2 : num ((l.drop 6).take 2) = x2) (hs : 8 ≤ xs) (hz : xs ≤ n) :
    Calls Try.prog 61 #[.slice A n c] w (RetDgF w x0 x1 x2 ((l.drop 8).take (xs - 8)) (.int .i64 0)) := by
  have hc := hr.cap
  have h8i : (8 : Int) ≤ (n : Int) := by omega
  have kx0 : x0 < 65536 := by rw [← hx0]; exact num_lt' l 0 2 65536 (by decide)
  have kx1 : x1 < 65536 := by rw [← hx1]; exact num_lt' l 2 2 65536 (by decide)
  have kxs : xs < 65536 := by rw [← hxs]; exact num_lt' l 4 2 65536 (by decide)
  have kx2 : x2 < 65536 := by rw [← hx2]; exact num_lt' l 6 2 65536 (by decide)
  have Hx0 := Lib.hid hx0
  have Hx1 := Lib.hid hx1
  have Hxs := Lib.hid hxs
  have Hx2 := Lib.hid hx2
  clear hx0 hx1 hxs hx2
  have cw : ∀ y : Nat, y < 65536 → IntKind.u16.wrap (y : Int) = (y : Int) := fun y hy => by rw [IntKind.wrap_u16]; omega
  have cx0 := cw x0 kx0
  have cx1 := cw x1 kx1
  have cx2 := cw x2 kx2
  clear cw
  have t1 : decide ((xs : Int) < 8) = false := by simp; omega
  have t2 : decide (n < xs) = false := by simp; omega
  have hZ : Bk (w.alloc (.cells #[.int .u16 0, .int .u16 0, .int .u16 0, .slice none 0 0] 57)) w.heap.size 57 [.int .u16 0, .int .u16 0, .int .u16 0, .slice none 0 0] := Bk.new w 57 #[.int .u16 0, .int .u16 0, .int .u16 0, .slice none 0 0]
  go_enter Try.func61, Try.ntmps61
  go_wp2_with fail
  refine (dgGetV _ n c l _ _ 4 2 xs _ (hr.alloc _) rfl rfl Hxs.out (by omega) (by omega) (by omega)).mono ?_
  rintro e w1 ⟨rfl, rfl⟩
  go_wp2
  refine wp_relE 15 35 [0, 2, 3, 5, 6, 8, 10, 11] rfl (by kernel_rfl) (by kernel_rfl) (fun i => match i with | 0 => MP.eq (.slice A n c) | 1 => MP.eq (.int .u64 (x0 : Nat)) | 2 => MP.eq (.int .u16 (x0 : Nat)) | 3 => MP.eq (.slice A n c) | 4 => MP.eq (.int .u64 (x1 : Nat)) | 5 => MP.eq (.int .u16 (x1 : Nat)) | 6 => MP.eq (.slice A n c) | 7 => MP.eq (.int .u64 (x2 : Nat)) | 8 => MP.eq (.int .u16 (x2 : Nat)) | 9 => MP.fullN (w.heap.size + 1) [] | 10 => MP.eq (.slice A n c) | 11 => MP.eq (.int .i64 (xs : Int)) | 12 => MP.eq (.slice (cutA A c 8 1) (xs - 8) (c - 8)) | 13 => MP.rbN (w.heap.size + 1) ((l.drop 8).take (xs - 8)) | 14 => MP.dg x0 x1 x2 (w.heap.size + 1) ((l.drop 8).take (xs - 8)) | _ => MP.any) ?_ ?_
  · intro i hi o ho FA x hO hD
    match i, hi, ho, hO, hD with
    | 0, _, ho, hO, hD => 
      obtain rfl := Option.some.inj ho.symm
      clear ho
      have ev0 : FA.eval (.tmp 0) = .slice A n c := hO 0 (by kernel_rfl)
      have e0 : FA.tmps[0]?.getD undef = .slice A n c := by simpa [Act.eval] using ev0
      replace ev0 := Lib.hid ev0
      clear hO hD
      rw [if_pos (by decide)]
      refine ⟨.slice A n c, .inl ⟨by simp [Region.wanted], fun w => ?_⟩, rfl⟩
      go_simp
    | 1, _, ho, hO, hD => 
      obtain rfl := Option.some.inj ho.symm
      clear ho
      have ev20 : FA.eval (.tmp 20) = .slice A n c := hD 0 20 (by kernel_rfl)
      have e20 : FA.tmps[20]?.getD undef = .slice A n c := by simpa [Act.eval] using ev20
      replace ev20 := Lib.hid ev20
      clear hO hD
      rw [if_neg (by decide)]
      intro K hK
      go_simp
      refine (dgGetV _ n c l _ _ 0 2 x0 _ ((hr.alloc _).plus_ _ _) rfl rfl Hx0.out (by omega) (by omega) (by omega)).mono ?_
      rintro e w1 ⟨rfl, rfl⟩
      exact hK.out _ _ (Ex.refl _) rfl
    | 2, _, ho, hO, hD => 
      obtain rfl := Option.some.inj ho.symm
      clear ho
      have ev21 : FA.eval (.tmp 21) = .int .u64 (x0 : Nat) := hD 1 21 (by kernel_rfl)
      have e21 : FA.tmps[21]?.getD undef = .int .u64 (x0 : Nat) := by simpa [Act.eval] using ev21
      replace ev21 := Lib.hid ev21
      clear hO hD
      rw [if_pos (by decide)]
      refine ⟨.int .u16 (x0 : Nat), .inl ⟨by simp [Region.wanted], fun w => ?_⟩, rfl⟩
      go_simp
    | 3, _, ho, hO, hD => 
      obtain rfl := Option.some.inj ho.symm
      clear ho
      have ev0 : FA.eval (.tmp 0) = .slice A n c := hO 0 (by kernel_rfl)
      have e0 : FA.tmps[0]?.getD undef = .slice A n c := by simpa [Act.eval] using ev0
      replace ev0 := Lib.hid ev0
      clear hO hD
      rw [if_pos (by decide)]
      refine ⟨.slice A n c, .inl ⟨by simp [Region.wanted], fun w => ?_⟩, rfl⟩
      go_simp
    | 4, _, ho, hO, hD => 
      obtain rfl := Option.some.inj ho.symm
      clear ho
      have ev23 : FA.eval (.tmp 23) = .slice A n c := hD 3 23 (by kernel_rfl)
      have e23 : FA.tmps[23]?.getD undef = .slice A n c := by simpa [Act.eval] using ev23
      replace ev23 := Lib.hid ev23
      clear hO hD
      rw [if_neg (by decide)]
      intro K hK
      go_simp
      refine (dgGetV _ n c l _ _ 2 2 x1 _ ((hr.alloc _).plus_ _ _) rfl rfl Hx1.out (by omega) (by omega) (by omega)).mono ?_
      rintro e w1 ⟨rfl, rfl⟩
      exact hK.out _ _ (Ex.refl _) rfl
    | 5, _, ho, hO, hD => 
      obtain rfl := Option.some.inj ho.symm
      clear ho
      have ev24 : FA.eval (.tmp 24) = .int .u64 (x1 : Nat) := hD 4 24 (by kernel_rfl)
      have e24 : FA.tmps[24]?.getD undef = .int .u64 (x1 : Nat) := by simpa [Act.eval] using ev24
      replace ev24 := Lib.hid ev24
      clear hO hD
      rw [if_pos (by decide)]
      refine ⟨.int .u16 (x1 : Nat), .inl ⟨by simp [Region.wanted], fun w => ?_⟩, rfl⟩
      go_simp
    | 6, _, ho, hO, hD => 
      obtain rfl := Option.some.inj ho.symm
      clear ho
      have ev0 : FA.eval (.tmp 0) = .slice A n c := hO 0 (by kernel_rfl)
      have e0 : FA.tmps[0]?.getD undef = .slice A n c := by simpa [Act.eval] using ev0
      replace ev0 := Lib.hid ev0
      clear hO hD
      rw [if_pos (by decide)]
      refine ⟨.slice A n c, .inl ⟨by simp [Region.wanted], fun w => ?_⟩, rfl⟩
      go_simp
    | 7, _, ho, hO, hD => 
      obtain rfl := Option.some.inj ho.symm
      clear ho
      have ev26 : FA.eval (.tmp 26) = .slice A n c := hD 6 26 (by kernel_rfl)
      have e26 : FA.tmps[26]?.getD undef = .slice A n c := by simpa [Act.eval] using ev26
      replace ev26 := Lib.hid ev26
      clear hO hD
      rw [if_neg (by decide)]
      intro K hK
      go_simp
      refine (dgGetV _ n c l _ _ 6 2 x2 _ ((hr.alloc _).plus_ _ _) rfl rfl Hx2.out (by omega) (by omega) (by omega)).mono ?_
      rintro e w1 ⟨rfl, rfl⟩
      exact hK.out _ _ (Ex.refl _) rfl
    | 8, _, ho, hO, hD => 
      obtain rfl := Option.some.inj ho.symm
      clear ho
      have ev27 : FA.eval (.tmp 27) = .int .u64 (x2 : Nat) := hD 7 27 (by kernel_rfl)
      have e27 : FA.tmps[27]?.getD undef = .int .u64 (x2 : Nat) := by simpa [Act.eval] using ev27
      replace ev27 := Lib.hid ev27
      clear hO hD
      rw [if_pos (by decide)]
      refine ⟨.int .u16 (x2 : Nat), .inl ⟨by simp [Region.wanted], fun w => ?_⟩, rfl⟩
      go_simp
    | 9, _, ho, hO, hD => 
      obtain rfl := Option.some.inj ho.symm
      clear ho
      clear hO hD
      rw [if_neg (by decide)]
      intro K hK
      go_simp
      refine hK.out _ _ (Ex.alloc _ _) ⟨_, _, rfl, ?_, ?_⟩
      · refine Rb.litW _ [] ?_ rfl (by decide) rfl
        simp [size_plus]
      · intro a ha
        injection ha with ha
        subst ha
        simp
    | 10, _, ho, hO, hD => 
      obtain rfl := Option.some.inj ho.symm
      clear ho
      have ev0 : FA.eval (.tmp 0) = .slice A n c := hO 0 (by kernel_rfl)
      have e0 : FA.tmps[0]?.getD undef = .slice A n c := by simpa [Act.eval] using ev0
      replace ev0 := Lib.hid ev0
      clear hO hD
      rw [if_pos (by decide)]
      refine ⟨.slice A n c, .inl ⟨by simp [Region.wanted], fun w => ?_⟩, rfl⟩
      go_simp
    | 11, _, ho, hO, hD => 
      obtain rfl := Option.some.inj ho.symm
      clear ho
      have ev4 : FA.eval (.tmp 4) = .int .i64 (xs : Int) := hO 4 (by kernel_rfl)
      have e4 : FA.tmps[4]?.getD undef = .int .i64 (xs : Int) := by simpa [Act.eval] using ev4
      replace ev4 := Lib.hid ev4
      clear hO hD
      rw [if_pos (by decide)]
      refine ⟨.int .i64 (xs : Int), .inl ⟨by simp [Region.wanted], fun w => ?_⟩, rfl⟩
      go_simp
    | 12, _, ho, hO, hD => 
      obtain rfl := Option.some.inj ho.symm
      clear ho
      have ev30 : FA.eval (.tmp 30) = .slice A n c := hD 10 30 (by kernel_rfl)
      have e30 : FA.tmps[30]?.getD undef = .slice A n c := by simpa [Act.eval] using ev30
      replace ev30 := Lib.hid ev30
      have ev31 : FA.eval (.tmp 31) = .int .i64 (xs : Int) := hD 11 31 (by kernel_rfl)
      have e31 : FA.tmps[31]?.getD undef = .int .i64 (xs : Int) := by simpa [Act.eval] using ev31
      replace ev31 := Lib.hid ev31
      clear hO hD
      rw [if_neg (by decide)]
      intro K hK
      have s1 : xs ≤ c := by omega
      have s2 : (xs : Int) ≤ (c : Int) := by omega
      have s3 : (8 : Int) ≤ (xs : Int) := by omega
      have s4 : 8 ≤ c := by omega
      go_simp
      exact hK.out _ _ (Ex.refl _) rfl
    | 13, _, ho, hO, hD => 
      obtain rfl := Option.some.inj ho.symm
      clear ho
      have f29 := hD 9 29 (by kernel_rfl)
      generalize eu29 : FA.eval (.tmp 29) = u29 at f29
      have e29 : FA.tmps[29]?.getD undef = u29 := by rw [← eu29]; simp [Act.eval]
      have ev29 := Lib.hid eu29
      clear eu29
      have ev32 : FA.eval (.tmp 32) = .slice (cutA A c 8 1) (xs - 8) (c - 8) := hD 12 32 (by kernel_rfl)
      have e32 : FA.tmps[32]?.getD undef = .slice (cutA A c 8 1) (xs - 8) (c - 8) := by simpa [Act.eval] using ev32
      replace ev32 := Lib.hid ev32
      clear hO hD
      rw [if_neg (by decide)]
      intro K hK
      obtain ⟨A1, n1, rfl, hr1, hA1⟩ := f29
      obtain rfl : n1 = 0 := hr1.1.symm
      refine wanted_if rfl ?_
      refine rel_appN bt (.tmp 29) (.tmp 32) (w.heap.size + 1) rfl (by simpa [Act.eval] using e29) hr1 hA1 (by simp [size_plus]) ev32.out ((((hr.cut (k := 8) (by omega)).take (k := xs - 8) (by omega)).alloc _).plus_ _ _) (by omega) ?_
      intro A2 n2 c2 w2 hex hr2 hA2
      exact hK.out _ _ hex ⟨_, _, _, rfl, hr2, hA2⟩
    | 14, _, ho, hO, hD => 
      obtain rfl := Option.some.inj ho.symm
      clear ho
      have ev22 : FA.eval (.tmp 22) = .int .u16 (x0 : Nat) := hD 2 22 (by kernel_rfl)
      have e22 : FA.tmps[22]?.getD undef = .int .u16 (x0 : Nat) := by simpa [Act.eval] using ev22
      replace ev22 := Lib.hid ev22
      have ev25 : FA.eval (.tmp 25) = .int .u16 (x1 : Nat) := hD 5 25 (by kernel_rfl)
      have e25 : FA.tmps[25]?.getD undef = .int .u16 (x1 : Nat) := by simpa [Act.eval] using ev25
      replace ev25 := Lib.hid ev25
      have ev28 : FA.eval (.tmp 28) = .int .u16 (x2 : Nat) := hD 8 28 (by kernel_rfl)
      have e28 : FA.tmps[28]?.getD undef = .int .u16 (x2 : Nat) := by simpa [Act.eval] using ev28
      replace ev28 := Lib.hid ev28
      have f33 := hD 13 33 (by kernel_rfl)
      generalize eu33 : FA.eval (.tmp 33) = u33 at f33
      have e33 : FA.tmps[33]?.getD undef = u33 := by rw [← eu33]; simp [Act.eval]
      have ev33 := Lib.hid eu33
      clear eu33
      clear hO hD
      rw [if_neg (by decide)]
      intro K hK
      obtain ⟨A1, n1, c1, rfl, hr1, hA1⟩ := f33
      go_simp
      exact hK.out _ _ (Ex.refl _) ⟨_, _, _, rfl, hr1, hA1⟩
    | (k + 15), hi, _, _, _ => exact absurd hi (by omega)
  intro vs x hp
  have p0 : vs 0 = .slice A n c := hp 0 (by omega)
  have p1 : vs 1 = .int .u64 (x0 : Nat) := hp 1 (by omega)
  have p2 : vs 2 = .int .u16 (x0 : Nat) := hp 2 (by omega)
  have p3 : vs 3 = .slice A n c := hp 3 (by omega)
  have p4 : vs 4 = .int .u64 (x1 : Nat) := hp 4 (by omega)
  have p5 : vs 5 = .int .u16 (x1 : Nat) := hp 5 (by omega)
  have p6 : vs 6 = .slice A n c := hp 6 (by omega)
  have p7 : vs 7 = .int .u64 (x2 : Nat) := hp 7 (by omega)
  have p8 : vs 8 = .int .u16 (x2 : Nat) := hp 8 (by omega)
  have p9 := hp 9 (by omega)
  have p10 : vs 10 = .slice A n c := hp 10 (by omega)
  have p11 : vs 11 = .int .i64 (xs : Int) := hp 11 (by omega)
  have p12 : vs 12 = .slice (cutA A c 8 1) (xs - 8) (c - 8) := hp 12 (by omega)
  have p13 := hp 13 (by omega)
  have p14 := hp 14 (by omega)
  clear hp
  simp only [List.take_succ_cons, List.take_zero, List.drop_succ_cons, List.drop_zero, putAll, Nat.zero_add, Nat.reduceAdd, Act.put, List.setIfInBounds_toArray, List.set_cons_zero, List.set_cons_succ, p0, p1, p2, p3, p4, p5, p6, p7, p8, p10, p11, p12]
  clear p0 p1 p2 p3 p4 p5 p6 p7 p8 p10 p11 p12
  generalize vs 9 = y9 at *
  generalize vs 13 = y13 at *
  generalize vs 14 = y14 at *
  clear vs
  obtain ⟨A1, n1, c1, rfl, hr1, hA1⟩ := p14
  go_wp2_with (refine at_op (.store 57 (.tmp 2) (.tmp 34)) rfl ?_; refine wpList_stA (t := 57) 57 (.tmp 2) (.tmp 34) rfl rfl [.int .u16 (x0 : Nat), .int .u16 (x1 : Nat), .int .u16 (x2 : Nat), .slice A1 n1 c1] [.int .u16 0, .int .u16 0, .int .u16 0, .slice none 0 0] rfl (by simp [Value.oneCell']) rfl rfl (hZ.later (below_plus _ _ _)) (szDgR _ rfl) ?_; intro w2 hb2 hg2)
  refine NoPanic.normal ?_
  go_wp2
  refine bodyPost_agg2 Try.results61 rfl rfl hb2.range Try.underlying57 rfl (szDgR _ rfl) rfl (RetDgF.mk ?_ ?_ (below_grown (belowP ((Below.refl _ _).alloc (Nat.le_refl _) _) _ _) hg2 (Nat.le_refl _)))
  · exact hr1.grownN hA1 hg2 (by omega)
  · intro a ha
    have := hA1 a ha
    omega
end Go.Proofs.Ytfmkndemkpecpaa

/- Contracts of a datagram's Right, Bytes. -/
namespace Go.Proofs.Ytfmkndemkpecpaa
open Go.RowKit
set_option linter.unusedVariables false
set_option linter.unusedSimpArgs false
attribute [local go_sem ↓] sliced_cut

attribute [local go_sem] cutA_zero

theorem RetV.eq_ {w w' : World} {v v' : Value} (hv : v' = v) (hb : Below w.heap.size w w') : RetV w v (.returned v') w' := by
  subst hv
  exact RetV.mk hb
theorem udpRight_yes (a b s : Int) (A : Option Addr) (n k : Nat) (w : World) (hn : n ≤ 65527) : Calls Try.prog 180 #[.agg #[.int .u16 a, .int .u16 b, .int .u16 s, .slice A n k]] w (RetV w (.bool true)) := by
  go_enter Try.func180, Try.ntmps180
  go_wp2
  go_ret
  exact RetV.eq_ (by simp; omega) ((Below.refl _ _).alloc (Nat.le_refl _) _)
set_option maxHeartbeats 2000000 in
theorem udpBytes_any (a b s : Int) (A : Option Addr) (n k : Nat) (l : List UInt8) (w : World) (ha : 0 ≤ a ∧ a ≤ 65535) (hb : 0 ≤ b ∧ b ≤ 65535) (hs : 0 ≤ s ∧ s ≤ 65535) (h : Rb w A n k l) (hn : n ≤ 65527) :
    Calls Try.prog 181 #[.agg #[.int .u16 a, .int .u16 b, .int .u16 s, .slice A n k]] w (RetB w (dig a.toNat 2 ++ dig b.toNat 2 ++ dig (8 + n) 2 ++ dig s.toNat 2 ++ l)) := by
  obtain ⟨a0, a1⟩ := ha
  obtain ⟨b0, b1⟩ := hb
  obtain ⟨s0, s1⟩ := hs
  go_enter Try.func181, Try.ntmps181
  go_wp2_with fail
  refine (udpRight_yes _ _ _ _ _ _ _ hn).mono ?_
  rintro e w1 ⟨bs0, m0, rfl, rfl⟩
  go_wp2_with fail
  refine (put_int _ _ _ [] a 2 _ Rb.nil_ (by omega) a0 (by omega) (by omega) (by omega)).mono ?_
  rintro e w1 ⟨A1, n1, k1, bs1, m1, rfl, rfl, ho1⟩
  have l1 : n1 ≤ 100 := by have := ho1.len; simp [dig_length] at this; omega
  go_wp2_with fail
  refine (put_int _ _ _ _ b 2 _ ho1.rb (by omega) b0 (by omega) (by omega) (by omega)).mono ?_
  rintro e w2 ⟨A2, n2, k2, bs2, m2, rfl, rfl, ho2⟩
  have l2 : n2 ≤ 100 := by have := ho2.len; simp [dig_length] at this; omega
  go_wp2_with fail
  refine (put_int _ _ _ _ (8 + (n : Int)) 2 _ ho2.rb (by omega) (by omega) (by omega) (by omega) (by omega)).mono ?_
  rintro e w3 ⟨A3, n3, k3, bs3, m3, rfl, rfl, ho3⟩
  have l3 : n3 ≤ 100 := by have := ho3.len; simp [dig_length] at this; omega
  go_wp2_with fail
  refine (put_int _ _ _ _ s 2 _ ho3.rb (by omega) s0 (by omega) (by omega) (by omega)).mono ?_
  rintro e w4 ⟨A4, n4, k4, bs4, m4, rfl, rfl, ho4⟩
  have l4 : n4 ≤ 100 := by have := ho4.len; simp [dig_length] at this; omega
  go_wp2_with (at_builtin; refine wpList_appP _ bt rfl (.tmp 28) (.tmp 30) rfl (by exact below_plus _ bs4 m4) rfl ho4 rfl (by exact (((((h.alloc _).plus_ _ _).plus_ _ _).plus_ _ _).plus_ _ _).plus_ _ _) (by omega) ?_; intro A5 n5 k5 bs5 m5 ho5 _)
  go_ret
  refine RetB.mk ?_ (belowP (belowP (belowP (belowP (belowP ((Below.refl _ _).alloc (Nat.le_refl _) _) _ _) _ _) _ _) _ _) _ _)
  have e8 : (8 + (n : Int)).toNat = 8 + n := by omega
  rw [e8] at ho5
  simpa using ho5.mono (base' := w.heap.size) (by simp [size_plus]; omega)
end Go.Proofs.Ytfmkndemkpecpaa

/- Fine of segments and of datagrams, on both sides (chapters 6, 7). -/
namespace Go.Proofs.Ytfmkndemkpecpaa
open Go.RowKit
set_option linter.unusedVariables false
set_option linter.unusedSimpArgs false
attribute [local go_sem ↓] sliced_cut

attribute [local go_sem] cutA_zero

/-- the sum of all that a segment's checksum covers -/
def tcT (s6 : Bool) (sh sl : Nat) (d6 : Bool) (dh dl : Nat) (l : List UInt8) : Nat := tot false (psdB s6 sh sl d6 dh dl 6 l.length ++ l)
set_option maxHeartbeats 4000000 in
set_option maxRecDepth 100000 in
theorem tcpFine (A : Option Addr) (n c : Nat) (s6 : Bool) (sh sl : Nat) (d6 : Bool) (dh dl : Nat) (l : List UInt8) (w : World) (k1 : sh < 18446744073709551616) (k2 : sl < 18446744073709551616) (k3 : dh < 18446744073709551616) (k4 : dl < 18446744073709551616) (h : Rb w A n c l) (hn : n ≤ 65535) : Calls Try.prog 158 #[.slice A n c, .agg (adC s6 sh sl).toArray, .agg (adC d6 dh dl).toArray] w (RetV w (.bool (65535 - fd (tcT s6 sh sl d6 dh dl l) == 0))) := by
  have d1 : decide ((n : Int) ≤ 65535) = true := by simp only [decide_eq_true_eq]; omega
  have hT : ([psdB s6 sh sl d6 dh dl 6 n, l] : List (List UInt8)).flatten.length ≤ 1000000 := by have := psdB_length s6 sh sl d6 dh dl 6 n; have := h.1; simp; omega
  have HE : Hid (tot false ([psdB s6 sh sl d6 dh dl 6 n, l] : List (List UInt8)).flatten = tcT s6 sh sl d6 dh dl l) := Lib.hid (by rw [← h.1]; simp [tcT])
  have HO := Lib.hid (fun w A1 c1 (h : RdL w A1 2 [psdB s6 sh sl d6 dh dl 6 n, l]) => sumRight A1 2 c1 _ w h (by omega) hT)
  rw [HE.out] at HO
  have HP := Lib.hid (fun w => (pseudo_any s6 sh sl d6 dh dl 6 n w k1 k2 k3 k4 (by omega) (by omega) : Calls Try.prog 179 #[.agg (adC s6 sh sl).toArray, .agg (adC d6 dh dl).toArray, .int .u8 6, .int .i64 (n : Int)] w (RetF w (psdB s6 sh sl d6 dh dl 6 n))))
  obtain ⟨dy, y1, y2⟩ := rowAd
  have hS : Bk ((w.alloc (.cells (adC s6 sh sl).toArray 26)).alloc (.cells (adC d6 dh dl).toArray 26)) w.heap.size 26 (adC s6 sh sl) := (Bk.new w 26 (adC s6 sh sl).toArray).alloc _
  have hD : Bk ((w.alloc (.cells (adC s6 sh sl).toArray 26)).alloc (.cells (adC d6 dh dl).toArray 26)) (w.heap.size + 1) 26 (adC d6 dh dl) := Bk.newK _ _ _ (by simp) rfl
  have be : Below w.heap.size w ((w.alloc (.cells (adC s6 sh sl).toArray 26)).alloc (.cells (adC d6 dh dl).toArray 26)) := Below.allocS (Below.allocS (Below.refl _ _) _) _
  replace h := (h.alloc (.cells (adC s6 sh sl).toArray 26)).alloc (.cells (adC d6 dh dl).toArray 26)
  clear hT HE
  generalize psdB s6 sh sl d6 dh dl 6 n = Pq at *
  generalize tcT s6 sh sl d6 dh dl l = t at *
  go_enter Try.func158, Try.ntmps158
  go_upto_region 1 with (fail)
  generalize (w.alloc (.cells (adC s6 sh sl).toArray 26)).alloc (.cells (adC d6 dh dl).toArray 26) = W at *
  refine wp_region_lit ?_
  refine wpList_plain rfl (fun K hK => ?_)
  go_simp
  with_reducible refine hK _ _ ?_
  clear hK K
  refine wpList_plain rfl (fun K hK => ?_)
  go_simp
  with_reducible refine hK _ _ ?_
  clear hK K
  refine wpList_plain rfl (fun K hK => ?_)
  go_simp
  with_reducible refine hK _ _ ?_
  clear hK K
  refine wpList_plain rfl (fun K hK => ?_)
  go_simp
  with_reducible refine hK _ _ ?_
  clear hK K
  refine wpList_ldG (t := 26) 26 (.tmp 4) rfl (by go_simp) (adC s6 sh sl) rfl (hS) (whole_ _) y1 y2 (szAd _ _ _) ?_
  simp only [Act.put, List.setIfInBounds_toArray, List.set_cons_zero, List.set_cons_succ]
  refine wpList_ldG (t := 26) 26 (.tmp 5) rfl (by go_simp) (adC d6 dh dl) rfl (hD) (whole_ _) y1 y2 (szAd _ _ _) ?_
  simp only [Act.put, List.setIfInBounds_toArray, List.set_cons_zero, List.set_cons_succ]
  refine wpList_step (fun K hK => ?_)
  go_simp
  with_reducible refine hK _ _ ?_
  clear hK K
  refine wpList_step (fun K hK => ?_)
  go_simp
  with_reducible refine hK _ _ ?_
  clear hK K
  refine wpList_step (fun K hK => ?_)
  go_simp
  refine (HP.out _).mono ?_
  rintro e w1 ⟨A2, n2, bs2, d2, rfl, rfl, ho2⟩
  with_reducible refine hK _ _ ?_
  clear hK K
  refine wpList_step (fun K hK => ?_)
  go_simp
  with_reducible refine hK _ _ ?_
  clear hK K
  refine wpList_step (fun K hK => ?_)
  go_simp
  with_reducible refine hK _ _ ?_
  clear hK K
  go_wp2_with fail
  refine (HO.out _ _ _ (RdL.litW [.slice A2 n2 n2, .slice A n c] _ (by simp [size_plus]) (.cons ⟨_, _, _, rfl, ho2.rb⟩ (.cons ⟨_, _, _, rfl, h.plus_ _ _⟩ .nil)))).mono ?_
  rintro e w1 ⟨rfl, rfl⟩
  go_wp2
  go_ret
  exact RetV.mk (Below.allocS (belowP be _ _) _)
set_option maxHeartbeats 4000000 in
set_option maxRecDepth 100000 in
theorem refTcpFine (A : Option Addr) (n c : Nat) (s6 : Bool) (sh sl : Nat) (d6 : Bool) (dh dl : Nat) (l : List UInt8) (w : World) (k1 : sh < 18446744073709551616) (k2 : sl < 18446744073709551616) (k3 : dh < 18446744073709551616) (k4 : dl < 18446744073709551616) (h : Rb w A n c l) (hn : n ≤ 65535) : Calls Try.prog 60 #[.slice A n c, .agg (adC s6 sh sl).toArray, .agg (adC d6 dh dl).toArray] w (RetV w (.bool (65535 - fd (tcT s6 sh sl d6 dh dl l) == 0))) := by
  have d1 : decide ((n : Int) ≤ 65535) = true := by simp only [decide_eq_true_eq]; omega
  have hT : ([psdB s6 sh sl d6 dh dl 6 n, l] : List (List UInt8)).flatten.length ≤ 40 + n := by have := psdB_length s6 sh sl d6 dh dl 6 n; have := h.1; simp; omega
  have HE : Hid (tot false ([psdB s6 sh sl d6 dh dl 6 n, l] : List (List UInt8)).flatten = tcT s6 sh sl d6 dh dl l) := Lib.hid (by rw [← h.1]; simp [tcT])
  have HJ := Lib.hid (fun w A5 c5 (h : RdL w A5 2 [psdB s6 sh sl d6 dh dl 6 n, l]) => refJoin_any A5 2 c5 _ w h (by omega) (by omega))
  have HO := Lib.hid (fun w A5 n5 c5 (h : Rb w A5 n5 c5 ([psdB s6 sh sl d6 dh dl 6 n, l] : List (List UInt8)).flatten) => refSumOf A5 n5 c5 _ w h (by rw [← h.1]; omega))
  rw [HE.out] at HO
  have HP := Lib.hid (fun w => (refPseudo_any s6 sh sl d6 dh dl 6 n w k1 k2 k3 k4 (by omega) (by omega) : Calls Try.prog 120 #[.agg (adC s6 sh sl).toArray, .agg (adC d6 dh dl).toArray, .int .u8 6, .int .i64 (n : Int)] w (RetB w (psdB s6 sh sl d6 dh dl 6 n))))
  obtain ⟨dy, y1, y2⟩ := rowAd
  have hS : Bk ((w.alloc (.cells (adC s6 sh sl).toArray 26)).alloc (.cells (adC d6 dh dl).toArray 26)) w.heap.size 26 (adC s6 sh sl) := (Bk.new w 26 (adC s6 sh sl).toArray).alloc _
  have hD : Bk ((w.alloc (.cells (adC s6 sh sl).toArray 26)).alloc (.cells (adC d6 dh dl).toArray 26)) (w.heap.size + 1) 26 (adC d6 dh dl) := Bk.newK _ _ _ (by simp) rfl
  have be : Below w.heap.size w ((w.alloc (.cells (adC s6 sh sl).toArray 26)).alloc (.cells (adC d6 dh dl).toArray 26)) := Below.allocS (Below.allocS (Below.refl _ _) _) _
  replace h := (h.alloc (.cells (adC s6 sh sl).toArray 26)).alloc (.cells (adC d6 dh dl).toArray 26)
  have HW : ∀ f : Nat, (f ≤ 65535) → (((65535 - f : Nat) : Int) == 0) = (65535 - f == 0) := fun f hf => by rw [Bool.eq_iff_iff, beq_iff_eq, beq_iff_eq]; omega
  replace HW := HW _ (fd_le (tcT s6 sh sl d6 dh dl l))
  clear hT HE
  generalize psdB s6 sh sl d6 dh dl 6 n = Pq at *
  generalize tcT s6 sh sl d6 dh dl l = t at *
  go_enter Try.func60, Try.ntmps60
  go_upto_region 1 with (fail)
  generalize (w.alloc (.cells (adC s6 sh sl).toArray 26)).alloc (.cells (adC d6 dh dl).toArray 26) = W at *
  refine wp_region_lit ?_
  refine wpList_plain rfl (fun K hK => ?_)
  go_simp
  with_reducible refine hK _ _ ?_
  clear hK K
  refine wpList_plain rfl (fun K hK => ?_)
  go_simp
  with_reducible refine hK _ _ ?_
  clear hK K
  refine wpList_plain rfl (fun K hK => ?_)
  go_simp
  with_reducible refine hK _ _ ?_
  clear hK K
  refine wpList_plain rfl (fun K hK => ?_)
  go_simp
  with_reducible refine hK _ _ ?_
  clear hK K
  refine wpList_ldG (t := 26) 26 (.tmp 4) rfl (by go_simp) (adC s6 sh sl) rfl (hS) (whole_ _) y1 y2 (szAd _ _ _) ?_
  simp only [Act.put, List.setIfInBounds_toArray, List.set_cons_zero, List.set_cons_succ]
  refine wpList_ldG (t := 26) 26 (.tmp 5) rfl (by go_simp) (adC d6 dh dl) rfl (hD) (whole_ _) y1 y2 (szAd _ _ _) ?_
  simp only [Act.put, List.setIfInBounds_toArray, List.set_cons_zero, List.set_cons_succ]
  refine wpList_step (fun K hK => ?_)
  go_simp
  with_reducible refine hK _ _ ?_
  clear hK K
  refine wpList_step (fun K hK => ?_)
  go_simp
  with_reducible refine hK _ _ ?_
  clear hK K
  refine wpList_step (fun K hK => ?_)
  go_simp
  refine (HP.out _).mono ?_
  rintro e w1 ⟨A2, n2, c2, bs2, d2, rfl, rfl, ho2⟩
  with_reducible refine hK _ _ ?_
  clear hK K
  refine wpList_step (fun K hK => ?_)
  go_simp
  with_reducible refine hK _ _ ?_
  clear hK K
  refine wpList_step (fun K hK => ?_)
  go_simp
  with_reducible refine hK _ _ ?_
  clear hK K
  go_wp2_with fail
  refine (HJ.out _ _ _ (RdL.litW [.slice A2 n2 c2, .slice A n c] _ (by simp [size_plus]) (.cons ⟨_, _, _, rfl, ho2.rb⟩ (.cons ⟨_, _, _, rfl, h.plus_ _ _⟩ .nil)))).mono ?_
  rintro e w1 ⟨A6, n6, c6, bs6, d6', rfl, rfl, ho6⟩
  go_wp2_with fail
  refine (HO.out _ _ _ _ ho6.rb).mono ?_
  rintro e w1 ⟨rfl, rfl⟩
  go_wp2
  go_ret
  exact RetV.is_ (by first | rfl | rw [HW]) (belowP (Below.allocS (belowP be _ _) _) _ _)
def dgX (a b s : Nat) (A : Option Addr) (n k : Nat) : List Value := [.int .u16 (a : Int), .int .u16 (b : Int), .int .u16 (s : Int), .slice A n k]
theorem dgX_one (a b s : Nat) (A : Option Addr) (n k : Nat) : ∀ u ∈ dgX a b s A n k, u.oneCell' = true := by
  intro u hu
  simp only [dgX, List.mem_cons, List.not_mem_nil, or_false] at hu
  rcases hu with rfl | rfl | rfl | rfl <;> rfl
theorem szDX (a b s : Nat) (A : Option Addr) (n k : Nat) : (Try.prog.info? 49).map (·.size) = some (dgX a b s A n k).length := by kernel_rfl
theorem szRX (a b s : Nat) (A : Option Addr) (n k : Nat) : (Try.prog.info? 57).map (·.size) = some (dgX a b s A n k).length := by kernel_rfl
theorem rowDX : ∃ d, Try.prog.underlying 49 = some d ∧ d.isRow = true := ⟨_, Try.underlying49, rfl⟩
theorem rowRX : ∃ d, Try.prog.underlying 57 = some d ∧ d.isRow = true := ⟨_, Try.underlying57, rfl⟩
/-- the bytes of a datagram -/
def udpD (a b s : Nat) (l : List UInt8) : List UInt8 := dig a 2 ++ dig b 2 ++ dig (8 + l.length) 2 ++ dig s 2 ++ l
theorem udpD_length (a b s : Nat) (l : List UInt8) : (udpD a b s l).length = 8 + l.length := by simp [udpD, dig_length]; omega
theorem udpBytesX (a b s : Nat) (A : Option Addr) (n k : Nat) (l : List UInt8) (w : World) (ha : a < 65536) (hb : b < 65536) (hs : s < 65536) (h : Rb w A n k l) (hn : n ≤ 65527) : Calls Try.prog 181 #[.agg (dgX a b s A n k).toArray] w (RetB w (udpD a b s l)) := by
  have := udpBytes_any (a : Int) b s A n k l w (by omega) (by omega) (by omega) h hn
  simpa [udpD, dgX, h.1] using this
set_option maxHeartbeats 4000000 in
set_option maxRecDepth 100000 in
theorem refUdpBytesX (a b s : Nat) (A : Option Addr) (n k : Nat) (l : List UInt8) (w : World) (ha : a < 65536) (hb : b < 65536) (hs : s < 65536) (h : Rb w A n k l) (hn : n ≤ 65527) : Calls Try.prog 165 #[.agg (dgX a b s A n k).toArray] w (RetB w (udpD a b s l)) := by
  obtain ⟨m, hm⟩ : ∃ m : Nat, m = 8 + n := ⟨_, rfl⟩
  have wm : Hid (IntKind.i64.wrap (8 + (n : Int)) = (m : Int)) := Lib.hid (by rw [IntWalk.i64_in _ (by omega)]; omega)
  have mb : m ≤ 65535 := by omega
  have HT : Hid (([(dig (a) 2), (dig (b) 2), (dig (m) 2), (dig (s) 2), l]).flatten.length ≤ 549755813888) := Lib.hid (by simp [dig_length, h.1]; omega)
  have HE : Hid (([(dig (a) 2), (dig (b) 2), (dig (m) 2), (dig (s) 2), l]).flatten = udpD a b s l) := Lib.hid (by simp [udpD, h.1, hm])
  clear hm
  have hX : Bk (w.alloc (.cells (dgX a b s A n k).toArray 57)) w.heap.size 57 (dgX a b s A n k) := Bk.new w 57 (dgX a b s A n k).toArray
  obtain ⟨du, u1, u2⟩ := rowRX
  have g0 : IntKind.u64.wrap (a : Int) = (a : Int) := IntWalk.u64_in _ (by omega)
  have g1 : IntKind.u64.wrap (b : Int) = (b : Int) := IntWalk.u64_in _ (by omega)
  have g2 : IntKind.u64.wrap (m : Int) = (m : Int) := IntWalk.u64_in _ (by omega)
  have g3 : IntKind.u64.wrap (s : Int) = (s : Int) := IntWalk.u64_in _ (by omega)
  go_enter Try.func165, Try.ntmps165
  go_upto_region 1 with (fail)
  go_wp2
  refine wp_relS 23 25 rfl (by kernel_rfl) (by kernel_rfl) ?_
  apply Steps.one (MP.eq _) 1 rfl
  · intro o ho FA x hO hD K hK
    obtain rfl := Option.some.inj ho.symm
    clear ho
    have e1 := hO 1 (by kernel_rfl)
    simp only [eval_tmp, List.getElem?_toArray, List.getElem?_cons_succ, List.getElem?_cons_zero, Option.getD_some] at e1
    have ev1 := Lib.hid ((eval_tmp FA 1).trans e1)
    clear hO hD
    go_simp
    exact hK.out _ _ (Ex.refl _) rfl
  apply Steps.one (MP.eq _) 2 rfl
  · intro o ho FA x hO hD K hK
    obtain rfl := Option.some.inj ho.symm
    clear ho
    have ev3 : FA.eval (.tmp 3) = _ := hD 0 3 (by kernel_rfl)
    have e3 := (eval_tmp FA 3).symm.trans ev3
    replace ev3 := Lib.hid ev3
    clear hO hD
    refine wanted_if rfl ?_
    refine wp_ld1 27 (.tmp 3) rfl ev3.out (hX.later (below_plus _ _ _)) rfl Try.underlying27 rfl ?_
    exact hK.out _ _ (Ex.refl _) rfl
  apply Steps.one (MP.eq _) 3 rfl
  · intro o ho FA x hO hD K hK
    obtain rfl := Option.some.inj ho.symm
    clear ho
    have ev4 : FA.eval (.tmp 4) = _ := hD 1 4 (by kernel_rfl)
    have e4 := (eval_tmp FA 4).symm.trans ev4
    replace ev4 := Lib.hid ev4
    clear hO hD
    go_simp
    exact hK.out _ _ (Ex.refl _) rfl
  apply Steps.one (MP.rb (dig (a) 2)) 4 rfl
  · intro o ho FA x hO hD K hK
    obtain rfl := Option.some.inj ho.symm
    clear ho
    have ev5 : FA.eval (.tmp 5) = _ := hD 2 5 (by kernel_rfl)
    have e5 := (eval_tmp FA 5).symm.trans ev5
    replace ev5 := Lib.hid ev5
    clear hO hD
    go_simp
    refine (refBytes_any (a) 2 _ (by omega) (by omega)).mono ?_
    rintro e w1 ⟨A2, n2, c2, bs2, d2, rfl, rfl, ho2⟩
    exact hK.out _ _ (Ex.plus_ _ _ _) ⟨_, _, _, rfl, ho2.rb⟩
  apply Steps.one (MP.eq _) 5 rfl
  · intro o ho FA x hO hD K hK
    obtain rfl := Option.some.inj ho.symm
    clear ho
    have e1 := hO 1 (by kernel_rfl)
    simp only [eval_tmp, List.getElem?_toArray, List.getElem?_cons_succ, List.getElem?_cons_zero, Option.getD_some] at e1
    have ev1 := Lib.hid ((eval_tmp FA 1).trans e1)
    clear hO hD
    go_simp
    exact hK.out _ _ (Ex.refl _) rfl
  apply Steps.one (MP.eq _) 6 rfl
  · intro o ho FA x hO hD K hK
    obtain rfl := Option.some.inj ho.symm
    clear ho
    have ev7 : FA.eval (.tmp 7) = _ := hD 4 7 (by kernel_rfl)
    have e7 := (eval_tmp FA 7).symm.trans ev7
    replace ev7 := Lib.hid ev7
    clear hO hD
    refine wanted_if rfl ?_
    refine wp_ld1 27 (.tmp 7) rfl ev7.out (hX.later (below_plus _ _ _)) rfl Try.underlying27 rfl ?_
    exact hK.out _ _ (Ex.refl _) rfl
  apply Steps.one (MP.eq _) 7 rfl
  · intro o ho FA x hO hD K hK
    obtain rfl := Option.some.inj ho.symm
    clear ho
    have ev8 : FA.eval (.tmp 8) = _ := hD 5 8 (by kernel_rfl)
    have e8 := (eval_tmp FA 8).symm.trans ev8
    replace ev8 := Lib.hid ev8
    clear hO hD
    go_simp
    exact hK.out _ _ (Ex.refl _) rfl
  apply Steps.one (MP.rb (dig (b) 2)) 8 rfl
  · intro o ho FA x hO hD K hK
    obtain rfl := Option.some.inj ho.symm
    clear ho
    have ev9 : FA.eval (.tmp 9) = _ := hD 6 9 (by kernel_rfl)
    have e9 := (eval_tmp FA 9).symm.trans ev9
    replace ev9 := Lib.hid ev9
    clear hO hD
    go_simp
    refine (refBytes_any (b) 2 _ (by omega) (by omega)).mono ?_
    rintro e w1 ⟨A2, n2, c2, bs2, d2, rfl, rfl, ho2⟩
    exact hK.out _ _ (Ex.plus_ _ _ _) ⟨_, _, _, rfl, ho2.rb⟩
  apply Steps.one (MP.eq _) 9 rfl
  · intro o ho FA x hO hD K hK
    obtain rfl := Option.some.inj ho.symm
    clear ho
    have e1 := hO 1 (by kernel_rfl)
    simp only [eval_tmp, List.getElem?_toArray, List.getElem?_cons_succ, List.getElem?_cons_zero, Option.getD_some] at e1
    have ev1 := Lib.hid ((eval_tmp FA 1).trans e1)
    clear hO hD
    go_simp
    exact hK.out _ _ (Ex.refl _) rfl
  apply Steps.one (MP.eq _) 10 rfl
  · intro o ho FA x hO hD K hK
    obtain rfl := Option.some.inj ho.symm
    clear ho
    have ev11 : FA.eval (.tmp 11) = _ := hD 8 11 (by kernel_rfl)
    have e11 := (eval_tmp FA 11).symm.trans ev11
    replace ev11 := Lib.hid ev11
    clear hO hD
    refine wanted_if rfl ?_
    refine wp_ld1 22 (.tmp 11) rfl ev11.out (hX.later (below_plus _ _ _)) rfl Try.underlying22 rfl ?_
    exact hK.out _ _ (Ex.refl _) rfl
  apply Steps.one (MP.eq _) 11 rfl
  · intro o ho FA x hO hD K hK
    obtain rfl := Option.some.inj ho.symm
    clear ho
    have ev12 : FA.eval (.tmp 12) = _ := hD 9 12 (by kernel_rfl)
    have e12 := (eval_tmp FA 12).symm.trans ev12
    replace ev12 := Lib.hid ev12
    clear hO hD
    go_simp
    exact hK.out _ _ (Ex.refl _) rfl
  apply Steps.one (MP.eq (.int .i64 (m : Int))) 12 rfl
  · intro o ho FA x hO hD K hK
    obtain rfl := Option.some.inj ho.symm
    clear ho
    have ev13 : FA.eval (.tmp 13) = _ := hD 10 13 (by kernel_rfl)
    have e13 := (eval_tmp FA 13).symm.trans ev13
    replace ev13 := Lib.hid ev13
    clear hO hD
    go_simp
    exact hK.out _ _ (Ex.refl _) (congrArg (Value.int .i64) wm.out)
  apply Steps.one (MP.eq _) 13 rfl
  · intro o ho FA x hO hD K hK
    obtain rfl := Option.some.inj ho.symm
    clear ho
    have ev14 : FA.eval (.tmp 14) = _ := hD 11 14 (by kernel_rfl)
    have e14 := (eval_tmp FA 14).symm.trans ev14
    replace ev14 := Lib.hid ev14
    clear hO hD
    go_simp
    exact hK.out _ _ (Ex.refl _) rfl
  apply Steps.one (MP.rb (dig (m) 2)) 14 rfl
  · intro o ho FA x hO hD K hK
    obtain rfl := Option.some.inj ho.symm
    clear ho
    have ev15 : FA.eval (.tmp 15) = _ := hD 12 15 (by kernel_rfl)
    have e15 := (eval_tmp FA 15).symm.trans ev15
    replace ev15 := Lib.hid ev15
    clear hO hD
    go_simp
    refine (refBytes_any (m) 2 _ (by omega) (by omega)).mono ?_
    rintro e w1 ⟨A2, n2, c2, bs2, d2, rfl, rfl, ho2⟩
    exact hK.out _ _ (Ex.plus_ _ _ _) ⟨_, _, _, rfl, ho2.rb⟩
  apply Steps.one (MP.eq _) 15 rfl
  · intro o ho FA x hO hD K hK
    obtain rfl := Option.some.inj ho.symm
    clear ho
    have e1 := hO 1 (by kernel_rfl)
    simp only [eval_tmp, List.getElem?_toArray, List.getElem?_cons_succ, List.getElem?_cons_zero, Option.getD_some] at e1
    have ev1 := Lib.hid ((eval_tmp FA 1).trans e1)
    clear hO hD
    go_simp
    exact hK.out _ _ (Ex.refl _) rfl
  apply Steps.one (MP.eq _) 16 rfl
  · intro o ho FA x hO hD K hK
    obtain rfl := Option.some.inj ho.symm
    clear ho
    have ev17 : FA.eval (.tmp 17) = _ := hD 14 17 (by kernel_rfl)
    have e17 := (eval_tmp FA 17).symm.trans ev17
    replace ev17 := Lib.hid ev17
    clear hO hD
    refine wanted_if rfl ?_
    refine wp_ld1 27 (.tmp 17) rfl ev17.out (hX.later (below_plus _ _ _)) rfl Try.underlying27 rfl ?_
    exact hK.out _ _ (Ex.refl _) rfl
  apply Steps.one (MP.eq _) 17 rfl
  · intro o ho FA x hO hD K hK
    obtain rfl := Option.some.inj ho.symm
    clear ho
    have ev18 : FA.eval (.tmp 18) = _ := hD 15 18 (by kernel_rfl)
    have e18 := (eval_tmp FA 18).symm.trans ev18
    replace ev18 := Lib.hid ev18
    clear hO hD
    go_simp
    exact hK.out _ _ (Ex.refl _) rfl
  apply Steps.one (MP.rb (dig (s) 2)) 18 rfl
  · intro o ho FA x hO hD K hK
    obtain rfl := Option.some.inj ho.symm
    clear ho
    have ev19 : FA.eval (.tmp 19) = _ := hD 16 19 (by kernel_rfl)
    have e19 := (eval_tmp FA 19).symm.trans ev19
    replace ev19 := Lib.hid ev19
    clear hO hD
    go_simp
    refine (refBytes_any (s) 2 _ (by omega) (by omega)).mono ?_
    rintro e w1 ⟨A2, n2, c2, bs2, d2, rfl, rfl, ho2⟩
    exact hK.out _ _ (Ex.plus_ _ _ _) ⟨_, _, _, rfl, ho2.rb⟩
  apply Steps.one (MP.eq _) 19 rfl
  · intro o ho FA x hO hD K hK
    obtain rfl := Option.some.inj ho.symm
    clear ho
    have e1 := hO 1 (by kernel_rfl)
    simp only [eval_tmp, List.getElem?_toArray, List.getElem?_cons_succ, List.getElem?_cons_zero, Option.getD_some] at e1
    have ev1 := Lib.hid ((eval_tmp FA 1).trans e1)
    clear hO hD
    go_simp
    exact hK.out _ _ (Ex.refl _) rfl
  apply Steps.one (MP.eq _) 20 rfl
  · intro o ho FA x hO hD K hK
    obtain rfl := Option.some.inj ho.symm
    clear ho
    have ev21 : FA.eval (.tmp 21) = _ := hD 18 21 (by kernel_rfl)
    have e21 := (eval_tmp FA 21).symm.trans ev21
    replace ev21 := Lib.hid ev21
    clear hO hD
    refine wanted_if rfl ?_
    refine wp_ld1 22 (.tmp 21) rfl ev21.out (hX.later (below_plus _ _ _)) rfl Try.underlying22 rfl ?_
    exact hK.out _ _ (Ex.refl _) rfl
  apply Steps.one (MP.rdl [(dig (a) 2), (dig (b) 2), (dig (m) 2), (dig (s) 2), l]) 21 rfl
  · intro o ho FA x hO hD K hK
    obtain rfl := Option.some.inj ho.symm
    clear ho
    have f6 := hD 3 6 (by kernel_rfl)
    generalize eu6 : FA.eval (.tmp 6) = u6 at f6
    have e6 := (eval_tmp FA 6).symm.trans eu6
    have ev6 := Lib.hid eu6
    clear eu6
    have f10 := hD 7 10 (by kernel_rfl)
    generalize eu10 : FA.eval (.tmp 10) = u10 at f10
    have e10 := (eval_tmp FA 10).symm.trans eu10
    have ev10 := Lib.hid eu10
    clear eu10
    have f16 := hD 13 16 (by kernel_rfl)
    generalize eu16 : FA.eval (.tmp 16) = u16 at f16
    have e16 := (eval_tmp FA 16).symm.trans eu16
    have ev16 := Lib.hid eu16
    clear eu16
    have f20 := hD 17 20 (by kernel_rfl)
    generalize eu20 : FA.eval (.tmp 20) = u20 at f20
    have e20 := (eval_tmp FA 20).symm.trans eu20
    have ev20 := Lib.hid eu20
    clear eu20
    have ev22 : FA.eval (.tmp 22) = _ := hD 19 22 (by kernel_rfl)
    have e22 := (eval_tmp FA 22).symm.trans ev22
    replace ev22 := Lib.hid ev22
    clear hO hD
    obtain ⟨A6, n6, c6, rfl, h6⟩ := f6
    obtain ⟨A10, n10, c10, rfl, h10⟩ := f10
    obtain ⟨A16, n16, c16, rfl, h16⟩ := f16
    obtain ⟨A20, n20, c20, rfl, h20⟩ := f20
    go_simp
    refine hK.out _ _ (Ex.alloc _ _) ⟨_, _, _, rfl, ?_⟩
    refine RdL.litW _ _ ?_ ?_
    · simp [size_plus]
    · exact .cons ⟨_, _, _, rfl, h6⟩ (.cons ⟨_, _, _, rfl, h10⟩ (.cons ⟨_, _, _, rfl, h16⟩ (.cons ⟨_, _, _, rfl, h20⟩ (.cons ⟨_, _, _, rfl, (h.alloc _).plus_ _ _⟩ (.nil)))))
  apply Steps.one (MP.ob w.heap.size ([(dig (a) 2), (dig (b) 2), (dig (m) 2), (dig (s) 2), l]).flatten) 22 rfl
  · intro o ho FA x hO hD K hK
    obtain rfl := Option.some.inj ho.symm
    clear ho
    have f23 := hD 20 23 (by kernel_rfl)
    generalize eu23 : FA.eval (.tmp 23) = u23 at f23
    have e23 := (eval_tmp FA 23).symm.trans eu23
    have ev23 := Lib.hid eu23
    clear eu23
    clear hO hD
    obtain ⟨A1, m1, c1, rfl, hl1⟩ := f23
    have hm1 : m1 ≤ 100 := by obtain ⟨_, _, h2, _⟩ := hl1; simp only [List.length_cons, List.length_nil] at h2; omega
    go_simp
    refine (refJoin_any A1 m1 c1 _ _ hl1 (by omega) HT.out).mono ?_
    rintro e w1 ⟨A2, n2, c2, bs2, d2, rfl, rfl, ho2⟩
    exact hK.out _ _ (Ex.plus_ _ _ _) ⟨_, _, _, rfl, ho2.mono (by simp [size_plus]; omega)⟩
  apply Steps.one (MP.ob w.heap.size ([(dig (a) 2), (dig (b) 2), (dig (m) 2), (dig (s) 2), l]).flatten) 23 rfl
  · intro o ho FA x hO hD K hK
    obtain rfl := Option.some.inj ho.symm
    clear ho
    have f24 := hD 21 24 (by kernel_rfl)
    generalize eu24 : FA.eval (.tmp 24) = u24 at f24
    have e24 := (eval_tmp FA 24).symm.trans eu24
    have ev24 := Lib.hid eu24
    clear eu24
    clear hO hD
    go_simp
    exact hK.out _ _ (Ex.refl _) f24
  refine Steps.fin_ (fun vs x hp => ?_)
  have p0 : vs 0 = _ := hp 0 (by omega)
  have p1 : vs 1 = _ := hp 1 (by omega)
  have p2 : vs 2 = _ := hp 2 (by omega)
  have p3 := hp 3 (by omega)
  have p4 : vs 4 = _ := hp 4 (by omega)
  have p5 : vs 5 = _ := hp 5 (by omega)
  have p6 : vs 6 = _ := hp 6 (by omega)
  have p7 := hp 7 (by omega)
  have p8 : vs 8 = _ := hp 8 (by omega)
  have p9 : vs 9 = _ := hp 9 (by omega)
  have p10 : vs 10 = _ := hp 10 (by omega)
  have p11 : vs 11 = _ := hp 11 (by omega)
  have p12 : vs 12 = _ := hp 12 (by omega)
  have p13 := hp 13 (by omega)
  have p14 : vs 14 = _ := hp 14 (by omega)
  have p15 : vs 15 = _ := hp 15 (by omega)
  have p16 : vs 16 = _ := hp 16 (by omega)
  have p17 := hp 17 (by omega)
  have p18 : vs 18 = _ := hp 18 (by omega)
  have p19 : vs 19 = _ := hp 19 (by omega)
  have p20 := hp 20 (by omega)
  have p21 := hp 21 (by omega)
  have p22 := hp 22 (by omega)
  clear hp
  simp only [List.take_succ_cons, List.take_zero, List.drop_succ_cons, List.drop_zero, putAll, Nat.zero_add, Nat.reduceAdd, Act.put, List.setIfInBounds_toArray, List.set_cons_zero, List.set_cons_succ, p0, p1, p2, p4, p5, p6, p8, p9, p10, p11, p12, p14, p15, p16, p18, p19]
  clear p0 p1 p2 p4 p5 p6 p8 p9 p10 p11 p12 p14 p15 p16 p18 p19
  generalize vs 3 = y3 at *
  generalize vs 7 = y7 at *
  generalize vs 13 = y13 at *
  generalize vs 17 = y17 at *
  generalize vs 20 = y20 at *
  generalize vs 21 = y21 at *
  generalize vs 22 = y22 at *
  clear vs
  obtain ⟨A9, n9, c9, rfl, h9⟩ := p22
  rw [HE.out] at h9
  go_wp2
  go_ret
  exact RetB.mk h9 (belowP (Below.allocS (Below.refl _ _) _) _ _)
end Go.Proofs.Ytfmkndemkpecpaa

/- Fine of datagrams, on both sides (chapter 7). -/
namespace Go.Proofs.Ytfmkndemkpecpaa
open Go.RowKit
set_option linter.unusedVariables false
set_option linter.unusedSimpArgs false
attribute [local go_sem ↓] sliced_cut

attribute [local go_sem] cutA_zero

/-- the sum of all that a datagram's checksum covers -/
def udT (s6 : Bool) (sh sl : Nat) (d6 : Bool) (dh dl : Nat) (a b s : Nat) (l : List UInt8) : Nat := tot false (psdB s6 sh sl d6 dh dl 17 (8 + l.length) ++ udpD a b s l)
/-- whether a datagram is fine -/
def udF (s6 : Bool) (sh sl dh dl : Nat) (a b s : Nat) (l : List UInt8) : Bool := if s = 0 then !s6 else 65535 - fd (udT s6 sh sl s6 dh dl a b s l) == 0
set_option maxHeartbeats 4000000 in
set_option maxRecDepth 100000 in
theorem udpFine (a b s : Nat) (A : Option Addr) (n k : Nat) (s6 : Bool) (sh sl dh dl : Nat) (l : List UInt8) (w : World) (ha : a < 65536) (hb : b < 65536) (hs : s < 65536) (k1 : sh < 18446744073709551616) (k2 : sl < 18446744073709551616) (k3 : dh < 18446744073709551616) (k4 : dl < 18446744073709551616) (h : Rb w A n k l) (hn : n ≤ 10000) : Calls Try.prog 160 #[.agg (dgX a b s A n k).toArray, .agg (adC s6 sh sl).toArray, .agg (adC s6 dh dl).toArray] w (RetV w (.bool (udF s6 sh sl dh dl a b s l))) := by
  have HR := Lib.hid (fun w => (udpRight_yes (a : Int) b s A n k w (by omega) : Calls Try.prog 180 #[.agg (dgX a b s A n k).toArray] w (RetV w (.bool true))))
  have HB := Lib.hid (fun w (h : Rb w A n k l) => udpBytesX a b s A n k l w ha hb hs h (by omega))
  have hT : ([psdB s6 sh sl s6 dh dl 17 (8 + n), udpD a b s l] : List (List UInt8)).flatten.length ≤ 1000000 := by have := psdB_length s6 sh sl s6 dh dl 17 (8 + n); have := h.1; simp [udpD_length]; omega
  have HE : Hid (tot false ([psdB s6 sh sl s6 dh dl 17 (8 + n), udpD a b s l] : List (List UInt8)).flatten = udT s6 sh sl s6 dh dl a b s l) := Lib.hid (by rw [← h.1]; simp [udT])
  have HO := Lib.hid (fun w A1 c1 (h : RdL w A1 2 [psdB s6 sh sl s6 dh dl 17 (8 + n), udpD a b s l]) => sumRight A1 2 c1 _ w h (by omega) hT)
  rw [HE.out] at HO
  have hlD : (udpD a b s l).length = 8 + n := by rw [udpD_length, h.1]
  have HP := Lib.hid (fun w => (pseudo_any s6 sh sl s6 dh dl 17 (8 + n) w k1 k2 k3 k4 (by omega) (by omega) : Calls Try.prog 179 #[.agg (adC s6 sh sl).toArray, .agg (adC s6 dh dl).toArray, .int .u8 17, .int .i64 ((8 + n : Nat) : Int)] w (RetF w (psdB s6 sh sl s6 dh dl 17 (8 + n)))))
  have hF : udF s6 sh sl dh dl a b s l = if s = 0 then !s6 else 65535 - fd (udT s6 sh sl s6 dh dl a b s l) == 0 := rfl
  clear hT HE
  generalize udF s6 sh sl dh dl a b s l = z at *
  generalize psdB s6 sh sl s6 dh dl 17 (8 + n) = Pq at *
  generalize udpD a b s l = Pd at *
  generalize udT s6 sh sl s6 dh dl a b s l = t at *
  generalize 8 + n = m at *
  obtain ⟨du1, u1, u2⟩ := rowDX
  obtain ⟨dy1, y1, y2⟩ := rowAd
  have hX : Bk (((w.alloc (.cells (dgX a b s A n k).toArray 49)).alloc (.cells (adC s6 sh sl).toArray 26)).alloc (.cells (adC s6 dh dl).toArray 26)) w.heap.size 49 (dgX a b s A n k) := ((Bk.new w 49 (dgX a b s A n k).toArray).alloc _).alloc _
  have hS : Bk (((w.alloc (.cells (dgX a b s A n k).toArray 49)).alloc (.cells (adC s6 sh sl).toArray 26)).alloc (.cells (adC s6 dh dl).toArray 26)) (w.heap.size + 1) 26 (adC s6 sh sl) := (Bk.newK _ _ _ (by simp) rfl).alloc _
  have hE : Bk (((w.alloc (.cells (dgX a b s A n k).toArray 49)).alloc (.cells (adC s6 sh sl).toArray 26)).alloc (.cells (adC s6 dh dl).toArray 26)) (w.heap.size + 1 + 1) 26 (adC s6 dh dl) := Bk.newK _ _ _ (by simp) rfl
  have be : Below w.heap.size w (((w.alloc (.cells (dgX a b s A n k).toArray 49)).alloc (.cells (adC s6 sh sl).toArray 26)).alloc (.cells (adC s6 dh dl).toArray 26)) := Below.allocS (Below.allocS (Below.allocS (Below.refl _ _) _) _) _
  replace h := (((h.alloc (.cells (dgX a b s A n k).toArray 49)).alloc (.cells (adC s6 sh sl).toArray 26)).alloc (.cells (adC s6 dh dl).toArray 26))
  have zV : w.heap.size + 3 ≤ (((w.alloc (.cells (dgX a b s A n k).toArray 49)).alloc (.cells (adC s6 sh sl).toArray 26)).alloc (.cells (adC s6 dh dl).toArray 26)).heap.size := by simp
  go_enter Try.func160, Try.ntmps160
  go_upto_region 1 with (fail)
  generalize ((w.alloc (.cells (dgX a b s A n k).toArray 49)).alloc (.cells (adC s6 sh sl).toArray 26)).alloc (.cells (adC s6 dh dl).toArray 26) = V at *
  refine wp_region_lit ?_
  refine wpList_ldA (t := 49) 49 (.tmp 3) rfl rfl (dgX a b s A n k) rfl (hX) (whole_ _) u1 u2 (szDX _ _ _ _ _ _) ?_
  simp only [Act.put, List.setIfInBounds_toArray, List.set_cons_zero, List.set_cons_succ]
  refine wpList_plain rfl (fun K hK => ?_)
  go_simp
  refine (HR.out _).mono ?_
  rintro e w1 ⟨bs1, d1, rfl, rfl⟩
  with_reducible refine hK _ _ ?_
  clear hK K
  refine wpList_plain rfl (fun K hK => ?_)
  go_simp
  with_reducible refine hK _ _ ?_
  clear hK K
  replace hX := hX.later (below_plus _ bs1 d1)
  replace hS := hS.later (below_plus _ bs1 d1)
  replace hE := hE.later (below_plus _ bs1 d1)
  replace h := h.plus_ bs1 d1
  replace be := belowP be bs1 d1
  generalize plus V bs1 d1 = V1 at *
  by_cases h0 : s = 0
  · subst h0
    obtain rfl : z = !s6 := hF
    clear HB HO HP hlD HR h ha hb hs
    go_upto_region 3 with (fail)
    refine wp_region_lit ?_
    refine wpList_plain rfl (fun K hK => ?_)
    go_simp
    with_reducible refine hK _ _ ?_
    clear hK K
    refine wpList_ld1 (t := 49) (cs := dgX a b 0 A n k) 27 (.tmp 11) rfl (by rfl) rfl (hX) rfl Try.underlying27 rfl ?_
    simp only [Act.put, List.setIfInBounds_toArray, List.set_cons_zero, List.set_cons_succ]
    refine wpList_plain rfl (fun K hK => ?_)
    go_simp
    with_reducible refine hK _ _ ?_
    clear hK K
    go_upto_region 4 with (fail)
    cases s6
    · 
      refine wp_region_lit ?_
      refine wpList_plain rfl (fun K hK => ?_)
      go_simp
      with_reducible refine hK _ _ ?_
      clear hK K
      refine wpList_ld1 (t := 26) (cs := adC false sh sl) 4 (.tmp 14) rfl (by rfl) rfl (hS) rfl Try.underlying4 rfl ?_
      simp only [Act.put, List.setIfInBounds_toArray, List.set_cons_zero, List.set_cons_succ]
      refine wpList_plain rfl (fun K hK => ?_)
      go_simp
      with_reducible refine hK _ _ ?_
      clear hK K
      refine wpList_plain rfl (fun K hK => ?_)
      go_simp
      with_reducible refine hK _ _ ?_
      clear hK K
      refine wpList_step (fun K hK => ?_)
      go_simp
      with_reducible refine hK _ _ ?_
      clear hK K
      refine wpList_ld1 (t := 26) (cs := adC false dh dl) 4 (.tmp 18) rfl (by go_simp) rfl (hE) rfl Try.underlying4 rfl ?_
      simp only [Act.put, List.setIfInBounds_toArray, List.set_cons_zero, List.set_cons_succ]
      refine wpList_step (fun K hK => ?_)
      go_simp
      with_reducible refine hK _ _ ?_
      clear hK K
      refine wpList_plain rfl (fun K hK => ?_)
      go_simp
      with_reducible refine hK _ _ ?_
      clear hK K
      refine wpList_plain rfl (fun K hK => ?_)
      go_simp
      with_reducible refine hK _ _ ?_
      clear hK K
      go_wp2
      go_ret
      exact RetV.is_ rfl be
    · 
      refine wp_region_lit ?_
      refine wpList_plain rfl (fun K hK => ?_)
      go_simp
      with_reducible refine hK _ _ ?_
      clear hK K
      refine wpList_ld1 (t := 26) (cs := adC true sh sl) 4 (.tmp 14) rfl (by rfl) rfl (hS) rfl Try.underlying4 rfl ?_
      simp only [Act.put, List.setIfInBounds_toArray, List.set_cons_zero, List.set_cons_succ]
      refine wpList_plain rfl (fun K hK => ?_)
      go_simp
      with_reducible refine hK _ _ ?_
      clear hK K
      refine wpList_plain rfl (fun K hK => ?_)
      go_simp
      with_reducible refine hK _ _ ?_
      clear hK K
      refine wpList_step (fun K hK => ?_)
      go_simp
      with_reducible refine hK _ _ ?_
      clear hK K
      refine wpList_step (fun K hK => ?_)
      go_simp
      with_reducible refine hK _ _ ?_
      clear hK K
      refine wpList_step (fun K hK => ?_)
      go_simp
      with_reducible refine hK _ _ ?_
      clear hK K
      refine wpList_plain rfl (fun K hK => ?_)
      go_simp
      with_reducible refine hK _ _ ?_
      clear hK K
      refine wpList_plain rfl (fun K hK => ?_)
      go_simp
      with_reducible refine hK _ _ ?_
      clear hK K
      go_wp2
      go_ret
      exact RetV.is_ rfl be
  · have d0 : ((s : Int) == 0) = false := by rw [beq_eq_false_iff_ne]; omega
    rw [if_neg h0] at hF
    subst hF
    clear HR h0
    go_upto_region 3 with (fail)
    refine wp_region_lit ?_
    refine wpList_plain rfl (fun K hK => ?_)
    go_simp
    with_reducible refine hK _ _ ?_
    clear hK K
    refine wpList_ld1 (t := 49) (cs := dgX a b s A n k) 27 (.tmp 11) rfl (by rfl) rfl (hX) rfl Try.underlying27 rfl ?_
    simp only [Act.put, List.setIfInBounds_toArray, List.set_cons_zero, List.set_cons_succ]
    refine wpList_plain rfl (fun K hK => ?_)
    go_simp
    with_reducible refine hK _ _ ?_
    clear hK K
    go_upto_region 5 with (fail)
    refine wp_region_lit ?_
    refine wpList_ldA (t := 49) 49 (.tmp 3) rfl rfl (dgX a b s A n k) rfl (hX) (whole_ _) u1 u2 (szDX _ _ _ _ _ _) ?_
    simp only [Act.put, List.setIfInBounds_toArray, List.set_cons_zero, List.set_cons_succ]
    refine wpList_plain rfl (fun K hK => ?_)
    go_simp
    refine (HB.out _ h).mono ?_
    rintro e w1 ⟨A1, n1, c1, bs1, d1, rfl, rfl, ho1⟩
    with_reducible refine hK _ _ ?_
    clear hK K
    obtain rfl : n1 = m := by rw [← ho1.1]; exact hlD
    replace hS := hS.later (below_plus _ bs1 d1)
    replace hE := hE.later (below_plus _ bs1 d1)
    replace be := belowP be bs1 d1
    replace ho1 := ho1.rb
    generalize plus V1 bs1 d1 = V2 at *
    go_upto_region 6 with (fail)
    refine wp_region_lit ?_
    refine wpList_ldA (t := 26) 26 (.tmp 4) rfl rfl (adC s6 sh sl) rfl (hS) (whole_ _) y1 y2 (szAd _ _ _) ?_
    simp only [Act.put, List.setIfInBounds_toArray, List.set_cons_zero, List.set_cons_succ]
    refine wpList_ldA (t := 26) 26 (.tmp 5) rfl rfl (adC s6 dh dl) rfl (hE) (whole_ _) y1 y2 (szAd _ _ _) ?_
    simp only [Act.put, List.setIfInBounds_toArray, List.set_cons_zero, List.set_cons_succ]
    refine wpList_plain rfl (fun K hK => ?_)
    go_simp
    with_reducible refine hK _ _ ?_
    clear hK K
    refine wpList_plain rfl (fun K hK => ?_)
    go_simp
    with_reducible refine hK _ _ ?_
    clear hK K
    refine wpList_plain rfl (fun K hK => ?_)
    go_simp
    refine (HP.out _).mono ?_
    rintro e w1 ⟨A2, n2, bs2, d2, rfl, rfl, ho2⟩
    with_reducible refine hK _ _ ?_
    clear hK K
    refine wpList_plain rfl (fun K hK => ?_)
    go_simp
    with_reducible refine hK _ _ ?_
    clear hK K
    refine wpList_plain rfl (fun K hK => ?_)
    go_simp
    with_reducible refine hK _ _ ?_
    clear hK K
    go_wp2_with fail
    refine (HO.out _ _ _ (RdL.litW [.slice A2 n2 n2, .slice A1 n1 c1] _ (by simp [size_plus]) (.cons ⟨_, _, _, rfl, ho2.rb⟩ (.cons ⟨_, _, _, rfl, ho1.plus_ _ _⟩ .nil)))).mono ?_
    rintro e w1 ⟨rfl, rfl⟩
    go_wp2
    go_ret
    exact RetV.is_ rfl (Below.allocS (belowP be _ _) _)
set_option maxHeartbeats 4000000 in
set_option maxRecDepth 100000 in
theorem refUdpSum (a b s : Nat) (A : Option Addr) (n k : Nat) (s6 : Bool) (sh sl dh dl : Nat) (l : List UInt8) (w : World) (ha : a < 65536) (hb : b < 65536) (hs : s < 65536) (k1 : sh < 18446744073709551616) (k2 : sl < 18446744073709551616) (k3 : dh < 18446744073709551616) (k4 : dl < 18446744073709551616) (h : Rb w A n k l) (hn : n ≤ 10000) : Calls Try.prog 121 #[.agg (dgX a b s A n k).toArray, .agg (adC s6 sh sl).toArray, .agg (adC s6 dh dl).toArray] w (RetV w (.int .u16 ((65535 - fd (udT s6 sh sl s6 dh dl a b s l) : Nat) : Int))) := by
  have HB := Lib.hid (fun w (h : Rb w A n k l) => refUdpBytesX a b s A n k l w ha hb hs h (by omega))
  have hlD : (udpD a b s l).length = 8 + n := by rw [udpD_length, h.1]
  have hT : ([psdB s6 sh sl s6 dh dl 17 (8 + n), udpD a b s l] : List (List UInt8)).flatten.length ≤ 20000 := by have := psdB_length s6 sh sl s6 dh dl 17 (8 + n); have := h.1; simp [udpD_length]; omega
  have HE : Hid (tot false ([psdB s6 sh sl s6 dh dl 17 (8 + n), udpD a b s l] : List (List UInt8)).flatten = udT s6 sh sl s6 dh dl a b s l) := Lib.hid (by rw [← h.1]; simp [udT])
  have HJ := Lib.hid (fun w A5 c5 (h : RdL w A5 2 [psdB s6 sh sl s6 dh dl 17 (8 + n), udpD a b s l]) => refJoin_any A5 2 c5 _ w h (by omega) (by omega))
  have HO := Lib.hid (fun w A5 n5 c5 (h : Rb w A5 n5 c5 ([psdB s6 sh sl s6 dh dl 17 (8 + n), udpD a b s l] : List (List UInt8)).flatten) => refSumOf A5 n5 c5 _ w h (by rw [← h.1]; omega))
  rw [HE.out] at HO
  have HP := Lib.hid (fun w => (refPseudo_any s6 sh sl s6 dh dl 17 (8 + n) w k1 k2 k3 k4 (by omega) (by omega) : Calls Try.prog 120 #[.agg (adC s6 sh sl).toArray, .agg (adC s6 dh dl).toArray, .int .u8 17, .int .i64 ((8 + n : Nat) : Int)] w (RetB w (psdB s6 sh sl s6 dh dl 17 (8 + n)))))
  clear hT HE
  generalize psdB s6 sh sl s6 dh dl 17 (8 + n) = Pq at *
  generalize udpD a b s l = Pd at *
  generalize udT s6 sh sl s6 dh dl a b s l = t at *
  generalize 8 + n = m at *
  obtain ⟨du1, u1, u2⟩ := rowRX
  obtain ⟨dy1, y1, y2⟩ := rowAd
  have hX : Bk (((w.alloc (.cells (dgX a b s A n k).toArray 57)).alloc (.cells (adC s6 sh sl).toArray 26)).alloc (.cells (adC s6 dh dl).toArray 26)) w.heap.size 57 (dgX a b s A n k) := ((Bk.new w 57 (dgX a b s A n k).toArray).alloc _).alloc _
  have hS : Bk (((w.alloc (.cells (dgX a b s A n k).toArray 57)).alloc (.cells (adC s6 sh sl).toArray 26)).alloc (.cells (adC s6 dh dl).toArray 26)) (w.heap.size + 1) 26 (adC s6 sh sl) := (Bk.newK _ _ _ (by simp) rfl).alloc _
  have hE : Bk (((w.alloc (.cells (dgX a b s A n k).toArray 57)).alloc (.cells (adC s6 sh sl).toArray 26)).alloc (.cells (adC s6 dh dl).toArray 26)) (w.heap.size + 1 + 1) 26 (adC s6 dh dl) := Bk.newK _ _ _ (by simp) rfl
  have be : Below w.heap.size w (((w.alloc (.cells (dgX a b s A n k).toArray 57)).alloc (.cells (adC s6 sh sl).toArray 26)).alloc (.cells (adC s6 dh dl).toArray 26)) := Below.allocS (Below.allocS (Below.allocS (Below.refl _ _) _) _) _
  replace h := (((h.alloc (.cells (dgX a b s A n k).toArray 57)).alloc (.cells (adC s6 sh sl).toArray 26)).alloc (.cells (adC s6 dh dl).toArray 26))
  have zV : w.heap.size + 3 ≤ (((w.alloc (.cells (dgX a b s A n k).toArray 57)).alloc (.cells (adC s6 sh sl).toArray 26)).alloc (.cells (adC s6 dh dl).toArray 26)).heap.size := by simp
  go_enter Try.func121, Try.ntmps121
  go_upto_region 1 with (fail)
  generalize ((w.alloc (.cells (dgX a b s A n k).toArray 57)).alloc (.cells (adC s6 sh sl).toArray 26)).alloc (.cells (adC s6 dh dl).toArray 26) = V at *
  refine wp_region_lit ?_
  refine wpList_ldA (t := 57) 57 (.tmp 3) rfl rfl (dgX a b s A n k) rfl (hX) (whole_ _) u1 u2 (szRX _ _ _ _ _ _) ?_
  simp only [Act.put, List.setIfInBounds_toArray, List.set_cons_zero, List.set_cons_succ]
  refine wpList_plain rfl (fun K hK => ?_)
  go_simp
  refine (HB.out _ h).mono ?_
  rintro e w1 ⟨A1, n1, c1, bs1, d1, rfl, rfl, ho1⟩
  with_reducible refine hK _ _ ?_
  clear hK K
  obtain rfl : n1 = m := by rw [← ho1.1]; exact hlD
  replace hS := hS.later (below_plus _ bs1 d1)
  replace hE := hE.later (below_plus _ bs1 d1)
  replace be := belowP be bs1 d1
  replace ho1 := ho1.rb
  generalize plus V bs1 d1 = V2 at *
  go_upto_region 2 with (fail)
  refine wp_region_lit ?_
  refine wpList_ldA (t := 26) 26 (.tmp 4) rfl rfl (adC s6 sh sl) rfl (hS) (whole_ _) y1 y2 (szAd _ _ _) ?_
  simp only [Act.put, List.setIfInBounds_toArray, List.set_cons_zero, List.set_cons_succ]
  refine wpList_ldA (t := 26) 26 (.tmp 5) rfl rfl (adC s6 dh dl) rfl (hE) (whole_ _) y1 y2 (szAd _ _ _) ?_
  simp only [Act.put, List.setIfInBounds_toArray, List.set_cons_zero, List.set_cons_succ]
  refine wpList_plain rfl (fun K hK => ?_)
  go_simp
  with_reducible refine hK _ _ ?_
  clear hK K
  refine wpList_plain rfl (fun K hK => ?_)
  go_simp
  with_reducible refine hK _ _ ?_
  clear hK K
  refine wpList_plain rfl (fun K hK => ?_)
  go_simp
  refine (HP.out _).mono ?_
  rintro e w1 ⟨A2, n2, c2, bs2, d2, rfl, rfl, ho2⟩
  with_reducible refine hK _ _ ?_
  clear hK K
  refine wpList_plain rfl (fun K hK => ?_)
  go_simp
  with_reducible refine hK _ _ ?_
  clear hK K
  refine wpList_plain rfl (fun K hK => ?_)
  go_simp
  with_reducible refine hK _ _ ?_
  clear hK K
  go_wp2_with fail
  refine (HJ.out _ _ _ (RdL.litW [.slice A2 n2 c2, .slice A1 n1 c1] _ (by simp [size_plus]) (.cons ⟨_, _, _, rfl, ho2.rb⟩ (.cons ⟨_, _, _, rfl, ho1.plus_ _ _⟩ .nil)))).mono ?_
  rintro e w1 ⟨A6, n6, c6, bs6, d6', rfl, rfl, ho6⟩
  go_wp2_with fail
  refine (HO.out _ _ _ _ ho6.rb).mono ?_
  rintro e w1 ⟨rfl, rfl⟩
  go_wp2
  go_ret
  exact RetV.is_ rfl (belowP (Below.allocS (belowP be _ _) _) _ _)
set_option maxHeartbeats 4000000 in
set_option maxRecDepth 100000 in
theorem refUdpFine (a b s : Nat) (A : Option Addr) (n k : Nat) (s6 : Bool) (sh sl dh dl : Nat) (l : List UInt8) (w : World) (ha : a < 65536) (hb : b < 65536) (hs : s < 65536) (k1 : sh < 18446744073709551616) (k2 : sl < 18446744073709551616) (k3 : dh < 18446744073709551616) (k4 : dl < 18446744073709551616) (h : Rb w A n k l) (hn : n ≤ 10000) : Calls Try.prog 62 #[.agg (dgX a b s A n k).toArray, .agg (adC s6 sh sl).toArray, .agg (adC s6 dh dl).toArray] w (RetV w (.bool (udF s6 sh sl dh dl a b s l))) := by
  have HS := Lib.hid (fun w (h : Rb w A n k l) => refUdpSum a b s A n k s6 sh sl dh dl l w ha hb hs k1 k2 k3 k4 h hn)
  have HW : ∀ f : Nat, (f ≤ 65535) → (((65535 - f : Nat) : Int) == 0) = (65535 - f == 0) := fun f hf => by rw [Bool.eq_iff_iff, beq_iff_eq, beq_iff_eq]; omega
  replace HW := HW _ (fd_le (udT s6 sh sl s6 dh dl a b s l))
  have hF : udF s6 sh sl dh dl a b s l = if s = 0 then !s6 else 65535 - fd (udT s6 sh sl s6 dh dl a b s l) == 0 := rfl
  generalize udF s6 sh sl dh dl a b s l = z at *
  generalize udT s6 sh sl s6 dh dl a b s l = t at *
  generalize 65535 - fd t = q at *
  obtain ⟨du1, u1, u2⟩ := rowRX
  obtain ⟨dy1, y1, y2⟩ := rowAd
  have hX : Bk (((w.alloc (.cells (dgX a b s A n k).toArray 57)).alloc (.cells (adC s6 sh sl).toArray 26)).alloc (.cells (adC s6 dh dl).toArray 26)) w.heap.size 57 (dgX a b s A n k) := ((Bk.new w 57 (dgX a b s A n k).toArray).alloc _).alloc _
  have hS : Bk (((w.alloc (.cells (dgX a b s A n k).toArray 57)).alloc (.cells (adC s6 sh sl).toArray 26)).alloc (.cells (adC s6 dh dl).toArray 26)) (w.heap.size + 1) 26 (adC s6 sh sl) := (Bk.newK _ _ _ (by simp) rfl).alloc _
  have hE : Bk (((w.alloc (.cells (dgX a b s A n k).toArray 57)).alloc (.cells (adC s6 sh sl).toArray 26)).alloc (.cells (adC s6 dh dl).toArray 26)) (w.heap.size + 1 + 1) 26 (adC s6 dh dl) := Bk.newK _ _ _ (by simp) rfl
  have be : Below w.heap.size w (((w.alloc (.cells (dgX a b s A n k).toArray 57)).alloc (.cells (adC s6 sh sl).toArray 26)).alloc (.cells (adC s6 dh dl).toArray 26)) := Below.allocS (Below.allocS (Below.allocS (Below.refl _ _) _) _) _
  replace h := (((h.alloc (.cells (dgX a b s A n k).toArray 57)).alloc (.cells (adC s6 sh sl).toArray 26)).alloc (.cells (adC s6 dh dl).toArray 26))
  have zV : w.heap.size + 3 ≤ (((w.alloc (.cells (dgX a b s A n k).toArray 57)).alloc (.cells (adC s6 sh sl).toArray 26)).alloc (.cells (adC s6 dh dl).toArray 26)).heap.size := by simp
  go_enter Try.func62, Try.ntmps62
  go_upto_region 1 with (fail)
  generalize ((w.alloc (.cells (dgX a b s A n k).toArray 57)).alloc (.cells (adC s6 sh sl).toArray 26)).alloc (.cells (adC s6 dh dl).toArray 26) = V at *
  by_cases h0 : s = 0
  · subst h0
    obtain rfl : z = !s6 := hF
    clear HS HW h ha hb hs
    refine wp_region_lit ?_
    refine wpList_plain rfl (fun K hK => ?_)
    go_simp
    with_reducible refine hK _ _ ?_
    clear hK K
    refine wpList_ld1 (t := 57) (cs := dgX a b 0 A n k) 27 (.tmp 7) rfl (by rfl) rfl (hX) rfl Try.underlying27 rfl ?_
    simp only [Act.put, List.setIfInBounds_toArray, List.set_cons_zero, List.set_cons_succ]
    refine wpList_plain rfl (fun K hK => ?_)
    go_simp
    with_reducible refine hK _ _ ?_
    clear hK K
    go_upto_region 2 with (fail)
    refine wp_region_lit ?_
    refine wpList_plain rfl (fun K hK => ?_)
    go_simp
    with_reducible refine hK _ _ ?_
    clear hK K
    refine wpList_ld1 (t := 26) (cs := adC s6 sh sl) 4 (.tmp 10) rfl (by rfl) rfl (hS) rfl Try.underlying4 rfl ?_
    simp only [Act.put, List.setIfInBounds_toArray, List.set_cons_zero, List.set_cons_succ]
    refine wpList_plain rfl (fun K hK => ?_)
    go_simp
    with_reducible refine hK _ _ ?_
    clear hK K
    refine wpList_plain rfl (fun K hK => ?_)
    go_simp
    with_reducible refine hK _ _ ?_
    clear hK K
    go_wp2
    go_ret
    exact RetV.is_ rfl be
  · have d0 : ((s : Int) == 0) = false := by rw [beq_eq_false_iff_ne]; omega
    rw [if_neg h0] at hF
    subst hF
    clear h0
    refine wp_region_lit ?_
    refine wpList_plain rfl (fun K hK => ?_)
    go_simp
    with_reducible refine hK _ _ ?_
    clear hK K
    refine wpList_ld1 (t := 57) (cs := dgX a b s A n k) 27 (.tmp 7) rfl (by rfl) rfl (hX) rfl Try.underlying27 rfl ?_
    simp only [Act.put, List.setIfInBounds_toArray, List.set_cons_zero, List.set_cons_succ]
    refine wpList_plain rfl (fun K hK => ?_)
    go_simp
    with_reducible refine hK _ _ ?_
    clear hK K
    go_upto_region 3 with (fail)
    refine wp_region_lit ?_
    refine wpList_ldA (t := 57) 57 (.tmp 3) rfl rfl (dgX a b s A n k) rfl (hX) (whole_ _) u1 u2 (szRX _ _ _ _ _ _) ?_
    simp only [Act.put, List.setIfInBounds_toArray, List.set_cons_zero, List.set_cons_succ]
    refine wpList_ldA (t := 26) 26 (.tmp 4) rfl rfl (adC s6 sh sl) rfl (hS) (whole_ _) y1 y2 (szAd _ _ _) ?_
    simp only [Act.put, List.setIfInBounds_toArray, List.set_cons_zero, List.set_cons_succ]
    refine wpList_ldA (t := 26) 26 (.tmp 5) rfl rfl (adC s6 dh dl) rfl (hE) (whole_ _) y1 y2 (szAd _ _ _) ?_
    simp only [Act.put, List.setIfInBounds_toArray, List.set_cons_zero, List.set_cons_succ]
    refine wpList_plain rfl (fun K hK => ?_)
    go_simp
    refine (HS.out _ h).mono ?_
    rintro e w1 ⟨bs1, d1, rfl, rfl⟩
    with_reducible refine hK _ _ ?_
    clear hK K
    refine wpList_plain rfl (fun K hK => ?_)
    go_simp
    with_reducible refine hK _ _ ?_
    clear hK K
    refine wpList_plain rfl (fun K hK => ?_)
    go_simp
    with_reducible refine hK _ _ ?_
    clear hK K
    go_wp2
    go_ret
    exact RetV.is_ (by first | rfl | rw [HW]) (belowP be _ _)
end Go.Proofs.Ytfmkndemkpecpaa

/- Contracts of tcp.Parse. -/
namespace Go.Proofs.Ytfmkndemkpecpaa
open Go.RowKit
set_option linter.unusedVariables false
set_option linter.unusedSimpArgs false
attribute [local go_sem ↓] sliced_cut

attribute [local go_sem] cutA_zero

theorem szSeg (cs : List Value) (h : cs.length = 10) : (Try.prog.info? 47).map (·.size) = some cs.length := by rw [h]; kernel_rfl
set_option maxRecDepth 100000 in
theorem run_buildSeg0 (w : World) : (Instr.build 47 #[]).run Try.prog w = .ok (.agg #[.int .u16 0, .int .u16 0, .int .u32 0, .int .u32 0, .int .u8 0, .int .u16 0, .int .u16 0, .int .u16 0, .slice none 0 0, .slice none 0 0]) w := by kernel_rfl
/-- a segment in new memory, and a second result -/
def RetSeg (w : World) (x0 x1 x2 x3 x4 x5 x6 x7 : Nat) (l l2 : List UInt8) (v : Value) (e : Ending) (w' : World) : Prop :=
  ∃ A n c A2 n2 c2 bs d, e = .returned (.tuple #[.agg #[.int .u16 x0, .int .u16 x1, .int .u32 x2, .int .u32 x3, .int .u8 x4, .int .u16 x5, .int .u16 x6, .int .u16 x7, .slice A n c, .slice A2 n2 c2], v]) ∧ w' = plus w bs d ∧ Rb (plus w bs d) A n c l ∧ Rb (plus w bs d) A2 n2 c2 l2
theorem RetSeg.mk {w w' : World} {x0 x1 x2 x3 x4 x5 x6 x7 : Nat} {l l2 : List UInt8} {A : Option Addr} {n c : Nat} {A2 : Option Addr} {n2 c2 : Nat} {v : Value} (h1 : Rb w' A n c l) (h2 : Rb w' A2 n2 c2 l2) (hb : Below w.heap.size w w') :
    RetSeg w x0 x1 x2 x3 x4 x5 x6 x7 l l2 v (.returned (.tuple #[.agg #[.int .u16 x0, .int .u16 x1, .int .u32 x2, .int .u32 x3, .int .u8 x4, .int .u16 x5, .int .u16 x6, .int .u16 x7, .slice A n c, .slice A2 n2 c2], v])) w' := by
  obtain ⟨bs, d, rfl⟩ := plus_of hb
  exact ⟨A, n, c, A2, n2, c2, bs, d, rfl, rfl, h1, h2⟩
/-- the same, the rows in new blocks -/
def RetSegF (w : World) (x0 x1 x2 x3 x4 x5 x6 x7 : Nat) (l l2 : List UInt8) (v : Value) (e : Ending) (w' : World) : Prop :=
  ∃ A n c A2 n2 c2 bs d, e = .returned (.tuple #[.agg #[.int .u16 x0, .int .u16 x1, .int .u32 x2, .int .u32 x3, .int .u8 x4, .int .u16 x5, .int .u16 x6, .int .u16 x7, .slice A n c, .slice A2 n2 c2], v]) ∧ w' = plus w bs d ∧ Rb (plus w bs d) A n c l ∧ Rb (plus w bs d) A2 n2 c2 l2 ∧ (∀ a, A = some a → w.heap.size ≤ a.block) ∧ ∀ a, A2 = some a → w.heap.size ≤ a.block
theorem Ob.freshT {w : World} {w0 base : Nat} {A : Option Addr} {n c : Nat} {l : List UInt8} (h : Ob w base A n c l) (hb : w0 ≤ base) : ∀ a, A = some a → w0 ≤ a.block := fun a ha => by
  subst ha
  have := (h.blk a.block rfl).1
  omega
theorem RetSegF.mk {w w' : World} {x0 x1 x2 x3 x4 x5 x6 x7 : Nat} {l l2 : List UInt8} {A : Option Addr} {n c : Nat} {A2 : Option Addr} {n2 c2 : Nat} {v : Value} {b1 b2 : Nat} (h1 : Ob w' b1 A n c l) (h2 : Ob w' b2 A2 n2 c2 l2) (hb : Below w.heap.size w w') (f1 : w.heap.size ≤ b1) (f2 : w.heap.size ≤ b2) :
    RetSegF w x0 x1 x2 x3 x4 x5 x6 x7 l l2 v (.returned (.tuple #[.agg #[.int .u16 x0, .int .u16 x1, .int .u32 x2, .int .u32 x3, .int .u8 x4, .int .u16 x5, .int .u16 x6, .int .u16 x7, .slice A n c, .slice A2 n2 c2], v])) w' := by
  obtain ⟨bs, d, rfl⟩ := plus_of hb
  exact ⟨A, n, c, A2, n2, c2, bs, d, rfl, rfl, h1.rb, h2.rb, h1.freshT f1, h2.freshT f2⟩
theorem RetSeg.zero {w w' : World} {v : Value} (hb : Below w.heap.size w w') : RetSeg w 0 0 0 0 0 0 0 0 [] [] v (.returned (.tuple #[.agg #[.int .u16 0, .int .u16 0, .int .u32 0, .int .u32 0, .int .u8 0, .int .u16 0, .int .u16 0, .int .u16 0, .slice none 0 0, .slice none 0 0], v])) w' := RetSeg.mk Rb.nil_ Rb.nil_ hb

theorem tcpParse_short (A : Option Addr) (n c : Nat) (l : List UInt8) (w : World) (hr : Rb w A n c l) (hn : n < 20) : Calls Try.prog 157 #[.slice A n c] w (RetSeg w 0 0 0 0 0 0 0 0 [] [] (.int .i64 20)) := by
  go_enter Try.func157, Try.ntmps157
  go_wp2
  refine bodyPost_ret (v := .tuple #[.agg #[.int .u16 0, .int .u16 0, .int .u32 0, .int .u32 0, .int .u8 0, .int .u16 0, .int .u16 0, .int .u16 0, .slice none 0 0, .slice none 0 0], .int .i64 20]) (by simp [results, Try.results157, go_sem]) rfl (RetSeg.zero ?_)
  repeat (first | exact Below.refl _ _ | refine Below.alloc ?_ (by simp) _)

set_option maxHeartbeats 4000000 in
theorem tcpParse_form1 (A : Option Addr) (n c : Nat) (l : List UInt8) (w : World) (hr : Rb w A n c l) (h20 : 20 ≤ n) (hn : n ≤ 1000000) (x0 : Nat) (x1 : Nat) (x2 : Nat) (x3 : Nat) (xf : Nat) (x4 : Nat) (x5 : Nat) (x6 : Nat) (x7 : Nat) (hx0 : num ((l.drop 0).take 2) = x0) (hx1 : num ((l.drop 2).take 2) = x1) (hx2 : num ((l.drop 4).take 4) = x2) (hx3 : num ((l.drop 8).take 4) = x3) (hxf : num ((l.drop 12).take 1) = xf) (hx4 : num ((l.drop 13).take 1) = x4) (hx5 : num ((l.drop 14).take 2) = x5) (hx6 : num ((l.drop 16).take 2) = x6) (hx7 : num ((l.drop 18).take 2) = x7) (hs : xf / 16 < 5) :
    Calls Try.prog 157 #[.slice A n c] w (RetSeg w 0 0 0 0 0 0 0 0 [] [] (.int .i64 21)) := by
  have hc := hr.cap
  have h20i : (20 : Int) ≤ (n : Int) := by omega
  have hf : xf < 256 := by rw [← hxf]; exact num_lt' l 12 1 256 (by decide)
  have hand := u8_and15 xf hf
  have Hx0 := Lib.hid hx0
  have Hx1 := Lib.hid hx1
  have Hx2 := Lib.hid hx2
  have Hx3 := Lib.hid hx3
  have Hxf := Lib.hid hxf
  have Hx4 := Lib.hid hx4
  have Hx5 := Lib.hid hx5
  have Hx6 := Lib.hid hx6
  have Hx7 := Lib.hid hx7
  clear hx0 hx1 hx2 hx3 hxf hx4 hx5 hx6 hx7
  have t1 : decide (4 * ((xf : Int) / 16) < 20) = true := by simp; omega
  go_enter Try.func157, Try.ntmps157
  go_wp2_with fail
  refine (readK _ _ _ (l.take 20) _ ((hr.take h20).alloc _) (by omega)).mono ?_
  rintro e w1 ⟨r, bs1, d1, rfl, rfl, hr1, hR0⟩
  have HL := Lib.hid (show (l.take 20).length = 20 by rw [List.length_take, hr.1]; omega)
  go_wp2_with fail
  refine (wordK _ _ _ r (l.take 20) 0 x0 hR0 hr1 (by rw [HL.out]; omega) (by rw [HL.out]; omega) (by rw [num_in _ _ _ _ (by omega)]; exact Hx0.out)).mono ?_
  rintro e w1 ⟨bs2, d2, rfl, rfl, hR1, -⟩
  go_wp2_with fail
  refine (wordK _ _ _ r (l.take 20) 2 x1 hR1 hr1 (by rw [HL.out]; omega) (by rw [HL.out]; omega) (by rw [num_in _ _ _ _ (by omega)]; exact Hx1.out)).mono ?_
  rintro e w1 ⟨bs3, d3, rfl, rfl, hR2, -⟩
  go_wp2_with fail
  refine (longK _ _ _ r (l.take 20) 4 x2 hR2 hr1 (by rw [HL.out]; omega) (by rw [HL.out]; omega) (by rw [num_in _ _ _ _ (by omega)]; exact Hx2.out)).mono ?_
  rintro e w1 ⟨bs4, d4, rfl, rfl, hR3, -⟩
  go_wp2_with fail
  refine (longK _ _ _ r (l.take 20) 8 x3 hR3 hr1 (by rw [HL.out]; omega) (by rw [HL.out]; omega) (by rw [num_in _ _ _ _ (by omega)]; exact Hx3.out)).mono ?_
  rintro e w1 ⟨bs5, d5, rfl, rfl, hR4, -⟩
  have hB0 : Below w.heap.size w (plus (w.alloc (.cells #[.int .u16 0, .int .u16 0, .int .u32 0, .int .u32 0, .int .u8 0, .int .u16 0, .int .u16 0, .int .u16 0, .slice none 0 0, .slice none 0 0] 47)) bs5 d5) := belowP ((Below.refl _ _).alloc (Nat.le_refl _) _) _ _
  have hX0 : Bk ((plus (w.alloc (.cells #[.int .u16 0, .int .u16 0, .int .u32 0, .int .u32 0, .int .u8 0, .int .u16 0, .int .u16 0, .int .u16 0, .slice none 0 0, .slice none 0 0] 47)) bs5 d5).alloc (.cells #[.int .u16 (x0 : Nat), .int .u16 (x1 : Nat), .int .u32 (x2 : Nat), .int .u32 (x3 : Nat), .int .u8 0, .int .u16 0, .int .u16 0, .int .u16 0, .slice none 0 0, .slice none 0 0] 47)) (w.heap.size + 1 + bs5.length) 47 [.int .u16 (x0 : Nat), .int .u16 (x1 : Nat), .int .u32 (x2 : Nat), .int .u32 (x3 : Nat), .int .u8 0, .int .u16 0, .int .u16 0, .int .u16 0, .slice none 0 0, .slice none 0 0] := by
    have := Bk.new (plus (w.alloc (.cells #[.int .u16 0, .int .u16 0, .int .u32 0, .int .u32 0, .int .u8 0, .int .u16 0, .int .u16 0, .int .u16 0, .slice none 0 0, .slice none 0 0] 47)) bs5 d5) 47 #[.int .u16 (x0 : Nat), .int .u16 (x1 : Nat), .int .u32 (x2 : Nat), .int .u32 (x3 : Nat), .int .u8 0, .int .u16 0, .int .u16 0, .int .u16 0, .slice none 0 0, .slice none 0 0]
    rw [size_plus, World.size_alloc] at this
    exact this
  have hZ0 : Bk ((plus (w.alloc (.cells #[.int .u16 0, .int .u16 0, .int .u32 0, .int .u32 0, .int .u8 0, .int .u16 0, .int .u16 0, .int .u16 0, .slice none 0 0, .slice none 0 0] 47)) bs5 d5).alloc (.cells #[.int .u16 (x0 : Nat), .int .u16 (x1 : Nat), .int .u32 (x2 : Nat), .int .u32 (x3 : Nat), .int .u8 0, .int .u16 0, .int .u16 0, .int .u16 0, .slice none 0 0, .slice none 0 0] 47)) w.heap.size 47 [.int .u16 0, .int .u16 0, .int .u32 0, .int .u32 0, .int .u8 0, .int .u16 0, .int .u16 0, .int .u16 0, .slice none 0 0, .slice none 0 0] := ((Bk.new w 47 #[.int .u16 0, .int .u16 0, .int .u32 0, .int .u32 0, .int .u8 0, .int .u16 0, .int .u16 0, .int .u16 0, .slice none 0 0, .slice none 0 0]).later (below_plus _ _ _)).alloc _
  have hlt : r < w.heap.size + 1 + bs5.length := by have := hR4.lt; simpa [size_plus] using this
  have hR5 := hR4.later ((Below.refl _ _).alloc (Nat.le_refl _) (.cells #[.int .u16 (x0 : Nat), .int .u16 (x1 : Nat), .int .u32 (x2 : Nat), .int .u32 (x3 : Nat), .int .u8 0, .int .u16 0, .int .u16 0, .int .u16 0, .slice none 0 0, .slice none 0 0] 47))
  have hB1 := hB0.alloc hB0.size (.cells #[.int .u16 (x0 : Nat), .int .u16 (x1 : Nat), .int .u32 (x2 : Nat), .int .u32 (x3 : Nat), .int .u8 0, .int .u16 0, .int .u16 0, .int .u16 0, .slice none 0 0, .slice none 0 0] 47)
  have hr2 : w.heap.size < r := by have := hr1; simp at this; omega
  go_wp2_with fail
  generalize (plus (w.alloc (.cells #[.int .u16 0, .int .u16 0, .int .u32 0, .int .u32 0, .int .u8 0, .int .u16 0, .int .u16 0, .int .u16 0, .slice none 0 0, .slice none 0 0] 47)) bs5 d5).alloc _ = W1 at hX0 hZ0 hR5 hB1 ⊢
  generalize w.heap.size + 1 + bs5.length = g at *
  refine (byteG _ r (l.take 20) 12 xf hR5 (by rw [HL.out]; omega) (by rw [HL.out]; omega) (by rw [num_in _ _ _ _ (by omega)]; exact Hxf.out)).mono ?_
  rintro e w1 ⟨rfl, hR6, hg6⟩
  have hX6 := hX0.grown hg6 (by simp; omega)
  have hZ6 := hZ0.grown hg6 (by simp; omega)
  have hB6 := hB1.trans (below_of_grown hg6 hB1.size (fun k hk => by injection hk with hk; omega))
  clear hg6 hX0 hZ0 hR5 hB1 hR0 hR1 hR2 hR3 hR4 hB0
  go_wp2_with (first
    | (refine at_op (.build 47 #[]) rfl ?_; refine wpList_build 47 [] rfl rfl (.agg #[.int .u16 0, .int .u16 0, .int .u32 0, .int .u32 0, .int .u8 0, .int .u16 0, .int .u16 0, .int .u16 0, .slice none 0 0, .slice none 0 0]) ?_ ?_; exact run_buildSeg0 _)
    | (refine at_op (.store 47 (.tmp 2) (.tmp 37)) rfl ?_; refine wpList_stA (t := 47) 47 (.tmp 2) (.tmp 37) rfl rfl [.int .u16 0, .int .u16 0, .int .u32 0, .int .u32 0, .int .u8 0, .int .u16 0, .int .u16 0, .int .u16 0, .slice none 0 0, .slice none 0 0] [.int .u16 0, .int .u16 0, .int .u32 0, .int .u32 0, .int .u8 0, .int .u16 0, .int .u16 0, .int .u16 0, .slice none 0 0, .slice none 0 0] rfl (by simp [Value.oneCell']) rfl rfl hZ6 (szSeg _ rfl) ?_; intro w2 hb2 hg2))
  refine bodyPost_agg2 Try.results157 rfl rfl hb2.range Try.underlying47 rfl (szSeg _ rfl) rfl (RetSeg.zero ?_)
  exact below_grown hB6 hg2 (Nat.le_refl _)

set_option maxHeartbeats 4000000 in
theorem tcpParse_form2 (A : Option Addr) (n c : Nat) (l : List UInt8) (w : World) (hr : Rb w A n c l) (h20 : 20 ≤ n) (hn : n ≤ 1000000) (x0 : Nat) (x1 : Nat) (x2 : Nat) (x3 : Nat) (xf : Nat) (x4 : Nat) (x5 : Nat) (x6 : Nat) (x7 : Nat) (hx0 : num ((l.drop 0).take 2) = x0) (hx1 : num ((l.drop 2).take 2) = x1) (hx2 : num ((l.drop 4).take 4) = x2) (hx3 : num ((l.drop 8).take 4) = x3) (hxf : num ((l.drop 12).take 1) = xf) (hx4 : num ((l.drop 13).take 1) = x4) (hx5 : num ((l.drop 14).take 2) = x5) (hx6 : num ((l.drop 16).take 2) = x6) (hx7 : num ((l.drop 18).take 2) = x7) (hs : 5 ≤ xf / 16) (hm : xf % 16 ≠ 0) :
    Calls Try.prog 157 #[.slice A n c] w (RetSeg w 0 0 0 0 0 0 0 0 [] [] (.int .i64 21)) := by
  have hc := hr.cap
  have h20i : (20 : Int) ≤ (n : Int) := by omega
  have hf : xf < 256 := by rw [← hxf]; exact num_lt' l 12 1 256 (by decide)
  have hand := u8_and15 xf hf
  have Hx0 := Lib.hid hx0
  have Hx1 := Lib.hid hx1
  have Hx2 := Lib.hid hx2
  have Hx3 := Lib.hid hx3
  have Hxf := Lib.hid hxf
  have Hx4 := Lib.hid hx4
  have Hx5 := Lib.hid hx5
  have Hx6 := Lib.hid hx6
  have Hx7 := Lib.hid hx7
  clear hx0 hx1 hx2 hx3 hxf hx4 hx5 hx6 hx7
  have t1 : decide (4 * ((xf : Int) / 16) < 20) = false := by simp; omega
  have t2 : (((xf % 16 : Nat) : Int) != 0) = true := by rw [bne_iff_ne]; omega
  go_enter Try.func157, Try.ntmps157
  go_wp2_with fail
  refine (readK _ _ _ (l.take 20) _ ((hr.take h20).alloc _) (by omega)).mono ?_
  rintro e w1 ⟨r, bs1, d1, rfl, rfl, hr1, hR0⟩
  have HL := Lib.hid (show (l.take 20).length = 20 by rw [List.length_take, hr.1]; omega)
  go_wp2_with fail
  refine (wordK _ _ _ r (l.take 20) 0 x0 hR0 hr1 (by rw [HL.out]; omega) (by rw [HL.out]; omega) (by rw [num_in _ _ _ _ (by omega)]; exact Hx0.out)).mono ?_
  rintro e w1 ⟨bs2, d2, rfl, rfl, hR1, -⟩
  go_wp2_with fail
  refine (wordK _ _ _ r (l.take 20) 2 x1 hR1 hr1 (by rw [HL.out]; omega) (by rw [HL.out]; omega) (by rw [num_in _ _ _ _ (by omega)]; exact Hx1.out)).mono ?_
  rintro e w1 ⟨bs3, d3, rfl, rfl, hR2, -⟩
  go_wp2_with fail
  refine (longK _ _ _ r (l.take 20) 4 x2 hR2 hr1 (by rw [HL.out]; omega) (by rw [HL.out]; omega) (by rw [num_in _ _ _ _ (by omega)]; exact Hx2.out)).mono ?_
  rintro e w1 ⟨bs4, d4, rfl, rfl, hR3, -⟩
  go_wp2_with fail
  refine (longK _ _ _ r (l.take 20) 8 x3 hR3 hr1 (by rw [HL.out]; omega) (by rw [HL.out]; omega) (by rw [num_in _ _ _ _ (by omega)]; exact Hx3.out)).mono ?_
  rintro e w1 ⟨bs5, d5, rfl, rfl, hR4, -⟩
  have hB0 : Below w.heap.size w (plus (w.alloc (.cells #[.int .u16 0, .int .u16 0, .int .u32 0, .int .u32 0, .int .u8 0, .int .u16 0, .int .u16 0, .int .u16 0, .slice none 0 0, .slice none 0 0] 47)) bs5 d5) := belowP ((Below.refl _ _).alloc (Nat.le_refl _) _) _ _
  have hX0 : Bk ((plus (w.alloc (.cells #[.int .u16 0, .int .u16 0, .int .u32 0, .int .u32 0, .int .u8 0, .int .u16 0, .int .u16 0, .int .u16 0, .slice none 0 0, .slice none 0 0] 47)) bs5 d5).alloc (.cells #[.int .u16 (x0 : Nat), .int .u16 (x1 : Nat), .int .u32 (x2 : Nat), .int .u32 (x3 : Nat), .int .u8 0, .int .u16 0, .int .u16 0, .int .u16 0, .slice none 0 0, .slice none 0 0] 47)) (w.heap.size + 1 + bs5.length) 47 [.int .u16 (x0 : Nat), .int .u16 (x1 : Nat), .int .u32 (x2 : Nat), .int .u32 (x3 : Nat), .int .u8 0, .int .u16 0, .int .u16 0, .int .u16 0, .slice none 0 0, .slice none 0 0] := by
    have := Bk.new (plus (w.alloc (.cells #[.int .u16 0, .int .u16 0, .int .u32 0, .int .u32 0, .int .u8 0, .int .u16 0, .int .u16 0, .int .u16 0, .slice none 0 0, .slice none 0 0] 47)) bs5 d5) 47 #[.int .u16 (x0 : Nat), .int .u16 (x1 : Nat), .int .u32 (x2 : Nat), .int .u32 (x3 : Nat), .int .u8 0, .int .u16 0, .int .u16 0, .int .u16 0, .slice none 0 0, .slice none 0 0]
    rw [size_plus, World.size_alloc] at this
    exact this
  have hZ0 : Bk ((plus (w.alloc (.cells #[.int .u16 0, .int .u16 0, .int .u32 0, .int .u32 0, .int .u8 0, .int .u16 0, .int .u16 0, .int .u16 0, .slice none 0 0, .slice none 0 0] 47)) bs5 d5).alloc (.cells #[.int .u16 (x0 : Nat), .int .u16 (x1 : Nat), .int .u32 (x2 : Nat), .int .u32 (x3 : Nat), .int .u8 0, .int .u16 0, .int .u16 0, .int .u16 0, .slice none 0 0, .slice none 0 0] 47)) w.heap.size 47 [.int .u16 0, .int .u16 0, .int .u32 0, .int .u32 0, .int .u8 0, .int .u16 0, .int .u16 0, .int .u16 0, .slice none 0 0, .slice none 0 0] := ((Bk.new w 47 #[.int .u16 0, .int .u16 0, .int .u32 0, .int .u32 0, .int .u8 0, .int .u16 0, .int .u16 0, .int .u16 0, .slice none 0 0, .slice none 0 0]).later (below_plus _ _ _)).alloc _
  have hlt : r < w.heap.size + 1 + bs5.length := by have := hR4.lt; simpa [size_plus] using this
  have hR5 := hR4.later ((Below.refl _ _).alloc (Nat.le_refl _) (.cells #[.int .u16 (x0 : Nat), .int .u16 (x1 : Nat), .int .u32 (x2 : Nat), .int .u32 (x3 : Nat), .int .u8 0, .int .u16 0, .int .u16 0, .int .u16 0, .slice none 0 0, .slice none 0 0] 47))
  have hB1 := hB0.alloc hB0.size (.cells #[.int .u16 (x0 : Nat), .int .u16 (x1 : Nat), .int .u32 (x2 : Nat), .int .u32 (x3 : Nat), .int .u8 0, .int .u16 0, .int .u16 0, .int .u16 0, .slice none 0 0, .slice none 0 0] 47)
  have hr2 : w.heap.size < r := by have := hr1; simp at this; omega
  go_wp2_with fail
  generalize (plus (w.alloc (.cells #[.int .u16 0, .int .u16 0, .int .u32 0, .int .u32 0, .int .u8 0, .int .u16 0, .int .u16 0, .int .u16 0, .slice none 0 0, .slice none 0 0] 47)) bs5 d5).alloc _ = W1 at hX0 hZ0 hR5 hB1 ⊢
  generalize w.heap.size + 1 + bs5.length = g at *
  refine (byteG _ r (l.take 20) 12 xf hR5 (by rw [HL.out]; omega) (by rw [HL.out]; omega) (by rw [num_in _ _ _ _ (by omega)]; exact Hxf.out)).mono ?_
  rintro e w1 ⟨rfl, hR6, hg6⟩
  have hX6 := hX0.grown hg6 (by simp; omega)
  have hZ6 := hZ0.grown hg6 (by simp; omega)
  have hB6 := hB1.trans (below_of_grown hg6 hB1.size (fun k hk => by injection hk with hk; omega))
  clear hg6 hX0 hZ0 hR5 hB1 hR0 hR1 hR2 hR3 hR4 hB0
  go_wp2_with (first
    | (refine at_op (.build 47 #[]) rfl ?_; refine wpList_build 47 [] rfl rfl (.agg #[.int .u16 0, .int .u16 0, .int .u32 0, .int .u32 0, .int .u8 0, .int .u16 0, .int .u16 0, .int .u16 0, .slice none 0 0, .slice none 0 0]) ?_ ?_; exact run_buildSeg0 _)
    | (refine at_op (.store 47 (.tmp 2) (.tmp 37)) rfl ?_; refine wpList_stA (t := 47) 47 (.tmp 2) (.tmp 37) rfl rfl [.int .u16 0, .int .u16 0, .int .u32 0, .int .u32 0, .int .u8 0, .int .u16 0, .int .u16 0, .int .u16 0, .slice none 0 0, .slice none 0 0] [.int .u16 0, .int .u16 0, .int .u32 0, .int .u32 0, .int .u8 0, .int .u16 0, .int .u16 0, .int .u16 0, .slice none 0 0, .slice none 0 0] rfl (by simp [Value.oneCell']) rfl rfl hZ6 (szSeg _ rfl) ?_; intro w2 hb2 hg2))
  refine bodyPost_agg2 Try.results157 rfl rfl hb2.range Try.underlying47 rfl (szSeg _ rfl) rfl (RetSeg.zero ?_)
  exact below_grown hB6 hg2 (Nat.le_refl _)

set_option maxHeartbeats 4000000 in
theorem tcpParse_short2 (A : Option Addr) (n c : Nat) (l : List UInt8) (w : World) (hr : Rb w A n c l) (h20 : 20 ≤ n) (hn : n ≤ 1000000) (x0 : Nat) (x1 : Nat) (x2 : Nat) (x3 : Nat) (xf : Nat) (x4 : Nat) (x5 : Nat) (x6 : Nat) (x7 : Nat) (hx0 : num ((l.drop 0).take 2) = x0) (hx1 : num ((l.drop 2).take 2) = x1) (hx2 : num ((l.drop 4).take 4) = x2) (hx3 : num ((l.drop 8).take 4) = x3) (hxf : num ((l.drop 12).take 1) = xf) (hx4 : num ((l.drop 13).take 1) = x4) (hx5 : num ((l.drop 14).take 2) = x5) (hx6 : num ((l.drop 16).take 2) = x6) (hx7 : num ((l.drop 18).take 2) = x7) (hs : 5 ≤ xf / 16) (hm : xf % 16 = 0) (hz : n < 4 * (xf / 16)) :
    Calls Try.prog 157 #[.slice A n c] w (RetSeg w 0 0 0 0 0 0 0 0 [] [] (.int .i64 20)) := by
  have hc := hr.cap
  have h20i : (20 : Int) ≤ (n : Int) := by omega
  have hf : xf < 256 := by rw [← hxf]; exact num_lt' l 12 1 256 (by decide)
  have hand := u8_and15 xf hf
  have Hx0 := Lib.hid hx0
  have Hx1 := Lib.hid hx1
  have Hx2 := Lib.hid hx2
  have Hx3 := Lib.hid hx3
  have Hxf := Lib.hid hxf
  have Hx4 := Lib.hid hx4
  have Hx5 := Lib.hid hx5
  have Hx6 := Lib.hid hx6
  have Hx7 := Lib.hid hx7
  clear hx0 hx1 hx2 hx3 hxf hx4 hx5 hx6 hx7
  rw [hm] at hand
  clear hm
  have t1 : decide (4 * ((xf : Int) / 16) < 20) = false := by simp; omega
  have t2 : decide ((n : Int) < 4 * ((xf : Int) / 16)) = true := by simp; omega
  go_enter Try.func157, Try.ntmps157
  go_wp2_with fail
  refine (readK _ _ _ (l.take 20) _ ((hr.take h20).alloc _) (by omega)).mono ?_
  rintro e w1 ⟨r, bs1, d1, rfl, rfl, hr1, hR0⟩
  have HL := Lib.hid (show (l.take 20).length = 20 by rw [List.length_take, hr.1]; omega)
  go_wp2_with fail
  refine (wordK _ _ _ r (l.take 20) 0 x0 hR0 hr1 (by rw [HL.out]; omega) (by rw [HL.out]; omega) (by rw [num_in _ _ _ _ (by omega)]; exact Hx0.out)).mono ?_
  rintro e w1 ⟨bs2, d2, rfl, rfl, hR1, -⟩
  go_wp2_with fail
  refine (wordK _ _ _ r (l.take 20) 2 x1 hR1 hr1 (by rw [HL.out]; omega) (by rw [HL.out]; omega) (by rw [num_in _ _ _ _ (by omega)]; exact Hx1.out)).mono ?_
  rintro e w1 ⟨bs3, d3, rfl, rfl, hR2, -⟩
  go_wp2_with fail
  refine (longK _ _ _ r (l.take 20) 4 x2 hR2 hr1 (by rw [HL.out]; omega) (by rw [HL.out]; omega) (by rw [num_in _ _ _ _ (by omega)]; exact Hx2.out)).mono ?_
  rintro e w1 ⟨bs4, d4, rfl, rfl, hR3, -⟩
  go_wp2_with fail
  refine (longK _ _ _ r (l.take 20) 8 x3 hR3 hr1 (by rw [HL.out]; omega) (by rw [HL.out]; omega) (by rw [num_in _ _ _ _ (by omega)]; exact Hx3.out)).mono ?_
  rintro e w1 ⟨bs5, d5, rfl, rfl, hR4, -⟩
  have hB0 : Below w.heap.size w (plus (w.alloc (.cells #[.int .u16 0, .int .u16 0, .int .u32 0, .int .u32 0, .int .u8 0, .int .u16 0, .int .u16 0, .int .u16 0, .slice none 0 0, .slice none 0 0] 47)) bs5 d5) := belowP ((Below.refl _ _).alloc (Nat.le_refl _) _) _ _
  have hX0 : Bk ((plus (w.alloc (.cells #[.int .u16 0, .int .u16 0, .int .u32 0, .int .u32 0, .int .u8 0, .int .u16 0, .int .u16 0, .int .u16 0, .slice none 0 0, .slice none 0 0] 47)) bs5 d5).alloc (.cells #[.int .u16 (x0 : Nat), .int .u16 (x1 : Nat), .int .u32 (x2 : Nat), .int .u32 (x3 : Nat), .int .u8 0, .int .u16 0, .int .u16 0, .int .u16 0, .slice none 0 0, .slice none 0 0] 47)) (w.heap.size + 1 + bs5.length) 47 [.int .u16 (x0 : Nat), .int .u16 (x1 : Nat), .int .u32 (x2 : Nat), .int .u32 (x3 : Nat), .int .u8 0, .int .u16 0, .int .u16 0, .int .u16 0, .slice none 0 0, .slice none 0 0] := by
    have := Bk.new (plus (w.alloc (.cells #[.int .u16 0, .int .u16 0, .int .u32 0, .int .u32 0, .int .u8 0, .int .u16 0, .int .u16 0, .int .u16 0, .slice none 0 0, .slice none 0 0] 47)) bs5 d5) 47 #[.int .u16 (x0 : Nat), .int .u16 (x1 : Nat), .int .u32 (x2 : Nat), .int .u32 (x3 : Nat), .int .u8 0, .int .u16 0, .int .u16 0, .int .u16 0, .slice none 0 0, .slice none 0 0]
    rw [size_plus, World.size_alloc] at this
    exact this
  have hZ0 : Bk ((plus (w.alloc (.cells #[.int .u16 0, .int .u16 0, .int .u32 0, .int .u32 0, .int .u8 0, .int .u16 0, .int .u16 0, .int .u16 0, .slice none 0 0, .slice none 0 0] 47)) bs5 d5).alloc (.cells #[.int .u16 (x0 : Nat), .int .u16 (x1 : Nat), .int .u32 (x2 : Nat), .int .u32 (x3 : Nat), .int .u8 0, .int .u16 0, .int .u16 0, .int .u16 0, .slice none 0 0, .slice none 0 0] 47)) w.heap.size 47 [.int .u16 0, .int .u16 0, .int .u32 0, .int .u32 0, .int .u8 0, .int .u16 0, .int .u16 0, .int .u16 0, .slice none 0 0, .slice none 0 0] := ((Bk.new w 47 #[.int .u16 0, .int .u16 0, .int .u32 0, .int .u32 0, .int .u8 0, .int .u16 0, .int .u16 0, .int .u16 0, .slice none 0 0, .slice none 0 0]).later (below_plus _ _ _)).alloc _
  have hlt : r < w.heap.size + 1 + bs5.length := by have := hR4.lt; simpa [size_plus] using this
  have hR5 := hR4.later ((Below.refl _ _).alloc (Nat.le_refl _) (.cells #[.int .u16 (x0 : Nat), .int .u16 (x1 : Nat), .int .u32 (x2 : Nat), .int .u32 (x3 : Nat), .int .u8 0, .int .u16 0, .int .u16 0, .int .u16 0, .slice none 0 0, .slice none 0 0] 47))
  have hB1 := hB0.alloc hB0.size (.cells #[.int .u16 (x0 : Nat), .int .u16 (x1 : Nat), .int .u32 (x2 : Nat), .int .u32 (x3 : Nat), .int .u8 0, .int .u16 0, .int .u16 0, .int .u16 0, .slice none 0 0, .slice none 0 0] 47)
  have hr2 : w.heap.size < r := by have := hr1; simp at this; omega
  go_wp2_with fail
  generalize (plus (w.alloc (.cells #[.int .u16 0, .int .u16 0, .int .u32 0, .int .u32 0, .int .u8 0, .int .u16 0, .int .u16 0, .int .u16 0, .slice none 0 0, .slice none 0 0] 47)) bs5 d5).alloc _ = W1 at hX0 hZ0 hR5 hB1 ⊢
  generalize w.heap.size + 1 + bs5.length = g at *
  refine (byteG _ r (l.take 20) 12 xf hR5 (by rw [HL.out]; omega) (by rw [HL.out]; omega) (by rw [num_in _ _ _ _ (by omega)]; exact Hxf.out)).mono ?_
  rintro e w1 ⟨rfl, hR6, hg6⟩
  have hX6 := hX0.grown hg6 (by simp; omega)
  have hZ6 := hZ0.grown hg6 (by simp; omega)
  have hB6 := hB1.trans (below_of_grown hg6 hB1.size (fun k hk => by injection hk with hk; omega))
  clear hg6 hX0 hZ0 hR5 hB1 hR0 hR1 hR2 hR3 hR4 hB0
  go_wp2_with (first
    | (refine at_op (.build 47 #[]) rfl ?_; refine wpList_build 47 [] rfl rfl (.agg #[.int .u16 0, .int .u16 0, .int .u32 0, .int .u32 0, .int .u8 0, .int .u16 0, .int .u16 0, .int .u16 0, .slice none 0 0, .slice none 0 0]) ?_ ?_; exact run_buildSeg0 _)
    | (refine at_op (.store 47 (.tmp 2) (.tmp 42)) rfl ?_; refine wpList_stA (t := 47) 47 (.tmp 2) (.tmp 42) rfl rfl [.int .u16 0, .int .u16 0, .int .u32 0, .int .u32 0, .int .u8 0, .int .u16 0, .int .u16 0, .int .u16 0, .slice none 0 0, .slice none 0 0] [.int .u16 0, .int .u16 0, .int .u32 0, .int .u32 0, .int .u8 0, .int .u16 0, .int .u16 0, .int .u16 0, .slice none 0 0, .slice none 0 0] rfl (by simp [Value.oneCell']) rfl rfl hZ6 (szSeg _ rfl) ?_; intro w2 hb2 hg2))
  refine bodyPost_agg2 Try.results157 rfl rfl hb2.range Try.underlying47 rfl (szSeg _ rfl) rfl (RetSeg.zero ?_)
  exact below_grown hB6 hg2 (Nat.le_refl _)

set_option maxHeartbeats 4000000 in
theorem tcpParse_okF (A : Option Addr) (n c : Nat) (l : List UInt8) (w : World) (hr : Rb w A n c l) (h20 : 20 ≤ n) (hn : n ≤ 1000000) (x0 : Nat) (x1 : Nat) (x2 : Nat) (x3 : Nat) (xf : Nat) (x4 : Nat) (x5 : Nat) (x6 : Nat) (x7 : Nat) (hx0 : num ((l.drop 0).take 2) = x0) (hx1 : num ((l.drop 2).take 2) = x1) (hx2 : num ((l.drop 4).take 4) = x2) (hx3 : num ((l.drop 8).take 4) = x3) (hxf : num ((l.drop 12).take 1) = xf) (hx4 : num ((l.drop 13).take 1) = x4) (hx5 : num ((l.drop 14).take 2) = x5) (hx6 : num ((l.drop 16).take 2) = x6) (hx7 : num ((l.drop 18).take 2) = x7) (hs : 5 ≤ xf / 16) (hm : xf % 16 = 0) (sz : Nat) (hsz : sz = 4 * (xf / 16)) (hz : sz ≤ n) :
    Calls Try.prog 157 #[.slice A n c] w (RetSegF w x0 x1 x2 x3 x4 x5 x6 x7 ((l.drop 20).take (sz - 20)) (l.drop sz) (.int .i64 0)) := by
  have hc := hr.cap
  have h20i : (20 : Int) ≤ (n : Int) := by omega
  have hf : xf < 256 := by rw [← hxf]; exact num_lt' l 12 1 256 (by decide)
  have hand := u8_and15 xf hf
  have Hx0 := Lib.hid hx0
  have Hx1 := Lib.hid hx1
  have Hx2 := Lib.hid hx2
  have Hx3 := Lib.hid hx3
  have Hxf := Lib.hid hxf
  have Hx4 := Lib.hid hx4
  have Hx5 := Lib.hid hx5
  have Hx6 := Lib.hid hx6
  have Hx7 := Lib.hid hx7
  clear hx0 hx1 hx2 hx3 hxf hx4 hx5 hx6 hx7
  rw [hm] at hand
  clear hm
  have esz : 4 * ((xf : Int) / 16) = (sz : Int) := by omega
  have hs2 : 20 ≤ sz := by omega
  have HSZ := Lib.hid hsz
  clear hsz
  have t1 : decide ((sz : Int) < 20) = false := by simp; omega
  go_enter Try.func157, Try.ntmps157
  go_wp2_with fail
  refine (readK _ _ _ (l.take 20) _ ((hr.take h20).alloc _) (by omega)).mono ?_
  rintro e w1 ⟨r, bs1, d1, rfl, rfl, hr1, hR0⟩
  have HL := Lib.hid (show (l.take 20).length = 20 by rw [List.length_take, hr.1]; omega)
  go_wp2_with fail
  refine (wordK _ _ _ r (l.take 20) 0 x0 hR0 hr1 (by rw [HL.out]; omega) (by rw [HL.out]; omega) (by rw [num_in _ _ _ _ (by omega)]; exact Hx0.out)).mono ?_
  rintro e w1 ⟨bs2, d2, rfl, rfl, hR1, -⟩
  go_wp2_with fail
  refine (wordK _ _ _ r (l.take 20) 2 x1 hR1 hr1 (by rw [HL.out]; omega) (by rw [HL.out]; omega) (by rw [num_in _ _ _ _ (by omega)]; exact Hx1.out)).mono ?_
  rintro e w1 ⟨bs3, d3, rfl, rfl, hR2, -⟩
  go_wp2_with fail
  refine (longK _ _ _ r (l.take 20) 4 x2 hR2 hr1 (by rw [HL.out]; omega) (by rw [HL.out]; omega) (by rw [num_in _ _ _ _ (by omega)]; exact Hx2.out)).mono ?_
  rintro e w1 ⟨bs4, d4, rfl, rfl, hR3, -⟩
  go_wp2_with fail
  refine (longK _ _ _ r (l.take 20) 8 x3 hR3 hr1 (by rw [HL.out]; omega) (by rw [HL.out]; omega) (by rw [num_in _ _ _ _ (by omega)]; exact Hx3.out)).mono ?_
  rintro e w1 ⟨bs5, d5, rfl, rfl, hR4, -⟩
  have hB0 : Below w.heap.size w (plus (w.alloc (.cells #[.int .u16 0, .int .u16 0, .int .u32 0, .int .u32 0, .int .u8 0, .int .u16 0, .int .u16 0, .int .u16 0, .slice none 0 0, .slice none 0 0] 47)) bs5 d5) := belowP ((Below.refl _ _).alloc (Nat.le_refl _) _) _ _
  have hX0 : Bk ((plus (w.alloc (.cells #[.int .u16 0, .int .u16 0, .int .u32 0, .int .u32 0, .int .u8 0, .int .u16 0, .int .u16 0, .int .u16 0, .slice none 0 0, .slice none 0 0] 47)) bs5 d5).alloc (.cells #[.int .u16 (x0 : Nat), .int .u16 (x1 : Nat), .int .u32 (x2 : Nat), .int .u32 (x3 : Nat), .int .u8 0, .int .u16 0, .int .u16 0, .int .u16 0, .slice none 0 0, .slice none 0 0] 47)) (w.heap.size + 1 + bs5.length) 47 [.int .u16 (x0 : Nat), .int .u16 (x1 : Nat), .int .u32 (x2 : Nat), .int .u32 (x3 : Nat), .int .u8 0, .int .u16 0, .int .u16 0, .int .u16 0, .slice none 0 0, .slice none 0 0] := by
    have := Bk.new (plus (w.alloc (.cells #[.int .u16 0, .int .u16 0, .int .u32 0, .int .u32 0, .int .u8 0, .int .u16 0, .int .u16 0, .int .u16 0, .slice none 0 0, .slice none 0 0] 47)) bs5 d5) 47 #[.int .u16 (x0 : Nat), .int .u16 (x1 : Nat), .int .u32 (x2 : Nat), .int .u32 (x3 : Nat), .int .u8 0, .int .u16 0, .int .u16 0, .int .u16 0, .slice none 0 0, .slice none 0 0]
    rw [size_plus, World.size_alloc] at this
    exact this
  have hZ0 : Bk ((plus (w.alloc (.cells #[.int .u16 0, .int .u16 0, .int .u32 0, .int .u32 0, .int .u8 0, .int .u16 0, .int .u16 0, .int .u16 0, .slice none 0 0, .slice none 0 0] 47)) bs5 d5).alloc (.cells #[.int .u16 (x0 : Nat), .int .u16 (x1 : Nat), .int .u32 (x2 : Nat), .int .u32 (x3 : Nat), .int .u8 0, .int .u16 0, .int .u16 0, .int .u16 0, .slice none 0 0, .slice none 0 0] 47)) w.heap.size 47 [.int .u16 0, .int .u16 0, .int .u32 0, .int .u32 0, .int .u8 0, .int .u16 0, .int .u16 0, .int .u16 0, .slice none 0 0, .slice none 0 0] := ((Bk.new w 47 #[.int .u16 0, .int .u16 0, .int .u32 0, .int .u32 0, .int .u8 0, .int .u16 0, .int .u16 0, .int .u16 0, .slice none 0 0, .slice none 0 0]).later (below_plus _ _ _)).alloc _
  have hlt : r < w.heap.size + 1 + bs5.length := by have := hR4.lt; simpa [size_plus] using this
  have hR5 := hR4.later ((Below.refl _ _).alloc (Nat.le_refl _) (.cells #[.int .u16 (x0 : Nat), .int .u16 (x1 : Nat), .int .u32 (x2 : Nat), .int .u32 (x3 : Nat), .int .u8 0, .int .u16 0, .int .u16 0, .int .u16 0, .slice none 0 0, .slice none 0 0] 47))
  have hB1 := hB0.alloc hB0.size (.cells #[.int .u16 (x0 : Nat), .int .u16 (x1 : Nat), .int .u32 (x2 : Nat), .int .u32 (x3 : Nat), .int .u8 0, .int .u16 0, .int .u16 0, .int .u16 0, .slice none 0 0, .slice none 0 0] 47)
  have hr2 : w.heap.size < r := by have := hr1; simp at this; omega
  go_wp2_with fail
  generalize (plus (w.alloc (.cells #[.int .u16 0, .int .u16 0, .int .u32 0, .int .u32 0, .int .u8 0, .int .u16 0, .int .u16 0, .int .u16 0, .slice none 0 0, .slice none 0 0] 47)) bs5 d5).alloc _ = W1 at hX0 hZ0 hR5 hB1 ⊢
  generalize w.heap.size + 1 + bs5.length = g at *
  refine (byteG _ r (l.take 20) 12 xf hR5 (by rw [HL.out]; omega) (by rw [HL.out]; omega) (by rw [num_in _ _ _ _ (by omega)]; exact Hxf.out)).mono ?_
  rintro e w1 ⟨rfl, hR6, hg6⟩
  have hX6 := hX0.grown hg6 (by simp; omega)
  have hZ6 := hZ0.grown hg6 (by simp; omega)
  have hB6 := hB1.trans (below_of_grown hg6 hB1.size (fun k hk => by injection hk with hk; omega))
  clear hg6 hX0 hZ0 hR5 hB1 hR0 hR1 hR2 hR3 hR4 hB0
  go_wp2_with fail
  refine (byteG _ r (l.take 20) 13 x4 hR6 (by rw [HL.out]; omega) (by rw [HL.out]; omega) (by rw [num_in _ _ _ _ (by omega)]; exact Hx4.out)).mono ?_
  clear hR6
  rintro e v0 ⟨rfl, hR6, hg6⟩
  replace hX6 := hX6.grown hg6 (by simp; omega)
  replace hZ6 := hZ6.grown hg6 (by simp; omega)
  replace hB6 := hB6.trans (below_of_grown hg6 hB6.size (fun k hk => by injection hk with hk; omega))
  clear hg6
  have q : v0.cell? ⟨g, 4, none⟩ = some (.int .u8 0) := hX6.cell 4
  have f := hX6.frozen 4
  go_wp2_with fail
  clear q f
  replace hX6 := hX6.set_ 4 (.int .u8 (x4 : Nat))
  simp only [List.set_cons_zero, List.set_cons_succ] at hX6
  replace hR6 := hR6.far (p := ⟨g, 4, none⟩) hlt (.int .u8 (x4 : Nat))
  replace hZ6 := hZ6.far (p := ⟨g, 4, none⟩) (by simp; omega) (.int .u8 (x4 : Nat))
  replace hB6 := hB6.setCell (p := ⟨g, 4, none⟩) (by simp; omega) (.int .u8 (x4 : Nat))
  generalize v0.setCell ⟨g, 4, none⟩ (.int .u8 (x4 : Nat)) = W0 at hX6 hR6 hZ6 hB6 ⊢
  go_wp2_with fail
  refine (wordG _ r (l.take 20) 14 x5 hR6 (by rw [HL.out]; omega) (by rw [HL.out]; omega) (by rw [num_in _ _ _ _ (by omega)]; exact Hx5.out)).mono ?_
  clear hR6
  rintro e v1 ⟨rfl, hR6, hg6⟩
  replace hX6 := hX6.grown hg6 (by simp; omega)
  replace hZ6 := hZ6.grown hg6 (by simp; omega)
  replace hB6 := hB6.trans (below_of_grown hg6 hB6.size (fun k hk => by injection hk with hk; omega))
  clear hg6
  have q : v1.cell? ⟨g, 5, none⟩ = some (.int .u16 0) := hX6.cell 5
  have f := hX6.frozen 5
  go_wp2_with fail
  clear q f
  replace hX6 := hX6.set_ 5 (.int .u16 (x5 : Nat))
  simp only [List.set_cons_zero, List.set_cons_succ] at hX6
  replace hR6 := hR6.far (p := ⟨g, 5, none⟩) hlt (.int .u16 (x5 : Nat))
  replace hZ6 := hZ6.far (p := ⟨g, 5, none⟩) (by simp; omega) (.int .u16 (x5 : Nat))
  replace hB6 := hB6.setCell (p := ⟨g, 5, none⟩) (by simp; omega) (.int .u16 (x5 : Nat))
  generalize v1.setCell ⟨g, 5, none⟩ (.int .u16 (x5 : Nat)) = W1 at hX6 hR6 hZ6 hB6 ⊢
  go_wp2_with fail
  refine (wordG _ r (l.take 20) 16 x6 hR6 (by rw [HL.out]; omega) (by rw [HL.out]; omega) (by rw [num_in _ _ _ _ (by omega)]; exact Hx6.out)).mono ?_
  clear hR6
  rintro e v2 ⟨rfl, hR6, hg6⟩
  replace hX6 := hX6.grown hg6 (by simp; omega)
  replace hZ6 := hZ6.grown hg6 (by simp; omega)
  replace hB6 := hB6.trans (below_of_grown hg6 hB6.size (fun k hk => by injection hk with hk; omega))
  clear hg6
  have q : v2.cell? ⟨g, 6, none⟩ = some (.int .u16 0) := hX6.cell 6
  have f := hX6.frozen 6
  go_wp2_with fail
  clear q f
  replace hX6 := hX6.set_ 6 (.int .u16 (x6 : Nat))
  simp only [List.set_cons_zero, List.set_cons_succ] at hX6
  replace hR6 := hR6.far (p := ⟨g, 6, none⟩) hlt (.int .u16 (x6 : Nat))
  replace hZ6 := hZ6.far (p := ⟨g, 6, none⟩) (by simp; omega) (.int .u16 (x6 : Nat))
  replace hB6 := hB6.setCell (p := ⟨g, 6, none⟩) (by simp; omega) (.int .u16 (x6 : Nat))
  generalize v2.setCell ⟨g, 6, none⟩ (.int .u16 (x6 : Nat)) = W2 at hX6 hR6 hZ6 hB6 ⊢
  go_wp2_with fail
  refine (wordG _ r (l.take 20) 18 x7 hR6 (by rw [HL.out]; omega) (by rw [HL.out]; omega) (by rw [num_in _ _ _ _ (by omega)]; exact Hx7.out)).mono ?_
  clear hR6
  rintro e v3 ⟨rfl, hR6, hg6⟩
  replace hX6 := hX6.grown hg6 (by simp; omega)
  replace hZ6 := hZ6.grown hg6 (by simp; omega)
  replace hB6 := hB6.trans (below_of_grown hg6 hB6.size (fun k hk => by injection hk with hk; omega))
  clear hg6
  have q : v3.cell? ⟨g, 7, none⟩ = some (.int .u16 0) := hX6.cell 7
  have f := hX6.frozen 7
  go_wp2_with fail
  clear q f
  replace hX6 := hX6.set_ 7 (.int .u16 (x7 : Nat))
  simp only [List.set_cons_zero, List.set_cons_succ] at hX6
  replace hR6 := hR6.far (p := ⟨g, 7, none⟩) hlt (.int .u16 (x7 : Nat))
  replace hZ6 := hZ6.far (p := ⟨g, 7, none⟩) (by simp; omega) (.int .u16 (x7 : Nat))
  replace hB6 := hB6.setCell (p := ⟨g, 7, none⟩) (by simp; omega) (.int .u16 (x7 : Nat))
  generalize v3.setCell ⟨g, 7, none⟩ (.int .u16 (x7 : Nat)) = W3 at hX6 hR6 hZ6 hB6 ⊢
  refine (clone_any _ _ _ ((l.drop 20).take (sz - 20)) _ (((hr.cut (k := 20) (by omega)).take (k := sz - 20) (by omega)).later hB6) (by omega)).mono ?_
  rintro e wc ⟨A1, n1, c1, bsA1, dA1, rfl, rfl, ho0⟩
  have q : W3.cell? ⟨g, 8, none⟩ = some (.slice none 0 0) := hX6.cell 8
  have f := hX6.frozen 8
  have hgl0 := hX6.lt
  go_wp2_with fail
  clear q f
  replace ho0 := ho0.swap (W' := W3.setCell ⟨g, 8, none⟩ (.slice A1 n1 c1)) (d' := dA1) (Nat.le_refl _) (by simp)
  obtain ⟨B0, hB0⟩ : ∃ B0, B0 = W3.heap.size := ⟨_, rfl⟩
  rw [← hB0] at ho0 hgl0
  have hwB : w.heap.size < B0 := by omega
  clear hB0
  replace hX6 := (hX6.set_ 8 (.slice A1 n1 c1)).later (below_plus _ bsA1 dA1)
  simp only [List.set_cons_zero, List.set_cons_succ] at hX6
  replace hZ6 := (hZ6.far (p := ⟨g, 8, none⟩) (by simp; omega) (.slice A1 n1 c1)).later (below_plus _ bsA1 dA1)
  replace hB6 := belowP (hB6.setCell (p := ⟨g, 8, none⟩) (by simp; omega) (.slice A1 n1 c1)) bsA1 dA1
  clear hR6
  generalize plus (W3.setCell ⟨g, 8, none⟩ (.slice A1 n1 c1)) bsA1 dA1 = W4 at hX6 hZ6 hB6 ho0 ⊢
  refine (clone_any _ _ _ (l.drop sz) _ ((hr.cut (k := sz) (by omega)).later hB6) (by omega)).mono ?_
  rintro e wc ⟨A2, n2, c2, bsA2, dA2, rfl, rfl, ho1⟩
  have q : W4.cell? ⟨g, 9, none⟩ = some (.slice none 0 0) := hX6.cell 9
  have f := hX6.frozen 9
  have hgl1 := hX6.lt
  go_upto_region 17 with fail
  clear q f
  replace ho1 := (ho1.swap (W' := W4.setCell ⟨g, 9, none⟩ (.slice A2 n2 c2)) (d' := dA2) (Nat.le_refl _) (by simp)).mono (show w.heap.size + 1 ≤ W4.heap.size by omega)
  replace ho0 := (ho0.setCell (p := ⟨g, 9, none⟩) hgl0 (.slice A2 n2 c2)).plus_ bsA2 dA2
  replace hX6 := (hX6.set_ 9 (.slice A2 n2 c2)).later (below_plus _ bsA2 dA2)
  simp only [List.set_cons_zero, List.set_cons_succ] at hX6
  replace hZ6 := (hZ6.far (p := ⟨g, 9, none⟩) (by simp; omega) (.slice A2 n2 c2)).later (below_plus _ bsA2 dA2)
  replace hB6 := belowP (hB6.setCell (p := ⟨g, 9, none⟩) (by simp; omega) (.slice A2 n2 c2)) bsA2 dA2
  generalize plus (W4.setCell ⟨g, 9, none⟩ (.slice A2 n2 c2)) bsA2 dA2 = W5 at hX6 hZ6 hB6 ho0 ho1 ⊢
  go_wp2_with (first
    | (refine at_op (.load 47 (.tmp 5)) rfl ?_; refine wpList_ldA (t := 47) 47 (.tmp 5) rfl rfl [.int .u16 (x0 : Nat), .int .u16 (x1 : Nat), .int .u32 (x2 : Nat), .int .u32 (x3 : Nat), .int .u8 (x4 : Nat), .int .u16 (x5 : Nat), .int .u16 (x6 : Nat), .int .u16 (x7 : Nat), .slice A1 n1 c1, .slice A2 n2 c2] rfl hX6 rfl Try.underlying47 rfl (szSeg _ rfl) ?_)
    | (refine at_op (.store 47 (.tmp 2) (.tmp 65)) rfl ?_; refine wpList_stA (t := 47) 47 (.tmp 2) (.tmp 65) rfl rfl [.int .u16 (x0 : Nat), .int .u16 (x1 : Nat), .int .u32 (x2 : Nat), .int .u32 (x3 : Nat), .int .u8 (x4 : Nat), .int .u16 (x5 : Nat), .int .u16 (x6 : Nat), .int .u16 (x7 : Nat), .slice A1 n1 c1, .slice A2 n2 c2] [.int .u16 0, .int .u16 0, .int .u32 0, .int .u32 0, .int .u8 0, .int .u16 0, .int .u16 0, .int .u16 0, .slice none 0 0, .slice none 0 0] rfl (by simp [Value.oneCell']) rfl rfl hZ6 (szSeg _ rfl) ?_; intro w2 hb2 hg2))
  refine bodyPost_agg2 Try.results157 rfl rfl hb2.range Try.underlying47 rfl (szSeg _ rfl) rfl (RetSegF.mk (ho0.grown hg2 (fun k hk => by have := (ho0.blk k hk).1; simp; omega)) (ho1.grown hg2 (fun k hk => by have := (ho1.blk k hk).1; simp; omega)) (below_grown hB6 hg2 (Nat.le_refl _)) (by omega) (by omega))
end Go.Proofs.Ytfmkndemkpecpaa

