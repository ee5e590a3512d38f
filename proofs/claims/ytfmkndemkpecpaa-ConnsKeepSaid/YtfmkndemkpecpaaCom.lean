/- What many texts need: numbers of bytes, rows that are appended, addresses, stores into the middle of a block. -/
import Derived.Test.YtfmkndemkpecpaaAddr
import Derived.Test.YtfmkndemkpecpaaOwn
namespace Go.Proofs.Ytfmkndemkpecpaa
open Go.RowKit
set_option linter.unusedVariables false
set_option linter.unusedSimpArgs false
attribute [local go_sem ↓] sliced_cut
attribute [local go_sem] cutA_zero

theorem numDig (n : Nat) : ∀ m, n < 256 ^ m → num (dig n m) = n := by
  intro m
  induction m generalizing n with
  | zero => intro h; simp at h; subst h; rfl
  | succ m ih =>
    intro h
    rw [dig, num_snoc, ih (n / 256) (by rw [Nat.div_lt_iff_lt_mul (by decide)]; rw [Nat.pow_succ] at h; exact h)]
    simp
    omega
theorem digNum : ∀ (m : Nat) (l : List UInt8), l.length = m → dig (num l) m = l := by
  intro m
  induction m with
  | zero => intro l h; rw [List.eq_nil_of_length_eq_zero h]; rfl
  | succ m ih =>
    intro l h
    rcases List.eq_nil_or_concat l with rfl | ⟨l', b, rfl⟩
    · simp at h
    · simp only [List.concat_eq_append] at *
      have hb := b.toNat_lt
      rw [dig, num_snoc, show (num l' * 256 + b.toNat) / 256 = num l' from by omega, show (num l' * 256 + b.toNat) % 256 = b.toNat from by omega, ih l' (by simpa using h)]
      simp
theorem wanted_ifG {ops : Array Oper} {o : Oper} {tmps : Array Value} {X Y : Prop} (h : Region.wanted o (yielded ops tmps) = true) (hx : X) : if Region.wanted o (yielded ops tmps) = true then X else Y := by
  rw [if_pos h]
  exact hx
theorem bodyPost_agg3 {P : Program} {fn : Func} {R : Ending → World → Prop} {a : Act} {w : World} {slot slot2 slot3 ty g : Nat} {d : TypeDesc} {cs : List Value} {u u' : Value} (hfr : fn.results = #[.cell slot ty, .tmp slot2, .tmp slot3]) (hs : a.tmps.getD slot undef = .pointer (some ⟨g, 0, none⟩)) (hs2 : a.tmps.getD slot2 undef = u) (hs3 : a.tmps.getD slot3 undef = u')
    (hb : w.rangeAt g 0 cs) (hu : P.underlying ty = some d) (hd : d.isRow = true) (hi : (P.info? ty).map (·.size) = some cs.length) (hdf : a.defers = []) (hR : R (.returned (.tuple #[.agg cs.toArray, u, u'])) w) : bodyPost P fn R .ret a w := by
  refine bodyPost_ret (v := .tuple #[.agg cs.toArray, u, u']) ?_ hdf hR
  have h1 := run_loadVar_mid (P := P) w g 0 ty cs d hb hu hd hi
  have hs' : a.tmps[slot]?.getD undef = .pointer (some ⟨g, 0, none⟩) := by simpa using hs
  have hs2' : a.tmps[slot2]?.getD undef = u := by simpa using hs2
  have hs3' : a.tmps[slot3]?.getD undef = u' := by simpa using hs3
  simp [results, hfr, hs', hs2', hs3', asAddr, h1]
theorem Rdr.far_ {w w' : World} {r g : Nat} {l : List UInt8} {bad : Bool} (h : Rdr w r l bad) (hg : w.grownBy w' (some g)) (hr : r < g) : Rdr w' r l bad := by
  have hlt := h.lt
  obtain ⟨A, n, c, h1, h2, h3, h4⟩ := h
  exact ⟨A, n, c, h1.grown hg (by simp; omega), h2, h3, h4.keep fun p hp => World.cell?_of_block (hg.block p.block (by omega) (by simp; omega))⟩
theorem Rb.grownO {w w' : World} {A : Option Addr} {n c g : Nat} {l : List UInt8} (h : Rb w A n c l) (hg : w.grownBy w' (some g)) (hb : ∀ a, A = some a → a.block ≠ g) : Rb w' A n c l := by
  refine ⟨h.1, h.2.1, ?_⟩
  rcases h.2.2 with h' | ⟨b, off, hA, hbl, hc⟩
  · exact .inl h'
  · have hbb := hb _ hA
    refine .inr ⟨b, off, hA, Nat.lt_of_lt_of_le hbl hg.size, fun i u hu => ?_⟩
    exact (World.cell?_of_block (hg.block b hbl (fun e => by injection e with e; exact hbb e))).trans (hc i u hu)

theorem put_int_full (A : Option Addr) (k c : Nat) (l : List UInt8) (n : Int) (size : Nat) (w : World) (hr : Rb w A k c l) (hk : k ≤ 549755813888) (h0 : 0 ≤ n) (hn : n ≤ 18446744073709551615) (hs0 : 1 ≤ size) (hs : size ≤ 8) :
    Calls Try.prog 127 #[.slice A k c, .int .u64 n, .int .i64 size] w (RetF w (l ++ dig n.toNat size)) := by
  obtain ⟨m, rfl⟩ := Int.eq_ofNat_of_zero_le h0
  exact put_full A k c l m size w hr hk (by omega) hs0 hs
theorem dig1 (x : Nat) (h : x < 256) : dig x 1 = [UInt8.ofNat x] := by
  simp [dig, Nat.mod_eq_of_lt h]
theorem whole_ (cs : List Value) : (cs.drop 0).take cs.length = cs := by rw [List.drop_zero]; exact List.take_of_length_le (Nat.le_refl _)
theorem num_mid (p r : List UInt8) (x s k : Nat) (hp : p.length = k) (hx : x < 256 ^ s) : num (((p ++ (dig x s ++ r)).drop k).take s) = x := by
  subst hp
  rw [List.drop_left, List.take_left' (dig_length s x), numDig x s hx]
theorem Kept.size' {F : Nat → Prop} {w w' : World} {o : Obj} (h : Kept F (w.alloc o) w') : w.heap.size ≤ w'.heap.size := by
  have := h.size
  simp at this
  omega
/-- append onto a row of the call's own, whatever the source -/
theorem run_appB {P : Program} (w : World) {ts ty : TypeId} (bt : BT P ts 5) {base : Nat} {A : Option Addr} {n c : Nat} {l : List UInt8} (hown : Ob w base A n c l)
    {A2 : Option Addr} {n2 c2 : Nat} {l2 : List UInt8} (hr : Rb w A2 n2 c2 l2) (hm : n + n2 ≤ 1099511627776) (hbase : base ≤ w.heap.size) :
    ∃ A' n' c' w', (Builtin.append_ #[ts, ts] ty #[.slice A n c, .slice A2 n2 c2]).run P w = .ok (.slice A' n' c') w' ∧ Ob w' base A' n' c' (l ++ l2) ∧ Below base w w' ∧ w.grownBy w' (Value.slice A n c).ownBlock ∧ ((Value.slice A' n' c').ownBlock = (Value.slice A n c).ownBlock ∨ (Value.slice A' n' c').ownBlock = some w.heap.size) := by
  obtain ⟨i, hi, hz0, hz1, hz2⟩ := info_parts bt.info
  have hbel : ∀ {w'}, w.grownBy w' (Value.slice A n c).ownBlock → Below base w w' := fun hg => below_of_grown hg hbase fun k hk => (hown.blk k hk).1
  have fin : ∀ v' w', w'.ownsRow base 5 1 v' (n + n2) (bcs l ++ bcs l2) → ∃ A' n' c', v' = .slice A' n' c' ∧ Ob w' base A' n' c' (l ++ l2) := by
    intro v' w' h
    have hl : (l ++ l2).length = n + n2 := by rw [List.length_append, hown.1, hr.1]
    rw [← bcs_append] at h
    have h2 := h.2
    rcases h2 with ⟨hv, h0⟩ | ⟨g, cap, cur, hv, _⟩
    · refine ⟨none, 0, 0, hv, by omega, ?_⟩
      rw [hv, h0] at h
      exact h
    · refine ⟨_, _, _, hv, hl, ?_⟩
      rw [hv] at h
      exact h
  cases A2 with
  | none =>
    have hn2 : n2 = 0 := by
      rcases hr.2.2 with h | ⟨b, off, h, _⟩
      · have := hr.1; rw [bcs_nil h] at this; simpa using this.symm
      · cases h
    subst hn2
    have hl2 : l2 = [] := List.eq_nil_of_length_eq_zero hr.1
    subst hl2
    refine ⟨A, n, c, w, ?_, by simpa using hown, Below.refl _ _, World.grownBy.refl w _, .inl rfl⟩
    rcases hown.2.2 with ⟨hv, h0⟩ | ⟨g, cap, cur, hv, _, _, hnc, _⟩
    · injection hv with h1 h2 h3
      subst h1 h2 h3
      simp [Builtin.append_, run_underlying bt.sl, sizeOf, typeInfo, hi, Builtin.lenOf, Builtin.firstCells]
    · injection hv with h1 h2 h3
      subst h1 h3
      simp [Builtin.append_, run_underlying bt.sl, sizeOf, typeInfo, hi, Builtin.lenOf, Builtin.firstCells, hnc, storeCells]
  | some ad =>
    have hcells : ∀ j u, (bcs l2)[j]? = some u → w.cell? (ad.add j) = some u := by
      intro j u hu
      rcases hr.2.2 with h | ⟨b, off, h, _, hc⟩
      · rw [h] at hu; simp at hu
      · injection h with h
        subst h
        rw [add_plain]
        exact hc j u hu
    obtain ⟨v', w', hrun, h2, h3, _, h5⟩ := run_append_own_at (P := P) w base ts ty 5 i (.int .u8 0) 1 1 bt.sl hi hz0 hz1 hz2 rfl (by omega) (.slice A n c) n (bcs l) hown.2 ad n2 c2 (bcs l2)
      (by rw [bcs_length, hr.1]; omega) hcells (bcs_one l2) (by simp only [maxLen]; omega) (by omega) hbase
    obtain ⟨A', n', c', rfl, hob⟩ := fin v' w' h2
    exact ⟨A', n', c', w', hrun, hob, hbel h3, h3, h5⟩

/-- append onto own bytes, as one operation -/
theorem own_app {P : Program} {Q : Exit → Act → World → Prop} {w : World} {o : Oper} {a : Act} {K : Act → World → Prop} {ts : TypeId} (bt : BT P ts 5) (s x : Operand)
    (ho : o.op = .call { callee := .builtin .append, args := #[s, x], argTypes := #[ts, ts] }) {base : Nat} {A : Option Addr} {n c : Nat} {l : List UInt8} (hs : a.eval s = .slice A n c) (hown : Ob w base A n c l)
    {A2 : Option Addr} {n2 c2 : Nat} {l2 : List UInt8} (hx : a.eval x = .slice A2 n2 c2) (hr2 : Rb w A2 n2 c2 l2) (hm : n + n2 ≤ 1099511627776) (hbase : base ≤ w.heap.size)
    (h : ∀ A' n' c' w', Ob w' base A' n' c' (l ++ l2) → w.grownBy w' (Value.slice A n c).ownBlock → (∀ b, (Value.slice A' n' c').ownBlock = some b → (Value.slice A n c).ownBlock = some b ∨ w.heap.size ≤ b) → K (a.put o.dst (.slice A' n' c')) w') : o.wp P a w K Q := by
  obtain ⟨A', n', c', w', hrun, h2, h3, h4, h5⟩ := run_appB (P := P) w (ty := o.type) bt hown hr2 hm hbase
  unfold Oper.wp execOp
  simp only [ho, resolve, invoke, builtin, Sem.run_bind, Sem.run_pure, Result.andThen_ok, List.map_toArray, List.map_cons, List.map_nil, hs, hx, hrun]
  refine h A' n' c' w' h2 h4 (fun b hb => ?_)
  rcases h5 with h5 | h5
  · exact .inl (by rw [← h5]; exact hb)
  · rw [h5] at hb
    injection hb with hb
    exact .inr (by omega)
set_option maxHeartbeats 2000000 in
set_option maxRecDepth 100000 in
theorem refAdrBytes (six : Bool) (ah al : Nat) (w : World) (h1 : ah < 18446744073709551616) (h2 : al < 18446744073709551616) : Calls Try.prog 164 #[.agg #[.bool six, .int .u64 ah, .int .u64 al]] w (RetB w (adrB six ah al)) := by
  cases six
  · go_enter Try.func164, Try.ntmps164
    go_wp2_with (go_at_call 129; refine (refBytes_any al 4 _ (by omega) (by omega)).mono ?_; rintro e w1 ⟨A2, n2, c2, bs2, d2, rfl, rfl, ho2⟩)
    go_ret
    exact RetB.mk (by simpa [adrB] using ho2.mono (base' := w.heap.size) (by simp)) (belowP (Below.allocS (Below.refl _ _) _) _ _)
  · have hb0 : Bk (w.alloc (.cells #[.bool true, .int .u64 (ah : Int), .int .u64 (al : Int)] 26)) w.heap.size 26 [.bool true, .int .u64 (ah : Int), .int .u64 (al : Int)] := Bk.new w 26 _
    go_enter Try.func164, Try.ntmps164
    go_wp2
    refine wp_own (fun b => b < (w.alloc (.cells #[.bool true, .int .u64 (ah : Int), .int .u64 (al : Int)] 26)).heap.size) 8 0 16 2 (fun i => match i with | i => i) (fun i => match i with | 6 => [2] | 7 => [6] | _ => []) (fun i => match i with | _ => undef) rfl (by kernel_rfl) (by kernel_rfl) (fun i => match i with | 0 => Own.eq (.pointer (some ⟨w.heap.size, 1, none⟩)) | 1 => Own.eq (.int .u64 (ah : Int)) | 2 => Own.ob w.heap.size (dig ah 8) | 3 => Own.eq (.pointer (some ⟨w.heap.size, 2, none⟩)) | 4 => Own.eq (.int .u64 (al : Int)) | 5 => Own.ob w.heap.size (dig al 8) | 6 => Own.ob w.heap.size (dig ah 8 ++ dig al 8) | 7 => Own.ob w.heap.size (dig ah 8 ++ dig al 8) | _ => Own.any) (fun b h => h) ?_ ?_ ?_ ?_ ?_
    · exact fun t ht => absurd ht (by omega)
    · exact fun t t' ht => absurd ht (by omega)
    · exact fun t ht => absurd ht (by omega)
    · intro i hi o ho FA w' vs H K hK
      match i, hi, ho, H, hK with
      | 0, _, ho, H, hK => 
        obtain rfl := Option.some.inj ho.symm
        clear ho
        have ev1 : FA.eval (.tmp 1) = .pointer (some ⟨w.heap.size, 0, none⟩) := H.out 1 (by kernel_rfl)
        have e1 : FA.tmps[1]?.getD undef = .pointer (some ⟨w.heap.size, 0, none⟩) := by simpa [Act.eval] using ev1
        replace ev1 := Lib.hid ev1
        go_simp
        exact hK.out _ _ (chgX (Ex.refl _)) rfl (fun _ h => h.elim)
      | 1, _, ho, H, hK => 
        obtain rfl := Option.some.inj ho.symm
        clear ho
        have ev9 : FA.eval (.tmp 9) = .pointer (some ⟨w.heap.size, 1, none⟩) := (H.dep 0 9 (by kernel_rfl)).trans (H.word 0 (by omega) (by kernel_rfl))
        have e9 : FA.tmps[9]?.getD undef = .pointer (some ⟨w.heap.size, 1, none⟩) := by simpa [Act.eval] using ev9
        replace ev9 := Lib.hid ev9
        have cc := (hb0.kept H.kept hb0.lt).cell 1
        go_simp
        exact hK.out _ _ (chgX (Ex.refl _)) rfl (fun _ h => h.elim)
      | 2, _, ho, H, hK => 
        obtain rfl := Option.some.inj ho.symm
        clear ho
        have ev10 : FA.eval (.tmp 10) = .int .u64 (ah : Int) := (H.dep 1 10 (by kernel_rfl)).trans (H.word 1 (by omega) (by kernel_rfl))
        have e10 : FA.tmps[10]?.getD undef = .int .u64 (ah : Int) := by simpa [Act.eval] using ev10
        replace ev10 := Lib.hid ev10
        go_simp
        refine (refBytes_any ah 8 _ (by omega) (by omega)).mono ?_
        rintro e w1 ⟨A2, n2, c2, bs2, d2, rfl, rfl, ho2⟩
        exact hK.out _ _ (chgX (Ex.plus_ _ _ _)) ⟨_, _, _, rfl, ho2.mono H.kept.size'⟩ (fun b hb => .inr (ho2.blk b hb).1)
      | 3, _, ho, H, hK => 
        obtain rfl := Option.some.inj ho.symm
        clear ho
        have ev1 : FA.eval (.tmp 1) = .pointer (some ⟨w.heap.size, 0, none⟩) := H.out 1 (by kernel_rfl)
        have e1 : FA.tmps[1]?.getD undef = .pointer (some ⟨w.heap.size, 0, none⟩) := by simpa [Act.eval] using ev1
        replace ev1 := Lib.hid ev1
        go_simp
        exact hK.out _ _ (chgX (Ex.refl _)) rfl (fun _ h => h.elim)
      | 4, _, ho, H, hK => 
        obtain rfl := Option.some.inj ho.symm
        clear ho
        have ev12 : FA.eval (.tmp 12) = .pointer (some ⟨w.heap.size, 2, none⟩) := (H.dep 3 12 (by kernel_rfl)).trans (H.word 3 (by omega) (by kernel_rfl))
        have e12 : FA.tmps[12]?.getD undef = .pointer (some ⟨w.heap.size, 2, none⟩) := by simpa [Act.eval] using ev12
        replace ev12 := Lib.hid ev12
        have cc := (hb0.kept H.kept hb0.lt).cell 2
        go_simp
        exact hK.out _ _ (chgX (Ex.refl _)) rfl (fun _ h => h.elim)
      | 5, _, ho, H, hK => 
        obtain rfl := Option.some.inj ho.symm
        clear ho
        have ev13 : FA.eval (.tmp 13) = .int .u64 (al : Int) := (H.dep 4 13 (by kernel_rfl)).trans (H.word 4 (by omega) (by kernel_rfl))
        have e13 : FA.tmps[13]?.getD undef = .int .u64 (al : Int) := by simpa [Act.eval] using ev13
        replace ev13 := Lib.hid ev13
        go_simp
        refine (refBytes_any al 8 _ (by omega) (by omega)).mono ?_
        rintro e w1 ⟨A2, n2, c2, bs2, d2, rfl, rfl, ho2⟩
        exact hK.out _ _ (chgX (Ex.plus_ _ _ _)) ⟨_, _, _, rfl, ho2.mono H.kept.size'⟩ (fun b hb => .inr (ho2.blk b hb).1)
      | 6, _, ho, H, hK => 
        obtain rfl := Option.some.inj ho.symm
        clear ho
        have ev11 := H.dep 2 11 (by kernel_rfl)
        have e11 : FA.tmps[11]?.getD undef = vs 2 := by simpa [Act.eval] using ev11
        replace ev11 := Lib.hid ev11
        have ev14 := H.dep 5 14 (by kernel_rfl)
        have e14 : FA.tmps[14]?.getD undef = vs 5 := by simpa [Act.eval] using ev14
        replace ev14 := Lib.hid ev14
        obtain ⟨A1, n1, c1, hv1, h1⟩ := H.word 2 (by omega) (by kernel_rfl)
        obtain ⟨A2, n2, c2, hv2, h2⟩ := H.word 5 (by omega) (by kernel_rfl)
        have hn1 : n1 ≤ 100 := by rw [← h1.1]; simp [dig_length]
        have hn2 : n2 ≤ 100 := by rw [← h2.1]; simp [dig_length]
        refine wanted_if rfl ?_
        refine own_app bt (.tmp 11) (.tmp 14) rfl (ev11.out.trans hv1) h1 (ev14.out.trans hv2) h2.rb (by omega) H.kept.size' ?_
        intro A3 n3 c3 w3 ho3 hg3 hf3
        refine hK.out _ _ (Chg.grown hg3 (fun k hk => ⟨2, rfl, by show (vs 2).ownBlock = some k; rw [hv1]; exact hk⟩)) ⟨_, _, _, rfl, ho3⟩ (fun b hb => ?_)
        rcases hf3 b hb with h | h
        · exact .inl ⟨2, rfl, by show (vs 2).ownBlock = some b; rw [hv1]; exact h⟩
        · exact .inr h
      | 7, _, ho, H, hK => 
        obtain rfl := Option.some.inj ho.symm
        clear ho
        have ev15 := H.dep 6 15 (by kernel_rfl)
        have e15 : FA.tmps[15]?.getD undef = vs 6 := by simpa [Act.eval] using ev15
        replace ev15 := Lib.hid ev15
        have hw := H.word 6 (by omega) (by kernel_rfl)
        go_simp
        exact hK.out _ _ (chgX (Ex.refl _)) hw (fun b hb => .inl ⟨6, rfl, hb⟩)
      | (k + 8), hi, _, _, _ => exact absurd hi (by omega)
    intro vs w' hC hV hW hDis hFr
    have p0 : vs 0 = .pointer (some ⟨w.heap.size, 1, none⟩) := hW 0 (by omega) (by kernel_rfl)
    have p1 : vs 1 = .int .u64 (ah : Int) := hW 1 (by omega) (by kernel_rfl)
    have p3 : vs 3 = .pointer (some ⟨w.heap.size, 2, none⟩) := hW 3 (by omega) (by kernel_rfl)
    have p4 : vs 4 = .int .u64 (al : Int) := hW 4 (by omega) (by kernel_rfl)
    have p5 := hW 5 (by omega) (by kernel_rfl)
    have p7 := hW 7 (by omega) (by kernel_rfl)
    clear hW
    simp only [List.take_succ_cons, List.take_zero, List.drop_succ_cons, List.drop_zero, putAll, Nat.zero_add, Nat.reduceAdd, Act.put, List.setIfInBounds_toArray, List.set_cons_zero, List.set_cons_succ, p0, p1, p3, p4]
    obtain ⟨A9, n9, c9, hv9, h9⟩ := p7
    have be := hC.below (Nat.le_refl _) (fun b h => h)
    go_wp2
    go_ret
    exact RetB.mk (by simpa [adrB] using h9) ((Below.allocS (Below.refl _ _) _).trans (be.mono (by simp)))

theorem ofNat_eq (x y : Nat) (h : x % 256 = y % 256) : UInt8.ofNat x = UInt8.ofNat y := by
  apply UInt8.toNat_inj.1
  simp [h]
theorem take_set_succ {α : Type} (l : List α) (o : Nat) (v : α) (h : o < l.length) : (l.set o v).take (o + 1) = l.take o ++ [v] := by
  rw [List.take_succ_eq_append_getElem (by simpa using h), List.take_set_of_le (Nat.le_refl _)]
  simp
theorem Bk.setMid {w : World} {g : Nat} {t : TypeId} : ∀ (new old : List Value) (o : Nat), Bk w g t old → o + new.length ≤ old.length → Bk (w.setCells g o new) g t (splice old o new) := by
  intro new
  induction new generalizing w with
  | nil => intro old o h hl; simp only [World.setCells, over_nil]; exact h
  | cons v r ih =>
    intro old o h hl
    simp only [List.length_cons] at hl
    have := ih (old.set o v) (o + 1) (h.set_ o v) (by simp; omega)
    have e : splice (old.set o v) (o + 1) r = splice old o (v :: r) := by
      unfold splice
      rw [take_set_succ old o v (by omega), List.drop_set_of_lt (by omega)]
      simp [Nat.add_assoc, Nat.add_comm 1]
    rw [e] at this
    exact this
/-- an aggregate stored into the middle of a block -/
theorem wpList_stM {P : Program} {w : World} {ops : Array Oper} {rest : List Oper} {o : Oper} {a : Act} {Q : Exit → Act → World → Prop} (ty : TypeId) (x y : Operand) (ho : o.op = .store ty x y) (hgd : o.guard = none)
    {g off : Nat} {t : TypeId} (new old : List Value) (hl : off + new.length ≤ old.length) (h1 : ∀ u ∈ new, u.oneCell' = true) (hx : a.eval x = .pointer (some ⟨g, off, none⟩)) (hy : a.eval y = .agg new.toArray) (hb : Bk w g t old)
    (hi : (P.info? ty).map (·.size) = some new.length) (h : ∀ w', Bk w' g t (splice old off new) → w.grownBy w' (some g) → wpList P ops Q rest (a.put o.dst undef) w') : wpList P ops Q (o :: rest) a w := by
  refine wpList_store_mid hgd ty x y ho g off new.toArray hx hy (fun j hj => ?_) (by simpa using hi) (all_oneCell_toArray h1) (h _ (Bk.setMid new old off hb hl) ?_)
  · have hj' : off + j < old.length := by simp at hj; omega
    exact ⟨by rw [hb.cell, List.getElem?_eq_getElem hj']; rfl, hb.frozen _⟩
  · generalize off = k
    clear hi h hb hy hl hx
    induction new generalizing w k with
    | nil => exact World.grownBy.refl _ _
    | cons v r ih => exact (grownBy_setCell _ _ _ _).trans (ih (fun u hu => h1 u (List.mem_cons_of_mem _ hu)) _)
theorem adrV6 (a b : Nat) (w : World) : Calls Try.prog 178 #[.int .u64 (a : Int), .int .u64 (b : Int)] w (RetV w (.agg #[.bool true, .int .u64 (a : Int), .int .u64 (b : Int)])) := by
  go_enter Try.func178, Try.ntmps178
  go_wp2
  refine bodyPost_ret (v := .agg #[.bool true, .int .u64 (a : Int), .int .u64 (b : Int)]) (by simp [results, Try.results178, go_sem]) rfl (RetV.mk ?_)
  exact Below.allocS (Below.refl _ _) _
def adC (six : Bool) (a b : Nat) : List Value := [.bool six, .int .u64 (a : Int), .int .u64 (b : Int)]
theorem adC_one (six : Bool) (a b : Nat) : ∀ u ∈ adC six a b, u.oneCell' = true := by
  intro u hu
  simp [adC] at hu
  rcases hu with rfl | rfl | rfl <;> rfl
theorem szAd (six : Bool) (a b : Nat) : (Try.prog.info? 26).map (·.size) = some (adC six a b).length := by kernel_rfl
set_option maxHeartbeats 1000000 in
set_option maxRecDepth 100000 in
theorem adrOf16 (a b : Nat) (A : Option Addr) (c : Nat) (w : World) (ha : a < 18446744073709551616) (hb : b < 18446744073709551616) (h : Rb w A 16 c (dig a 8 ++ dig b 8)) : Calls Try.prog 154 #[.slice A 16 c] w (RetV w (.tuple #[.agg (adC true a b).toArray, .int .i64 0])) := by
  obtain ⟨dk, u1, u2⟩ : ∃ d, Try.prog.underlying 26 = some d ∧ d.isRow = true := ⟨_, Try.underlying26, rfl⟩
  have b2 : Bk (w.alloc (.cells #[.bool false, .int .u64 0, .int .u64 0] 26)) w.heap.size 26 (adC false 0 0) := Bk.new w 26 #[.bool false, .int .u64 0, .int .u64 0]
  have be : Below w.heap.size w (w.alloc (.cells #[.bool false, .int .u64 0, .int .u64 0] 26)) := Below.allocS (Below.refl _ _) _
  have hl : (dig a 8 ++ dig b 8).length = 16 := by simp [dig_length]
  have x0 : num (((dig a 8 ++ dig b 8).drop 0).take 8) = a := by have := num_mid [] (dig b 8) a 8 0 rfl (by omega); simpa using this
  have x1 : num (((dig a 8 ++ dig b 8).drop 8).take 8) = b := by have := num_mid (dig a 8) [] b 8 8 (by simp [dig_length]) (by omega); simpa using this
  have HR := Lib.hid (fun W (h : Rb W A 16 c (dig a 8 ++ dig b 8)) => readK A 16 c (dig a 8 ++ dig b 8) W h (by omega))
  generalize dig a 8 ++ dig b 8 = l at *
  replace x0 := Lib.hid x0
  replace x1 := Lib.hid x1
  have hl1 : l.length ≤ 16 := by omega
  have hl2 : 16 ≤ l.length := by omega
  clear hl
  go_enter Try.func154, Try.ntmps154
  go_wp2_with fail
  refine (HR.out _ (h.alloc _)).mono ?_
  rintro e w1 ⟨r, bs1, d1, rfl, rfl, hr1, hR⟩
  replace b2 := b2.later (below_plus _ bs1 d1)
  replace be := belowP be bs1 d1
  have hr2 : w.heap.size < r := by simp at hr1; omega
  generalize plus (w.alloc (.cells #[.bool false, .int .u64 0, .int .u64 0] 26)) bs1 d1 = W at *
  clear hr1
  go_wp2_with fail
  refine (numG W r l 0 a 8 (by omega) hR (by omega) (by omega) x0.out).mono ?_
  rintro e W1 ⟨rfl, hR1, hg1⟩
  replace b2 := b2.grown hg1 (by simp; omega)
  replace be := below_grown be hg1 (by omega)
  clear hg1 hR
  go_wp2_with fail
  refine (numG W1 r l 8 b 8 (by omega) hR1 (by omega) (by omega) x1.out).mono ?_
  rintro e W2 ⟨rfl, hR2, hg2⟩
  replace b2 := b2.grown hg2 (by simp; omega)
  replace be := below_grown be hg2 (by omega)
  clear hg2 hR1
  go_wp2_with fail
  refine (adrV6 a b _).mono ?_
  rintro e w1 ⟨bs3, d3, rfl, rfl⟩
  go_wp2_with (refine at_op (.store 26 (.tmp 2) (.tmp 23)) rfl ?_; refine wpList_stA (t := 26) 26 (.tmp 2) (.tmp 23) rfl rfl (adC true a b) (adC false 0 0) rfl (adC_one _ _ _) rfl rfl (b2.later (below_plus _ _ _)) (szAd _ _ _) ?_; intro W4 h4 g4)
  refine bodyPost_agg2 Try.results154 rfl rfl h4.range u1 u2 (szAd _ _ _) rfl (RetV.mk ?_)
  exact below_grown (belowP be _ _) g4 (by omega)

end Go.Proofs.Ytfmkndemkpecpaa
