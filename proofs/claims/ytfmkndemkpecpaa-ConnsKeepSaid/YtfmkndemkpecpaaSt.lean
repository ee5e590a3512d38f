/- A region that draws its order, some of whose operations change known blocks, one behind the other (calls on a reader): the others read, or make memory. -/
import Derived.Test.YtfmkndemkpecpaaBld
namespace Go.Proofs.Ytfmkndemkpecpaa
open Go.RowKit
set_option linter.unusedVariables false
set_option linter.unusedSimpArgs false

/-- w' is w with other cells in the blocks D, and more blocks -/
structure Chg (D : Nat → Prop) (w w' : World) : Prop where
  os : w'.os = w.os
  tape : w'.tape = w.tape
  output : w'.output = w.output
  size : w.heap.size ≤ w'.heap.size
  block : ∀ b, b < w.heap.size → ¬ D b → w'.heap[b]? = w.heap[b]?
section
variable {D : Nat → Prop} {w w' w'' : World}
theorem Chg.refl (w : World) : Chg D w w := ⟨rfl, rfl, rfl, Nat.le_refl _, fun _ _ _ => rfl⟩
theorem Chg.trans (h : Chg D w w') (h' : Chg D w' w'') : Chg D w w'' := ⟨h'.os.trans h.os, h'.tape.trans h.tape, h'.output.trans h.output, Nat.le_trans h.size h'.size, fun b hb hd => (h'.block b (Nat.lt_of_lt_of_le hb h.size) hd).trans (h.block b hb hd)⟩
theorem Chg.below {B : Nat} (h : Chg D w w') (hD : ∀ b, D b → B ≤ b) (hB : B ≤ w.heap.size) : Below B w w' := ⟨h.os, h.tape, h.output, h.size, fun b hb => h.block b (by omega) (fun hd => by have := hD b hd; omega)⟩
theorem Chg.of_below (h : Below w.heap.size w w') : Chg D w w' := ⟨h.os, h.tape, h.output, h.size, fun b hb _ => h.block b hb⟩
theorem Chg.ex (h : Ex w w') : Chg D w w' := .of_below h.below
theorem Chg.grown {row : Option Nat} (h : w.grownBy w' row) (hr : ∀ k, row = some k → D k) : Chg D w w' := ⟨h.os, h.tape, h.output, h.size, fun b hb hd => h.block b hb (fun e => hd (hr b e.symm))⟩
theorem Bk.chg {g : Nat} {t : TypeId} {cs : List Value} (h : Bk w g t cs) (hc : Chg D w w') (hd : ¬ D g) : Bk w' g t cs := (hc.block g h.lt hd).trans h
theorem Rb.chg {A : Option Addr} {n c : Nat} {l : List UInt8} (h : Rb w A n c l) (hc : Chg D w w') (hd : ∀ a, A = some a → ¬ D a.block) : Rb w' A n c l := by
  refine ⟨h.1, h.2.1, ?_⟩
  rcases h.2.2 with h' | ⟨b, off, hA, hb, hcell⟩
  · exact .inl h'
  · exact .inr ⟨b, off, hA, Nat.lt_of_lt_of_le hb hc.size, fun i u hu => (World.cell?_of_block (hc.block b hb (hd _ hA))).trans (hcell i u hu)⟩
theorem Ob.chg {base : Nat} {A : Option Addr} {n c : Nat} {l : List UInt8} (h : Ob w base A n c l) (hc : Chg D w w') (hd : ∀ b, D b → b < base) : Ob w' base A n c l := by
  refine ⟨h.1, h.2.1, ?_⟩
  rcases h.2.2 with h' | ⟨g, cap, cur, hv, hg, hh, hr⟩
  · exact .inl h'
  · refine .inr ⟨g, cap, cur, hv, hg, ?_, hr⟩
    rw [hc.block g (by rcases Nat.lt_or_ge g w.heap.size with h1 | h1; exact h1; rw [Array.getElem?_eq_none h1] at hh; cases hh) (fun hd' => by have := hd g hd'; omega)]
    exact hh
end
/-- what a value is good for, whatever happens in the blocks D -/
structure MC (D : Nat → Prop) where
  p : Value → World → Prop
  mono : ∀ v w w', p v w → Chg D w w' → p v w'
def MC.any {D : Nat → Prop} : MC D := ⟨fun _ _ => True, fun _ _ _ _ _ => trivial⟩
def MC.eq {D : Nat → Prop} (c : Value) : MC D := ⟨fun v _ => v = c, fun _ _ _ h _ => h⟩
def MC.ob {D : Nat → Prop} (base : Nat) (hd : ∀ b, D b → b < base) (l : List UInt8) : MC D := ⟨fun v w => ∃ A n c, v = .slice A n c ∧ Ob w base A n c l, fun _ _ _ ⟨A, n, c, h1, h2⟩ h => ⟨A, n, c, h1, h2.chg h hd⟩⟩
def MC.blk {D : Nat → Prop} (base : Nat) (hd : ∀ b, D b → b < base) (t : TypeId) (cs : List Value) : MC D := ⟨fun v w => ∃ g, v = .pointer (some ⟨g, 0, none⟩) ∧ base ≤ g ∧ Bk w g t cs, fun _ _ _ ⟨g, h1, h2, h3⟩ h => ⟨g, h1, h2, h3.chg h (fun hg => by have := hd g hg; omega)⟩⟩

section
variable {P : Program} {Q : Exit → Act → World → Prop}
def stB (ops : Array Oper) (n N : Nat) (cs : List Nat) (f : Nat) : Bool :=
  decide (n ≤ ops.size) && (decide (n = ops.size) || (Region.sinkB .any ops n && Region.chainB .any ops n)) &&
  Region.seqB .any ops (ops.size - n) n ((List.range ops.size).map fun i => decide (i < n)).toArray &&
  ((List.range n).all fun i => match ops[i]? with
    | none => false
    | some o => (match o.dst with | some s => decide (s < N) | none => false) && (o.after.all fun e => !Region.binds .any e || decide (e.on < i)) &&
      (List.range n).all fun j => j == i || (match (ops[j]?).bind (·.dst) with | some s => o.dst != some s | none => false)) &&
  (cs.all fun i => decide (i < n)) && ((List.range cs.length).all fun k => (List.range k).all fun j => tw ops n f (cs.getD k 0) (cs.getD j 0)) && nodupB cs

structure SInv (ops : Array Oper) (n : Nat) (a0 : Act) (w0 : World) {D : Nat → Prop} (Φ : Nat → MC D) (cs : List Nat) (St : Nat → World → Prop) (listed : Array Bool) (A : Act) (w : World) : Prop where
  head : HeadInv .any ops n listed
  chg : Chg D w0 w
  size : A.tmps.size = a0.tmps.size
  defers : A.defers = a0.defers
  out : ∀ s, (∀ j, j < n → ∀ o, ops[j]? = some o → listed.getD j false = true → o.dst ≠ some s) → A.eval (.tmp s) = a0.eval (.tmp s)
  ins : ∀ j, j < n → ∀ o s, ops[j]? = some o → listed.getD j false = true → o.dst = some s → (Φ j).p (A.eval (.tmp s)) w
  st : St (cs.filter fun j => listed.getD j false).length w

theorem filter_first {p : Nat → Bool} : ∀ (cs : List Nat) (k : Nat), k ≤ cs.length → (∀ j, j < k → p (cs.getD j 0) = true) → (∀ j, k ≤ j → j < cs.length → p (cs.getD j 0) = false) → (cs.filter p).length = k
  | [], k, h, _, _ => by simp at h ⊢; omega
  | x :: r, 0, _, _, h2 => by
    have h0 := h2 0 (by omega) (by simp)
    simp only [List.getD_cons_zero] at h0
    rw [List.filter_cons, h0]
    exact filter_first r 0 (by omega) (by omega) (fun j h3 h4 => by have := h2 (j + 1) (by omega) (by simp; omega); simpa using this)
  | x :: r, k + 1, h, h1, h2 => by
    have h0 := h1 0 (by omega)
    simp only [List.getD_cons_zero] at h0
    rw [List.filter_cons, h0]
    simp only [if_true, List.length_cons]
    rw [filter_first r k (by simp at h; omega) (fun j h3 => by have := h1 (j + 1) (by omega); simpa using this) (fun j h3 h4 => by have := h2 (j + 1) (by omega) (by simp; omega); simpa using this)]

theorem wp_st {id : Nat} {a : Act} {w : World} {l : List Oper} (D : Nat → Prop) (n N f : Nat) (cs : List Nat) (hN : a.tmps.size = N) (hm : P.follows .mixedOrders = true) (hB : stB l.toArray n N cs f = true) (Φ : Nat → MC D)
    (St : Nat → World → Prop) (hSt : ∀ k w w', St k w → Ex w w' → St k w') (h0 : St 0 w)
    (step : ∀ i, i < n → ∀ o, l[i]? = some o → cs.contains i = false → ∀ (A : Act) (w' : World), Chg D w w' → (∀ s, outB l.toArray n i s = true → A.eval (.tmp s) = a.eval (.tmp s)) → (∀ j s, depB l.toArray n i j s = true → (Φ j).p (A.eval (.tmp s)) w') →
      ∀ K : Act → World → Prop, Shut (∀ v w'', Ex w' w'' → (Φ i).p v w'' → K (A.put o.dst v) w'') → if Region.wanted o (yielded l.toArray A.tmps) = true then o.wp P A w' K Q else K (A.put o.dst undef) w')
    (move : ∀ k i, cs[k]? = some i → ∀ o, l[i]? = some o → ∀ (A : Act) (w' : World), Chg D w w' → St k w' → (∀ s, outB l.toArray n i s = true → A.eval (.tmp s) = a.eval (.tmp s)) → (∀ j s, depB l.toArray n i j s = true → (Φ j).p (A.eval (.tmp s)) w') →
      ∀ K : Act → World → Prop, Shut (∀ v w'', Chg D w' w'' → St (k + 1) w'' → (Φ i).p v w'' → K (A.put o.dst v) w'') → if Region.wanted o (yielded l.toArray A.tmps) = true then o.wp P A w' K Q else False)
    (fin : ∀ (vs : Nat → Value) (w' : World), Chg D w w' → St cs.length w' → (∀ i, i < n → (Φ i).p (vs i) w') → wpList P l.toArray Q (l.drop n) (putAll (l.take n) vs 0 a) w') : (Code.region id l.toArray true).wp P Q a w := by
  unfold stB at hB
  simp only [Bool.and_eq_true, decide_eq_true_eq] at hB
  obtain ⟨⟨⟨⟨⟨⟨hn, htail⟩, hseq⟩, hall⟩, hcn⟩, hcc⟩, hcd⟩ := hB
  have hal : ∀ i, i < n → ∃ o s, l.toArray[i]? = some o ∧ o.dst = some s ∧ s < N ∧ (∀ e ∈ o.after, Region.binds .any e = true → e.on < i) ∧ ∀ j, j < n → j ≠ i → ∃ oj sj, l.toArray[j]? = some oj ∧ oj.dst = some sj ∧ sj ≠ s := by
    intro i hi
    have h1 := List.all_eq_true.1 hall i (List.mem_range.2 hi)
    cases ho : l.toArray[i]? with
    | none => rw [ho] at h1; cases h1
    | some o =>
      rw [ho] at h1
      simp only [Bool.and_eq_true] at h1
      obtain ⟨⟨h2, h3⟩, h4⟩ := h1
      cases hd : o.dst with
      | none => rw [hd] at h2; cases h2
      | some s =>
        rw [hd] at h2 h4
        refine ⟨o, s, rfl, hd, by simpa using h2, fun e he hb => ?_, fun j hj hji => ?_⟩
        · have := (Array.all_eq_true_iff_forall_mem.1 h3) e he
          rw [hb] at this
          simpa using this
        · have h5 := List.all_eq_true.1 h4 j (List.mem_range.2 hj)
          cases hoj : l.toArray[j]? with
          | none => rw [hoj] at h5; simp [hji] at h5
          | some oj =>
            rw [hoj] at h5
            cases hdj : oj.dst with
            | none => simp [hdj, hji] at h5
            | some sj =>
              simp [hdj, hji] at h5
              exact ⟨oj, sj, rfl, hdj, fun e => h5 e.symm⟩
  have main : ∀ (q : Nat) (listed : Array Bool) (A : Act) (w' : World), SInv l.toArray n a w Φ cs St listed A w' → cnt listed n = q → wpAny P .any l.toArray Q (q + (l.toArray.size - n)) listed A w' := by
    intro q
    induction q with
    | zero =>
      intro listed A w' inv hc
      have hl : ∀ i, i < n → listed.getD i true = true := cnt_zero n hc
      have hlf : ∀ i, i < n → listed.getD i false = true := fun i hi => by
        have := hl i hi
        have hsz : i < listed.size := by rw [inv.head.size]; omega
        simpa [hsz] using this
      have el : listed = ((List.range l.toArray.size).map fun i => decide (i < n)).toArray := by
        apply Array.ext
        · simp [inv.head.size]
        · intro i h1 h2
          by_cases hi : i < n
          · have := hl i hi
            simp only [Array.getD_eq_getD_getElem?, Array.getElem?_eq_getElem h1, Option.getD_some] at this
            simp [this, hi]
          · have := inv.head.tail i (by omega) (by rw [← inv.head.size]; exact h1)
            simp only [Array.getD_eq_getD_getElem?, Array.getElem?_eq_getElem h1, Option.getD_some] at this
            simp [this, hi]
      have eA : A = putAll (l.take n) (fun j => ((l.toArray[j]?).bind (·.dst)).elim undef (fun s => A.eval (.tmp s))) 0 a := by
        refine act_ext (by rw [putAll_size, inv.size]) (by rw [putAll_defers, inv.defers]) fun s hs => ?_
        have H := putAll_eval A s (l.take n) (fun j => ((l.toArray[j]?).bind (·.dst)).elim undef (fun s => A.eval (.tmp s))) 0 a (by rw [← inv.size]; exact hs) (fun j o hj hd => by
          have hjn : j < n := by
            have := (List.getElem?_eq_some_iff.1 hj).1
            simp at this
            omega
          have : l.toArray[j]? = some o := by simpa [hjn] using hj
          simp [this, hd])
        by_cases he : ∃ o ∈ l.take n, o.dst = some s
        · exact (H.1 he).symm
        · rw [H.2 (fun o h h' => he ⟨o, h, h'⟩)]
          refine inv.out s fun j hj o ho _ hd => he ⟨o, ?_, hd⟩
          rw [List.mem_take_iff_getElem]
          have hjl := (Array.getElem?_eq_some_iff.1 ho)
          obtain ⟨h1, h2⟩ := hjl
          exact ⟨j, by simp at h1; omega, by simpa using h2⟩
      rw [Nat.zero_add]
      have hst := inv.st
      rw [List.filter_eq_self.2 (fun j hj => hlf j (by simpa using List.all_eq_true.1 hcn j hj))] at hst
      have := wpAny_of_seq (md := .any) (Q' := Q) (P := P) (ops := l.toArray) (l.drop n) n listed A w' (fun j => by simp [List.getElem?_drop]) (by
        rw [el]
        have : (l.drop n).length = l.toArray.size - n := by simp
        rw [this]
        exact hseq) (by
        rw [eA]
        refine fin _ w' inv.chg hst fun i hi => ?_
        obtain ⟨o, s, ho, hd, _⟩ := hal i hi
        have := inv.ins i hi o s ho (hlf i hi) hd
        simpa [ho, hd] using this)
      have e2 : (l.drop n).length = l.toArray.size - n := by simp
      rwa [e2] at this
    | succ q ih =>
      intro listed A w' inv hc
      rw [show q + 1 + (l.toArray.size - n) = (q + (l.toArray.size - n)) + 1 by omega]
      obtain ⟨i0, hi0, hun0, hprev⟩ := cnt_first n (by rw [hc]; omega)
      have hready0 : i0 ∈ Region.ready .any l.toArray listed := by
        obtain ⟨o, s, ho, hd, _, hlt, _⟩ := hal i0 hi0
        refine mem_ready.2 ⟨hun0, o, ho, fun e he hb => ?_⟩
        have h1 := hlt e he hb
        have h2 := hprev e.on h1
        have hsz : e.on < listed.size := by rw [inv.head.size]; have := (Array.getElem?_eq_some_iff.1 ho).1; omega
        simpa [hsz] using h2
      refine ⟨fun h => (by rw [h] at hready0; cases hready0), fun i hi => ?_⟩
      obtain ⟨hun, o, ho, hdeps⟩ := mem_ready.1 hi
      have hin : i < n := by
        rcases Nat.lt_or_ge i n with h | h
        · exact h
        · have hsz := (Array.getElem?_eq_some_iff.1 ho).1
          simp only [Bool.or_eq_true, decide_eq_true_eq, Bool.and_eq_true] at htail
          rcases htail with ht | ht
          · omega
          · exact absurd hi (tail_waits ht.1 ht.2 (by omega) inv.head _ i0 rfl hi0 hun0 i h)
      obtain ⟨o', s, ho', hd, hsN, hlt, hother⟩ := hal i hin
      have : o' = o := Option.some.inj (ho'.symm.trans ho)
      subst this
      have unl : ∀ j, listed.getD j false = true → j ≠ i := fun j hj e => by subst e; rw [getD_both hun] at hj; cases hj
      have hsz : i < listed.size := by rw [inv.head.size]; exact (Array.getElem?_eq_some_iff.1 ho).1
      have outs : ∀ s', outB l.toArray n i s' = true → A.eval (.tmp s') = a.eval (.tmp s') := fun s' hs' => inv.out s' fun j hj oj hoj hlj hdj => by
          have h1 := List.all_eq_true.1 hs' j (List.mem_range.2 hj)
          have hji := unl j hlj
          rw [hoj] at h1
          simp only [Option.bind_some, hdj] at h1
          simp only [Bool.or_eq_true, beq_iff_eq, bne_self_eq_false, Bool.false_eq_true, false_or] at h1
          rcases h1 with h1 | h1
          · exact hji h1
          · obtain ⟨oj', hoj', e, he, hb, hon⟩ := Region.waitsFor_spec h1
            have : oj' = oj := Option.some.inj (hoj'.symm.trans hoj)
            subst this
            have h2 := inv.head.closed j oj' hoj hlj e he hb
            rw [hon, getD_both hun] at h2
            cases h2
      have wl : ∀ j, Region.waitsFor .any l.toArray i j = true → listed.getD j false = true := fun j hw => by
          obtain ⟨oi, hoi, e, he, hb, hon⟩ := Region.waitsFor_spec hw
          have : oi = o' := Option.some.inj (hoi.symm.trans ho)
          subst this
          rw [← hon]
          exact hdeps e he hb
      have deps : ∀ j s', depB l.toArray n i j s' = true → (Φ j).p (A.eval (.tmp s')) w' := fun j s' hs' => by
          simp only [depB, Bool.and_eq_true, decide_eq_true_eq] at hs'
          obtain ⟨⟨hj, hw⟩, hds⟩ := hs'
          have hlj := wl j hw
          cases hoj : l.toArray[j]? with
          | none => rw [hoj] at hds; simp at hds
          | some oj =>
            rw [hoj] at hds
            simp only [Option.bind_some, beq_iff_eq] at hds
            exact inv.ins j hj oj s' hoj hlj hds
      have lst' : ∀ j, j ≠ i → (listed.setIfInBounds i true).getD j false = listed.getD j false := fun j hj => getD_set_ne false (Ne.symm hj)
      have next : ∀ v w'', Chg D w' w'' → St (cs.filter fun j => (listed.setIfInBounds i true).getD j false).length w'' → (Φ i).p v w'' → wpAny P .any l.toArray Q (q + (l.toArray.size - n)) (listed.setIfInBounds i true) (A.put o'.dst v) w'' := by
        intro v w'' hex hst hp
        refine ih _ _ _ ?_ ?_
        · refine ⟨inv.head.set hi hin, inv.chg.trans hex, by rw [size_put, inv.size], by rw [defers_put, inv.defers], fun s' hs' => ?_, fun j hj oj s' hoj hlj hdj => ?_, hst⟩
          · have hne : s ≠ s' := fun e => by
              subst e
              refine hs' i hin o' ho ?_ hd
              simp [hsz]
            rw [Act.eval_put (fun d hd' e => by rw [hd] at hd'; injection hd' with hd'; injection e with e; exact hne (hd'.trans e.symm))]
            refine inv.out s' fun j hj oj hoj hlj => hs' j hj oj hoj (getD_set_true hlj)
          · by_cases hji : j = i
            · subst hji
              have : oj = o' := Option.some.inj (hoj.symm.trans ho)
              subst this
              rw [hd] at hdj
              injection hdj with hdj
              subst hdj
              rw [hd, eval_put_same (by rw [inv.size, hN]; exact hsN)]
              exact hp
            · have hlj' : listed.getD j false = true := by rw [lst' j hji] at hlj; exact hlj
              obtain ⟨oj', sj, hoj', hdj', hne⟩ := hother j hj hji
              have : oj' = oj := Option.some.inj (hoj'.symm.trans hoj)
              subst this
              rw [hdj] at hdj'
              injection hdj' with hdj'
              subst hdj'
              rw [Act.eval_put (fun d hd' e => by rw [hd] at hd'; injection hd' with hd'; injection e with e; exact hne (e.trans hd'.symm))]
              exact (Φ j).mono _ _ _ (inv.ins j hj oj' s' hoj hlj' hdj) hex
        · have := cnt_set hun n
          rw [if_pos hin] at this
          omega
      cases hci : cs.contains i with
      | false =>
        have hsame : (cs.filter fun j => (listed.setIfInBounds i true).getD j false) = cs.filter fun j => listed.getD j false := by
          refine List.filter_congr fun j hj => lst' j (fun e => ?_)
          subst e
          have : cs.contains j = true := by simpa using hj
          rw [this] at hci
          cases hci
        have hs := step i hin o' (by simpa using ho) hci A w' inv.chg outs deps (wpAny P .any l.toArray Q (q + (l.toArray.size - n)) (listed.setIfInBounds i true)) (fun v w'' hex hp => next v w'' (Chg.ex hex) (by rw [hsame]; exact hSt _ _ _ inv.st hex) hp)
        unfold wpOp
        rw [ho]
        simp only
        split
        · rename_i hw
          rw [if_pos hw] at hs
          exact .inl hs
        · rename_i hw
          rw [if_neg hw] at hs
          exact hs
      | true =>
        have hmem : i ∈ cs := by simpa using hci
        obtain ⟨k, hk, hki⟩ := List.getElem_of_mem hmem
        have hki' : cs[k]? = some i := by rw [List.getElem?_eq_getElem hk, hki]
        have hkg : cs.getD k 0 = i := by simp [hki']
        have before : ∀ j, j < k → listed.getD (cs.getD j 0) false = true := fun j hj => by
          have h1 := List.all_eq_true.1 hcc k (List.mem_range.2 hk)
          have h2 := List.all_eq_true.1 h1 j (List.mem_range.2 hj)
          rw [hkg] at h2
          exact tw_listed inv.head f i _ wl h2
        have behind : ∀ j, k < j → j < cs.length → listed.getD (cs.getD j 0) false = false := fun j hj hjl => by
          cases hlj : listed.getD (cs.getD j 0) false with
          | false => rfl
          | true =>
            have h1 := List.all_eq_true.1 hcc j (List.mem_range.2 hjl)
            have h2 := List.all_eq_true.1 h1 k (List.mem_range.2 hj)
            rw [hkg] at h2
            have := tw_listed inv.head f _ i (fun k' hk' => by
              obtain ⟨ok, hok, e, he, hb, hon⟩ := Region.waitsFor_spec hk'
              rw [← hon]
              exact inv.head.closed _ ok hok hlj e he hb) h2
            exact absurd rfl (unl _ this)
        have cnow : (cs.filter fun j => listed.getD j false).length = k := filter_first cs k (by omega) before (fun j h1 h2 => by
          rcases Nat.eq_or_lt_of_le h1 with h3 | h3
          · subst h3
            rw [hkg]
            exact getD_both hun
          · exact behind j h3 h2)
        have nod := nodup_of hcd
        have cthen : (cs.filter fun j => (listed.setIfInBounds i true).getD j false).length = k + 1 := filter_first cs (k + 1) (by omega) (fun j hj => by
          by_cases hjk : j = k
          · subst hjk
            rw [hkg]
            simp [hsz]
          · exact getD_set_true (before j (by omega))) (fun j h1 h2 => by
          have hne : cs.getD j 0 ≠ i := fun e => by
            have e1 : cs[j]'h2 = cs[k]'hk := by rw [hki, ← e]; simp [h2]
            have := (List.getElem_inj nod).1 e1
            omega
          rw [lst' _ hne]
          exact behind j (by omega) h2)
        have hst := inv.st
        rw [cnow] at hst
        have hs := move k i hki' o' (by simpa using ho) A w' inv.chg hst outs deps (wpAny P .any l.toArray Q (q + (l.toArray.size - n)) (listed.setIfInBounds i true)) (fun v w'' hex hs' hp => next v w'' hex (by rw [cthen]; exact hs') hp)
        unfold wpOp
        rw [ho]
        simp only
        split
        · rename_i hw
          rw [if_pos hw] at hs
          exact .inl hs
        · rename_i hw
          rw [if_neg hw] at hs
          exact hs.elim
  refine wp_region_any hm ?_
  have H := main n (Array.replicate l.toArray.size false) a w.drew ⟨⟨by simp, fun j oj _ hl => (by rw [getD_replicate_false] at hl; cases hl), fun t _ ht => getD_in (by simpa using ht) (getD_replicate_false _ _)⟩,
    Chg.of_below ((Below.refl _ _).drew), rfl, rfl, fun s _ => rfl, fun j hj o s _ hl => (by rw [getD_replicate_false] at hl; cases hl), by
      rw [List.filter_eq_nil_iff.2 (fun j _ => by rw [getD_replicate_false]; simp)]
      exact hSt 0 w w.drew h0 (Ex.of ((Below.refl _ _).drew))⟩ (cnt_init _ n hn)
  rw [show n + (l.toArray.size - n) = l.toArray.size by omega] at H
  exact H
end
end Go.Proofs.Ytfmkndemkpecpaa
