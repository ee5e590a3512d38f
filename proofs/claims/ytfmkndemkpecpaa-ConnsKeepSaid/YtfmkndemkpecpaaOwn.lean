/- A region that draws its order: each operation's value has a word and owns blocks; an operation may change the blocks of the words that it consumes. -/
import Derived.Test.YtfmkndemkpecpaaSu
namespace Go.Proofs.Ytfmkndemkpecpaa
open Go.RowKit
set_option linter.unusedVariables false
set_option linter.unusedSimpArgs false

/-- the blocks F of w are as they were -/
structure Kept (F : Nat → Prop) (w w' : World) : Prop where
  os : w'.os = w.os
  tape : w'.tape = w.tape
  output : w'.output = w.output
  size : w.heap.size ≤ w'.heap.size
  block : ∀ b, b < w.heap.size → F b → w'.heap[b]? = w.heap[b]?
theorem Kept.refl (F : Nat → Prop) (w : World) : Kept F w w := ⟨rfl, rfl, rfl, Nat.le_refl _, fun _ _ _ => rfl⟩
theorem Kept.chg {F D : Nat → Prop} {w w' w'' : World} (h : Kept F w w') (h' : Chg D w' w'') (hd : ∀ b, F b → ¬ D b) : Kept F w w'' :=
  ⟨h'.os.trans h.os, h'.tape.trans h.tape, h'.output.trans h.output, Nat.le_trans h.size h'.size, fun b hb hf => (h'.block b (Nat.lt_of_lt_of_le hb h.size) (hd b hf)).trans (h.block b hb hf)⟩
theorem Kept.of_chg {F D : Nat → Prop} {w w' : World} (h' : Chg D w w') (hd : ∀ b, F b → ¬ D b) : Kept F w w' := (Kept.refl F w).chg h' hd
theorem Kept.below {F : Nat → Prop} {w w' : World} {B : Nat} (h : Kept F w w') (hB : B ≤ w.heap.size) (hf : ∀ b, b < B → F b) : Below B w w' := ⟨h.os, h.tape, h.output, h.size, fun b hb => h.block b (by omega) (hf b hb)⟩
theorem Bk.kept {F : Nat → Prop} {w w' : World} {g : Nat} {t : TypeId} {cs : List Value} (h : Bk w g t cs) (hk : Kept F w w') (hf : F g) : Bk w' g t cs := (hk.block g h.lt hf).trans h
theorem Rb.kept {F : Nat → Prop} {w w' : World} {A : Option Addr} {n c : Nat} {l : List UInt8} (h : Rb w A n c l) (hk : Kept F w w') (hf : ∀ a, A = some a → a.block < w.heap.size → F a.block) : Rb w' A n c l := by
  refine ⟨h.1, h.2.1, ?_⟩
  rcases h.2.2 with h' | ⟨b, off, hA, hb, hc⟩
  · exact .inl h'
  · exact .inr ⟨b, off, hA, Nat.lt_of_lt_of_le hb hk.size, fun i u hu => (World.cell?_of_block (hk.block b hb (hf _ hA hb))).trans (hc i u hu)⟩
/-- a word of a value v, beside the value u of another operation, and the blocks that it owns -/
structure Own (prot : Nat → Prop) where
  p : Value → Value → World → Prop
  fp : Value → Value → Nat → Prop
  lt : ∀ v u w b, p v u w → fp v u b → b < w.heap.size
  keep : ∀ v u w w', p v u w → Kept (fun b => fp v u b ∨ prot b) w w' → p v u w'
section
variable {prot : Nat → Prop}
def Own.any : Own prot := ⟨fun _ _ _ => True, fun _ _ _ => False, fun _ _ _ _ _ h => h.elim, fun _ _ _ _ _ _ => trivial⟩
def Own.eq (c : Value) : Own prot := ⟨fun v _ _ => v = c, fun _ _ _ => False, fun _ _ _ _ _ h => h.elim, fun _ _ _ _ h _ => h⟩
/-- a block -/
def Own.blk (t : TypeId) (cs : List Value) : Own prot := ⟨fun v _ w => ∃ g, v = .pointer (some ⟨g, 0, none⟩) ∧ Bk w g t cs, fun v _ b => v = .pointer (some ⟨b, 0, none⟩),
  fun v u w b ⟨g, h1, h2⟩ h3 => (by rw [h1] at h3; injection h3 with h3; injection h3 with h3; injection h3 with h3; subst h3; exact h2.lt),
  fun v u w w' ⟨g, h1, h2⟩ hk => ⟨g, h1, h2.kept hk (.inl h1)⟩⟩
/-- the block that another value points to -/
def Own.into (t : TypeId) (q : List Value → World → Prop) (hq : ∀ cs w w', q cs w → Kept prot w w' → q cs w') : Own prot := ⟨fun _ u w => ∃ g cs, u = .pointer (some ⟨g, 0, none⟩) ∧ Bk w g t cs ∧ q cs w, fun _ u b => u = .pointer (some ⟨b, 0, none⟩),
  fun v u w b ⟨g, cs, h1, h2, _⟩ h3 => (by rw [h1] at h3; injection h3 with h3; injection h3 with h3; injection h3 with h3; subst h3; exact h2.lt),
  fun v u w w' ⟨g, cs, h1, h2, h3⟩ hk => ⟨g, cs, h1, h2.kept hk (.inl h1), hq _ _ _ h3 ⟨hk.os, hk.tape, hk.output, hk.size, fun b hb hp => hk.block b hb (.inr hp)⟩⟩⟩
/-- own bytes, from base on -/
def Own.ob (base : Nat) (l : List UInt8) : Own prot := ⟨fun v _ w => ∃ A n c, v = .slice A n c ∧ Ob w base A n c l, fun v _ b => v.ownBlock = some b,
  fun v u w b ⟨A, n, c, h1, h2⟩ h3 => (by subst h1; exact (h2.blk b h3).2),
  fun v u w w' ⟨A, n, c, h1, h2⟩ hk => ⟨A, n, c, h1, by
    refine ⟨h2.1, h2.2.1, ?_⟩
    have hlt := h2.blk
    rcases h2.2.2 with h' | ⟨g, cap, cur, hv, hg, hh, hr⟩
    · exact .inl h'
    · have ho : (Value.slice A n c).ownBlock = some g := by rw [hv]; rfl
      refine .inr ⟨g, cap, cur, hv, hg, ?_, hr⟩
      rw [hk.block g (hlt g ho).2 (.inl (by subst h1; exact ho))]
      exact hh⟩⟩
/-- own bytes without room -/
def Own.of (base : Nat) (l : List UInt8) : Own prot := ⟨fun v _ w => ∃ A n, v = .slice A n n ∧ Ob w base A n n l, fun v _ b => v.ownBlock = some b,
  fun v u w b ⟨A, n, h1, h2⟩ h3 => (by subst h1; exact (h2.blk b h3).2),
  fun v u w w' ⟨A, n, h1, h2⟩ hk => ⟨A, n, h1, by
    obtain ⟨A', n', c', e1, e2⟩ := (Own.ob (prot := prot) base l).keep v u w w' ⟨A, n, n, h1, h2⟩ hk
    rw [h1] at e1
    injection e1 with x y z
    subst x y z
    exact e2⟩⟩
end
/-- a value that is made of another operation's value -/
def Own.fn {prot : Nat → Prop} (g : Value → Value) : Own prot := ⟨fun v u _ => v = g u, fun _ _ _ => False, fun _ _ _ _ _ h => h.elim, fun _ _ _ _ h _ => h⟩
theorem own_ptr {g b : Nat} (h : Value.pointer (some ⟨g, 0, none⟩) = .pointer (some ⟨b, 0, none⟩)) : g = b := by
  injection h with h
  injection h with h
  injection h with h
/-- a pointer's block, one of whose cells is a slice of own bytes without room (v) -/
def Own.holds {prot : Nat → Prop} (base : Nat) (t : TypeId) (cs : Value → List Value) (l : List UInt8) : Own prot := ⟨fun v u w => ∃ g A n, u = .pointer (some ⟨g, 0, none⟩) ∧ v = .slice A n n ∧ Bk w g t (cs v) ∧ Ob w base A n n l,
  fun v u b => u = .pointer (some ⟨b, 0, none⟩) ∨ v.ownBlock = some b,
  fun v u w b ⟨g, A, n, h1, h2, h3, h4⟩ h => (by
    rcases h with h | h
    · rw [h1] at h; rw [← own_ptr h]; exact h3.lt
    · subst h2; exact (h4.blk b h).2),
  fun v u w w' ⟨g, A, n, h1, h2, h3, h4⟩ hk => by
    refine ⟨g, A, n, h1, h2, h3.kept hk (.inl (.inl h1)), ?_⟩
    obtain ⟨A', n', e1, e2⟩ := (Own.of (prot := prot) base l).keep v u w w' ⟨A, n, h2, h4⟩ ⟨hk.os, hk.tape, hk.output, hk.size, fun b hb h => hk.block b hb (by rcases h with h | h; exact .inl (.inr h); exact .inr h)⟩
    rw [h2] at e1
    injection e1 with x y z
    subst x y
    exact e2⟩
theorem chgX {D : Nat → Prop} {w w' : World} (h : Ex w w') : Chg D w w' := Chg.ex h
section
variable {P : Program} {Q : Exit → Act → World → Prop}
def useB (ops : Array Oper) (n f : Nat) (cons : Nat → List Nat) (i j : Nat) : Bool := (decide (n ≤ j) || tw ops n f i j) && (List.range n).all fun c => !(cons c).contains j || c == i || tw ops n f c i
def lastB (n : Nat) (cons : Nat → List Nat) (j : Nat) : Bool := (List.range n).all fun c => !(cons c).contains j
def ownB (ops : Array Oper) (n m N f : Nat) (rel : Nat → Nat) (cons : Nat → List Nat) : Bool :=
  decide (n = ops.size) && Region.seqB .any ops (ops.size - n) n ((List.range ops.size).map fun i => decide (i < n)).toArray &&
  ((List.range n).all fun i => match ops[i]? with
    | none => false
    | some o => (match o.dst with | some s => decide (s < N) | none => true) && (o.after.all fun e => !Region.binds .any e || decide (e.on < i)) &&
      ((List.range n).all fun j => j == i || (match o.dst, (ops[j]?).bind (·.dst) with | some s, some s' => s != s' | _, _ => true)) &&
      (rel i == i || tw ops n f i (rel i) || decide (n ≤ rel i)) &&
      ((cons i).all fun j => decide (j < n + m) && (decide (n ≤ j) || tw ops n f i j) && (List.range n).all fun c => c == i || !(cons c).contains j)) &&
  ((List.range m).all fun t => decide (n ≤ rel (n + t)))

def Live (n : Nat) (cons : Nat → List Nat) (listed : Array Bool) (j : Nat) : Prop := (n ≤ j ∨ listed.getD j false = true) ∧ ∀ c, c < n → (cons c).contains j = true → listed.getD c false = false
structure OInv (ops : Array Oper) (n m : Nat) (a0 : Act) (w0 : World) {prot : Nat → Prop} (Φ : Nat → Own prot) (rel : Nat → Nat) (cons : Nat → List Nat) (vs0 : Nat → Value) (listed : Array Bool) (A : Act) (w : World) (vs : Nat → Value) : Prop where
  head : HeadInv .any ops n listed
  kept : Kept prot w0 w
  size : A.tmps.size = a0.tmps.size
  defers : A.defers = a0.defers
  out : ∀ s, (∀ j, j < n → ∀ o, ops[j]? = some o → listed.getD j false = true → o.dst ≠ some s) → A.eval (.tmp s) = a0.eval (.tmp s)
  ins : ∀ j, j < n → ∀ o s, ops[j]? = some o → listed.getD j false = true → o.dst = some s → A.eval (.tmp s) = vs j
  virt : ∀ j, n ≤ j → vs j = vs0 j
  word : ∀ j, j < n + m → Live n cons listed j → (Φ j).p (vs j) (vs (rel j)) w
  dis : ∀ j k, j < n + m → k < n + m → j ≠ k → Live n cons listed j → Live n cons listed k → ∀ b, (Φ j).fp (vs j) (vs (rel j)) b → ¬ (Φ k).fp (vs k) (vs (rel k)) b
  fresh : ∀ j, j < n + m → Live n cons listed j → ∀ b, (Φ j).fp (vs j) (vs (rel j)) b → ¬ prot b

/-- what is known where operation i is carried out -/
structure AtO (ops : Array Oper) (n m f : Nat) (a0 : Act) (w0 : World) {prot : Nat → Prop} (Φ : Nat → Own prot) (rel : Nat → Nat) (cons : Nat → List Nat) (vs0 : Nat → Value) (i : Nat) (A : Act) (w : World) (vs : Nat → Value) : Prop where
  kept : Kept prot w0 w
  out : ∀ s, outB ops n i s = true → A.eval (.tmp s) = a0.eval (.tmp s)
  dep : ∀ j s, depB ops n i j s = true → A.eval (.tmp s) = vs j
  virt : ∀ j, n ≤ j → vs j = vs0 j
  word : ∀ j, j < n + m → useB ops n f cons i j = true → (Φ j).p (vs j) (vs (rel j)) w
  dis : ∀ j k, j < n + m → k < n + m → j ≠ k → useB ops n f cons i j = true → useB ops n f cons i k = true → ∀ b, (Φ j).fp (vs j) (vs (rel j)) b → ¬ (Φ k).fp (vs k) (vs (rel k)) b
  fresh : ∀ j, j < n + m → useB ops n f cons i j = true → ∀ b, (Φ j).fp (vs j) (vs (rel j)) b → ¬ prot b
/-- the blocks of the words that operation i consumes -/
def Eaten {prot : Nat → Prop} (Φ : Nat → Own prot) (rel : Nat → Nat) (cons : Nat → List Nat) (vs : Nat → Value) (i b : Nat) : Prop := ∃ j, (cons i).contains j = true ∧ (Φ j).fp (vs j) (vs (rel j)) b

theorem wp_own {id : Nat} {a : Act} {w : World} {l : List Oper} (prot : Nat → Prop) (n m N f : Nat) (rel : Nat → Nat) (cons : Nat → List Nat) (vs0 : Nat → Value) (hN : a.tmps.size = N) (hm : P.follows .mixedOrders = true) (hB : ownB l.toArray n m N f rel cons = true)
    (Φ : Nat → Own prot) (hprot : ∀ b, prot b → b < w.heap.size)
    (w0 : ∀ t, t < m → (Φ (n + t)).p (vs0 (n + t)) (vs0 (rel (n + t))) w)
    (d0 : ∀ t t', t < m → t' < m → t ≠ t' → ∀ b, (Φ (n + t)).fp (vs0 (n + t)) (vs0 (rel (n + t))) b → ¬ (Φ (n + t')).fp (vs0 (n + t')) (vs0 (rel (n + t'))) b)
    (f0 : ∀ t, t < m → ∀ b, (Φ (n + t)).fp (vs0 (n + t)) (vs0 (rel (n + t))) b → ¬ prot b)
    (step : ∀ i, i < n → ∀ o, l[i]? = some o → ∀ (A : Act) (w' : World) (vs : Nat → Value), AtO l.toArray n m f a w Φ rel cons vs0 i A w' vs →
      ∀ K : Act → World → Prop, Shut (∀ v w'', Chg (Eaten Φ rel cons vs i) w' w'' → (Φ i).p v (if rel i = i then v else vs (rel i)) w'' → (∀ b, (Φ i).fp v (if rel i = i then v else vs (rel i)) b → Eaten Φ rel cons vs i b ∨ w'.heap.size ≤ b) → K (A.put o.dst v) w'') →
        if Region.wanted o (yielded l.toArray A.tmps) = true then o.wp P A w' K Q else K (A.put o.dst undef) w')
    (fin : ∀ (vs : Nat → Value) (w' : World), Kept prot w w' → (∀ j, n ≤ j → vs j = vs0 j) → (∀ j, j < n + m → lastB n cons j = true → (Φ j).p (vs j) (vs (rel j)) w') →
      (∀ j k, j < n + m → k < n + m → j ≠ k → lastB n cons j = true → lastB n cons k = true → ∀ b, (Φ j).fp (vs j) (vs (rel j)) b → ¬ (Φ k).fp (vs k) (vs (rel k)) b) →
      (∀ j, j < n + m → lastB n cons j = true → ∀ b, (Φ j).fp (vs j) (vs (rel j)) b → ¬ prot b) → wpList P l.toArray Q (l.drop n) (putAll (l.take n) vs 0 a) w') : (Code.region id l.toArray true).wp P Q a w := by
  unfold ownB at hB
  simp only [Bool.and_eq_true, decide_eq_true_eq] at hB
  obtain ⟨⟨⟨hn, hseq⟩, hall⟩, hvirt⟩ := hB
  have hal : ∀ i, i < n → ∃ o, l.toArray[i]? = some o ∧ (∀ s, o.dst = some s → s < N) ∧ (∀ e ∈ o.after, Region.binds .any e = true → e.on < i) ∧ (∀ j, j < n → j ≠ i → ∀ oj, l.toArray[j]? = some oj → ∀ s s', o.dst = some s → oj.dst = some s' → s ≠ s') ∧
      (rel i = i ∨ tw l.toArray n f i (rel i) = true ∨ n ≤ rel i) ∧ (∀ j, (cons i).contains j = true → j < n + m ∧ (n ≤ j ∨ tw l.toArray n f i j = true) ∧ ∀ c, c < n → (cons c).contains j = true → c = i) := by
    intro i hi
    have h1 := List.all_eq_true.1 hall i (List.mem_range.2 hi)
    cases ho : l.toArray[i]? with
    | none => rw [ho] at h1; cases h1
    | some o =>
      rw [ho] at h1
      simp only [Bool.and_eq_true] at h1
      obtain ⟨⟨⟨⟨h2, h3⟩, h4⟩, h5⟩, h6⟩ := h1
      refine ⟨o, rfl, fun s hs => ?_, fun e he hb => ?_, fun j hj hji oj hoj s s' hs hs' => ?_, ?_, fun j hj => ?_⟩
      · rw [hs] at h2; simpa using h2
      · have := (Array.all_eq_true_iff_forall_mem.1 h3) e he
        rw [hb] at this
        simpa using this
      · have h7 := List.all_eq_true.1 h4 j (List.mem_range.2 hj)
        rw [hoj, hs] at h7
        simp [hs', hji] at h7
        exact h7
      · simp only [Bool.or_eq_true, beq_iff_eq, decide_eq_true_eq] at h5
        rcases h5 with (h5 | h5) | h5
        · exact .inl h5
        · exact .inr (.inl h5)
        · exact .inr (.inr h5)
      · have h7 := List.all_eq_true.1 h6 j (by simpa using hj)
        simp only [Bool.and_eq_true, Bool.or_eq_true, decide_eq_true_eq] at h7
        refine ⟨h7.1.1, h7.1.2, fun c hc hcj => ?_⟩
        have h8 := List.all_eq_true.1 h7.2 c (List.mem_range.2 hc)
        simp only [Bool.or_eq_true, beq_iff_eq, hcj, Bool.not_true, Bool.false_eq_true, or_false] at h8
        exact h8
  have hvr : ∀ j, n ≤ j → j < n + m → n ≤ rel j := fun j h1 h2 => by
    have := List.all_eq_true.1 hvirt (j - n) (List.mem_range.2 (by omega))
    simpa [Nat.add_sub_cancel' h1] using this
  have main : ∀ (q : Nat) (listed : Array Bool) (A : Act) (w' : World) (vs : Nat → Value), OInv l.toArray n m a w Φ rel cons vs0 listed A w' vs → cnt listed n = q → wpAny P .any l.toArray Q (q + (l.toArray.size - n)) listed A w' := by
    intro q
    induction q with
    | zero =>
      intro listed A w' vs inv hc
      have hl : ∀ i, i < n → listed.getD i true = true := cnt_zero n hc
      have hlf : ∀ i, i < n → listed.getD i false = true := fun i hi => by
        have := hl i hi
        have hsz : i < listed.size := by rw [inv.head.size]; omega
        simpa [hsz] using this
      have el : listed = ((List.range l.toArray.size).map fun i => decide (i < n)).toArray := by
        apply Array.ext
        · simp [inv.head.size]
        · intro i h1 h2
          by_cases hi : i < n
          · have := hl i hi
            simp only [Array.getD_eq_getD_getElem?, Array.getElem?_eq_getElem h1, Option.getD_some] at this
            simp [this, hi]
          · have := inv.head.tail i (by omega) (by rw [← inv.head.size]; exact h1)
            simp only [Array.getD_eq_getD_getElem?, Array.getElem?_eq_getElem h1, Option.getD_some] at this
            simp [this, hi]
      have eA : A = putAll (l.take n) vs 0 a := by
        refine act_ext (by rw [putAll_size, inv.size]) (by rw [putAll_defers, inv.defers]) fun s hs => ?_
        have H := putAll_eval A s (l.take n) vs 0 a (by rw [← inv.size]; exact hs) (fun j o hj hd => by
          have hjn : j < n := by
            have := (List.getElem?_eq_some_iff.1 hj).1
            simp at this
            omega
          have : l.toArray[j]? = some o := by simpa [hjn] using hj
          rw [Nat.zero_add]
          exact (inv.ins j hjn o s this (hlf j hjn) hd).symm)
        by_cases he : ∃ o ∈ l.take n, o.dst = some s
        · exact (H.1 he).symm
        · rw [H.2 (fun o h h' => he ⟨o, h, h'⟩)]
          refine inv.out s fun j hj o ho _ hd => he ⟨o, ?_, hd⟩
          rw [List.mem_take_iff_getElem]
          have hjl := (Array.getElem?_eq_some_iff.1 ho)
          obtain ⟨h1, h2⟩ := hjl
          exact ⟨j, by simp at h1; omega, by simpa using h2⟩
      rw [Nat.zero_add]
      have lv : ∀ j, lastB n cons j = true → j < n + m → Live n cons listed j := fun j hj hjm => ⟨by
        rcases Nat.lt_or_ge j n with h | h
        · exact .inr (hlf j h)
        · exact .inl h, fun c hc hcj => by
          have := List.all_eq_true.1 hj c (List.mem_range.2 hc)
          rw [hcj] at this
          cases this⟩
      have := wpAny_of_seq (md := .any) (Q' := Q) (P := P) (ops := l.toArray) (l.drop n) n listed A w' (fun j => by simp [List.getElem?_drop]) (by
        rw [el]
        have : (l.drop n).length = l.toArray.size - n := by simp
        rw [this]
        exact hseq) (by
        rw [eA]
        exact fin vs w' inv.kept inv.virt (fun j hj hl => inv.word j hj (lv j hl hj)) (fun j k hj hk hjk h1 h2 => inv.dis j k hj hk hjk (lv j h1 hj) (lv k h2 hk)) (fun j hj hl => inv.fresh j hj (lv j hl hj)))
      have e2 : (l.drop n).length = l.toArray.size - n := by simp
      rwa [e2] at this
    | succ q ih =>
      intro listed A w' vs inv hc
      rw [show q + 1 + (l.toArray.size - n) = (q + (l.toArray.size - n)) + 1 by omega]
      obtain ⟨i0, hi0, hun0, hprev⟩ := cnt_first n (by rw [hc]; omega)
      have hready0 : i0 ∈ Region.ready .any l.toArray listed := by
        obtain ⟨o, ho, _, hlt, _⟩ := hal i0 hi0
        refine mem_ready.2 ⟨hun0, o, ho, fun e he hb => ?_⟩
        have h1 := hlt e he hb
        have h2 := hprev e.on h1
        have hsz : e.on < listed.size := by rw [inv.head.size]; have := (Array.getElem?_eq_some_iff.1 ho).1; omega
        simpa [hsz] using h2
      refine ⟨fun h => (by rw [h] at hready0; cases hready0), fun i hi => ?_⟩
      obtain ⟨hun, o, ho, hdeps⟩ := mem_ready.1 hi
      have hin : i < n := by
        have hsz := (Array.getElem?_eq_some_iff.1 ho).1
        omega
      obtain ⟨o', ho', hsN, hlt, hother, hrel, hcons⟩ := hal i hin
      have : o' = o := Option.some.inj (ho'.symm.trans ho)
      subst this
      have unl : ∀ j, listed.getD j false = true → j ≠ i := fun j hj e => by subst e; rw [getD_both hun] at hj; cases hj
      have hsz : i < listed.size := by rw [inv.head.size]; exact (Array.getElem?_eq_some_iff.1 ho).1
      have outs : ∀ s', outB l.toArray n i s' = true → A.eval (.tmp s') = a.eval (.tmp s') := fun s' hs' => inv.out s' fun j hj oj hoj hlj hdj => by
          have h1 := List.all_eq_true.1 hs' j (List.mem_range.2 hj)
          have hji := unl j hlj
          rw [hoj] at h1
          simp only [Option.bind_some, hdj] at h1
          simp only [Bool.or_eq_true, beq_iff_eq, bne_self_eq_false, Bool.false_eq_true, false_or] at h1
          rcases h1 with h1 | h1
          · exact hji h1
          · obtain ⟨oj', hoj', e, he, hb, hon⟩ := Region.waitsFor_spec h1
            have : oj' = oj := Option.some.inj (hoj'.symm.trans hoj)
            subst this
            have h2 := inv.head.closed j oj' hoj hlj e he hb
            rw [hon, getD_both hun] at h2
            cases h2
      have wl : ∀ j, Region.waitsFor .any l.toArray i j = true → listed.getD j false = true := fun j hw => by
          obtain ⟨oi, hoi, e, he, hb, hon⟩ := Region.waitsFor_spec hw
          have : oi = o' := Option.some.inj (hoi.symm.trans ho)
          subst this
          rw [← hon]
          exact hdeps e he hb
      have deps : ∀ j s', depB l.toArray n i j s' = true → A.eval (.tmp s') = vs j := fun j s' hs' => by
          simp only [depB, Bool.and_eq_true, decide_eq_true_eq] at hs'
          obtain ⟨⟨hj, hw⟩, hds⟩ := hs'
          have hlj := wl j hw
          cases hoj : l.toArray[j]? with
          | none => rw [hoj] at hds; simp at hds
          | some oj =>
            rw [hoj] at hds
            simp only [Option.bind_some, beq_iff_eq] at hds
            exact inv.ins j hj oj s' hoj hlj hds
      have lst' : ∀ j, j ≠ i → (listed.setIfInBounds i true).getD j false = listed.getD j false := fun j hj => getD_set_ne false (Ne.symm hj)
      -- what waits for i is not listed
      have wait : ∀ c, tw l.toArray n f c i = true → listed.getD c false = false := fun c hc => by
        cases hlc : listed.getD c false with
        | false => rfl
        | true =>
          have := tw_listed inv.head f c i (fun k' hk' => by
            obtain ⟨ok, hok, e, he, hb, hon⟩ := Region.waitsFor_spec hk'
            rw [← hon]
            exact inv.head.closed _ ok hok hlc e he hb) hc
          exact absurd rfl (unl _ this)
      have usable : ∀ j, useB l.toArray n f cons i j = true → Live n cons listed j := fun j hj => by
        simp only [useB, Bool.and_eq_true, Bool.or_eq_true, decide_eq_true_eq] at hj
        refine ⟨?_, fun c hc hcj => ?_⟩
        · rcases hj.1 with h | h
          · exact .inl h
          · exact .inr (tw_listed inv.head f i j wl h)
        · have := List.all_eq_true.1 hj.2 c (List.mem_range.2 hc)
          simp only [hcj, Bool.not_true, Bool.false_or, Bool.or_eq_true, beq_iff_eq] at this
          rcases this with h | h
          · subst h; exact getD_both hun
          · exact wait c h
      have eaten : ∀ j, (cons i).contains j = true → j < n + m ∧ Live n cons listed j := fun j hj => by
        obtain ⟨h1, h2, h3⟩ := hcons j hj
        refine ⟨h1, ?_, fun c hc hcj => ?_⟩
        · rcases h2 with h | h
          · exact .inl h
          · exact .inr (tw_listed inv.head f i j wl h)
        · rw [h3 c hc hcj]; exact getD_both hun
      have next : ∀ v w'', Chg (Eaten Φ rel cons vs i) w' w'' → (Φ i).p v (if rel i = i then v else vs (rel i)) w'' → (∀ b, (Φ i).fp v (if rel i = i then v else vs (rel i)) b → Eaten Φ rel cons vs i b ∨ w'.heap.size ≤ b) → wpAny P .any l.toArray Q (q + (l.toArray.size - n)) (listed.setIfInBounds i true) (A.put o'.dst v) w'' := by
        intro v w'' hch hp hfp
        have hfe : ∀ b, prot b → ¬ Eaten Φ rel cons vs i b := fun b hb ⟨j, hj, hjb⟩ => by
          obtain ⟨h1, h2⟩ := eaten j hj
          exact inv.fresh j h1 h2 b hjb hb
        -- what lives behind the step, other than i
        have old : ∀ j, j < n + m → j ≠ i → Live n cons (listed.setIfInBounds i true) j → Live n cons listed j ∧ (cons i).contains j = false := fun j hjm hji hl => by
          refine ⟨⟨?_, fun c hc hcj => ?_⟩, ?_⟩
          · rcases hl.1 with h | h
            · exact .inl h
            · exact .inr (by rw [lst' j hji] at h; exact h)
          · have := hl.2 c hc hcj
            by_cases hci : c = i
            · subst hci; exact getD_both hun
            · rw [lst' c hci] at this; exact this
          · cases hcj : (cons i).contains j with
            | false => rfl
            | true =>
              have := hl.2 i hin hcj
              simp [hsz] at this
        have rne : ∀ j, j < n + m → j ≠ i → Live n cons listed j → rel j ≠ i := fun j hjm hji hl e => by
          rcases Nat.lt_or_ge j n with h | h
          · obtain ⟨_, _, _, _, _, hr, _⟩ := hal j h
            rcases hr with hr | hr | hr
            · exact hji (hr.symm.trans e)
            · rw [e] at hr
              have := wait j hr
              rcases hl.1 with h2 | h2
              · omega
              · rw [this] at h2; cases h2
            · omega
          · have := hvr j h hjm
            omega
        have hv : ∀ j, j < n + m → j ≠ i → Live n cons listed j → (if j = i then v else vs j) = vs j ∧ (if rel j = i then v else vs (rel j)) = vs (rel j) := fun j hjm hji hl => ⟨if_neg hji, if_neg (rne j hjm hji hl)⟩
        have hvi : (if i = i then v else vs i) = v ∧ (if rel i = i then v else vs (rel i)) = (if rel i = i then v else vs (rel i)) := ⟨if_pos rfl, rfl⟩
        have fi : ∀ k, k < n + m → k ≠ i → Live n cons listed k → (cons i).contains k = false → ∀ b, (Φ i).fp v (if rel i = i then v else vs (rel i)) b → ¬ (Φ k).fp (vs k) (vs (rel k)) b := fun k hk hki hl hck b hb hkb => by
          rcases hfp b hb with ⟨j, hj, hjb⟩ | h
          · obtain ⟨h1, h2⟩ := eaten j hj
            refine inv.dis j k h1 hk (fun e => ?_) h2 hl b hjb hkb
            subst e
            rw [hj] at hck
            cases hck
          · have := (Φ k).lt _ _ _ b (inv.word k hk hl) hkb
            omega
        refine ih _ _ _ (fun k => if k = i then v else vs k) ?_ ?_
        · refine ⟨inv.head.set hi hin, inv.kept.chg hch hfe, by rw [size_put, inv.size], by rw [defers_put, inv.defers], fun s' hs' => ?_, fun j hj oj s' hoj hlj hdj => ?_, fun j hj => ?_, fun j hj hl => ?_, fun j k hj hk hjk h1 h2 b => ?_, fun j hj hl b => ?_⟩
          · rw [Act.eval_put (fun d hd' e => by
              injection e with e
              subst e
              exact hs' i hin o' ho (by simp [hsz]) hd')]
            refine inv.out s' fun j hj oj hoj hlj => hs' j hj oj hoj (getD_set_true hlj)
          · by_cases hji : j = i
            · subst hji
              have : oj = o' := Option.some.inj (hoj.symm.trans ho)
              subst this
              rw [hdj, eval_put_same (by rw [inv.size, hN]; exact hsN s' hdj), if_pos rfl]
            · have hlj' : listed.getD j false = true := by rw [lst' j hji] at hlj; exact hlj
              rw [Act.eval_put (fun d hd' e => by
                injection e with e
                exact hother j hj hji oj hoj d s' hd' hdj e.symm)]
              rw [if_neg hji]
              exact inv.ins j hj oj s' hoj hlj' hdj
          · show (if j = i then v else vs j) = vs0 j
            rw [if_neg (by omega)]
            exact inv.virt j hj
          · by_cases hji : j = i
            · subst hji
              show (Φ j).p (if j = j then v else vs j) (if rel j = j then v else vs (rel j)) w''
              rw [if_pos rfl]
              exact hp
            · obtain ⟨hlo, hnc⟩ := old j hj hji hl
              obtain ⟨e1, e2⟩ := hv j hj hji hlo
              show (Φ j).p (if j = i then v else vs j) (if rel j = i then v else vs (rel j)) w''
              rw [e1, e2]
              refine (Φ j).keep _ _ _ _ (inv.word j hj hlo) (Kept.of_chg hch fun b hb => ?_)
              rcases hb with hb | hb
              · rintro ⟨k, hk, hkb⟩
                obtain ⟨h3, h4⟩ := eaten k hk
                refine inv.dis k j h3 hj (fun e => ?_) h4 hlo b hkb hb
                subst e
                rw [hk] at hnc
                cases hnc
              · exact hfe b hb
          · show (Φ j).fp (if j = i then v else vs j) (if rel j = i then v else vs (rel j)) b → ¬ (Φ k).fp (if k = i then v else vs k) (if rel k = i then v else vs (rel k)) b
            by_cases hji : j = i
            · subst hji
              have hkj : k ≠ j := fun e => hjk e.symm
              obtain ⟨hlo, hnc⟩ := old k hk hkj h2
              obtain ⟨e1, e2⟩ := hv k hk hkj hlo
              rw [if_pos rfl, e1, e2]
              exact fi k hk hkj hlo hnc b
            · obtain ⟨hlo, hnc⟩ := old j hj hji h1
              obtain ⟨e1, e2⟩ := hv j hj hji hlo
              rw [e1, e2]
              by_cases hki : k = i
              · subst hki
                rw [if_pos rfl]
                exact fun x y => fi j hj hji hlo hnc b y x
              · obtain ⟨hlk, _⟩ := old k hk hki h2
                obtain ⟨e3, e4⟩ := hv k hk hki hlk
                rw [e3, e4]
                exact inv.dis j k hj hk hjk hlo hlk b
          · show (Φ j).fp (if j = i then v else vs j) (if rel j = i then v else vs (rel j)) b → ¬ prot b
            by_cases hji : j = i
            · subst hji
              rw [if_pos rfl]
              intro hb hpb
              rcases hfp b hb with h | h
              · exact hfe b hpb h
              · have := hprot b hpb
                have := inv.kept.size
                omega
            · obtain ⟨hlo, _⟩ := old j hj hji hl
              obtain ⟨e1, e2⟩ := hv j hj hji hlo
              rw [e1, e2]
              exact inv.fresh j hj hlo b
        · have := cnt_set hun n
          rw [if_pos hin] at this
          omega
      have hs := step i hin o' (by simpa using ho) A w' vs ⟨inv.kept, outs, deps, inv.virt, fun j hj hu => inv.word j hj (usable j hu), fun j k hj hk hjk h1 h2 => inv.dis j k hj hk hjk (usable j h1) (usable k h2), fun j hj hu => inv.fresh j hj (usable j hu)⟩ (wpAny P .any l.toArray Q (q + (l.toArray.size - n)) (listed.setIfInBounds i true)) next
      unfold wpOp
      rw [ho]
      simp only
      split
      · rename_i hw
        rw [if_pos hw] at hs
        exact .inl hs
      · rename_i hw
        rw [if_neg hw] at hs
        exact hs
  refine wp_region_any hm ?_
  have nl : ∀ j, Live n cons (Array.replicate l.toArray.size false) j → n ≤ j := fun j hj => by
    rcases hj.1 with h | h
    · exact h
    · rw [getD_replicate_false] at h; cases h
  have H := main n (Array.replicate l.toArray.size false) a w.drew vs0 ⟨⟨by simp, fun j oj _ hl => (by rw [getD_replicate_false] at hl; cases hl), fun t _ ht => getD_in (by simpa using ht) (getD_replicate_false _ _)⟩,
    ⟨rfl, rfl, rfl, Nat.le_refl _, fun _ _ _ => rfl⟩, rfl, rfl, fun s _ => rfl, fun j hj o s _ hl => (by rw [getD_replicate_false] at hl; cases hl), fun _ _ => rfl,
    fun j hj hl => by
      have h1 := nl j hl
      have := w0 (j - n) (by omega)
      rw [Nat.add_sub_cancel' h1] at this
      exact (Φ j).keep _ _ _ _ this ⟨rfl, rfl, rfl, Nat.le_refl _, fun _ _ _ => rfl⟩,
    fun j k hj hk hjk h1 h2 => by
      have h3 := nl j h1
      have h4 := nl k h2
      have := d0 (j - n) (k - n) (by omega) (by omega) (by omega)
      rw [Nat.add_sub_cancel' h3, Nat.add_sub_cancel' h4] at this
      exact this,
    fun j hj hl => by
      have h1 := nl j hl
      have := f0 (j - n) (by omega)
      rw [Nat.add_sub_cancel' h1] at this
      exact this⟩ (cnt_init _ n (by omega))
  rw [show n + (l.toArray.size - n) = l.toArray.size by omega] at H
  exact H
end
end Go.Proofs.Ytfmkndemkpecpaa
