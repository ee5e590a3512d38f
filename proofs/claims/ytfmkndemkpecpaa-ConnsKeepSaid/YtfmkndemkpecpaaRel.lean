/- A region that draws its order, by what each operation's value is good for: every operation reads, or makes memory, and changes nothing that was there; a tail may follow in its order. -/
import Derived.Test.YtfmkndemkpecpaaBase
import Derived.Deep.RegionHeld3
import Derived.Deep.Upon
import Derived.Deep.AppendSrc
namespace Go.Proofs.Ytfmkndemkpecpaa
open Go.RowKit Go.ChangeShapes Go.WideShapes
set_option linter.unusedVariables false

/-- w' is w with more blocks -/
def Ex (w w' : World) : Prop := ∃ x : Ext, w' = plus w x.bs x.d
theorem Ex.refl (w : World) : Ex w w := ⟨⟨[], w.drawn⟩, by simp [plus]⟩
theorem Ex.trans {a b c : World} (h : Ex a b) (h' : Ex b c) : Ex a c := by
  obtain ⟨x, rfl⟩ := h
  obtain ⟨y, rfl⟩ := h'
  exact ⟨⟨x.bs ++ y.bs, y.d⟩, plus_plus _ _ _ _ _⟩
theorem Ex.of {w w' : World} (h : Below w.heap.size w w') : Ex w w' := by
  obtain ⟨bs, d, rfl⟩ := plus_of h
  exact ⟨⟨bs, d⟩, rfl⟩
theorem Ex.below {w w' : World} (h : Ex w w') : Below w.heap.size w w' := by
  obtain ⟨x, rfl⟩ := h
  exact below_plus _ _ _
theorem Ex.alloc (w : World) (o : Obj) : Ex w (w.alloc o) := Ex.of ((Below.refl _ _).alloc (Nat.le_refl _) o)
theorem Ex.plus_ (w : World) (bs : List Obj) (d : Nat) : Ex w (plus w bs d) := ⟨⟨bs, d⟩, rfl⟩

/-- what a value is good for; it stays so -/
structure MP where
  p : Value → World → Prop
  mono : ∀ v w w', p v w → Ex w w' → p v w'
def MP.any : MP := ⟨fun _ _ => True, fun _ _ _ _ _ => trivial⟩
def MP.eq (c : Value) : MP := ⟨fun v _ => v = c, fun _ _ _ h _ => h⟩
def MP.rb (l : List UInt8) : MP := ⟨fun v w => ∃ A n c, v = .slice A n c ∧ Rb w A n c l, fun _ _ _ ⟨A, n, c, h1, h2⟩ h => ⟨A, n, c, h1, h2.later h.below⟩⟩
def MP.ob (base : Nat) (l : List UInt8) : MP := ⟨fun v w => ∃ A n c, v = .slice A n c ∧ Ob w base A n c l, fun _ _ _ ⟨A, n, c, h1, h2⟩ h => ⟨A, n, c, h1, h2.later h.below⟩⟩

/-- a slice without room -/
def MP.full (l : List UInt8) : MP := ⟨fun v w => ∃ A n, v = .slice A n n ∧ Rb w A n n l, fun _ _ _ ⟨A, n, h1, h2⟩ h => ⟨A, n, h1, h2.later h.below⟩⟩
/-- the same, in a block from base on -/
def MP.fullN (base : Nat) (l : List UInt8) : MP := ⟨fun v w => ∃ A n, v = .slice A n n ∧ Rb w A n n l ∧ ∀ a, A = some a → base ≤ a.block, fun _ _ _ ⟨A, n, h1, h2, h3⟩ h => ⟨A, n, h1, h2.later h.below, h3⟩⟩
def MP.rbN (base : Nat) (l : List UInt8) : MP := ⟨fun v w => ∃ A n c, v = .slice A n c ∧ Rb w A n c l ∧ ∀ a, A = some a → base ≤ a.block, fun _ _ _ ⟨A, n, c, h1, h2, h3⟩ h => ⟨A, n, c, h1, h2.later h.below, h3⟩⟩
theorem Rb.grownN {w w' : World} {A : Option Addr} {n c g base : Nat} {l : List UInt8} (h : Rb w A n c l) (hb : ∀ a, A = some a → base ≤ a.block) (hg : w.grownBy w' (some g)) (hlt : g < base) : Rb w' A n c l := by
  refine ⟨h.1, h.2.1, ?_⟩
  rcases h.2.2 with h' | ⟨b, off, hA, hbl, hc⟩
  · exact .inl h'
  · have hbb := hb _ hA
    refine .inr ⟨b, off, hA, Nat.lt_of_lt_of_le hbl hg.size, fun i u hu => ?_⟩
    exact (World.cell?_of_block (hg.block b hbl (fun e => by injection e with e; simp at hbb; omega))).trans (hc i u hu)
/-- append onto a slice without room: new memory, or nothing -/
theorem run_appF {P : Program} (w : World) {ts ty : TypeId} (bt : BT P ts 5) {A : Option Addr} {n : Nat} {l : List UInt8} (hr : Rb w A n n l)
    {A2 : Option Addr} {n2 c2 : Nat} {l2 : List UInt8} (hr2 : Rb w A2 n2 c2 l2) (hm : n + n2 ≤ 1099511627776) :
    ∃ A' n' c' w', (Builtin.append_ #[ts, ts] ty #[.slice A n n, .slice A2 n2 c2]).run P w = .ok (.slice A' n' c') w' ∧ Rb w' A' n' c' (l ++ l2) ∧ Ex w w' ∧ (A' = A ∨ A' = some ⟨w.heap.size, 0, none⟩) := by
  obtain ⟨i, hi, hz0, hz1, hz2⟩ := info_parts bt.info
  have hsrc : Src P i.size ts (.slice A2 n2 c2) n2 (bcs l2) w := by
    rw [hz1]
    cases A2 with
    | none =>
      have hl2 : l2 = [] := by
        rcases hr2.2.2 with h | ⟨b, off, h, _⟩
        · exact bcs_nil h
        · cases h
      subst hl2
      obtain rfl : n2 = 0 := hr2.1.symm
      exact Src.ofNil w bt.sl c2
    | some ad =>
      refine Src.ofSlice w bt.sl ad n2 c2 (bcs l2) (by rw [bcs_length, hr2.1, Nat.mul_one]) (fun j u hu => ?_) (bcs_one l2)
      rcases hr2.2.2 with h | ⟨b, off, h, _, hc⟩
      · rw [h] at hu; simp at hu
      · injection h with h
        subst h
        rw [add_plain]
        exact hc j u hu
  by_cases h0 : n2 = 0
  · subst h0
    obtain rfl : l2 = [] := List.eq_nil_of_length_eq_zero hr2.1
    exact ⟨A, n, n, w, run_append_nothing w ts ts ty 5 i bt.sl hi A n n (Nat.le_refl _) _ hsrc, by simpa using hr, Ex.refl _, .inl rfl⟩
  · have hold : (Builtin.firstCells i.size n (.slice A n n)).run P w.drew = .ok (bcs l).toArray w.drew := by
      rw [hz1]
      cases A with
      | none =>
        have hl : l = [] := by
          rcases hr.2.2 with h | ⟨b, off, h, _⟩
          · exact bcs_nil h
          · cases h
        subst hl
        exact run_firstCells_none w.drew 1 n n n
      | some ad =>
        refine run_firstCells_some w.drew 1 n ad n n (bcs l) (by rw [bcs_length, hr.1, Nat.mul_one]) (fun j u hu => ?_)
        rcases hr.2.2 with h | ⟨b, off, h, _, hc⟩
        · rw [h] at hu; simp at hu
        · injection h with h
          subst h
          rw [add_plain]
          exact hc j u hu
    have H := run_append_grow_src (P := P) w ts ts ty 5 i (.int .u8 0) bt.sl hi hz0 A n n (bcs l) hold _ n2 (bcs l2) hsrc (by omega) (by omega) (growslice_fits (by omega) (by rw [hz2]; omega))
    refine ⟨_, _, _, _, H, ⟨by rw [List.length_append, hr.1, hr2.1], grownCap_ge w _ _ _, .inr ⟨w.heap.size, 0, rfl, by simp, fun j u hu => ?_⟩⟩, Ex.of ((Below.refl _ _).drew.alloc (Nat.le_refl _) _), .inr rfl⟩
    rw [Nat.zero_add]
    have hj : j < (bcs (l ++ l2)).length := (List.getElem?_eq_some_iff.1 hu).1
    have hb := Bk.new w.drew 5 ((bcs l ++ bcs l2).toArray ++ Builtin.zeroCells (Value.int .u8 0).cells (grownCap w (n + n2) n 5 - (n + n2)))
    have hc := hb.cell j
    rw [bcs_append] at hu hj
    simp only [World.size_drew, Array.toList_append, List.getElem?_append_left hj, hu] at hc
    exact hc

section
variable {P : Program} {ops : Array Oper} {Q : Exit → Act → World → Prop}

def cnt (listed : Array Bool) : Nat → Nat
  | 0 => 0
  | n + 1 => cnt listed n + (if listed.getD n true then 0 else 1)
theorem cnt_set {listed : Array Bool} {i : Nat} (hi : listed.getD i true = false) : ∀ n, cnt (listed.setIfInBounds i true) n + (if i < n then 1 else 0) = cnt listed n
  | 0 => by simp [cnt]
  | n + 1 => by
    have ih := cnt_set hi n
    have hs : i < listed.size := by
      rcases Nat.lt_or_ge i listed.size with h | h
      · exact h
      · simp [Array.getElem?_eq_none h] at hi
    simp only [cnt]
    by_cases hn : i = n
    · subst hn
      have e : (listed.setIfInBounds i true).getD i true = true := by simp [hs]
      rw [e, hi]
      simp at ih ⊢
      omega
    · rw [getD_set_ne true hn]
      have e2 : (if i < n + 1 then 1 else 0) = (if i < n then 1 else 0) := by split <;> split <;> omega
      omega
theorem cnt_zero {listed : Array Bool} : ∀ n, cnt listed n = 0 → ∀ i, i < n → listed.getD i true = true
  | 0, _, i, h => by omega
  | n + 1, h, i, hi => by
    simp only [cnt] at h
    by_cases hn : i = n
    · subst hn
      cases hg : listed.getD i true with
      | true => rfl
      | false => rw [hg] at h; simp at h
    · exact cnt_zero n (by omega) i (by omega)
theorem cnt_first {listed : Array Bool} : ∀ n, cnt listed n ≠ 0 → ∃ i, i < n ∧ listed.getD i true = false ∧ ∀ j, j < i → listed.getD j true = true
  | 0, h => by simp [cnt] at h
  | n + 1, h => by
    by_cases h0 : cnt listed n = 0
    · refine ⟨n, by omega, ?_, fun j hj => cnt_zero n h0 j hj⟩
      simp only [cnt, h0] at h
      cases hg : listed.getD n true with
      | true => rw [hg] at h; simp at h
      | false => rfl
    · obtain ⟨i, h1, h2, h3⟩ := cnt_first n h0
      exact ⟨i, by omega, h2, h3⟩
theorem cnt_init (m : Nat) : ∀ n, n ≤ m → cnt (Array.replicate m false) n = n
  | 0, _ => rfl
  | n + 1, h => by
    simp only [cnt, cnt_init m n (by omega)]
    have : (Array.replicate m false).getD n true = false := by simp [show n < m by omega]
    rw [this]
    simp

/-- may the region be walked so: n operations ahead of the tail, N slots -/
def relB (ops : Array Oper) (n N : Nat) : Bool :=
  decide (n ≤ ops.size) && (decide (n = ops.size) || (Region.sinkB .any ops n && Region.chainB .any ops n)) &&
  Region.seqB .any ops (ops.size - n) n ((List.range ops.size).map fun i => decide (i < n)).toArray &&
  (List.range n).all fun i => match ops[i]? with
    | none => false
    | some o => (match o.dst with | some s => decide (s < N) | none => false) && (o.after.all fun e => !Region.binds .any e || decide (e.on < i)) &&
      (List.range n).all fun j => j == i || (match (ops[j]?).bind (·.dst) with | some s => o.dst != some s | none => false)
/-- what operation i sees in slot s is what lay there ahead of the region -/
def outB (ops : Array Oper) (n i s : Nat) : Bool := (List.range n).all fun j => j == i || (match (ops[j]?).bind (·.dst) with | some d => d != s || Region.waitsFor .any ops j i | none => true)
/-- operation i waits for operation j, which writes slot s -/
def depB (ops : Array Oper) (n i j s : Nat) : Bool := decide (j < n) && Region.waitsFor .any ops i j && ((ops[j]?).bind (·.dst) == some s)

def putAll : List Oper → (Nat → Value) → Nat → Act → Act
  | [], _, _, a => a
  | o :: r, vs, k, a => putAll r vs (k + 1) (a.put o.dst (vs k))

theorem eval_put_same {a : Act} {s : Nat} {v : Value} (h : s < a.tmps.size) : (a.put (some s) v).eval (.tmp s) = v := by simp [Act.put, Act.eval, h]
theorem size_put (a : Act) (d : Option Tmp) (v : Value) : (a.put d v).tmps.size = a.tmps.size := by cases d <;> simp [Act.put]
theorem defers_put (a : Act) (d : Option Tmp) (v : Value) : (a.put d v).defers = a.defers := by cases d <;> rfl
theorem putAll_size : ∀ (l : List Oper) (vs : Nat → Value) (k : Nat) (a : Act), (putAll l vs k a).tmps.size = a.tmps.size
  | [], _, _, _ => rfl
  | o :: r, vs, k, a => by rw [putAll, putAll_size r, size_put]
theorem putAll_defers : ∀ (l : List Oper) (vs : Nat → Value) (k : Nat) (a : Act), (putAll l vs k a).defers = a.defers
  | [], _, _, _ => rfl
  | o :: r, vs, k, a => by rw [putAll, putAll_defers r, defers_put]
theorem putAll_eval (A : Act) (s : Nat) : ∀ (l : List Oper) (vs : Nat → Value) (k : Nat) (a : Act), s < a.tmps.size → (∀ j o, l[j]? = some o → o.dst = some s → vs (k + j) = A.eval (.tmp s)) →
    ((∃ o ∈ l, o.dst = some s) → (putAll l vs k a).eval (.tmp s) = A.eval (.tmp s)) ∧ ((∀ o ∈ l, o.dst ≠ some s) → (putAll l vs k a).eval (.tmp s) = a.eval (.tmp s))
  | [], _, _, _, _, _ => ⟨fun ⟨o, h, _⟩ => (by cases h), fun _ => rfl⟩
  | o :: r, vs, k, a, hs, hv => by
    have ih := putAll_eval A s r vs (k + 1) (a.put o.dst (vs k)) (by rw [size_put]; exact hs) (fun j o' hj hd => by
      have := hv (j + 1) o' (by simpa using hj) hd
      rw [← this]
      congr 1
      omega)
    rw [putAll]
    constructor
    · rintro ⟨o', ho', hd⟩
      by_cases hr : ∃ o'' ∈ r, o''.dst = some s
      · exact ih.1 hr
      · rcases List.mem_cons.1 ho' with rfl | h
        · rw [ih.2 (fun o'' h h' => hr ⟨o'', h, h'⟩), hd, eval_put_same hs]
          exact hv 0 _ rfl hd
        · exact absurd ⟨o', h, hd⟩ hr
    · intro hn
      rw [ih.2 (fun o' h => hn o' (List.mem_cons_of_mem _ h)), Act.eval_put (fun d hd e => hn o (List.mem_cons_self) (by rw [hd]; injection e with e; rw [e]))]
theorem act_ext {a b : Act} (h1 : a.tmps.size = b.tmps.size) (h2 : a.defers = b.defers) (h3 : ∀ s, s < a.tmps.size → a.eval (.tmp s) = b.eval (.tmp s)) : a = b := by
  cases a with | mk ta da =>
  cases b with | mk tb db =>
  simp only at h1 h2 h3
  subst h2
  congr 1
  refine Array.ext h1 fun i hi hj => ?_
  have := h3 i hi
  simpa [Act.eval, hi, hj] using this

structure RInv (ops : Array Oper) (n : Nat) (a0 : Act) (w0 : World) (Φ : Nat → MP) (listed : Array Bool) (A : Act) (w : World) : Prop where
  head : HeadInv .any ops n listed
  ex : Ex w0 w
  size : A.tmps.size = a0.tmps.size
  defers : A.defers = a0.defers
  out : ∀ s, (∀ j, j < n → ∀ o, ops[j]? = some o → listed.getD j false = true → o.dst ≠ some s) → A.eval (.tmp s) = a0.eval (.tmp s)
  ins : ∀ j, j < n → ∀ o s, ops[j]? = some o → listed.getD j false = true → o.dst = some s → (Φ j).p (A.eval (.tmp s)) w

theorem rel_app {w : World} {o : Oper} {a : Act} {K : Act → World → Prop} {ts : TypeId} (bt : BT P ts 5) (s x : Operand)
    (ho : o.op = .call { callee := .builtin .append, args := #[s, x], argTypes := #[ts, ts] }) {A : Option Addr} {n : Nat} {l : List UInt8} (hs : a.eval s = .slice A n n) (hr : Rb w A n n l)
    {A2 : Option Addr} {n2 c2 : Nat} {l2 : List UInt8} (hx : a.eval x = .slice A2 n2 c2) (hr2 : Rb w A2 n2 c2 l2) (hm : n + n2 ≤ 1099511627776)
    (h : ∀ A' n' c' w', Ex w w' → Rb w' A' n' c' (l ++ l2) → K (a.put o.dst (.slice A' n' c')) w') : o.wp P a w K Q := by
  obtain ⟨A', n', c', w', hrun, h2, h3, _⟩ := run_appF (P := P) w (ty := o.type) bt hr hr2 hm
  unfold Oper.wp execOp
  simp only [ho, resolve, invoke, builtin, Sem.run_bind, Sem.run_pure, Result.andThen_ok, List.map_toArray, List.map_cons, List.map_nil, hs, hx, hrun]
  exact h A' n' c' w' h3 h2
theorem rel_appN {w : World} {o : Oper} {a : Act} {K : Act → World → Prop} {ts : TypeId} (bt : BT P ts 5) (s x : Operand) (base : Nat)
    (ho : o.op = .call { callee := .builtin .append, args := #[s, x], argTypes := #[ts, ts] }) {A : Option Addr} {n : Nat} {l : List UInt8} (hs : a.eval s = .slice A n n) (hr : Rb w A n n l) (hA : ∀ a, A = some a → base ≤ a.block) (hbase : base ≤ w.heap.size)
    {A2 : Option Addr} {n2 c2 : Nat} {l2 : List UInt8} (hx : a.eval x = .slice A2 n2 c2) (hr2 : Rb w A2 n2 c2 l2) (hm : n + n2 ≤ 1099511627776)
    (h : ∀ A' n' c' w', Ex w w' → Rb w' A' n' c' (l ++ l2) → (∀ a, A' = some a → base ≤ a.block) → K (a.put o.dst (.slice A' n' c')) w') : o.wp P a w K Q := by
  obtain ⟨A', n', c', w', hrun, h2, h3, h4⟩ := run_appF (P := P) w (ty := o.type) bt hr hr2 hm
  unfold Oper.wp execOp
  simp only [ho, resolve, invoke, builtin, Sem.run_bind, Sem.run_pure, Result.andThen_ok, List.map_toArray, List.map_cons, List.map_nil, hs, hx, hrun]
  refine h A' n' c' w' h3 h2 (fun a ha => ?_)
  rcases h4 with h4 | h4
  · rw [h4] at ha; exact hA a ha
  · rw [h4] at ha; injection ha with ha; subst ha; exact hbase
theorem wanted_if {o : Oper} {tmps : Array Value} {X Y : Prop} (h : o.guard = none) (hx : X) : if Region.wanted o (yielded ops tmps) = true then X else Y := by
  rw [if_pos (by simp [Region.wanted, h])]
  exact hx
theorem wp_rel {id : Nat} {a : Act} {w : World} {l : List Oper} (n N : Nat) (hN : a.tmps.size = N) (hm : P.follows .mixedOrders = true) (hB : relB l.toArray n N = true) (Φ : Nat → MP)
    (step : ∀ i, i < n → ∀ o, l[i]? = some o → ∀ (A : Act) (x : Ext), (∀ s, outB l.toArray n i s = true → A.eval (.tmp s) = a.eval (.tmp s)) → (∀ j s, depB l.toArray n i j s = true → (Φ j).p (A.eval (.tmp s)) (plus w x.bs x.d)) →
      ∀ K : Act → World → Prop, Shut (∀ v w', Ex (plus w x.bs x.d) w' → (Φ i).p v w' → K (A.put o.dst v) w') → if Region.wanted o (yielded l.toArray A.tmps) = true then o.wp P A (plus w x.bs x.d) K Q else K (A.put o.dst undef) (plus w x.bs x.d))
    (fin : ∀ (vs : Nat → Value) (x : Ext), (∀ i, i < n → (Φ i).p (vs i) (plus w x.bs x.d)) → wpList P l.toArray Q (l.drop n) (putAll (l.take n) vs 0 a) (plus w x.bs x.d)) : (Code.region id l.toArray true).wp P Q a w := by
  unfold relB at hB
  simp only [Bool.and_eq_true, decide_eq_true_eq] at hB
  obtain ⟨⟨⟨hn, htail⟩, hseq⟩, hall⟩ := hB
  have hal : ∀ i, i < n → ∃ o s, l.toArray[i]? = some o ∧ o.dst = some s ∧ s < N ∧ (∀ e ∈ o.after, Region.binds .any e = true → e.on < i) ∧ ∀ j, j < n → j ≠ i → ∃ oj sj, l.toArray[j]? = some oj ∧ oj.dst = some sj ∧ sj ≠ s := by
    intro i hi
    have h1 := List.all_eq_true.1 hall i (List.mem_range.2 hi)
    cases ho : l.toArray[i]? with
    | none => rw [ho] at h1; cases h1
    | some o =>
      rw [ho] at h1
      simp only [Bool.and_eq_true] at h1
      obtain ⟨⟨h2, h3⟩, h4⟩ := h1
      cases hd : o.dst with
      | none => rw [hd] at h2; cases h2
      | some s =>
        rw [hd] at h2 h4
        refine ⟨o, s, rfl, hd, by simpa using h2, fun e he hb => ?_, fun j hj hji => ?_⟩
        · have := (Array.all_eq_true_iff_forall_mem.1 h3) e he
          rw [hb] at this
          simpa using this
        · have h5 := List.all_eq_true.1 h4 j (List.mem_range.2 hj)
          cases hoj : l.toArray[j]? with
          | none => rw [hoj] at h5; simp [hji] at h5
          | some oj =>
            rw [hoj] at h5
            cases hdj : oj.dst with
            | none => simp [hdj, hji] at h5
            | some sj =>
              simp [hdj, hji] at h5
              exact ⟨oj, sj, rfl, hdj, fun e => h5 e.symm⟩
  have main : ∀ (f : Nat) (listed : Array Bool) (A : Act) (w' : World), RInv l.toArray n a w Φ listed A w' → cnt listed n = f → wpAny P .any l.toArray Q (f + (l.toArray.size - n)) listed A w' := by
    intro f
    induction f with
    | zero =>
      intro listed A w' inv hc
      have hl : ∀ i, i < n → listed.getD i true = true := cnt_zero n hc
      have el : listed = ((List.range l.toArray.size).map fun i => decide (i < n)).toArray := by
        apply Array.ext
        · simp [inv.head.size]
        · intro i h1 h2
          by_cases hi : i < n
          · have := hl i hi
            simp only [Array.getD_eq_getD_getElem?, Array.getElem?_eq_getElem h1, Option.getD_some] at this
            simp [this, hi]
          · have := inv.head.tail i (by omega) (by rw [← inv.head.size]; exact h1)
            simp only [Array.getD_eq_getD_getElem?, Array.getElem?_eq_getElem h1, Option.getD_some] at this
            simp [this, hi]
      have eA : A = putAll (l.take n) (fun j => ((l.toArray[j]?).bind (·.dst)).elim undef (fun s => A.eval (.tmp s))) 0 a := by
        refine act_ext (by rw [putAll_size, inv.size]) (by rw [putAll_defers, inv.defers]) fun s hs => ?_
        have H := putAll_eval A s (l.take n) (fun j => ((l.toArray[j]?).bind (·.dst)).elim undef (fun s => A.eval (.tmp s))) 0 a (by rw [← inv.size]; exact hs) (fun j o hj hd => by
          have hjn : j < n := by
            have := (List.getElem?_eq_some_iff.1 hj).1
            simp at this
            omega
          have : l.toArray[j]? = some o := by simpa [hjn] using hj
          simp [this, hd])
        by_cases he : ∃ o ∈ l.take n, o.dst = some s
        · exact (H.1 he).symm
        · rw [H.2 (fun o h h' => he ⟨o, h, h'⟩)]
          refine inv.out s fun j hj o ho _ hd => he ⟨o, ?_, hd⟩
          rw [List.mem_take_iff_getElem]
          have hjl := (Array.getElem?_eq_some_iff.1 ho)
          obtain ⟨h1, h2⟩ := hjl
          exact ⟨j, by simp at h1; omega, by simpa using h2⟩
      rw [Nat.zero_add]
      obtain ⟨x, rfl⟩ := inv.ex
      have := wpAny_of_seq (md := .any) (Q' := Q) (P := P) (ops := l.toArray) (l.drop n) n listed A (plus w x.bs x.d) (fun j => by simp [List.getElem?_drop]) (by
        rw [el]
        have : (l.drop n).length = l.toArray.size - n := by simp
        rw [this]
        exact hseq) (by
        rw [eA]
        refine fin _ x fun i hi => ?_
        obtain ⟨o, s, ho, hd, _⟩ := hal i hi
        have hli : listed.getD i false = true := by
          have := hl i hi
          have hsz : i < listed.size := by rw [inv.head.size]; exact (Array.getElem?_eq_some_iff.1 ho).1
          simpa [hsz] using this
        have := inv.ins i hi o s ho hli hd
        simpa [ho, hd] using this)
      have e2 : (l.drop n).length = l.toArray.size - n := by simp
      rwa [e2] at this
    | succ f ih =>
      intro listed A w' inv hc
      rw [show f + 1 + (l.toArray.size - n) = (f + (l.toArray.size - n)) + 1 by omega]
      obtain ⟨i0, hi0, hun0, hprev⟩ := cnt_first n (by rw [hc]; omega)
      have hready0 : i0 ∈ Region.ready .any l.toArray listed := by
        obtain ⟨o, s, ho, hd, _, hlt, _⟩ := hal i0 hi0
        refine mem_ready.2 ⟨hun0, o, ho, fun e he hb => ?_⟩
        have h1 := hlt e he hb
        have h2 := hprev e.on h1
        have hsz : e.on < listed.size := by rw [inv.head.size]; have := (Array.getElem?_eq_some_iff.1 ho).1; omega
        simpa [hsz] using h2
      refine ⟨fun h => (by rw [h] at hready0; cases hready0), fun i hi => ?_⟩
      obtain ⟨hun, o, ho, hdeps⟩ := mem_ready.1 hi
      have hin : i < n := by
        rcases Nat.lt_or_ge i n with h | h
        · exact h
        · have hsz := (Array.getElem?_eq_some_iff.1 ho).1
          simp only [Bool.or_eq_true, decide_eq_true_eq, Bool.and_eq_true] at htail
          rcases htail with ht | ht
          · omega
          · exact absurd hi (tail_waits ht.1 ht.2 (by omega) inv.head _ i0 rfl hi0 hun0 i h)
      obtain ⟨o', s, ho', hd, hsN, hlt, hother⟩ := hal i hin
      have : o' = o := Option.some.inj (ho'.symm.trans ho)
      subst this
      obtain ⟨x, rfl⟩ := inv.ex
      have unl : ∀ j, listed.getD j false = true → j ≠ i := fun j hj e => by subst e; rw [getD_both hun] at hj; cases hj
      have hstep := step i hin o' (by simpa using ho) A x (fun s' hs' => inv.out s' fun j hj oj hoj hlj hdj => by
          have h1 := List.all_eq_true.1 hs' j (List.mem_range.2 hj)
          have hji := unl j hlj
          rw [hoj] at h1
          simp only [Option.bind_some, hdj] at h1
          simp only [Bool.or_eq_true, beq_iff_eq, bne_self_eq_false, Bool.false_eq_true, false_or] at h1
          rcases h1 with h1 | h1
          · exact hji h1
          · obtain ⟨oj', hoj', e, he, hb, hon⟩ := Region.waitsFor_spec h1
            have : oj' = oj := Option.some.inj (hoj'.symm.trans hoj)
            subst this
            have h2 := inv.head.closed j oj' hoj hlj e he hb
            rw [hon, getD_both hun] at h2
            cases h2)
        (fun j s' hs' => by
          simp only [depB, Bool.and_eq_true, decide_eq_true_eq] at hs'
          obtain ⟨⟨hj, hw⟩, hds⟩ := hs'
          obtain ⟨oi, hoi, e, he, hb, hon⟩ := Region.waitsFor_spec hw
          have : oi = o' := Option.some.inj (hoi.symm.trans ho)
          subst this
          have hlj := hdeps e he hb
          rw [hon] at hlj
          cases hoj : l.toArray[j]? with
          | none => rw [hoj] at hds; simp at hds
          | some oj =>
            rw [hoj] at hds
            simp only [Option.bind_some, beq_iff_eq] at hds
            exact inv.ins j hj oj s' hoj hlj hds)
      have next : ∀ v w'', Ex (plus w x.bs x.d) w'' → (Φ i).p v w'' → wpAny P .any l.toArray Q (f + (l.toArray.size - n)) (listed.setIfInBounds i true) (A.put o'.dst v) w'' := by
        intro v w'' hex hp
        refine ih _ _ _ ?_ ?_
        · refine ⟨inv.head.set hi hin, (Ex.plus_ w x.bs x.d).trans hex, by rw [size_put, inv.size], by rw [defers_put, inv.defers], fun s' hs' => ?_, fun j hj oj s' hoj hlj hdj => ?_⟩
          · have hne : s ≠ s' := fun e => by
              subst e
              refine hs' i hin o' ho ?_ hd
              have hsz : i < listed.size := by rw [inv.head.size]; exact (Array.getElem?_eq_some_iff.1 ho).1
              simp [hsz]
            rw [Act.eval_put (fun d hd' e => by rw [hd] at hd'; injection hd' with hd'; injection e with e; exact hne (hd'.trans e.symm))]
            refine inv.out s' fun j hj oj hoj hlj => hs' j hj oj hoj (getD_set_true hlj)
          · by_cases hji : j = i
            · subst hji
              have : oj = o' := Option.some.inj (hoj.symm.trans ho)
              subst this
              rw [hd] at hdj
              injection hdj with hdj
              subst hdj
              rw [hd, eval_put_same (by rw [inv.size, hN]; exact hsN)]
              exact hp
            · have hlj' : listed.getD j false = true := by rw [getD_set_ne false (Ne.symm hji)] at hlj; exact hlj
              obtain ⟨oj', sj, hoj', hdj', hne⟩ := hother j hj hji
              have : oj' = oj := Option.some.inj (hoj'.symm.trans hoj)
              subst this
              rw [hdj] at hdj'
              injection hdj' with hdj'
              subst hdj'
              rw [Act.eval_put (fun d hd' e => by rw [hd] at hd'; injection hd' with hd'; injection e with e; exact hne (e.trans hd'.symm))]
              exact (Φ j).mono _ _ _ (inv.ins j hj oj' s' hoj hlj' hdj) hex
        · have := cnt_set hun n
          rw [if_pos hin] at this
          omega
      have hs := hstep _ next
      unfold wpOp
      rw [ho]
      simp only
      split
      · rename_i hw
        rw [if_pos hw] at hs
        exact .inl hs
      · rename_i hw
        rw [if_neg hw] at hs
        exact hs
  refine wp_region_any hm ?_
  have h0 : ({ w with drawn := w.drawn + 1 } : World) = w.drew := rfl
  have H := main n (Array.replicate l.toArray.size false) a w.drew ⟨⟨by simp, fun j oj _ hl => (by rw [getD_replicate_false] at hl; cases hl), fun t _ ht => getD_in (by simpa using ht) (getD_replicate_false _ _)⟩,
    ⟨⟨[], w.drawn + 1⟩, by show ({ w with drawn := w.drawn + 1 } : World) = _; simp [plus]⟩, rfl, rfl, fun s _ => rfl, fun j hj o s _ hl => (by rw [getD_replicate_false] at hl; cases hl)⟩ (cnt_init _ n hn)
  rw [show n + (l.toArray.size - n) = l.toArray.size by omega] at H
  exact H
/-! ### The same, with operations that hold no memory taken as soon as they may be: they may stand behind the tail's first -/
def sinkE (ops : Array Oper) (n : Nat) (pu : List Nat) : Bool :=
  (List.range n).all fun i => pu.contains i || (List.range (n + 1)).any fun j => decide (i < j) && (j == n || !pu.contains j) && Region.waitsFor .any ops j i
theorem tail_waitsE {n : Nat} {pu : List Nat} {listed : Array Bool} (hs : sinkE ops n pu = true) (hc : Region.chainB .any ops n = true) (inv : HeadInv .any ops n listed) :
    ∀ (d i : Nat), n - i = d → i < n → pu.contains i = false → listed.getD i true = false → ∀ t, n ≤ t → t ∉ Region.ready .any ops listed := by
  intro d
  induction d using Nat.strongRecOn with
  | _ d ih =>
    intro i hd hi hpu hun t ht hr
    obtain ⟨_, ot, hot, hall⟩ := mem_ready.1 hr
    have htlt : t < ops.size := (Array.getElem?_eq_some_iff.1 hot).1
    by_cases htn : t = n
    · subst htn
      have h1 := List.all_eq_true.1 hs i (List.mem_range.2 hi)
      rw [hpu, Bool.false_or] at h1
      obtain ⟨j, hj, hj2⟩ := List.any_eq_true.1 h1
      simp only [Bool.and_eq_true, decide_eq_true_eq] at hj2
      obtain ⟨⟨hij, hjp⟩, hw⟩ := hj2
      obtain ⟨oj, hoj, e, he, hb, hon⟩ := Region.waitsFor_spec hw
      have hjle : j ≤ t := by have := List.mem_range.1 hj; omega
      by_cases hjt : j = t
      · subst hjt
        have : oj = ot := Option.some.inj (hoj.symm.trans hot)
        subst this
        have h2 := hall e he hb
        rw [hon, getD_both hun] at h2
        cases h2
      · cases hl : listed.getD j false with
        | true =>
          have h2 := inv.closed j oj hoj hl e he hb
          rw [hon, getD_both hun] at h2
          cases h2
        | false =>
          have hjs : j < listed.size := by rw [inv.size]; omega
          have hpj : pu.contains j = false := by
            simp only [Bool.or_eq_true, beq_iff_eq, hjt, false_or, Bool.not_eq_true'] at hjp
            exact hjp
          exact ih (t - j) (by omega) j rfl (by omega) hpj (getD_in hjs hl) t (Nat.le_refl _) hr
    · have h1 := List.all_eq_true.1 hc t (List.mem_range.2 htlt)
      simp only [Bool.or_eq_true, decide_eq_true_eq] at h1
      rcases h1 with h1 | h1
      · omega
      · obtain ⟨o', ho', e, he, hb, hon⟩ := Region.waitsFor_spec h1
        have : o' = ot := Option.some.inj (ho'.symm.trans hot)
        subst this
        have h2 := hall e he hb
        rw [hon, getD_both (inv.tail (t - 1) (by omega) (by omega))] at h2
        cases h2
def relE (ops : Array Oper) (n N : Nat) (pu : List Nat) : Bool :=
  decide (n ≤ ops.size) && Region.noSelect ops && sinkE ops n pu && Region.chainB .any ops n &&
  Region.seqB .any ops (ops.size - n) n ((List.range ops.size).map fun i => decide (i < n)).toArray &&
  ((List.range n).all fun i => match ops[i]? with
    | none => false
    | some o => (match o.dst with | some s => decide (s < N) | none => false) && (o.after.all fun e => !Region.binds .any e || decide (e.on < i)) &&
      (List.range n).all fun j => j == i || (match (ops[j]?).bind (·.dst) with | some s => o.dst != some s | none => false)) &&
  pu.all fun i => match ops[i]? with
    | none => false
    | some oi => (List.range ops.size).all fun j => j == i || (match ops[j]? with | some oj => Region.waitsFor .any ops j i || Region.waitsFor .any ops i j || oi.apart ops oj | none => true)

theorem wp_relE {id : Nat} {a : Act} {w : World} {l : List Oper} (n N : Nat) (pu : List Nat) (hN : a.tmps.size = N) (hm : P.follows .mixedOrders = true) (hB : relE l.toArray n N pu = true) (Φ : Nat → MP)
    (step : ∀ i, i < n → ∀ o, l[i]? = some o → ∀ (A : Act) (x : Ext), (∀ s, outB l.toArray n i s = true → A.eval (.tmp s) = a.eval (.tmp s)) → (∀ j s, depB l.toArray n i j s = true → (Φ j).p (A.eval (.tmp s)) (plus w x.bs x.d)) →
      if pu.contains i = true then ∃ v, Yields P l.toArray o v A ∧ (Φ i).p v (plus w x.bs x.d) else
      ∀ K : Act → World → Prop, Shut (∀ v w', Ex (plus w x.bs x.d) w' → (Φ i).p v w' → K (A.put o.dst v) w') → if Region.wanted o (yielded l.toArray A.tmps) = true then o.wp P A (plus w x.bs x.d) K (NoPanic Q) else K (A.put o.dst undef) (plus w x.bs x.d))
    (fin : ∀ (vs : Nat → Value) (x : Ext), (∀ i, i < n → (Φ i).p (vs i) (plus w x.bs x.d)) → wpList P l.toArray (NoPanic Q) (l.drop n) (putAll (l.take n) vs 0 a) (plus w x.bs x.d)) : (Code.region id l.toArray true).wp P Q a w := by
  unfold relE at hB
  simp only [Bool.and_eq_true, decide_eq_true_eq] at hB
  obtain ⟨⟨⟨⟨⟨⟨hn, hsel⟩, hsink⟩, hchain⟩, hseq⟩, hall⟩, hpure⟩ := hB
  have hal : ∀ i, i < n → ∃ o s, l.toArray[i]? = some o ∧ o.dst = some s ∧ s < N ∧ (∀ e ∈ o.after, Region.binds .any e = true → e.on < i) ∧ ∀ j, j < n → j ≠ i → ∃ oj sj, l.toArray[j]? = some oj ∧ oj.dst = some sj ∧ sj ≠ s := by
    intro i hi
    have h1 := List.all_eq_true.1 hall i (List.mem_range.2 hi)
    cases ho : l.toArray[i]? with
    | none => rw [ho] at h1; cases h1
    | some o =>
      rw [ho] at h1
      simp only [Bool.and_eq_true] at h1
      obtain ⟨⟨h2, h3⟩, h4⟩ := h1
      cases hd : o.dst with
      | none => rw [hd] at h2; cases h2
      | some s =>
        rw [hd] at h2 h4
        refine ⟨o, s, rfl, hd, by simpa using h2, fun e he hb => ?_, fun j hj hji => ?_⟩
        · have := (Array.all_eq_true_iff_forall_mem.1 h3) e he
          rw [hb] at this
          simpa using this
        · have h5 := List.all_eq_true.1 h4 j (List.mem_range.2 hj)
          cases hoj : l.toArray[j]? with
          | none => rw [hoj] at h5; simp [hji] at h5
          | some oj =>
            rw [hoj] at h5
            cases hdj : oj.dst with
            | none => simp [hdj, hji] at h5
            | some sj =>
              simp [hdj, hji] at h5
              exact ⟨oj, sj, rfl, hdj, fun e => h5 e.symm⟩
  refine wp_region_noPanic ?_
  have main : ∀ (f : Nat) (listed : Array Bool) (A : Act) (w' : World), RInv l.toArray n a w Φ listed A w' → cnt listed n = f → wpAny P .any l.toArray (NoPanic Q) (f + (l.toArray.size - n)) listed A w' := by
    intro f
    induction f with
    | zero =>
      intro listed A w' inv hc
      have hl : ∀ i, i < n → listed.getD i true = true := cnt_zero n hc
      have el : listed = ((List.range l.toArray.size).map fun i => decide (i < n)).toArray := by
        apply Array.ext
        · simp [inv.head.size]
        · intro i h1 h2
          by_cases hi : i < n
          · have := hl i hi
            simp only [Array.getD_eq_getD_getElem?, Array.getElem?_eq_getElem h1, Option.getD_some] at this
            simp [this, hi]
          · have := inv.head.tail i (by omega) (by rw [← inv.head.size]; exact h1)
            simp only [Array.getD_eq_getD_getElem?, Array.getElem?_eq_getElem h1, Option.getD_some] at this
            simp [this, hi]
      have eA : A = putAll (l.take n) (fun j => ((l.toArray[j]?).bind (·.dst)).elim undef (fun s => A.eval (.tmp s))) 0 a := by
        refine act_ext (by rw [putAll_size, inv.size]) (by rw [putAll_defers, inv.defers]) fun s hs => ?_
        have H := putAll_eval A s (l.take n) (fun j => ((l.toArray[j]?).bind (·.dst)).elim undef (fun s => A.eval (.tmp s))) 0 a (by rw [← inv.size]; exact hs) (fun j o hj hd => by
          have hjn : j < n := by
            have := (List.getElem?_eq_some_iff.1 hj).1
            simp at this
            omega
          have : l.toArray[j]? = some o := by simpa [hjn] using hj
          simp [this, hd])
        by_cases he : ∃ o ∈ l.take n, o.dst = some s
        · exact (H.1 he).symm
        · rw [H.2 (fun o h h' => he ⟨o, h, h'⟩)]
          refine inv.out s fun j hj o ho _ hd => he ⟨o, ?_, hd⟩
          rw [List.mem_take_iff_getElem]
          have hjl := (Array.getElem?_eq_some_iff.1 ho)
          obtain ⟨h1, h2⟩ := hjl
          exact ⟨j, by simp at h1; omega, by simpa using h2⟩
      rw [Nat.zero_add]
      obtain ⟨x, rfl⟩ := inv.ex
      have := wpAny_of_seq (md := .any) (Q' := NoPanic Q) (P := P) (ops := l.toArray) (l.drop n) n listed A (plus w x.bs x.d) (fun j => by simp [List.getElem?_drop]) (by
        rw [el]
        have : (l.drop n).length = l.toArray.size - n := by simp
        rw [this]
        exact hseq) (by
        rw [eA]
        refine fin _ x fun i hi => ?_
        obtain ⟨o, s, ho, hd, _⟩ := hal i hi
        have hli : listed.getD i false = true := by
          have := hl i hi
          have hsz : i < listed.size := by rw [inv.head.size]; exact (Array.getElem?_eq_some_iff.1 ho).1
          simpa [hsz] using this
        have := inv.ins i hi o s ho hli hd
        simpa [ho, hd] using this)
      have e2 : (l.drop n).length = l.toArray.size - n := by simp
      rwa [e2] at this
    | succ f ih =>
      intro listed A w' inv hc
      rw [show f + 1 + (l.toArray.size - n) = (f + (l.toArray.size - n)) + 1 by omega]
      obtain ⟨i0, hi0, hun0, hprev⟩ := cnt_first n (by rw [hc]; omega)
      have hready0 : i0 ∈ Region.ready .any l.toArray listed := by
        obtain ⟨o, s, ho, hd, _, hlt, _⟩ := hal i0 hi0
        refine mem_ready.2 ⟨hun0, o, ho, fun e he hb => ?_⟩
        have h1 := hlt e he hb
        have h2 := hprev e.on h1
        have hsz : e.on < listed.size := by rw [inv.head.size]; have := (Array.getElem?_eq_some_iff.1 ho).1; omega
        simpa [hsz] using h2
      obtain ⟨x, rfl⟩ := inv.ex
      -- what an operation's step says, at a state that is reached
      have facts : ∀ i, i < n → i ∈ Region.ready .any l.toArray listed → ∃ o s, l.toArray[i]? = some o ∧ l[i]? = some o ∧ o.dst = some s ∧ listed.getD i true = false ∧
          (∀ s', outB l.toArray n i s' = true → A.eval (.tmp s') = a.eval (.tmp s')) ∧ (∀ j s', depB l.toArray n i j s' = true → (Φ j).p (A.eval (.tmp s')) (plus w x.bs x.d)) ∧
          ∀ v w'', Ex (plus w x.bs x.d) w'' → (Φ i).p v w'' → wpAny P .any l.toArray (NoPanic Q) (f + (l.toArray.size - n)) (listed.setIfInBounds i true) (A.put o.dst v) w'' := by
        intro i hin hi
        obtain ⟨hun, o', ho, hdeps⟩ := mem_ready.1 hi
        obtain ⟨o2, s, ho', hd, hsN, hlt, hother⟩ := hal i hin
        have : o2 = o' := Option.some.inj (ho'.symm.trans ho)
        subst this
        have unl : ∀ j, listed.getD j false = true → j ≠ i := fun j hj e => by subst e; rw [getD_both hun] at hj; cases hj
        refine ⟨o2, s, ho, by simpa using ho, hd, hun, fun s' hs' => inv.out s' fun j hj oj hoj hlj hdj => ?_, fun j s' hs' => ?_, ?_⟩
        · have h1 := List.all_eq_true.1 hs' j (List.mem_range.2 hj)
          have hji := unl j hlj
          rw [hoj] at h1
          simp only [Option.bind_some, hdj] at h1
          simp only [Bool.or_eq_true, beq_iff_eq, bne_self_eq_false, Bool.false_eq_true, false_or] at h1
          rcases h1 with h1 | h1
          · exact hji h1
          · obtain ⟨oj', hoj', e, he, hb, hon⟩ := Region.waitsFor_spec h1
            have : oj' = oj := Option.some.inj (hoj'.symm.trans hoj)
            subst this
            have h2 := inv.head.closed j oj' hoj hlj e he hb
            rw [hon, getD_both hun] at h2
            cases h2
        · simp only [depB, Bool.and_eq_true, decide_eq_true_eq] at hs'
          obtain ⟨⟨hj, hw⟩, hds⟩ := hs'
          obtain ⟨oi, hoi, e, he, hb, hon⟩ := Region.waitsFor_spec hw
          have : oi = o2 := Option.some.inj (hoi.symm.trans ho)
          subst this
          have hlj := hdeps e he hb
          rw [hon] at hlj
          cases hoj : l.toArray[j]? with
          | none => rw [hoj] at hds; simp at hds
          | some oj =>
            rw [hoj] at hds
            simp only [Option.bind_some, beq_iff_eq] at hds
            exact inv.ins j hj oj s' hoj hlj hds
        · intro v w'' hex hp
          refine ih _ _ _ ?_ ?_
          · refine ⟨inv.head.set hi hin, (Ex.plus_ w x.bs x.d).trans hex, by rw [size_put, inv.size], by rw [defers_put, inv.defers], fun s' hs' => ?_, fun j hj oj s' hoj hlj hdj => ?_⟩
            · have hne : s ≠ s' := fun e => by
                subst e
                refine hs' i hin o2 ho ?_ hd
                have hsz : i < listed.size := by rw [inv.head.size]; exact (Array.getElem?_eq_some_iff.1 ho).1
                simp [hsz]
              rw [Act.eval_put (fun d hd' e => by rw [hd] at hd'; injection hd' with hd'; injection e with e; exact hne (hd'.trans e.symm))]
              refine inv.out s' fun j hj oj hoj hlj => hs' j hj oj hoj (getD_set_true hlj)
            · by_cases hji : j = i
              · subst hji
                have : oj = o2 := Option.some.inj (hoj.symm.trans ho)
                subst this
                rw [hd] at hdj
                injection hdj with hdj
                subst hdj
                rw [hd, eval_put_same (by rw [inv.size, hN]; exact hsN)]
                exact hp
              · have hlj' : listed.getD j false = true := by rw [getD_set_ne false (Ne.symm hji)] at hlj; exact hlj
                obtain ⟨oj', sj, hoj', hdj', hne⟩ := hother j hj hji
                have : oj' = oj := Option.some.inj (hoj'.symm.trans hoj)
                subst this
                rw [hdj] at hdj'
                injection hdj' with hdj'
                subst hdj'
                rw [Act.eval_put (fun d hd' e => by rw [hd] at hd'; injection hd' with hd'; injection e with e; exact hne (e.trans hd'.symm))]
                exact (Φ j).mono _ _ _ (inv.ins j hj oj' s' hoj hlj' hdj) hex
          · have := cnt_set hun n
            rw [if_pos hin] at this
            omega
      by_cases hp0 : pu.contains i0 = true
      · obtain ⟨o, s, ho, hol, hd, hun, h1, h2, next⟩ := facts i0 hi0 hready0
        have hst := step i0 hi0 o hol A x h1 h2
        rw [if_pos hp0] at hst
        obtain ⟨v, hy, hv⟩ := hst
        refine wpAny_first ho (Region.noSelect_spec hsel) (fun c a' w'' h => ?_) _ listed A _ (fun j oj hoj hji hunj hno => ?_) hready0 hy (next v _ (Ex.refl _) hv)
        · exact h
        · have hpi := List.all_eq_true.1 hpure i0 (by simpa using hp0)
          rw [ho] at hpi
          have h3 := List.all_eq_true.1 hpi j (List.mem_range.2 (Array.getElem?_eq_some_iff.1 hoj).1)
          rw [hoj] at h3
          simp only [Bool.or_eq_true, beq_iff_eq, hji, false_or] at h3
          rcases h3 with (h3 | h3) | h3
          · obtain ⟨oj', hoj', e, he, hb, hon⟩ := Region.waitsFor_spec h3
            have : oj' = oj := Option.some.inj (hoj'.symm.trans hoj)
            subst this
            exact absurd hon (hno e he hb)
          · obtain ⟨oi', hoi', e, he, hb, hon⟩ := Region.waitsFor_spec h3
            have : oi' = o := Option.some.inj (hoi'.symm.trans ho)
            subst this
            have h4 := (mem_ready.1 hready0).2
            obtain ⟨o9, ho9, hdeps⟩ := h4
            have : o9 = oi' := Option.some.inj (ho9.symm.trans ho)
            subst this
            have h5 := hdeps e he hb
            rw [hon, getD_both hunj] at h5
            cases h5
          · exact h3
      · have hp0' : pu.contains i0 = false := by simpa using hp0
        refine ⟨fun h => (by rw [h] at hready0; cases hready0), fun i hi => ?_⟩
        have hin : i < n := by
          rcases Nat.lt_or_ge i n with h | h
          · exact h
          · exact absurd hi (tail_waitsE hsink hchain inv.head _ i0 rfl hi0 hp0' hun0 i h)
        obtain ⟨o, s, ho, hol, hd, hun, h1, h2, next⟩ := facts i hin hi
        have hst := step i hin o hol A x h1 h2
        by_cases hpi : pu.contains i = true
        · rw [if_pos hpi] at hst
          obtain ⟨v, hy, hv⟩ := hst
          exact hy.wpOp ho (next v _ (Ex.refl _) hv)
        · rw [if_neg hpi] at hst
          have hs := hst _ next
          unfold wpOp
          rw [ho]
          simp only
          split
          · rename_i hw
            rw [if_pos hw] at hs
            exact .inl hs
          · rename_i hw
            rw [if_neg hw] at hs
            exact hs
  refine wp_region_any hm ?_
  have H := main n (Array.replicate l.toArray.size false) a w.drew ⟨⟨by simp, fun j oj _ hl => (by rw [getD_replicate_false] at hl; cases hl), fun t _ ht => getD_in (by simpa using ht) (getD_replicate_false _ _)⟩,
    ⟨⟨[], w.drawn + 1⟩, by show ({ w with drawn := w.drawn + 1 } : World) = _; simp [plus]⟩, rfl, rfl, fun s _ => rfl, fun j hj o s _ hl => (by rw [getD_replicate_false] at hl; cases hl)⟩ (cnt_init _ n hn)
  rw [show n + (l.toArray.size - n) = l.toArray.size by omega] at H
  exact H
end
/-- the slot of a guard -/
theorem slot_of {x : Option Value} {b : Bool} (h : x.getD undef = .bool b) : x = some (.bool b) := by
  cases x with
  | none => simp [undef] at h
  | some v => simp at h; rw [h]
theorem slot_un {x : Option Value} (h : x.getD undef = undef) : x = none ∨ x = some undef := by
  cases x with
  | none => exact .inl rfl
  | some v => simp at h; exact .inr (by rw [h])
end Go.Proofs.Ytfmkndemkpecpaa
