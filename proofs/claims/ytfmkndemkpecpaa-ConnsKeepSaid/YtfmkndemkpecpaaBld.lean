/- A region that draws its order and builds structs or rows in new blocks: stores into the new blocks may stand anywhere among the other operations. -/
import Derived.Test.YtfmkndemkpecpaaAgg
namespace Go.Proofs.Ytfmkndemkpecpaa
open Go.RowKit
set_option linter.unusedVariables false
set_option linter.unusedSimpArgs false

/-- what a value v is good for, beside the value u of another operation; it stays so as memory grows, and as blocks of the types S are written -/
structure MW (base : Nat) (S : TypeId → Bool) where
  p : Value → Value → World → Prop
  ex : ∀ v u w w', p v u w → Ex w w' → p v u w'
  st : ∀ v u w b t cs k x, p v u w → Bk w b t cs → S t = true → base ≤ b → p v u (w.setCell ⟨b, k, none⟩ x)
section
variable {base : Nat} {S : TypeId → Bool}
def MW.any : MW base S := ⟨fun _ _ _ => True, fun _ _ _ _ _ _ => trivial, fun _ _ _ _ _ _ _ _ _ _ _ _ => trivial⟩
def MW.eq (c : Value) : MW base S := ⟨fun v _ _ => v = c, fun _ _ _ _ h _ => h, fun _ _ _ _ _ _ _ _ h _ _ _ => h⟩
/-- a pointer into the other's block -/
def MW.ptr (off : Nat) : MW base S := ⟨fun v u _ => ∃ b, u = .pointer (some ⟨b, 0, none⟩) ∧ v = .pointer (some ⟨b, off, none⟩), fun _ _ _ _ h _ => h, fun _ _ _ _ _ _ _ _ h _ _ _ => h⟩
/-- a slice over the other's block -/
def MW.sl (n : Nat) : MW base S := ⟨fun v u _ => ∃ b, u = .pointer (some ⟨b, 0, none⟩) ∧ v = .slice (some ⟨b, 0, none⟩) n n, fun _ _ _ _ h _ => h, fun _ _ _ _ _ _ _ _ h _ _ _ => h⟩
/-- no more than that it is a word that holds of the value alone -/
def MW.of (q : Value → Prop) : MW base S := ⟨fun v _ _ => q v, fun _ _ _ _ h _ => h, fun _ _ _ _ _ _ _ _ h _ _ _ => h⟩
theorem Ob.setB {w : World} {A : Option Addr} {n c : Nat} {l : List UInt8} {b : Nat} {t : TypeId} {cs : List Value} {k : Nat} {x : Value} (h : Ob w base A n c l) (hb : Bk w b t cs) (ht : t ≠ 5) : Ob (w.setCell ⟨b, k, none⟩ x) base A n c l := by
  refine h.grown (grownBy_setCell w b k x) fun j hj e => ?_
  injection e with e
  subst e
  rcases h.2.2 with ⟨hv, _⟩ | ⟨g, cap, cur, hv, _, hg, _⟩
  · rw [hv] at hj
    simp [Value.ownBlock] at hj
  · rw [hv] at hj
    simp [Value.ownBlock] at hj
    subst hj
    rw [Bk] at hb
    rw [hb] at hg
    injection hg with hg
    injection hg with _ h2
    exact ht h2
theorem S_ne {t : TypeId} (hS : S 5 = false) (ht : S t = true) : t ≠ 5 := fun e => by subst e; rw [hS] at ht; cases ht
/-- new bytes -/
def MW.ob (hS : S 5 = false) (l : List UInt8) : MW base S := ⟨fun v _ w => ∃ A n c, v = .slice A n c ∧ Ob w base A n c l, fun _ _ _ _ ⟨A, n, c, h1, h2⟩ h => ⟨A, n, c, h1, h2.later h.below⟩,
  fun _ _ _ _ _ _ _ _ ⟨A, n, c, h1, h2⟩ hb hs _ => ⟨A, n, c, h1, h2.setB hb (S_ne hS hs)⟩⟩
end

/-- where a stored value comes from: another operation of the region, or it is known -/
inductive Src | op (j : Nat) | val (v : Value)
def Src.get (vs : Nat → Value) : Src → Value | .op j => vs j | .val v => v
/-- a block that is built: the operation that makes it, its cells' type, its cells as they are made, the stores into it: operation, cell, value -/
structure Bld where
  a : Nat
  t : TypeId
  cs : List Value
  sts : List (Nat × Nat × Src)
def Bld.at_ (B : Bld) (done : Nat → Bool) (vs : Nat → Value) (k : Nat) : Value :=
  match B.sts.find? (fun e => e.2.1 == k) with
  | some e => if done e.1 then e.2.2.get vs else B.cs.getD k undef
  | none => B.cs.getD k undef
def Bld.cells (B : Bld) (done : Nat → Bool) (vs : Nat → Value) : List Value := (List.range B.cs.length).map (B.at_ done vs)
/-- the cells when all is stored -/
def Bld.full (B : Bld) (vs : Nat → Value) : List Value := (List.range B.cs.length).map fun k => match B.sts.find? (fun e => e.2.1 == k) with | some e => e.2.2.get vs | none => B.cs.getD k undef
def isSt (bl : List Bld) (i : Nat) : Bool := bl.any fun B => B.sts.any fun e => e.1 == i
def nodupB : List Nat → Bool
  | [] => true
  | x :: r => !r.contains x && nodupB r
theorem nodup_of : ∀ {l : List Nat}, nodupB l = true → l.Nodup
  | [], _ => List.nodup_nil
  | x :: r, h => by
    simp only [nodupB, Bool.and_eq_true, Bool.not_eq_true'] at h
    refine List.nodup_cons.2 ⟨fun hm => ?_, nodup_of h.2⟩
    have : r.contains x = true := by simpa using hm
    rw [this] at h
    exact absurd h.1 (by simp)

theorem Bld.cells_same {B : Bld} {d d' : Nat → Bool} {vs vs' : Nat → Value} (h1 : ∀ e ∈ B.sts, d e.1 = d' e.1) (h2 : ∀ e ∈ B.sts, d e.1 = true → e.2.2.get vs = e.2.2.get vs') : B.cells d vs = B.cells d' vs' := by
  unfold Bld.cells
  refine List.map_congr_left fun k _ => ?_
  unfold Bld.at_
  cases hf : B.sts.find? (fun e => e.2.1 == k) with
  | none => rfl
  | some e =>
    have hm := List.mem_of_find?_eq_some hf
    simp only [← h1 e hm]
    by_cases hd : d e.1 = true
    · simp [hd, h2 e hm hd]
    · simp [hd]
theorem Bld.cells_none {B : Bld} {d : Nat → Bool} {vs : Nat → Value} (h : ∀ e ∈ B.sts, d e.1 = false) : B.cells d vs = B.cs := by
  unfold Bld.cells
  apply List.ext_getElem
  · simp
  · intro k h1 h2
    simp only [List.getElem_map, List.getElem_range]
    unfold Bld.at_
    cases hf : B.sts.find? (fun e => e.2.1 == k) with
    | none => simp [h2]
    | some e => simp [h e (List.mem_of_find?_eq_some hf), h2]
theorem Bld.cells_full {B : Bld} {d : Nat → Bool} {vs : Nat → Value} (h : ∀ e ∈ B.sts, d e.1 = true) : B.cells d vs = B.full vs := by
  unfold Bld.cells Bld.full
  refine List.map_congr_left fun k _ => ?_
  unfold Bld.at_
  cases hf : B.sts.find? (fun e => e.2.1 == k) with
  | none => rfl
  | some e => simp [h e (List.mem_of_find?_eq_some hf)]
theorem pair_unique {l : List (Nat × Nat × Src)} {e e' : Nat × Nat × Src} (hn : (l.map (·.2.1)).Nodup) (h : e ∈ l) (h' : e' ∈ l) (hk : e.2.1 = e'.2.1) : e = e' := by
  induction l with
  | nil => cases h
  | cons x r ih =>
    simp only [List.map_cons, List.nodup_cons, List.mem_map, not_exists, not_and] at hn
    rcases List.mem_cons.1 h with rfl | h1 <;> rcases List.mem_cons.1 h' with rfl | h2
    · rfl
    · exact absurd hk.symm (hn.1 _ h2)
    · exact absurd hk (hn.1 _ h1)
    · exact ih hn.2 h1 h2
theorem Bld.cells_set {B : Bld} {d d' : Nat → Bool} {vs : Nat → Value} {e : Nat × Nat × Src} (he : e ∈ B.sts) (hk : (B.sts.map (·.2.1)).Nodup) (ho : (B.sts.map (·.1)).Nodup) (hd : d' e.1 = true) (hd' : ∀ j, j ≠ e.1 → d' j = d j) : (B.cells d vs).set e.2.1 (e.2.2.get vs) = B.cells d' vs := by
  unfold Bld.cells
  apply List.ext_getElem
  · simp
  · intro k h1 h2
    rw [List.getElem_set]
    by_cases hek : e.2.1 = k
    · subst hek
      simp only [if_pos, List.getElem_map, List.getElem_range]
      unfold Bld.at_
      cases hf : B.sts.find? (fun x => x.2.1 == e.2.1) with
      | none =>
        have := List.find?_eq_none.1 hf e he
        simp at this
      | some e' =>
        have h3 := List.find?_some hf
        have h4 := List.mem_of_find?_eq_some hf
        obtain rfl := pair_unique hk h4 he (by simpa using h3)
        simp [hd]
    · simp only [if_neg hek, List.getElem_map, List.getElem_range]
      unfold Bld.at_
      cases hf : B.sts.find? (fun x => x.2.1 == k) with
      | none => rfl
      | some e' =>
        have h3 := List.find?_some hf
        have h4 := List.mem_of_find?_eq_some hf
        have : e'.1 ≠ e.1 := fun e1 => by
          have : e' = e := by
            clear hf h3 h1 h2 hk hd hd' hek
            generalize B.sts = l at *
            induction l with
            | nil => cases he
            | cons x r ih =>
              simp only [List.map_cons, List.nodup_cons, List.mem_map, not_exists, not_and] at ho
              rcases List.mem_cons.1 h4 with rfl | h5 <;> rcases List.mem_cons.1 he with rfl | h6
              · rfl
              · exact absurd e1.symm (ho.1 _ h6)
              · exact absurd e1 (ho.1 _ h5)
              · exact ih h6 ho.2 h5
          subst this
          simp at h3
          exact hek h3
        simp [hd' _ this]

section
variable {P : Program} {Q : Exit → Act → World → Prop}
/-- operation i waits for operation j, over at most f others -/
def tw (ops : Array Oper) (n : Nat) : Nat → Nat → Nat → Bool
  | 0, i, j => Region.waitsFor .any ops i j
  | f + 1, i, j => Region.waitsFor .any ops i j || (List.range n).any fun k => Region.waitsFor .any ops i k && tw ops n f k j
theorem tw_listed {ops : Array Oper} {n : Nat} {listed : Array Bool} (inv : HeadInv .any ops n listed) : ∀ (f i j : Nat), (∀ k, Region.waitsFor .any ops i k = true → listed.getD k false = true) → tw ops n f i j = true → listed.getD j false = true
  | 0, i, j, h, ht => h j ht
  | f + 1, i, j, h, ht => by
    simp only [tw, Bool.or_eq_true] at ht
    rcases ht with ht | ht
    · exact h j ht
    · obtain ⟨k, _, hk⟩ := List.any_eq_true.1 ht
      simp only [Bool.and_eq_true] at hk
      refine tw_listed inv f k j (fun k' hk' => ?_) hk.2
      obtain ⟨ok, hok, e, he, hb, hon⟩ := Region.waitsFor_spec hk'
      rw [← hon]
      exact inv.closed k ok hok (h k hk.1) e he hb
def bldB (ops : Array Oper) (n N : Nat) (pu : List Nat) (rel : Nat → Nat) (bl : List Bld) (f : Nat) : Bool :=
  decide (n ≤ ops.size) && Region.noSelect ops && (decide (n = ops.size) || (sinkE ops n pu && Region.chainB .any ops n)) &&
  Region.seqB .any ops (ops.size - n) n ((List.range ops.size).map fun i => decide (i < n)).toArray &&
  ((List.range n).all fun i => match ops[i]? with
    | none => false
    | some o => (match o.dst with | some s => decide (s < N) && !isSt bl i | none => isSt bl i) && (o.after.all fun e => !Region.binds .any e || decide (e.on < i)) &&
      ((List.range n).all fun j => j == i || (match o.dst, (ops[j]?).bind (·.dst) with | some s, some s' => s != s' | _, _ => true)) &&
      (rel i == i || tw ops n f i (rel i))) &&
  (pu.all fun i => !isSt bl i && match ops[i]? with
    | none => false
    | some oi => (List.range ops.size).all fun j => j == i || (match ops[j]? with | some oj => Region.waitsFor .any ops j i || Region.waitsFor .any ops i j || oi.apart ops oj | none => true)) &&
  (bl.all fun B => decide (B.a < n) && !isSt bl B.a && B.sts.all fun e => decide (e.1 < n) && tw ops n f e.1 B.a && decide (e.2.1 < B.cs.length) && (match e.2.2 with | .op j => tw ops n f e.1 j | .val _ => true)) &&
  nodupB (bl.map (·.a)) && (bl.all fun B => nodupB (B.sts.map (·.2.1))) && nodupB (bl.flatMap fun B => B.sts.map (·.1))

structure BInv (ops : Array Oper) (n : Nat) (a0 : Act) (w0 : World) {S : TypeId → Bool} (Φ : Nat → MW w0.heap.size S) (rel : Nat → Nat) (bl : List Bld) (listed : Array Bool) (A : Act) (w : World) (vs : Nat → Value) : Prop where
  head : HeadInv .any ops n listed
  below : Below w0.heap.size w0 w
  size : A.tmps.size = a0.tmps.size
  defers : A.defers = a0.defers
  out : ∀ s, (∀ j, j < n → ∀ o, ops[j]? = some o → listed.getD j false = true → o.dst ≠ some s) → A.eval (.tmp s) = a0.eval (.tmp s)
  ins : ∀ j, j < n → ∀ o s, ops[j]? = some o → listed.getD j false = true → o.dst = some s → A.eval (.tmp s) = vs j
  word : ∀ j, j < n → listed.getD j false = true → isSt bl j = false → (Φ j).p (vs j) (vs (rel j)) w
  bld : ∀ B ∈ bl, listed.getD B.a false = true → ∃ b, vs B.a = .pointer (some ⟨b, 0, none⟩) ∧ w0.heap.size ≤ b ∧ Bk w b B.t (B.cells (fun j => listed.getD j false) vs)
  dis : ∀ B ∈ bl, ∀ B' ∈ bl, B.a ≠ B'.a → listed.getD B.a false = true → listed.getD B'.a false = true → vs B.a ≠ vs B'.a

/-- what is known where operation i is carried out -/
structure At_ (ops : Array Oper) (n f : Nat) (a0 : Act) (w0 : World) {S : TypeId → Bool} (Φ : Nat → MW w0.heap.size S) (rel : Nat → Nat) (bl : List Bld) (i : Nat) (A : Act) (w : World) (vs : Nat → Value) : Prop where
  out : ∀ s, outB ops n i s = true → A.eval (.tmp s) = a0.eval (.tmp s)
  dep : ∀ j s, depB ops n i j s = true → A.eval (.tmp s) = vs j
  word : ∀ j, j < n → isSt bl j = false → tw ops n f i j = true → (Φ j).p (vs j) (vs (rel j)) w
  bld : ∀ B ∈ bl, tw ops n f i B.a = true → ∃ b, vs B.a = .pointer (some ⟨b, 0, none⟩) ∧ w0.heap.size ≤ b ∧ ((B.sts.all fun e => tw ops n f i e.1) = true → Bk w b B.t (B.full vs))
/-- what holds of a block when it is made -/
def Made (w0 : World) (bl : List Bld) (i : Nat) (w : World) (v : Value) (w' : World) : Prop := ∀ B ∈ bl, B.a = i → ∃ b, v = .pointer (some ⟨b, 0, none⟩) ∧ w.heap.size ≤ b ∧ Bk w' b B.t B.cs

theorem wp_bld {id : Nat} {a : Act} {w : World} {l : List Oper} {S : TypeId → Bool} (n N f : Nat) (pu : List Nat) (rel : Nat → Nat) (bl : List Bld) (hN : a.tmps.size = N) (hm : P.follows .mixedOrders = true) (hB : bldB l.toArray n N pu rel bl f = true)
    (hS : ∀ B ∈ bl, S B.t = true) (Φ : Nat → MW w.heap.size S)
    (step : ∀ i, i < n → ∀ o, l[i]? = some o → isSt bl i = false → ∀ (A : Act) (x : Ext) (vs : Nat → Value), At_ l.toArray n f a w Φ rel bl i A (plus w x.bs x.d) vs →
      if pu.contains i = true then ∃ v, Yields P l.toArray o v A ∧ (Φ i).p v (if rel i = i then v else vs (rel i)) (plus w x.bs x.d) ∧ Made w bl i (plus w x.bs x.d) v (plus w x.bs x.d) else
      ∀ K : Act → World → Prop, Shut (∀ v w', Ex (plus w x.bs x.d) w' → (Φ i).p v (if rel i = i then v else vs (rel i)) w' → Made w bl i (plus w x.bs x.d) v w' → K (A.put o.dst v) w') → if Region.wanted o (yielded l.toArray A.tmps) = true then o.wp P A (plus w x.bs x.d) K (NoPanic Q) else K (A.put o.dst undef) (plus w x.bs x.d))
    (stor : ∀ B ∈ bl, ∀ e ∈ B.sts, ∀ o, l[e.1]? = some o → ∀ (A : Act) (x : Ext) (vs : Nat → Value), At_ l.toArray n f a w Φ rel bl e.1 A (plus w x.bs x.d) vs → ∀ b, vs B.a = .pointer (some ⟨b, 0, none⟩) → (∃ c, (plus w x.bs x.d).cell? ⟨b, e.2.1, none⟩ = some c) → (plus w x.bs x.d).frozen? ⟨b, e.2.1, none⟩ = false →
      ∀ K : Act → World → Prop, Shut (K (A.put o.dst undef) ((plus w x.bs x.d).setCell ⟨b, e.2.1, none⟩ (e.2.2.get vs))) → if Region.wanted o (yielded l.toArray A.tmps) = true then o.wp P A (plus w x.bs x.d) K (NoPanic Q) else False)
    (fin : ∀ (vs : Nat → Value) (x : Ext), (∀ i, i < n → isSt bl i = false → (Φ i).p (vs i) (vs (rel i)) (plus w x.bs x.d)) → (∀ B ∈ bl, ∃ b, vs B.a = .pointer (some ⟨b, 0, none⟩) ∧ w.heap.size ≤ b ∧ Bk (plus w x.bs x.d) b B.t (B.full vs)) →
      wpList P l.toArray (NoPanic Q) (l.drop n) (putAll (l.take n) vs 0 a) (plus w x.bs x.d)) : (Code.region id l.toArray true).wp P Q a w := by
  unfold bldB at hB
  simp only [Bool.and_eq_true, decide_eq_true_eq] at hB
  obtain ⟨⟨⟨⟨⟨⟨⟨⟨⟨hn, hsel⟩, htail⟩, hseq⟩, hall⟩, hpure⟩, hbl⟩, hna⟩, hnk⟩, hns⟩ := hB
  have hal : ∀ i, i < n → ∃ o, l.toArray[i]? = some o ∧ (∀ s, o.dst = some s → s < N ∧ isSt bl i = false) ∧ (o.dst = none → isSt bl i = true) ∧ (∀ e ∈ o.after, Region.binds .any e = true → e.on < i) ∧ (∀ j, j < n → j ≠ i → ∀ oj, l.toArray[j]? = some oj → ∀ s s', o.dst = some s → oj.dst = some s' → s ≠ s') ∧ (rel i = i ∨ tw l.toArray n f i (rel i) = true) := by
    intro i hi
    have h1 := List.all_eq_true.1 hall i (List.mem_range.2 hi)
    cases ho : l.toArray[i]? with
    | none => rw [ho] at h1; cases h1
    | some o =>
      rw [ho] at h1
      simp only [Bool.and_eq_true] at h1
      obtain ⟨⟨⟨h2, h3⟩, h4⟩, h5⟩ := h1
      refine ⟨o, rfl, fun s hs => ?_, fun hs => ?_, fun e he hb => ?_, fun j hj hji oj hoj s s' hs hs' => ?_, by simpa using h5⟩
      · rw [hs] at h2; simpa using h2
      · rw [hs] at h2; simpa using h2
      · have := (Array.all_eq_true_iff_forall_mem.1 h3) e he
        rw [hb] at this
        simpa using this
      · have h6 := List.all_eq_true.1 h4 j (List.mem_range.2 hj)
        rw [hoj, hs] at h6
        simp [hs', hji] at h6
        exact h6
  have hbl' : ∀ B ∈ bl, B.a < n ∧ isSt bl B.a = false ∧ ∀ e ∈ B.sts, e.1 < n ∧ tw l.toArray n f e.1 B.a = true ∧ e.2.1 < B.cs.length ∧ ∀ j, e.2.2 = .op j → tw l.toArray n f e.1 j = true := by
    intro B hB
    have h1 := List.all_eq_true.1 hbl B hB
    simp only [Bool.and_eq_true, decide_eq_true_eq, Bool.not_eq_true'] at h1
    refine ⟨h1.1.1, h1.1.2, fun e he => ?_⟩
    have h2 := List.all_eq_true.1 h1.2 e he
    simp only [Bool.and_eq_true, decide_eq_true_eq] at h2
    exact ⟨h2.1.1.1, h2.1.1.2, h2.1.2, fun j hj => by have := h2.2; rw [hj] at this; exact this⟩
  have st_mem : ∀ B ∈ bl, ∀ e ∈ B.sts, isSt bl e.1 = true := fun B hB e he => List.any_eq_true.2 ⟨B, hB, List.any_eq_true.2 ⟨e, he, by simp⟩⟩
  have hnk' : ∀ B ∈ bl, (B.sts.map (·.2.1)).Nodup := fun B hB => nodup_of (List.all_eq_true.1 hnk B hB)
  have hns' := nodup_of hns
  have hna' := nodup_of hna
  have one_a : ∀ B ∈ bl, ∀ B' ∈ bl, B.a = B'.a → B = B' := by
    clear hna hbl hbl' st_mem hns hns' hnk' hnk hS step stor fin hpure hall hal
    induction bl with
    | nil => intro B hB; cases hB
    | cons X r ih =>
      simp only [List.map_cons, List.nodup_cons, List.mem_map, not_exists, not_and] at hna'
      intro B hB B' hB' he
      rcases List.mem_cons.1 hB with rfl | h1 <;> rcases List.mem_cons.1 hB' with rfl | h2
      · rfl
      · exact absurd he.symm (hna'.1 _ h2)
      · exact absurd he (hna'.1 _ h1)
      · exact ih hna'.2 B h1 B' h2 he
  have ops_one : ∀ B ∈ bl, (B.sts.map (·.1)).Nodup ∧ ∀ B' ∈ bl, ∀ e ∈ B.sts, ∀ e' ∈ B'.sts, e.1 = e'.1 → B.a = B'.a := by
    clear hna hbl hbl' st_mem hna' hns hnk' hnk hS step stor fin hpure hall hal one_a
    induction bl with
    | nil => intro B hB; cases hB
    | cons X r ih =>
      simp only [List.flatMap_cons, List.nodup_append, List.mem_map, List.mem_flatMap] at hns'
      obtain ⟨h1, h2, h3⟩ := hns'
      intro B hB
      rcases List.mem_cons.1 hB with rfl | h4
      · refine ⟨h1, fun B' hB' e he e' he' hee => ?_⟩
        rcases List.mem_cons.1 hB' with rfl | h5
        · rfl
        · exact absurd hee (h3 _ ⟨e, he, rfl⟩ _ ⟨B', h5, e', he', rfl⟩)
      · refine ⟨(ih h2 B h4).1, fun B' hB' e he e' he' hee => ?_⟩
        rcases List.mem_cons.1 hB' with rfl | h5
        · exact absurd hee.symm (h3 _ ⟨e', he', rfl⟩ _ ⟨B, h4, e, he, rfl⟩)
        · exact (ih h2 B h4).2 B' h5 e he e' he' hee
  refine wp_region_noPanic ?_
  have main : ∀ (k : Nat) (listed : Array Bool) (A : Act) (w' : World) (vs : Nat → Value), BInv l.toArray n a w Φ rel bl listed A w' vs → cnt listed n = k → wpAny P .any l.toArray (NoPanic Q) (k + (l.toArray.size - n)) listed A w' := by
    intro k
    induction k with
    | zero =>
      intro listed A w' vs inv hc
      have hl : ∀ i, i < n → listed.getD i true = true := cnt_zero n hc
      have hlf : ∀ i, i < n → listed.getD i false = true := fun i hi => by
        have := hl i hi
        have hsz : i < listed.size := by rw [inv.head.size]; omega
        simpa [hsz] using this
      have el : listed = ((List.range l.toArray.size).map fun i => decide (i < n)).toArray := by
        apply Array.ext
        · simp [inv.head.size]
        · intro i h1 h2
          by_cases hi : i < n
          · have := hl i hi
            simp only [Array.getD_eq_getD_getElem?, Array.getElem?_eq_getElem h1, Option.getD_some] at this
            simp [this, hi]
          · have := inv.head.tail i (by omega) (by rw [← inv.head.size]; exact h1)
            simp only [Array.getD_eq_getD_getElem?, Array.getElem?_eq_getElem h1, Option.getD_some] at this
            simp [this, hi]
      have eA : A = putAll (l.take n) vs 0 a := by
        refine act_ext (by rw [putAll_size, inv.size]) (by rw [putAll_defers, inv.defers]) fun s hs => ?_
        have H := putAll_eval A s (l.take n) vs 0 a (by rw [← inv.size]; exact hs) (fun j o hj hd => by
          have hjn : j < n := by
            have := (List.getElem?_eq_some_iff.1 hj).1
            simp at this
            omega
          have : l.toArray[j]? = some o := by simpa [hjn] using hj
          rw [Nat.zero_add]
          exact (inv.ins j hjn o s this (hlf j hjn) hd).symm)
        by_cases he : ∃ o ∈ l.take n, o.dst = some s
        · exact (H.1 he).symm
        · rw [H.2 (fun o h h' => he ⟨o, h, h'⟩)]
          refine inv.out s fun j hj o ho _ hd => he ⟨o, ?_, hd⟩
          rw [List.mem_take_iff_getElem]
          have hjl := (Array.getElem?_eq_some_iff.1 ho)
          obtain ⟨h1, h2⟩ := hjl
          exact ⟨j, by simp at h1; omega, by simpa using h2⟩
      rw [Nat.zero_add]
      obtain ⟨bs, d, rfl⟩ := plus_of inv.below
      have := wpAny_of_seq (md := .any) (Q' := NoPanic Q) (P := P) (ops := l.toArray) (l.drop n) n listed A (plus w bs d) (fun j => by simp [List.getElem?_drop]) (by
        rw [el]
        have : (l.drop n).length = l.toArray.size - n := by simp
        rw [this]
        exact hseq) (by
        rw [eA]
        refine fin vs ⟨bs, d⟩ (fun i hi hs => inv.word i hi (hlf i hi) hs) (fun B hB => ?_)
        obtain ⟨h1, _, h3⟩ := hbl' B hB
        obtain ⟨b, e1, e2, e3⟩ := inv.bld B hB (hlf _ h1)
        rw [Bld.cells_full (fun e he => hlf _ (h3 e he).1)] at e3
        exact ⟨b, e1, e2, e3⟩)
      have e2 : (l.drop n).length = l.toArray.size - n := by simp
      rwa [e2] at this
    | succ k ih =>
      intro listed A w' vs inv hc
      rw [show k + 1 + (l.toArray.size - n) = (k + (l.toArray.size - n)) + 1 by omega]
      obtain ⟨i0, hi0, hun0, hprev⟩ := cnt_first n (by rw [hc]; omega)
      have hready0 : i0 ∈ Region.ready .any l.toArray listed := by
        obtain ⟨o, ho, _, _, hlt, _⟩ := hal i0 hi0
        refine mem_ready.2 ⟨hun0, o, ho, fun e he hb => ?_⟩
        have h1 := hlt e he hb
        have h2 := hprev e.on h1
        have hsz : e.on < listed.size := by rw [inv.head.size]; have := (Array.getElem?_eq_some_iff.1 ho).1; omega
        simpa [hsz] using h2
      obtain ⟨bs, d, hw'⟩ := plus_of inv.below
      subst hw'
      have closed' : ∀ j, j < n → listed.getD j false = true → ∀ g, tw l.toArray n f j g = true → listed.getD g false = true := fun j hj hlj g hg => tw_listed inv.head f j g (fun k' hk' => by
        obtain ⟨ok, hok, e, he, hb, hon⟩ := Region.waitsFor_spec hk'
        rw [← hon]
        exact inv.head.closed j ok hok hlj e he hb) hg
      -- what is known at an operation that may be carried out
      have facts : ∀ i, i < n → i ∈ Region.ready .any l.toArray listed → ∃ o, l.toArray[i]? = some o ∧ l[i]? = some o ∧ listed.getD i true = false ∧ (∀ j, listed.getD j false = true → j ≠ i) ∧ (∀ j, tw l.toArray n f i j = true → listed.getD j false = true) ∧ At_ l.toArray n f a w Φ rel bl i A (plus w bs d) vs := by
        intro i hin hi
        obtain ⟨hun, o, ho, hdeps⟩ := mem_ready.1 hi
        have unl : ∀ j, listed.getD j false = true → j ≠ i := fun j hj e => by subst e; rw [getD_both hun] at hj; cases hj
        have wl : ∀ j, Region.waitsFor .any l.toArray i j = true → listed.getD j false = true := fun j hw => by
          obtain ⟨oi, hoi, e, he, hb, hon⟩ := Region.waitsFor_spec hw
          have : oi = o := Option.some.inj (hoi.symm.trans ho)
          subst this
          rw [← hon]
          exact hdeps e he hb
        have twl : ∀ j, tw l.toArray n f i j = true → listed.getD j false = true := fun j hj => tw_listed inv.head f i j wl hj
        refine ⟨o, ho, by simpa using ho, hun, unl, twl, ?_, ?_, fun j hj hs ht => inv.word j hj (twl j ht) hs, fun B hB ht => ?_⟩
        · refine fun s' hs' => inv.out s' fun j hj oj hoj hlj hdj => ?_
          have h1 := List.all_eq_true.1 hs' j (List.mem_range.2 hj)
          have hji := unl j hlj
          rw [hoj] at h1
          simp only [Option.bind_some, hdj] at h1
          simp only [Bool.or_eq_true, beq_iff_eq, bne_self_eq_false, Bool.false_eq_true, false_or] at h1
          rcases h1 with h1 | h1
          · exact hji h1
          · obtain ⟨oj', hoj', e, he, hb, hon⟩ := Region.waitsFor_spec h1
            have : oj' = oj := Option.some.inj (hoj'.symm.trans hoj)
            subst this
            have h2 := inv.head.closed j oj' hoj hlj e he hb
            rw [hon, getD_both hun] at h2
            cases h2
        · intro j s' hs'
          simp only [depB, Bool.and_eq_true, decide_eq_true_eq] at hs'
          obtain ⟨⟨hj, hw⟩, hds⟩ := hs'
          have hlj := wl j hw
          cases hoj : l.toArray[j]? with
          | none => rw [hoj] at hds; simp at hds
          | some oj =>
            rw [hoj] at hds
            simp only [Option.bind_some, beq_iff_eq] at hds
            exact inv.ins j hj oj s' hoj hlj hds
        · obtain ⟨b, e1, e2, e3⟩ := inv.bld B hB (twl _ ht)
          refine ⟨b, e1, e2, fun hall' => ?_⟩
          rw [Bld.cells_full (fun e he => twl _ (List.all_eq_true.1 hall' e he))] at e3
          exact e3
      -- how it goes on behind an operation that is no store
      have next : ∀ i, i < n → i ∈ Region.ready .any l.toArray listed → isSt bl i = false → ∀ o, l.toArray[i]? = some o → ∀ v w'', Ex (plus w bs d) w'' → (Φ i).p v (if rel i = i then v else vs (rel i)) w'' → Made w bl i (plus w bs d) v w'' →
          wpAny P .any l.toArray (NoPanic Q) (k + (l.toArray.size - n)) (listed.setIfInBounds i true) (A.put o.dst v) w'' := by
        intro i hin hi hst o ho v w'' hex hp hmade
        obtain ⟨o', ho', hol, hun, unl, twl, _⟩ := facts i hin hi
        have : o' = o := Option.some.inj (ho'.symm.trans ho)
        subst this
        obtain ⟨o2, ho2, hdst, hdn, hlt, hother, hrel⟩ := hal i hin
        have : o2 = o' := Option.some.inj (ho2.symm.trans ho)
        subst this
        have hsz : i < listed.size := by rw [inv.head.size]; exact (Array.getElem?_eq_some_iff.1 ho).1
        cases hd : o2.dst with
        | none => rw [hdn hd] at hst; cases hst
        | some s =>
        have hsN := (hdst s hd).1
        have lst' : ∀ j, j ≠ i → (listed.setIfInBounds i true).getD j false = listed.getD j false := fun j hj => getD_set_ne false (Ne.symm hj)
        refine ih _ _ _ (fun j => if j = i then v else vs j) ?_ ?_
        · refine ⟨inv.head.set hi hin, inv.below.trans (hex.below.mono (by simp [size_plus])), by rw [size_put, inv.size], by rw [defers_put, inv.defers], fun s' hs' => ?_, fun j hj oj s' hoj hlj hdj => ?_, fun j hj hlj hsj => ?_, fun B hB hlB => ?_, fun B hB B' hB' hne hlB hlB' => ?_⟩
          · have hne : s ≠ s' := fun e => by
              subst e
              exact hs' i hin o2 ho (by simp [hsz]) hd
            rw [Act.eval_put (fun d hd' e => by injection hd' with hd'; injection e with e; exact hne (hd'.trans e.symm))]
            refine inv.out s' fun j hj oj hoj hlj => hs' j hj oj hoj (getD_set_true hlj)
          · by_cases hji : j = i
            · subst hji
              have : oj = o2 := Option.some.inj (hoj.symm.trans ho)
              subst this
              rw [hd] at hdj
              injection hdj with hdj
              subst hdj
              rw [eval_put_same (by rw [inv.size, hN]; exact hsN), if_pos rfl]
            · rw [lst' j hji] at hlj
              have hne := hother j hj hji oj hoj s s' hd hdj
              rw [Act.eval_put (fun d hd' e => by injection hd' with hd'; injection e with e; exact hne (hd'.trans e.symm)), if_neg hji]
              exact inv.ins j hj oj s' hoj hlj hdj
          · by_cases hji : j = i
            · subst hji
              simpa using hp
            · rw [lst' j hji] at hlj
              have hrj : rel j ≠ i := by
                obtain ⟨_, _, _, _, _, _, hr⟩ := hal j hj
                rcases hr with hr | hr
                · rw [hr]; exact hji
                · exact unl _ (closed' j hj hlj _ hr)
              simp only [if_neg hji, if_neg hrj]
              exact (Φ j).ex _ _ _ _ (inv.word j hj hlj hsj) hex
          · obtain ⟨ha, hsa, hst'⟩ := hbl' B hB
            by_cases hai : B.a = i
            · obtain ⟨b, e1, e2, e3⟩ := hmade B hB hai
              refine ⟨b, by simp only [if_pos hai]; exact e1, Nat.le_trans (by simp [size_plus]) e2, ?_⟩
              rw [Bld.cells_none (fun e he => ?_)]
              · exact e3
              · have hei : e.1 ≠ i := fun h => by rw [← h, st_mem B hB e he] at hst; cases hst
                rw [lst' _ hei]
                cases hle : listed.getD e.1 false with
                | false => rfl
                | true =>
                  have := closed' e.1 (hst' e he).1 hle _ (hst' e he).2.1
                  exact absurd hai (unl _ this)
            · rw [lst' _ hai] at hlB
              obtain ⟨b, e1, e2, e3⟩ := inv.bld B hB hlB
              refine ⟨b, by simp only [if_neg hai]; exact e1, e2, ?_⟩
              rw [← Bld.cells_same (d := fun j => listed.getD j false) (vs := vs) (fun e he => ?_) (fun e he hde => ?_)]
              · exact e3.later hex.below
              · exact (lst' _ (fun h => by rw [← h, st_mem B hB e he] at hst; cases hst)).symm
              · cases hsrc : e.2.2 with
                | val c => rfl
                | op j =>
                  have := unl _ (closed' e.1 (hst' e he).1 hde _ ((hst' e he).2.2.2 j hsrc))
                  simp [Src.get, this]
          · by_cases hai : B.a = i
            · have hbi : B'.a ≠ i := fun h => hne (hai.trans h.symm)
              rw [lst' _ hbi] at hlB'
              obtain ⟨b, e1, e2, e3⟩ := hmade B hB hai
              obtain ⟨b', e1', e2', e3'⟩ := inv.bld B' hB' hlB'
              simp only [if_pos hai, if_neg hbi]
              rw [e1, e1']
              intro h
              injection h with h; injection h with h; injection h with h
              have := e3'.lt
              omega
            · rw [lst' _ hai] at hlB
              by_cases hbi : B'.a = i
              · obtain ⟨b, e1, e2, e3⟩ := hmade B' hB' hbi
                obtain ⟨b', e1', e2', e3'⟩ := inv.bld B hB hlB
                simp only [if_pos hbi, if_neg hai]
                rw [e1, e1']
                intro h
                injection h with h; injection h with h; injection h with h
                have := e3'.lt
                omega
              · rw [lst' _ hbi] at hlB'
                simp only [if_neg hai, if_neg hbi]
                exact inv.dis B hB B' hB' hne hlB hlB'
        · have := cnt_set hun n
          rw [if_pos hin] at this
          omega
      by_cases hp0 : pu.contains i0 = true
      · obtain ⟨o, ho, hol, hun, unl, twl, at0⟩ := facts i0 hi0 hready0
        have hpi := List.all_eq_true.1 hpure i0 (by simpa using hp0)
        simp only [Bool.and_eq_true, Bool.not_eq_true'] at hpi
        have hst := step i0 hi0 o hol hpi.1 A ⟨bs, d⟩ vs at0
        rw [if_pos hp0] at hst
        obtain ⟨v, hy, hv, hmd⟩ := hst
        refine wpAny_first ho (Region.noSelect_spec hsel) (fun c a' w'' h => ?_) _ listed A _ (fun j oj hoj hji hunj hno => ?_) hready0 hy (next i0 hi0 hready0 hpi.1 o ho v _ (Ex.refl _) hv hmd)
        · exact h
        · have hpi2 := hpi.2
          rw [ho] at hpi2
          have h3 := List.all_eq_true.1 hpi2 j (List.mem_range.2 (Array.getElem?_eq_some_iff.1 hoj).1)
          rw [hoj] at h3
          simp only [Bool.or_eq_true, beq_iff_eq, hji, false_or] at h3
          rcases h3 with (h3 | h3) | h3
          · obtain ⟨oj', hoj', e, he, hb, hon⟩ := Region.waitsFor_spec h3
            have : oj' = oj := Option.some.inj (hoj'.symm.trans hoj)
            subst this
            exact absurd hon (hno e he hb)
          · obtain ⟨oi', hoi', e, he, hb, hon⟩ := Region.waitsFor_spec h3
            have : oi' = o := Option.some.inj (hoi'.symm.trans ho)
            subst this
            have h4 := (mem_ready.1 hready0).2
            obtain ⟨o9, ho9, hdeps⟩ := h4
            have : o9 = oi' := Option.some.inj (ho9.symm.trans ho)
            subst this
            have h5 := hdeps e he hb
            rw [hon, getD_both hunj] at h5
            cases h5
          · exact h3
      · have hp0' : pu.contains i0 = false := by simpa using hp0
        refine ⟨fun h => (by rw [h] at hready0; cases hready0), fun i hi => ?_⟩
        have hin : i < n := by
          rcases Nat.lt_or_ge i n with h | h
          · exact h
          · obtain ⟨_, o', ho', _⟩ := mem_ready.1 hi
            have hsz := (Array.getElem?_eq_some_iff.1 ho').1
            simp only [Bool.or_eq_true, decide_eq_true_eq, Bool.and_eq_true] at htail
            rcases htail with ht | ht
            · omega
            · exact absurd hi (tail_waitsE ht.1 ht.2 inv.head _ i0 rfl hi0 hp0' hun0 i h)
        obtain ⟨o, ho, hol, hun, unl, twl, at0⟩ := facts i hin hi
        cases hst : isSt bl i with
        | false =>
          have hs := step i hin o hol hst A ⟨bs, d⟩ vs at0
          have nx := next i hin hi hst o ho
          by_cases hpi : pu.contains i = true
          · rw [if_pos hpi] at hs
            obtain ⟨v, hy, hv, hmd⟩ := hs
            exact hy.wpOp ho (nx v _ (Ex.refl _) hv hmd)
          · rw [if_neg hpi] at hs
            have hs := hs _ nx
            unfold wpOp
            rw [ho]
            simp only
            split
            · rename_i hw
              rw [if_pos hw] at hs
              exact .inl hs
            · rename_i hw
              rw [if_neg hw] at hs
              exact hs
        | true =>
          obtain ⟨B, hB, hany⟩ := List.any_eq_true.1 hst
          obtain ⟨e, he, hei⟩ := List.any_eq_true.1 hany
          have hei : e.1 = i := by simpa using hei
          obtain ⟨ha, hsa, hst'⟩ := hbl' B hB
          obtain ⟨_, hta, hke, hsrc⟩ := hst' e he
          have hla := twl B.a (by rw [← hei]; exact hta)
          obtain ⟨b, e1, e2, e3⟩ := inv.bld B hB hla
          have hlen : (B.cells (fun j => listed.getD j false) vs).length = B.cs.length := by simp [Bld.cells]
          have hs := stor B hB e he o (by rw [hei]; exact hol) A ⟨bs, d⟩ vs (by rw [hei]; exact at0) b e1 ⟨_, by rw [e3.cell, List.getElem?_eq_getElem (by rw [hlen]; exact hke)]⟩ (e3.frozen _)
            (wpAny P .any l.toArray (NoPanic Q) (k + (l.toArray.size - n)) (listed.setIfInBounds i true)) ?_
          · unfold wpOp
            rw [ho]
            simp only
            split
            · rename_i hw
              rw [if_pos hw] at hs
              exact .inl hs
            · rename_i hw
              rw [if_neg hw] at hs
              exact hs.elim
          · show wpAny P .any l.toArray (NoPanic Q) (k + (l.toArray.size - n)) (listed.setIfInBounds i true) (A.put o.dst undef) _
            obtain ⟨o2, ho2, hdst, hdn, hlt, hother, hrel⟩ := hal i hin
            have : o2 = o := Option.some.inj (ho2.symm.trans ho)
            subst this
            have hd : o2.dst = none := by
              cases hd : o2.dst with
              | none => rfl
              | some s => have := (hdst s hd).2; rw [hst] at this; cases this
            have hsz : i < listed.size := by rw [inv.head.size]; exact (Array.getElem?_eq_some_iff.1 ho).1
            have lst' : ∀ j, j ≠ i → (listed.setIfInBounds i true).getD j false = listed.getD j false := fun j hj => getD_set_ne false (Ne.symm hj)
            rw [hd]
            show wpAny P .any l.toArray (NoPanic Q) (k + (l.toArray.size - n)) (listed.setIfInBounds i true) A _
            refine ih _ _ _ vs ?_ ?_
            · refine ⟨inv.head.set hi hin, inv.below.setCell e2 _, inv.size, inv.defers, fun s' hs' => inv.out s' fun j hj oj hoj hlj => hs' j hj oj hoj (getD_set_true hlj), fun j hj oj s' hoj hlj hdj => ?_, fun j hj hlj hsj => ?_, fun B' hB' hlB' => ?_, fun B' hB' B'' hB'' hne hlB hlB' => ?_⟩
              · by_cases hji : j = i
                · subst hji
                  have : oj = o2 := Option.some.inj (hoj.symm.trans ho)
                  subst this
                  rw [hd] at hdj
                  cases hdj
                · rw [lst' j hji] at hlj
                  exact inv.ins j hj oj s' hoj hlj hdj
              · have hji : j ≠ i := fun h => by subst h; rw [hst] at hsj; cases hsj
                rw [lst' j hji] at hlj
                exact (Φ j).st _ _ _ _ _ _ _ _ (inv.word j hj hlj hsj) e3 (hS B hB) e2
              · have hbi : B'.a ≠ i := fun h => by have := (hbl' B' hB').2.1; rw [h, hst] at this; cases this
                rw [lst' _ hbi] at hlB'
                by_cases hBB : B'.a = B.a
                · obtain rfl := one_a B' hB' B hB hBB
                  refine ⟨b, e1, e2, ?_⟩
                  have h5 := e3.set_ e.2.1 (e.2.2.get vs)
                  rw [Bld.cells_set (d' := fun j => (listed.setIfInBounds i true).getD j false) he (hnk' _ hB) (ops_one _ hB).1 (by rw [hei]; simp [hsz]) (fun j hj => lst' j (by rw [← hei]; exact hj))] at h5
                  exact h5
                · obtain ⟨b', e1', e2', e3'⟩ := inv.bld B' hB' hlB'
                  refine ⟨b', e1', e2', ?_⟩
                  rw [← Bld.cells_same (d := fun j => listed.getD j false) (vs := vs) (fun e' he' => ?_) (fun _ _ _ => rfl)]
                  · refine e3'.far ?_ _
                    intro h
                    have h' : b' = b := h
                    refine inv.dis B' hB' B hB hBB hlB' hla ?_
                    rw [e1, e1', h']
                  · refine (lst' _ (fun h => ?_)).symm
                    exact hBB ((ops_one B' hB').2 B hB e' he' e he (h.trans hei.symm))
              · have h1 : B'.a ≠ i := fun h => by have := (hbl' B' hB').2.1; rw [h, hst] at this; cases this
                have h2 : B''.a ≠ i := fun h => by have := (hbl' B'' hB'').2.1; rw [h, hst] at this; cases this
                rw [lst' _ h1] at hlB
                rw [lst' _ h2] at hlB'
                exact inv.dis B' hB' B'' hB'' hne hlB hlB'
            · have := cnt_set hun n
              rw [if_pos hin] at this
              omega
  refine wp_region_any hm ?_
  have H := main n (Array.replicate l.toArray.size false) a w.drew (fun _ => undef) ⟨⟨by simp, fun j oj _ hl => (by rw [getD_replicate_false] at hl; cases hl), fun t _ ht => getD_in (by simpa using ht) (getD_replicate_false _ _)⟩,
    (Below.refl _ _).drew, rfl, rfl, fun s _ => rfl, fun j hj o s _ hl => (by rw [getD_replicate_false] at hl; cases hl), fun j hj hl => (by rw [getD_replicate_false] at hl; cases hl), fun B _ hl => (by rw [getD_replicate_false] at hl; cases hl), fun B _ B' _ _ hl => (by rw [getD_replicate_false] at hl; cases hl)⟩ (cnt_init _ n hn)
  rw [show n + (l.toArray.size - n) = l.toArray.size by omega] at H
  exact H
end
end Go.Proofs.Ytfmkndemkpecpaa
