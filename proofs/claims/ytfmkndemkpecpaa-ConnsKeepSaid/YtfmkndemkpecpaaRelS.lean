/- A region that draws its order, by words that are chosen one by one (wp_rel, wp_relE, step for step). -/
import Derived.Test.YtfmkndemkpecpaaAgg
namespace Go.Proofs.Ytfmkndemkpecpaa
open Go.RowKit
set_option linter.unusedVariables false

/-- the words so far, and one more for operation k -/
def upd (k : Nat) (p : MP) (f : Nat → MP) : Nat → MP := fun j => bif Nat.beq j k then p else f j
theorem upd_same (k : Nat) (p : MP) (f : Nat → MP) : upd k p f k = p := by simp [upd]
theorem upd_ne {j k : Nat} (h : j ≠ k) (p : MP) (f : Nat → MP) : upd k p f j = f j := by
  have : Nat.beq j k = false := by
    cases hb : Nat.beq j k with
    | false => rfl
    | true => exact absurd (Nat.eq_of_beq_eq_true hb) h
  simp [upd, this]
theorem eval_tmp (a : Act) (s : Nat) : a.eval (.tmp s) = a.tmps[s]?.getD undef := by simp [Act.eval]
section
variable {P : Program} {Q : Exit → Act → World → Prop}
/-- operation i does what its word says, whenever its turn comes -/
def StepOk (body : Nat → Oper → Act → World → MP → Prop) (l : List Oper) (n : Nat) (a : Act) (w : World) (φs : Nat → MP) (i : Nat) (φ : MP) : Prop :=
  ∀ o, l[i]? = some o → ∀ (A : Act) (x : Ext), (∀ s, outB l.toArray n i s = true → A.eval (.tmp s) = a.eval (.tmp s)) → (∀ j s, depB l.toArray n i j s = true → (φs j).p (A.eval (.tmp s)) (plus w x.bs x.d)) → body i o A (plus w x.bs x.d) φ
def Steps (fin : (Nat → MP) → Prop) (body : Nat → Oper → Act → World → MP → Prop) (l : List Oper) (n : Nat) (a : Act) (w : World) : Nat → Nat → (Nat → MP) → Prop
  | 0, _, φs => fin φs
  | r + 1, i, φs => ∃ φ, StepOk body l n a w φs i φ ∧ Steps fin body l n a w r (i + 1) (upd i φ φs)
variable {fin : (Nat → MP) → Prop} {body : Nat → Oper → Act → World → MP → Prop}
theorem Steps.all {l : List Oper} {n : Nat} {a : Act} {w : World} (hdep : ∀ i, i < n → ∀ j s, depB l.toArray n i j s = true → j < i) : ∀ (r i : Nat) (φs : Nat → MP), i + r = n → Steps fin body l n a w r i φs → (∀ j, j < i → StepOk body l n a w φs j (φs j)) →
    ∃ Φ : Nat → MP, (∀ i, i < n → StepOk body l n a w Φ i (Φ i)) ∧ fin Φ
  | 0, i, φs, hi, hs, hd => ⟨φs, fun j hj => hd j (by omega), hs⟩
  | r + 1, i, φs, hi, hs, hd => by
    obtain ⟨φ, h1, h2⟩ := hs
    refine Steps.all hdep r (i + 1) (upd i φ φs) (by omega) h2 fun j hj => ?_
    have conv : ∀ k (ψ : MP), k ≤ i → k < n → StepOk body l n a w φs k ψ → StepOk body l n a w (upd i φ φs) k ψ := by
      intro k ψ hk hkn h o ho A x hO hD
      refine h o ho A x hO (fun j' s hj' => ?_)
      have hlt := hdep k hkn j' s hj'
      have := hD j' s hj'
      rwa [upd_ne (by omega)] at this
    by_cases hji : j = i
    · subst hji
      rw [upd_same]
      exact conv j φ (Nat.le_refl _) (by omega) h1
    · rw [upd_ne hji]
      exact conv j (φs j) (by omega) (by omega) (hd j (by omega))
theorem all_dep {ops : Array Oper} {n : Nat} {g : Nat → Oper → Bool} (hall : ((List.range n).all fun i => match ops[i]? with
    | none => false
    | some o => (match o.dst with | some s => g s o | none => false) && (o.after.all fun e => !Region.binds .any e || decide (e.on < i)) &&
      (List.range n).all fun j => j == i || (match (ops[j]?).bind (·.dst) with | some s => o.dst != some s | none => false)) = true) : ∀ i, i < n → ∀ j s, depB ops n i j s = true → j < i := by
  intro i hi j s hd
  have h1 := List.all_eq_true.1 hall i (List.mem_range.2 hi)
  simp only [depB, Bool.and_eq_true, decide_eq_true_eq] at hd
  obtain ⟨o, ho, e, he, hb, hon⟩ := Region.waitsFor_spec hd.1.2
  rw [ho] at h1
  simp only [Bool.and_eq_true] at h1
  have h3 := (Array.all_eq_true_iff_forall_mem.1 h1.1.2) e he
  rw [hb] at h3
  have : e.on < i := by simpa using h3
  omega
def bodyS (P : Program) (Q : Exit → Act → World → Prop) (l : List Oper) (i : Nat) (o : Oper) (A : Act) (w : World) (φ : MP) : Prop :=
  ∀ K : Act → World → Prop, Shut (∀ v w', Ex w w' → φ.p v w' → K (A.put o.dst v) w') → if Region.wanted o (yielded l.toArray A.tmps) = true then o.wp P A w K Q else K (A.put o.dst undef) w
def bodyE (P : Program) (Q : Exit → Act → World → Prop) (l : List Oper) (pu : List Nat) (i : Nat) (o : Oper) (A : Act) (w : World) (φ : MP) : Prop :=
  if pu.contains i = true then ∃ v, Yields P l.toArray o v A ∧ φ.p v w else bodyS P (NoPanic Q) l i o A w φ
def finS (P : Program) (Q : Exit → Act → World → Prop) (l : List Oper) (n : Nat) (a : Act) (w : World) (φs : Nat → MP) : Prop :=
  ∀ (vs : Nat → Value) (x : Ext), (∀ i, i < n → (φs i).p (vs i) (plus w x.bs x.d)) → wpList P l.toArray Q (l.drop n) (putAll (l.take n) vs 0 a) (plus w x.bs x.d)
theorem wp_relS {id : Nat} {a : Act} {w : World} {l : List Oper} (n N : Nat) (hN : a.tmps.size = N) (hm : P.follows .mixedOrders = true) (hB : relB l.toArray n N = true)
    (h : Steps (finS P Q l n a w) (bodyS P Q l) l n a w n 0 (fun _ => MP.any)) : (Code.region id l.toArray true).wp P Q a w := by
  have hdep : ∀ i, i < n → ∀ j s, depB l.toArray n i j s = true → j < i := by
    have hB' := hB
    unfold relB at hB'
    simp only [Bool.and_eq_true] at hB'
    exact all_dep (g := fun s _ => decide (s < N)) (by exact hB'.2)
  obtain ⟨Φ, h1, h2⟩ := Steps.all hdep n 0 _ (by omega) h (fun j hj => absurd hj (by omega))
  exact wp_rel n N hN hm hB Φ (fun i hi o ho A x hO hD K hK => h1 i hi o ho A x hO hD K hK) h2
theorem wp_relES {id : Nat} {a : Act} {w : World} {l : List Oper} (n N : Nat) (pu : List Nat) (hN : a.tmps.size = N) (hm : P.follows .mixedOrders = true) (hB : relE l.toArray n N pu = true)
    (h : Steps (finS P (NoPanic Q) l n a w) (bodyE P Q l pu) l n a w n 0 (fun _ => MP.any)) : (Code.region id l.toArray true).wp P Q a w := by
  have hdep : ∀ i, i < n → ∀ j s, depB l.toArray n i j s = true → j < i := by
    have hB' := hB
    unfold relE at hB'
    simp only [Bool.and_eq_true] at hB'
    exact all_dep (g := fun s _ => decide (s < N)) (by exact hB'.1.2)
  obtain ⟨Φ, h1, h2⟩ := Steps.all hdep n 0 _ (by omega) h (fun j hj => absurd hj (by omega))
  exact wp_relE n N pu hN hm hB Φ (fun i hi o ho A x hO hD => h1 i hi o ho A x hO hD) h2
/-- one operation more; its word is found by the proof -/
theorem Steps.one (φ : MP) {l : List Oper} {n : Nat} {a : Act} {w : World} {r i : Nat} {φs : Nat → MP} (i' : Nat) (hi : i + 1 = i')
    (h : ∀ o, l[i]? = some o → ∀ (A : Act) (x : Ext), (∀ s, outB l.toArray n i s = true → A.eval (.tmp s) = a.eval (.tmp s)) → (∀ j s, depB l.toArray n i j s = true → (φs j).p (A.eval (.tmp s)) (plus w x.bs x.d)) →
      ∀ K : Act → World → Prop, Shut (∀ v w', Ex (plus w x.bs x.d) w' → φ.p v w' → K (A.put o.dst v) w') → if Region.wanted o (yielded l.toArray A.tmps) = true then o.wp P A (plus w x.bs x.d) K Q else K (A.put o.dst undef) (plus w x.bs x.d))
    (h' : Steps fin (bodyS P Q l) l n a w r i' (upd i φ φs)) : Steps fin (bodyS P Q l) l n a w (r + 1) i φs := by
  subst hi
  exact ⟨φ, fun o ho A x hO hD => h o ho A x hO hD, h'⟩
theorem Steps.oneE (φ : MP) {l : List Oper} {n : Nat} {a : Act} {w : World} {r i : Nat} {φs : Nat → MP} {pu : List Nat} (i' : Nat) (hi : i + 1 = i') (hp : pu.contains i = false)
    (h : ∀ o, l[i]? = some o → ∀ (A : Act) (x : Ext), (∀ s, outB l.toArray n i s = true → A.eval (.tmp s) = a.eval (.tmp s)) → (∀ j s, depB l.toArray n i j s = true → (φs j).p (A.eval (.tmp s)) (plus w x.bs x.d)) →
      ∀ K : Act → World → Prop, Shut (∀ v w', Ex (plus w x.bs x.d) w' → φ.p v w' → K (A.put o.dst v) w') → if Region.wanted o (yielded l.toArray A.tmps) = true then o.wp P A (plus w x.bs x.d) K (NoPanic Q) else K (A.put o.dst undef) (plus w x.bs x.d))
    (h' : Steps fin (bodyE P Q l pu) l n a w r i' (upd i φ φs)) : Steps fin (bodyE P Q l pu) l n a w (r + 1) i φs := by
  subst hi
  refine ⟨φ, fun o ho A x hO hD => ?_, h'⟩
  unfold bodyE
  rw [if_neg (by rw [hp]; decide)]
  exact h o ho A x hO hD
theorem Steps.oneP (v : Value) {l : List Oper} {n : Nat} {a : Act} {w : World} {r i : Nat} {φs : Nat → MP} {pu : List Nat} (i' : Nat) (hi : i + 1 = i') (hp : pu.contains i = true)
    (h : ∀ o, l[i]? = some o → ∀ (A : Act) (x : Ext), (∀ s, outB l.toArray n i s = true → A.eval (.tmp s) = a.eval (.tmp s)) → (∀ j s, depB l.toArray n i j s = true → (φs j).p (A.eval (.tmp s)) (plus w x.bs x.d)) → Yields P l.toArray o v A)
    (h' : Steps fin (bodyE P Q l pu) l n a w r i' (upd i (MP.eq v) φs)) : Steps fin (bodyE P Q l pu) l n a w (r + 1) i φs := by
  subst hi
  refine ⟨MP.eq v, fun o ho A x hO hD => ?_, h'⟩
  unfold bodyE
  rw [if_pos hp]
  exact ⟨v, h o ho A x hO hD, rfl⟩
theorem Steps.fin_ {l : List Oper} {n : Nat} {a : Act} {w : World} {i : Nat} {φs : Nat → MP} (h : ∀ (vs : Nat → Value) (x : Ext), (∀ i, i < n → (φs i).p (vs i) (plus w x.bs x.d)) → wpList P l.toArray Q (l.drop n) (putAll (l.take n) vs 0 a) (plus w x.bs x.d)) : Steps (finS P Q l n a w) body l n a w 0 i φs := h
end
/-! ### loads of one cell -/
theorem run_loadAt_one {P : Program} (w : World) (b o : Nat) (ty : TypeId) (v : Value) (d : TypeDesc) (hc : w.cell? ⟨b, o, none⟩ = some v) (hu : P.underlying ty = some d) (hd : d.isRow = false) :
    (Instr.loadAt ty (.pointer (some ⟨b, o, none⟩))).run P w = .ok v w := by
  have hagg : (isAgg ty).run P w = .ok false w := by
    unfold isAgg
    rw [Sem.run_bind, run_underlying hu w]
    cases d <;> simp_all
  simp [Instr.loadAt, Instr.sureAddr, loadVar, Sem.run_bind, hagg, run_load, hc]
theorem wp_ld1 {P : Program} {Q : Exit → Act → World → Prop} {o : Oper} {a : Act} {w : World} {K : Act → World → Prop} (ty : TypeId) (x : Operand) (ho : o.op = .load ty x) {g off : Nat} {t : TypeId} {cs : List Value} {v : Value} {d : TypeDesc}
    (hx : a.eval x = .pointer (some ⟨g, off, none⟩)) (hb : Bk w g t cs) (hv : cs[off]? = some v) (hu : P.underlying ty = some d) (hd : d.isRow = false) (h : K (a.put o.dst v) w) : o.wp P a w K Q := by
  unfold Oper.wp execOp
  simp only [ho, hx, Sem.run_bind, run_loadAt_one w g off ty v d ((hb.cell off).trans hv) hu hd, Result.andThen_ok]
  exact h
theorem wp_ldA {P : Program} {Q : Exit → Act → World → Prop} {o : Oper} {a : Act} {w : World} {K : Act → World → Prop} (ty : TypeId) (x : Operand) (ho : o.op = .load ty x) {g off : Nat} {t : TypeId} {cs : List Value} {d : TypeDesc} (part : List Value)
    (hx : a.eval x = .pointer (some ⟨g, off, none⟩)) (hb : Bk w g t cs) (hp : (cs.drop off).take part.length = part) (hu : P.underlying ty = some d) (hd : d.isRow = true) (hi : (P.info? ty).map (·.size) = some part.length) (h : K (a.put o.dst (.agg part.toArray)) w) : o.wp P a w K Q := by
  refine wp_load_mid ty x ho g off hx part d (fun j v hv => ?_) hu hd hi h
  rw [hb.cell]
  rw [← hp, List.getElem?_take] at hv
  split at hv
  · rw [List.getElem?_drop] at hv; exact hv
  · cases hv
theorem wpList_ld1 {P : Program} {w : World} {ops : Array Oper} {rest : List Oper} {o : Oper} {a : Act} {Q : Exit → Act → World → Prop} (ty : TypeId) (x : Operand) (ho : o.op = .load ty x) (hw : Region.wanted o (yielded ops a.tmps) = true) {g off : Nat} {t : TypeId} {cs : List Value} {v : Value} {d : TypeDesc}
    (hx : a.eval x = .pointer (some ⟨g, off, none⟩)) (hb : Bk w g t cs) (hv : cs[off]? = some v) (hu : P.underlying ty = some d) (hd : d.isRow = false) (h : wpList P ops Q rest (a.put o.dst v) w) : wpList P ops Q (o :: rest) a w := by
  unfold wpList
  rw [if_pos hw]
  exact .inl (wp_ld1 ty x ho hx hb hv hu hd h)
/-! ### stores of one cell -/
theorem run_storeAt_one {P : Program} (w : World) (ty : TypeId) (v : Value) {g off : Nat} {t : TypeId} {cs : List Value} (hb : Bk w g t cs) (hl : off < cs.length) (h1 : v.oneCell' = true) (hi : (P.info? ty).map (·.size) = some 1) :
    (Instr.storeAt ty (.pointer (some ⟨g, off, none⟩)) v).run P w = .ok () (w.setCell ⟨g, off, none⟩ v) := by
  have hv : v.cells = #[v] := by cases v <;> first | rfl | (simp [Value.oneCell'] at h1)
  have hst := run_store P w ((⟨g, off, none⟩ : Addr).add 0) v .plain h1
  rw [add_plain, Nat.add_zero, hb.cell, hb.frozen, List.getElem?_eq_getElem hl] at hst
  cases hq : P.info? ty with
  | none => simp [hq] at hi
  | some i =>
    have hs : i.size = 1 := by simpa [hq] using hi
    simp [Instr.storeAt, Instr.sureAddr, storeVar, sizeOf, typeInfo, hq, hv, hs, storeCells, add_plain, hst]
theorem wp_st1 {P : Program} {Q : Exit → Act → World → Prop} {o : Oper} {a : Act} {w : World} {K : Act → World → Prop} (ty : TypeId) (x y : Operand) (ho : o.op = .store ty x y) {g off : Nat} {t : TypeId} {cs : List Value} {v : Value}
    (hx : a.eval x = .pointer (some ⟨g, off, none⟩)) (hy : a.eval y = v) (hb : Bk w g t cs) (hl : off < cs.length) (h1 : v.oneCell' = true) (hi : (P.info? ty).map (·.size) = some 1)
    (h : ∀ w', Bk w' g t (cs.set off v) → w.grownBy w' (some g) → K (a.put o.dst undef) w') : o.wp P a w K Q := by
  unfold Oper.wp execOp
  simp only [ho, hx, hy, Sem.run_bind, run_storeAt_one w ty v hb hl h1 hi, Result.andThen_ok]
  exact h _ (hb.set_ off v) (grownBy_setCell _ _ _ _)
theorem wpList_st1 {P : Program} {w : World} {ops : Array Oper} {rest : List Oper} {o : Oper} {a : Act} {Q : Exit → Act → World → Prop} (ty : TypeId) (x y : Operand) (ho : o.op = .store ty x y) (hgd : o.guard = none) {g off : Nat} {t : TypeId} {cs : List Value} {v : Value}
    (hx : a.eval x = .pointer (some ⟨g, off, none⟩)) (hy : a.eval y = v) (hb : Bk w g t cs) (hl : off < cs.length) (h1 : v.oneCell' = true) (hi : (P.info? ty).map (·.size) = some 1)
    (h : ∀ w', Bk w' g t (cs.set off v) → w.grownBy w' (some g) → wpList P ops Q rest (a.put o.dst undef) w') : wpList P ops Q (o :: rest) a w :=
  wpList_plain hgd fun _ hK => wp_st1 ty x y ho hx hy hb hl h1 hi fun w' h2 h3 => hK _ _ (h w' h2 h3)
/-- a store into a cell that holds no byte leaves all bytes -/
theorem Rb.setNo {w : World} {A : Option Addr} {n c : Nat} {l : List UInt8} (h : Rb w A n c l) {p : Addr} {v : Value} (hp : w.cell? p = some v) (hv : ∀ x, v ≠ .int .u8 x) (u : Value) : Rb (w.setCell p u) A n c l := by
  refine ⟨h.1, h.2.1, ?_⟩
  rcases h.2.2 with h' | ⟨b, off, hA, hb, hc⟩
  · exact .inl h'
  · refine .inr ⟨b, off, hA, by simpa [World.setCell] using hb, fun i u' hu => ?_⟩
    have h1 := hc i u' hu
    rw [World.cell?_setCell_other w p ⟨b, off + i, none⟩ u (fun e => by
      rw [e, h1] at hp
      injection hp with hp
      have hm := List.mem_of_getElem? hu
      simp only [bcs, List.mem_map] at hm
      obtain ⟨x, _, rfl⟩ := hm
      exact hv _ hp.symm)]
    exact h1
theorem wpList_st1R {P : Program} {w : World} {ops : Array Oper} {rest : List Oper} {o : Oper} {a : Act} {Q : Exit → Act → World → Prop} (ty : TypeId) (x y : Operand) (ho : o.op = .store ty x y) (hgd : o.guard = none) {g off : Nat} {t : TypeId} {cs : List Value} {v v0 : Value}
    (hx : a.eval x = .pointer (some ⟨g, off, none⟩)) (hy : a.eval y = v) (hb : Bk w g t cs) (h0 : cs[off]? = some v0) (hv0 : ∀ x, v0 ≠ .int .u8 x) (h1 : v.oneCell' = true) (hi : (P.info? ty).map (·.size) = some 1)
    (h : ∀ w', Bk w' g t (cs.set off v) → w.grownBy w' (some g) → (∀ A n c l, Rb w A n c l → Rb w' A n c l) → wpList P ops Q rest (a.put o.dst undef) w') : wpList P ops Q (o :: rest) a w := by
  have hl : off < cs.length := (List.getElem?_eq_some_iff.1 h0).1
  refine wpList_plain hgd fun _ hK => ?_
  unfold Oper.wp execOp
  simp only [ho, hx, hy, Sem.run_bind, run_storeAt_one w ty v hb hl h1 hi, Result.andThen_ok]
  exact hK _ _ (h _ (hb.set_ off v) (grownBy_setCell _ _ _ _) (fun A n c l hr => hr.setNo ((hb.cell off).trans h0) hv0 v))
end Go.Proofs.Ytfmkndemkpecpaa
