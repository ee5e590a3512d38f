/- A region that draws its order and stores, by words that are chosen one by one (wp_su, step for step). -/
import Derived.Test.YtfmkndemkpecpaaSu
import Derived.Test.YtfmkndemkpecpaaRelS
namespace Go.Proofs.Ytfmkndemkpecpaa
open Go.RowKit
set_option linter.unusedVariables false

section
variable {P : Program} {Q : Exit → Act → World → Prop} {D : Nat → Prop}
def updC (k : Nat) (p : MC D) (f : Nat → MC D) : Nat → MC D := fun j => bif Nat.beq j k then p else f j
theorem updC_same (k : Nat) (p : MC D) (f : Nat → MC D) : updC k p f k = p := by simp [updC]
theorem updC_ne {j k : Nat} (h : j ≠ k) (p : MC D) (f : Nat → MC D) : updC k p f j = f j := by
  have : Nat.beq j k = false := by
    cases hb : Nat.beq j k with
    | false => rfl
    | true => exact absurd (Nat.eq_of_beq_eq_true hb) h
  simp [updC, this]
/-- bytes that no block of D holds -/
def MC.rbN (base : Nat) (hd : ∀ b, D b → b < base) (l : List UInt8) : MC D := ⟨fun v w => ∃ A n c, v = .slice A n c ∧ Rb w A n c l ∧ ∀ a, A = some a → base ≤ a.block, fun _ _ _ ⟨A, n, c, h1, h2, h3⟩ h => ⟨A, n, c, h1, h2.chg h (fun a ha hD => by have := h3 a ha; have := hd _ hD; omega), h3⟩⟩
def MC.fullN (base : Nat) (hd : ∀ b, D b → b < base) (l : List UInt8) : MC D := ⟨fun v w => ∃ A n, v = .slice A n n ∧ Rb w A n n l ∧ ∀ a, A = some a → base ≤ a.block, fun _ _ _ ⟨A, n, h1, h2, h3⟩ h => ⟨A, n, h1, h2.chg h (fun a ha hD => by have := h3 a ha; have := hd _ hD; omega), h3⟩⟩
def StepC (body : Nat → Oper → Act → World → MC D → Prop) (l : List Oper) (n : Nat) (a : Act) (w : World) (φs : Nat → MC D) (i : Nat) (φ : MC D) : Prop :=
  ∀ o, l[i]? = some o → ∀ (A : Act) (w' : World), Chg D w w' → (∀ s, outB l.toArray n i s = true → A.eval (.tmp s) = a.eval (.tmp s)) → (∀ j s, depB l.toArray n i j s = true → (φs j).p (A.eval (.tmp s)) w') → body i o A w' φ
def StepsC (fin : (Nat → MC D) → Prop) (body : Nat → Oper → Act → World → MC D → Prop) (l : List Oper) (n : Nat) (a : Act) (w : World) : Nat → Nat → (Nat → MC D) → Prop
  | 0, _, φs => fin φs
  | r + 1, i, φs => ∃ φ, StepC body l n a w φs i φ ∧ StepsC fin body l n a w r (i + 1) (updC i φ φs)
variable {fin : (Nat → MC D) → Prop} {body : Nat → Oper → Act → World → MC D → Prop}
theorem StepsC.all {l : List Oper} {n : Nat} {a : Act} {w : World} (hdep : ∀ i, i < n → ∀ j s, depB l.toArray n i j s = true → j < i) : ∀ (r i : Nat) (φs : Nat → MC D), i + r = n → StepsC fin body l n a w r i φs → (∀ j, j < i → StepC body l n a w φs j (φs j)) →
    ∃ Φ : Nat → MC D, (∀ i, i < n → StepC body l n a w Φ i (Φ i)) ∧ fin Φ
  | 0, i, φs, hi, hs, hd => ⟨φs, fun j hj => hd j (by omega), hs⟩
  | r + 1, i, φs, hi, hs, hd => by
    obtain ⟨φ, h1, h2⟩ := hs
    refine StepsC.all hdep r (i + 1) (updC i φ φs) (by omega) h2 fun j hj => ?_
    have conv : ∀ k (ψ : MC D), k ≤ i → k < n → StepC body l n a w φs k ψ → StepC body l n a w (updC i φ φs) k ψ := by
      intro k ψ hk hkn h o ho A w' hC hO hD
      refine h o ho A w' hC hO (fun j' s hj' => ?_)
      have hlt := hdep k hkn j' s hj'
      have := hD j' s hj'
      rwa [updC_ne (by omega)] at this
    by_cases hji : j = i
    · subst hji
      rw [updC_same]
      exact conv j φ (Nat.le_refl _) (by omega) h1
    · rw [updC_ne hji]
      exact conv j (φs j) (by omega) (by omega) (hd j (by omega))
def bodyC (P : Program) (Q : Exit → Act → World → Prop) (l : List Oper) (cs : List Nat) (St : Nat → World → Prop) (i : Nat) (o : Oper) (A : Act) (w' : World) (φ : MC D) : Prop :=
  if cs.contains i = true then ∀ k, cs[k]? = some i → St k w' → ∀ K : Act → World → Prop, Shut (∀ v w'', Chg D w' w'' → St (k + 1) w'' → φ.p v w'' → K (A.put o.dst v) w'') → if Region.wanted o (yielded l.toArray A.tmps) = true then o.wp P A w' K Q else False
  else ∀ K : Act → World → Prop, Shut (∀ v w'', Ex w' w'' → φ.p v w'' → K (A.put o.dst v) w'') → if Region.wanted o (yielded l.toArray A.tmps) = true then o.wp P A w' K Q else K (A.put o.dst undef) w'
def finC (P : Program) (Q : Exit → Act → World → Prop) (l : List Oper) (n : Nat) (a : Act) (w : World) (cs : List Nat) (St : Nat → World → Prop) (φs : Nat → MC D) : Prop :=
  ∀ (vs : Nat → Value) (w' : World), Chg D w w' → St cs.length w' → (∀ i, i < n → ((l[i]?).bind (·.dst)).isSome = true → (φs i).p (vs i) w') → wpList P l.toArray Q (l.drop n) (putAll (l.take n) vs 0 a) w'
theorem wp_suS {id : Nat} {a : Act} {w : World} {l : List Oper} (D : Nat → Prop) (n N f : Nat) (cs : List Nat) (hN : a.tmps.size = N) (hm : P.follows .mixedOrders = true) (hB : suB l.toArray n N cs f = true)
    (St : Nat → World → Prop) (hSt : ∀ k w w', St k w → Ex w w' → St k w') (h0 : St 0 w)
    (h : StepsC (D := D) (finC P Q l n a w cs St) (bodyC P Q l cs St) l n a w n 0 (fun _ => MC.any)) : (Code.region id l.toArray true).wp P Q a w := by
  have hdep : ∀ i, i < n → ∀ j s, depB l.toArray n i j s = true → j < i := by
    have hB' := hB
    unfold suB at hB'
    simp only [Bool.and_eq_true, decide_eq_true_eq] at hB'
    obtain ⟨⟨⟨⟨_, hall⟩, _⟩, _⟩, _⟩ := hB'
    intro i hi j s hd
    have h1 := List.all_eq_true.1 hall i (List.mem_range.2 hi)
    simp only [depB, Bool.and_eq_true, decide_eq_true_eq] at hd
    obtain ⟨o, ho, e, he, hb, hon⟩ := Region.waitsFor_spec hd.1.2
    rw [ho] at h1
    simp only [Bool.and_eq_true] at h1
    have h3 := (Array.all_eq_true_iff_forall_mem.1 h1.1.2) e he
    rw [hb] at h3
    have : e.on < i := by simpa using h3
    omega
  obtain ⟨Φ, h1, h2⟩ := StepsC.all hdep n 0 _ (by omega) h (fun j hj => absurd hj (by omega))
  refine wp_su D n N f cs hN hm hB Φ St hSt h0 (fun i hi o ho hq A w' hC hO hD K hK => ?_) (fun k i hk o ho A w' hC hS hO hD K hK => ?_) h2
  · have := h1 i hi o ho A w' hC hO hD
    unfold bodyC at this
    rw [if_neg (by rw [hq]; decide)] at this
    exact this K hK
  · have hB' := hB
    unfold suB at hB'
    simp only [Bool.and_eq_true, decide_eq_true_eq] at hB'
    have hin : i < n := by
      have hm := List.mem_of_getElem? hk
      simpa using List.all_eq_true.1 hB'.1.1.2 i hm
    have := h1 i hin o ho A w' hC hO hD
    unfold bodyC at this
    rw [if_pos (by simpa using List.mem_of_getElem? hk)] at this
    exact this k hk hS K hK
theorem StepsC.one (φ : MC D) {l : List Oper} {n : Nat} {a : Act} {w : World} {r i : Nat} {φs : Nat → MC D} {cs : List Nat} {St : Nat → World → Prop} (i' : Nat) (hi : i + 1 = i') (hc : cs.contains i = false)
    (h : ∀ o, l[i]? = some o → ∀ (A : Act) (w' : World), Chg D w w' → (∀ s, outB l.toArray n i s = true → A.eval (.tmp s) = a.eval (.tmp s)) → (∀ j s, depB l.toArray n i j s = true → (φs j).p (A.eval (.tmp s)) w') →
      ∀ K : Act → World → Prop, Shut (∀ v w'', Ex w' w'' → φ.p v w'' → K (A.put o.dst v) w'') → if Region.wanted o (yielded l.toArray A.tmps) = true then o.wp P A w' K Q else K (A.put o.dst undef) w')
    (h' : StepsC fin (bodyC P Q l cs St) l n a w r i' (updC i φ φs)) : StepsC fin (bodyC P Q l cs St) l n a w (r + 1) i φs := by
  subst hi
  refine ⟨φ, fun o ho A w' hC hO hD => ?_, h'⟩
  unfold bodyC
  rw [if_neg (by rw [hc]; decide)]
  exact h o ho A w' hC hO hD
/-- the k-th operation that changes the blocks D -/
theorem StepsC.mov (φ : MC D) {l : List Oper} {n : Nat} {a : Act} {w : World} {r i : Nat} {φs : Nat → MC D} {cs : List Nat} {St : Nat → World → Prop} (i' k : Nat) (hi : i + 1 = i') (hk : cs[k]? = some i) (hu : nodupB cs = true)
    (h : ∀ o, l[i]? = some o → ∀ (A : Act) (w' : World), Chg D w w' → (∀ s, outB l.toArray n i s = true → A.eval (.tmp s) = a.eval (.tmp s)) → (∀ j s, depB l.toArray n i j s = true → (φs j).p (A.eval (.tmp s)) w') → St k w' →
      ∀ K : Act → World → Prop, Shut (∀ v w'', Chg D w' w'' → St (k + 1) w'' → φ.p v w'' → K (A.put o.dst v) w'') → if Region.wanted o (yielded l.toArray A.tmps) = true then o.wp P A w' K Q else False)
    (h' : StepsC fin (bodyC P Q l cs St) l n a w r i' (updC i φ φs)) : StepsC fin (bodyC P Q l cs St) l n a w (r + 1) i φs := by
  subst hi
  refine ⟨φ, fun o ho A w' hC hO hD => ?_, h'⟩
  unfold bodyC
  rw [if_pos (by simpa using List.mem_of_getElem? hk)]
  intro k2 hk2 hS
  have hn := nodup_of hu
  obtain ⟨hl1, e1⟩ := List.getElem?_eq_some_iff.1 hk
  obtain ⟨hl2, e2⟩ := List.getElem?_eq_some_iff.1 hk2
  obtain rfl : k2 = k := (List.getElem_inj hn).1 (e2.trans e1.symm)
  exact h o ho A w' hC hO hD hS
theorem StepsC.fin_ {l : List Oper} {n : Nat} {a : Act} {w : World} {i : Nat} {φs : Nat → MC D} {cs : List Nat} {St : Nat → World → Prop} (h : ∀ (vs : Nat → Value) (w' : World), Chg D w w' → St cs.length w' → (∀ i, i < n → ((l[i]?).bind (·.dst)).isSome = true → (φs i).p (vs i) w') → wpList P l.toArray Q (l.drop n) (putAll (l.take n) vs 0 a) w') : StepsC (finC P Q l n a w cs St) body l n a w 0 i φs := h
end
end Go.Proofs.Ytfmkndemkpecpaa
