/- Texts of the law FollowOffers, part 2. -/
import Derived.Test.YtjiiloffgipfhaaGreatDoorZFollowOffers1
set_option linter.unusedVariables false
set_option linter.unusedSimpArgs false
set_option maxHeartbeats 4000000
set_option maxRecDepth 100000
namespace Go.Proofs.YtjiiloffgipfhaaGreatDoor
section
open Go.RowKit
theorem run_appS2 {P : Program} (w : World) {ts ty e : TypeId} {z : Value} {s by_ : Nat} (et : ET P ts e z s by_) {base : Nat} {A : Option Addr} {n c : Nat} {l : List Value} (hown : Os e s w base A n c l)
  {A2 : Option Addr} {n2 c2 : Nat} {l2 : List Value} (hr : Rs s w A2 n2 c2 l2) (h1 : ∀ u ∈ l2, u.oneCell' = true) (hm : n + n2 ≤ 134217728) (hbase : base ≤ w.heap.size) :
  ∃ A' n' c' w', (Builtin.append_ #[ts, ts] ty #[.slice A n c, .slice A2 n2 c2]).run P w = .ok (.slice A' n' c') w' ∧ n' = n + n2 ∧ Os e s w' base A' n' c' (l ++ l2) ∧ Below base w w' ∧ w.grownBy w' (Value.slice A n c).ownBlock ∧
   ((Value.slice A' n' c').ownBlock = (Value.slice A n c).ownBlock ∨ (Value.slice A' n' c').ownBlock = some w.heap.size) := by
 obtain ⟨i, hi, hz0, hz1, hz2⟩ := info_parts et.info
 have hbel : ∀ {w'}, w.grownBy w' (Value.slice A n c).ownBlock → Below base w w' := fun hg => below_of_grown hg hbase fun k hk => (hown.blk k hk).1
 have fin : ∀ v' w', w'.ownsRow base e s v' (n + n2) (l ++ l2) → ∃ A' n' c', v' = .slice A' n' c' ∧ n' = n + n2 ∧ Os e s w' base A' n' c' (l ++ l2) := by
  intro v' w' h
  have h2 := h.2
  rcases h2 with ⟨hv, h0⟩ | ⟨g, cap, cur, hv, _⟩
  ·refine ⟨none, 0, 0, hv, h0.symm, ?_⟩
   rw [hv, h0] at h
   exact h
  ·refine ⟨_, _, _, hv, rfl, ?_⟩
   rw [hv] at h
   exact h
 cases A2 with
 | none =>
  have hl2 : l2 = [] := by
   rcases hr.2.2 with h | ⟨b, off, h, _⟩
   ·exact h
   ·cases h
  have hn2 : n2 = 0 := by
   have h3 := hr.1
   rw [hl2] at h3
   rcases Nat.eq_zero_or_pos n2 with h | h
   ·exact h
   ·have := Nat.mul_pos h et.pos
    simp at h3
    omega
  subst hn2
  subst hl2
  refine ⟨A, n, c, w, ?_, rfl, by simpa using hown, Below.refl _ _, World.grownBy.refl w _, .inl rfl⟩
  rcases hown.2 with ⟨hv, h0⟩ | ⟨g, cap, cur, hv, _, _, hnc, _⟩
  ·injection hv with h1 h2 h3
   subst h1 h2 h3
   simp [Builtin.append_, run_underlying et.sl, sizeOf, typeInfo, hi, Builtin.lenOf, Builtin.firstCells]
  ·injection hv with h1 h2 h3
   subst h1 h3
   simp [Builtin.append_, run_underlying et.sl, sizeOf, typeInfo, hi, Builtin.lenOf, Builtin.firstCells, hnc, storeCells]
 | some ad =>
  have hcells : ∀ j u, l2[j]? = some u → w.cell? (ad.add j) = some u := by
   intro j u hu
   rcases hr.2.2 with h | ⟨b, off, h, _, hc⟩
   ·rw [h] at hu; simp at hu
   ·injection h with h
    subst h
    rw [add_plain]
    exact hc j u hu
  have hby : (n + n2) * by_ ≤ 140737488355328 := Nat.le_trans (Nat.mul_le_mul hm et.small) (by decide)
  obtain ⟨v', w', hrun, h2, h3, _, h5⟩ := run_append_own_at (P := P) w base ts ty e i z s by_ et.sl hi hz0 hz1 hz2 et.zs et.pos (.slice A n c) n l hown ad n2 c2 l2
   hr.1 hcells h1 (by simp only [maxLen]; omega) hby hbase
  obtain ⟨A', n', c', rfl, hn', hob⟩ := fin v' w' h2
  exact ⟨A', n', c', w', hrun, hn', hob, hbel h3, h3, h5⟩
theorem wpList_appS2 {P : Program} {w : World} {ops : Array Oper} {rest : List Oper} {o : Oper} {a : Act} {Q : Exit → Act → World → Prop} {ts e : TypeId} {z : Value} {sz by_ : Nat} (et : ET P ts e z sz by_) (hgd : o.guard = none) (s x : Operand)
  (ho : o.op = .call { callee := .builtin .append, args := #[s, x], argTypes := #[ts, ts] })
  {base : Nat} {A : Option Addr} {n c : Nat} {l : List Value} (hs : a.eval s = .slice A n c) (hown : Os e sz w base A n c l)
  {A2 : Option Addr} {n2 c2 : Nat} {l2 : List Value} (hx : a.eval x = .slice A2 n2 c2) (hr : Rs sz w A2 n2 c2 l2) (h1 : ∀ u ∈ l2, u.oneCell' = true) (hm : n + n2 ≤ 134217728) (hbase : base ≤ w.heap.size)
  (h : ∀ A' n' c' w', n' = n + n2 → Os e sz w' base A' n' c' (l ++ l2) → Below base w w' → w.grownBy w' (Value.slice A n c).ownBlock →
   ((Value.slice A' n' c').ownBlock = (Value.slice A n c).ownBlock ∨ (Value.slice A' n' c').ownBlock = some w.heap.size) → wpList P ops Q rest (a.put o.dst (.slice A' n' c')) w') : wpList P ops Q (o :: rest) a w := by
 refine wpList_plain hgd fun _ hK => ?_
 obtain ⟨A', n', c', w', hrun, h0, h2, h3, h4, h5⟩ := run_appS2 (P := P) w (ty := o.type) et hown hr h1 hm hbase
 unfold Oper.wp execOp
 simp only [ho, resolve, invoke, builtin, Sem.run_bind, Sem.run_pure, Result.andThen_ok, List.map_toArray, List.map_cons, List.map_nil, hs, hx, hrun]
 exact hK _ _ (h A' n' c' w' h0 h2 h3 h4 h5)
theorem Rs.chg {D : Nat → Prop} {s : Nat} {w w' : World} {A : Option Addr} {n c : Nat} {cs : List Value} (h : Rs s w A n c cs) (hc : Chg D w w') (hd : ∀ a, A = some a → ¬ D a.block) : Rs s w' A n c cs := by
 refine ⟨h.1, h.2.1, ?_⟩
 rcases h.2.2 with h' | ⟨b, off, hA, hb, hcell⟩
 ·exact .inl h'
 ·refine .inr ⟨b, off, hA, Nat.lt_of_lt_of_le hb hc.size, fun i u hu => ?_⟩
  rw [World.cell?_of_block (w := w) (hc.block b hb (hd _ hA))]
  exact hcell i u hu
theorem Os.chg {D : Nat → Prop} {e : TypeId} {s base : Nat} {w w' : World} {A : Option Addr} {n c : Nat} {cs : List Value} (h : Os e s w base A n c cs) (hc : Chg D w w') (hd : ∀ k, (Value.slice A n c).ownBlock = some k → ¬ D k) : Os e s w' base A n c cs := by
 refine ⟨h.1, ?_⟩
 rcases h.2 with h' | ⟨g, cap, cur, hv, hb, hg, hr⟩
 ·exact .inl h'
 ·have hk : (Value.slice A n c).ownBlock = some g := by rw [hv]; rfl
  exact .inr ⟨g, cap, cur, hv, hb, (hc.block g (h.blk g hk).2 (hd g hk)).trans hg, hr⟩
theorem flat_at {X : Type} (enc : X → List Value) (s : Nat) (hs : ∀ x, (enc x).length = s) : ∀ (L : List X) (j : Nat) (hj : j < L.length) (i : Nat) (u : Value), (enc L[j])[i]? = some u → (L.flatMap enc)[j * s + i]? = some u
 | x :: t, 0, _, i, u, h => by
  have hi : i < (enc x).length := (List.getElem?_eq_some_iff.1 h).1
  simp only [List.flatMap_cons, Nat.zero_mul, Nat.zero_add]
  rw [List.getElem?_append_left hi]
  exact h
 | x :: t, j + 1, hj, i, u, h => by
  have h2 := flat_at enc s hs t j (by simpa using hj) i u h
  simp only [List.flatMap_cons]
  rw [List.getElem?_append_right (by rw [hs, Nat.add_mul]; omega), hs, show (j + 1) * s + i - s = j * s + i by rw [Nat.add_mul]; omega]
  exact h2
theorem flat_len {X : Type} (enc : X → List Value) (s : Nat) (hs : ∀ x, (enc x).length = s) : ∀ L : List X, (L.flatMap enc).length = L.length * s
 | [] => by simp
 | x :: t => by simp [hs, flat_len enc s hs t, Nat.add_mul, Nat.add_comm]
theorem flat_take {X : Type} (enc : X → List Value) (s : Nat) (hs : ∀ x, (enc x).length = s) : ∀ (L : List X) (k : Nat), (L.flatMap enc).take (k * s) = (L.take k).flatMap enc
 | [], k => by simp
 | x :: t, 0 => by simp
 | x :: t, k + 1 => by
  simp only [List.flatMap_cons, List.take_succ_cons]
  rw [List.take_append, hs, List.take_of_length_le (by rw [hs, Nat.add_mul]; omega), show (k + 1) * s - s = k * s by rw [Nat.add_mul]; omega, flat_take enc s hs t k]
theorem flat_drop {X : Type} (enc : X → List Value) (s : Nat) (hs : ∀ x, (enc x).length = s) : ∀ (L : List X) (k : Nat), (L.flatMap enc).drop (k * s) = (L.drop k).flatMap enc
 | [], k => by simp
 | x :: t, 0 => by simp
 | x :: t, k + 1 => by
  simp only [List.flatMap_cons, List.drop_succ_cons]
  rw [List.drop_append, hs, List.drop_of_length_le (by rw [hs, Nat.add_mul]; omega), show (k + 1) * s - s = k * s by rw [Nat.add_mul]; omega, flat_drop enc s hs t k, List.nil_append]
theorem flat_one {X : Type} (enc : X → List Value) (h1 : ∀ x, ∀ u ∈ enc x, u.oneCell' = true) (L : List X) : ∀ u ∈ L.flatMap enc, u.oneCell' = true := by
 intro u hu
 obtain ⟨x, _, hx⟩ := List.mem_flatMap.1 hu
 exact h1 x u hx
theorem Rs.rangeE {X : Type} {enc : X → List Value} {s : Nat} (hs : ∀ x, (enc x).length = s) {w : World} {b off n c : Nat} {L : List X} (h : Rs s w (some ⟨b, off, none⟩) n c (L.flatMap enc)) (j : Nat) (hj : j < L.length) :
  w.rangeAt b (off + j * s) (enc L[j]) := by
 intro i u hu
 have hp := flat_at enc s hs L j hj i u hu
 rcases h.2.2 with h0 | ⟨b', off', hA, hb, hc⟩
 ·rw [h0] at hp; simp at hp
 ·injection hA with hA
  injection hA with e1 e2
  subst e1 e2
  rw [Nat.add_assoc]
  exact hc _ _ hp
section
variable {P : Program} {Q : Exit → Act → World → Prop} {D : Nat → Prop}
def updC (k : Nat) (p : MC D) (f : Nat → MC D) : Nat → MC D := fun j => bif Nat.beq j k then p else f j
theorem updC_same (k : Nat) (p : MC D) (f : Nat → MC D) : updC k p f k = p := by simp [updC]
theorem updC_ne {j k : Nat} (h : j ≠ k) (p : MC D) (f : Nat → MC D) : updC k p f j = f j := by
 have : Nat.beq j k = false := by
  cases hb : Nat.beq j k with
  | false => rfl
  | true => exact absurd (Nat.eq_of_beq_eq_true hb) h
 simp [updC, this]
def StepC (body : Nat → Oper → Act → World → MC D → Prop) (l : List Oper) (n : Nat) (a : Act) (w : World) (φs : Nat → MC D) (i : Nat) (φ : MC D) : Prop :=
 ∀ o, l[i]? = some o → ∀ (A : Act) (w' : World), Chg D w w' → (∀ s, outB l.toArray n i s = true → A.eval (.tmp s) = a.eval (.tmp s)) → (∀ j s, depB l.toArray n i j s = true → (φs j).p (A.eval (.tmp s)) w') → body i o A w' φ
def StepsC (fin : (Nat → MC D) → Prop) (body : Nat → Oper → Act → World → MC D → Prop) (l : List Oper) (n : Nat) (a : Act) (w : World) : Nat → Nat → (Nat → MC D) → Prop
 | 0, _, φs => fin φs
 | r + 1, i, φs => ∃ φ, StepC body l n a w φs i φ ∧ StepsC fin body l n a w r (i + 1) (updC i φ φs)
variable {fin : (Nat → MC D) → Prop} {body : Nat → Oper → Act → World → MC D → Prop}
theorem StepsC.all {l : List Oper} {n : Nat} {a : Act} {w : World} (hdep : ∀ i, i < n → ∀ j s, depB l.toArray n i j s = true → j < i) : ∀ (r i : Nat) (φs : Nat → MC D), i + r = n → StepsC fin body l n a w r i φs → (∀ j, j < i → StepC body l n a w φs j (φs j)) →
  ∃ Φ : Nat → MC D, (∀ i, i < n → StepC body l n a w Φ i (Φ i)) ∧ fin Φ
 | 0, i, φs, hi, hs, hd => ⟨φs, fun j hj => hd j (by omega), hs⟩
 | r + 1, i, φs, hi, hs, hd => by
  obtain ⟨φ, h1, h2⟩ := hs
  refine StepsC.all hdep r (i + 1) (updC i φ φs) (by omega) h2 fun j hj => ?_
  have conv : ∀ k (ψ : MC D), k ≤ i → k < n → StepC body l n a w φs k ψ → StepC body l n a w (updC i φ φs) k ψ := by
   intro k ψ hk hkn h o ho A w' hC hO hD
   refine h o ho A w' hC hO (fun j' s hj' => ?_)
   have hlt := hdep k hkn j' s hj'
   have := hD j' s hj'
   rwa [updC_ne (by omega)] at this
  by_cases hji : j = i
  ·subst hji
   rw [updC_same]
   exact conv j φ (Nat.le_refl _) (by omega) h1
  ·rw [updC_ne hji]
   exact conv j (φs j) (by omega) (by omega) (hd j (by omega))
def bodyC (P : Program) (Q : Exit → Act → World → Prop) (l : List Oper) (cs : List Nat) (St : Nat → World → Prop) (i : Nat) (o : Oper) (A : Act) (w' : World) (φ : MC D) : Prop :=
 if cs.contains i = true then ∀ k, cs[k]? = some i → St k w' → ∀ K : Act → World → Prop, Shut (∀ v w'', Chg D w' w'' → St (k + 1) w'' → φ.p v w'' → K (A.put o.dst v) w'') → if Region.wanted o (yielded l.toArray A.tmps) = true then o.wp P A w' K Q else False
 else ∀ K : Act → World → Prop, Shut (∀ v w'', Ex w' w'' → φ.p v w'' → K (A.put o.dst v) w'') → if Region.wanted o (yielded l.toArray A.tmps) = true then o.wp P A w' K Q else K (A.put o.dst undef) w'
def finC (P : Program) (Q : Exit → Act → World → Prop) (l : List Oper) (n : Nat) (a : Act) (w : World) (cs : List Nat) (St : Nat → World → Prop) (φs : Nat → MC D) : Prop :=
 ∀ (vs : Nat → Value) (w' : World), Chg D w w' → St cs.length w' → (∀ i, i < n → ((l[i]?).bind (·.dst)).isSome = true → (φs i).p (vs i) w') → wpList P l.toArray Q (l.drop n) (putAll (l.take n) vs 0 a) w'
theorem wp_suS {id : Nat} {a : Act} {w : World} {l : List Oper} (D : Nat → Prop) (n N f : Nat) (cs : List Nat) (hN : a.tmps.size = N) (hm : P.follows .mixedOrders = true) (hB : suB l.toArray n N cs f = true)
  (St : Nat → World → Prop) (hSt : ∀ k w w', St k w → Ex w w' → St k w') (h0 : St 0 w)
  (h : StepsC (D := D) (finC P Q l n a w cs St) (bodyC P Q l cs St) l n a w n 0 (fun _ => MC.any)) : (Code.region id l.toArray true).wp P Q a w := by
 have hdep : ∀ i, i < n → ∀ j s, depB l.toArray n i j s = true → j < i := by
  have hB' := hB
  unfold suB at hB'
  simp only [Bool.and_eq_true, decide_eq_true_eq] at hB'
  obtain ⟨⟨⟨⟨_, hall⟩, _⟩, _⟩, _⟩ := hB'
  intro i hi j s hd
  have h1 := List.all_eq_true.1 hall i (List.mem_range.2 hi)
  simp only [depB, Bool.and_eq_true, decide_eq_true_eq] at hd
  obtain ⟨o, ho, e, he, hb, hon⟩ := Region.waitsFor_spec hd.1.2
  rw [ho] at h1
  simp only [Bool.and_eq_true] at h1
  have h3 := (Array.all_eq_true_iff_forall_mem.1 h1.1.2) e he
  rw [hb] at h3
  have : e.on < i := by simpa using h3
  omega
 obtain ⟨Φ, h1, h2⟩ := StepsC.all hdep n 0 _ (by omega) h (fun j hj => absurd hj (by omega))
 refine wp_su D n N f cs hN hm hB Φ St hSt h0 (fun i hi o ho hq A w' hC hO hD K hK => ?_) (fun k i hk o ho A w' hC hS hO hD K hK => ?_) h2
 ·have := h1 i hi o ho A w' hC hO hD
  unfold bodyC at this
  rw [if_neg (by rw [hq]; decide)] at this
  exact this K hK
 ·have hB' := hB
  unfold suB at hB'
  simp only [Bool.and_eq_true, decide_eq_true_eq] at hB'
  have hin : i < n := by
   have hm := List.mem_of_getElem? hk
   simpa using List.all_eq_true.1 hB'.1.1.2 i hm
  have := h1 i hin o ho A w' hC hO hD
  unfold bodyC at this
  rw [if_pos (by simpa using List.mem_of_getElem? hk)] at this
  exact this k hk hS K hK
theorem StepsC.one (φ : MC D) {l : List Oper} {n : Nat} {a : Act} {w : World} {r i : Nat} {φs : Nat → MC D} {cs : List Nat} {St : Nat → World → Prop} (i' : Nat) (hi : i + 1 = i') (hc : cs.contains i = false)
  (h : ∀ o, l[i]? = some o → ∀ (A : Act) (w' : World), Chg D w w' → (∀ s, outB l.toArray n i s = true → A.eval (.tmp s) = a.eval (.tmp s)) → (∀ j s, depB l.toArray n i j s = true → (φs j).p (A.eval (.tmp s)) w') →
   ∀ K : Act → World → Prop, Shut (∀ v w'', Ex w' w'' → φ.p v w'' → K (A.put o.dst v) w'') → if Region.wanted o (yielded l.toArray A.tmps) = true then o.wp P A w' K Q else K (A.put o.dst undef) w')
  (h' : StepsC fin (bodyC P Q l cs St) l n a w r i' (updC i φ φs)) : StepsC fin (bodyC P Q l cs St) l n a w (r + 1) i φs := by
 subst hi
 refine ⟨φ, fun o ho A w' hC hO hD => ?_, h'⟩
 unfold bodyC
 rw [if_neg (by rw [hc]; decide)]
 exact h o ho A w' hC hO hD
theorem StepsC.mov (φ : MC D) {l : List Oper} {n : Nat} {a : Act} {w : World} {r i : Nat} {φs : Nat → MC D} {cs : List Nat} {St : Nat → World → Prop} (i' k : Nat) (hi : i + 1 = i') (hk : cs[k]? = some i) (hu : nodupB cs = true)
  (h : ∀ o, l[i]? = some o → ∀ (A : Act) (w' : World), Chg D w w' → (∀ s, outB l.toArray n i s = true → A.eval (.tmp s) = a.eval (.tmp s)) → (∀ j s, depB l.toArray n i j s = true → (φs j).p (A.eval (.tmp s)) w') → St k w' →
   ∀ K : Act → World → Prop, Shut (∀ v w'', Chg D w' w'' → St (k + 1) w'' → φ.p v w'' → K (A.put o.dst v) w'') → if Region.wanted o (yielded l.toArray A.tmps) = true then o.wp P A w' K Q else False)
  (h' : StepsC fin (bodyC P Q l cs St) l n a w r i' (updC i φ φs)) : StepsC fin (bodyC P Q l cs St) l n a w (r + 1) i φs := by
 subst hi
 refine ⟨φ, fun o ho A w' hC hO hD => ?_, h'⟩
 unfold bodyC
 rw [if_pos (by simpa using List.mem_of_getElem? hk)]
 intro k2 hk2 hS
 have hn := nodup_of hu
 obtain ⟨hl1, e1⟩ := List.getElem?_eq_some_iff.1 hk
 obtain ⟨hl2, e2⟩ := List.getElem?_eq_some_iff.1 hk2
 obtain rfl : k2 = k := (List.getElem_inj hn).1 (e2.trans e1.symm)
 exact h o ho A w' hC hO hD hS
theorem StepsC.fin_ {l : List Oper} {n : Nat} {a : Act} {w : World} {i : Nat} {φs : Nat → MC D} {cs : List Nat} {St : Nat → World → Prop} (h : ∀ (vs : Nat → Value) (w' : World), Chg D w w' → St cs.length w' → (∀ i, i < n → ((l[i]?).bind (·.dst)).isSome = true → (φs i).p (vs i) w') → wpList P l.toArray Q (l.drop n) (putAll (l.take n) vs 0 a) w') : StepsC (finC P Q l n a w cs St) body l n a w 0 i φs := h
end
theorem qC {D : Nat → Prop} {φ : MC D} {W : World} {A : Act} {s : Nat} (h : φ.p (A.eval (.tmp s)) W) : ∃ u, φ.p u W ∧ A.tmps[s]?.getD undef = u ∧ Go.RowKit.Hid (A.eval (.tmp s) = u) := ⟨_, h, (eval_tmp A s).symm, Go.Lib.hid rfl⟩
end

section
attribute [local go_sem ↓] sliced_cut
attribute [local go_sem] cutA_zero
open Go.RowKit
def slC (x : Nat × Bool) : List Value := [.int .u8 (x.1 : Int), .bool x.2]
theorem slC_len (x : Nat × Bool) : (slC x).length = 2 := rfl
theorem slC_one (x : Nat × Bool) : ∀ u ∈ slC x, u.oneCell' = true := by simp [slC, Value.oneCell']
def slots (t : Tab) : List (Nat × Bool) := (t ++ List.replicate (64 - t.length) (0, false)).take 64
theorem slots_len0 (t : Tab) : (slots t).length = 64 := by simp [slots]; omega
theorem slots_len (t : Tab) (h : t.length ≤ 64) : (slots t).length = 64 := slots_len0 t
theorem slots_at (t : Tab) (i : Nat) (h : i < t.length) (h64 : i < 64) : (slots t)[i]? = some t[i] := by simp [slots, List.getElem?_take, h64, List.getElem?_append_left h]
def tabC (t : Tab) : List Value := .int .i64 (t.length : Int) :: (slots t).flatMap slC
theorem tabC_len0 (t : Tab) : (tabC t).length = 129 := by
 simp only [tabC, List.length_cons, flat_len slC 2 slC_len, slots_len0 t]
theorem tabC_len (t : Tab) (h : t.length ≤ 64) : (tabC t).length = 129 := by
 simp only [tabC, List.length_cons, flat_len slC 2 slC_len, slots_len t h]
theorem tabC_one (t : Tab) : ∀ u ∈ tabC t, u.oneCell' = true := by
 intro u hu
 rcases List.mem_cons.1 hu with rfl | hu
 ·rfl
 ·exact flat_one slC slC_one _ u hu
theorem szTab (t : Tab) (h : t.length ≤ 64) : (Tryz.prog.info? 205).map (·.size) = some (tabC t).length := by rw [tabC_len t h]; kernel_rfl
theorem rowTab : ∃ d, Tryz.prog.underlying 205 = some d ∧ d.isRow = true := ⟨_, Tryz.underlying205, rfl⟩
theorem tabC_own (t : Tab) (i : Nat) (h : i < t.length) (h64 : i < 64) : (tabC t)[1 + i * 2]? = some (.int .u8 (t[i].1 : Int)) := by
 have hs : i < (slots t).length := by rw [slots_len0]; exact h64
 have e : (slots t)[i] = t[i] := by have := slots_at t i h h64; rw [List.getElem?_eq_getElem hs] at this; injection this
 have := flat_at slC 2 slC_len (slots t) i hs 0 (.int .u8 (t[i].1 : Int)) (by rw [e]; rfl)
 rw [tabC, Nat.add_comm, List.getElem?_cons_succ]
 exact this
theorem tabC_away (t : Tab) (i : Nat) (h : i < t.length) (h64 : i < 64) : (tabC t)[1 + i * 2 + 1]? = some (.bool t[i].2) := by
 have hs : i < (slots t).length := by rw [slots_len0]; exact h64
 have e : (slots t)[i] = t[i] := by have := slots_at t i h h64; rw [List.getElem?_eq_getElem hs] at this; injection this
 have := flat_at slC 2 slC_len (slots t) i hs 1 (.bool t[i].2) (by rw [e]; rfl)
 rw [tabC, show 1 + i * 2 + 1 = (i * 2 + 1) + 1 by omega, List.getElem?_cons_succ]
 exact this
def fdT (t : Tab) (n : Int) : Int := if idxT t n < t.length then (idxT t n : Int) else -1
theorem idxT_pred (t : Tab) (n : Int) (h : idxT t n < t.length) : (t[idxT t n].1 : Int) = n := by
 have := List.findIdx_getElem (p := fun s : Nat × Bool => ((s.1 : Int) == n)) (xs := t) (w := h)
 have h2 : ((t[idxT t n].1 : Int) == n) = true := this
 simpa using h2
theorem idxT_step (t : Tab) (n : Int) (i : Nat) (hi : i ≤ idxT t n) (h : i < t.length) : ((t[i].1 : Int) = n → idxT t n = i) ∧ (¬ (t[i].1 : Int) = n → i + 1 ≤ idxT t n) := by
 constructor
 ·intro he
  rcases Nat.lt_or_ge i (idxT t n) with h1 | h1
  ·have := List.not_of_lt_findIdx h1
   simp [he] at this
  ·omega
 ·intro he
  rcases Nat.lt_or_ge i (idxT t n) with h1 | h1
  ·exact h1
  ·have e : idxT t n = i := by omega
   have := idxT_pred t n (by omega)
   simp only [e] at this
   exact absurd this he
theorem number_any (n : Int) (w : World) : Calls Tryz.prog 163 #[.int .i64 n] w fun e w' => e = .returned (.bool (numB n)) ∧ w = w' := by
 unfold numB
 by_cases h1 : 1 ≤ n
 ·by_cases h2 : n ≤ 64
  ·have d1 : decide (1 ≤ n) = true := decide_eq_true h1
   have d2 : decide (n ≤ 64) = true := decide_eq_true h2
   rw [d1, d2]
   go_enter Tryz.func163, Tryz.ntmps163
   go_wp2
   go_ret
   simp
  ·have d1 : decide (1 ≤ n) = true := decide_eq_true h1
   have d2 : decide (n ≤ 64) = false := decide_eq_false h2
   rw [d1, d2]
   go_enter Tryz.func163, Tryz.ntmps163
   go_wp2
   go_ret
   simp
 ·have d1 : decide (1 ≤ n) = false := decide_eq_false h1
  rw [d1]
  go_enter Tryz.func163, Tryz.ntmps163
  go_wp2
  go_ret
  simp
theorem find_any (t : Tab) (hok : TabOk t) (n : Int) (w : World) : Calls Tryz.prog 164 #[.agg (tabC t).toArray, .int .i64 n] w (RetV w (.int .i64 (fdT t n))) := by
 have ht := hok.len
 obtain ⟨dvt1, vt1, vt2⟩ := rowTab
 obtain ⟨b1, be, zV⟩ := box1 w 205 (tabC t)
 go_enter Tryz.func164, Tryz.ntmps164
 go_upto_region 1 with (fail)
 generalize w.alloc (.cells (tabC t).toArray 205) = V at *
 have q0 : V.cell? ⟨w.heap.size, 0, none⟩ = some (.int .i64 (t.length : Int)) := b1.cell 0
 go_upto_region 2 with (fail)
 have hle : idxT t n ≤ t.length := List.findIdx_le_length
 go_loop [8] (fun I => ∃ i : Nat, I = .int .i64 (i : Int) ∧ i ≤ idxT t n) (fun I => t.length - (intOf I).toNat)
 case atStart => exact ⟨0, rfl, Nat.zero_le _⟩
 case round =>
  obtain ⟨i, rfl, hi⟩ := hrel
  by_cases hlt : i < t.length
  ·have q1 : V.cell? ⟨w.heap.size, 1 + i * 2, none⟩ = some (.int .u8 (t[i].1 : Int)) := (b1.cell _).trans (tabC_own t i hlt (by omega))
   have ii : (i : Int) < (t.length : Int) := by omega
   have i64 : (i : Int) < 64 := by omega
   have hst := idxT_step t n i hi hlt
   have hsr := (hok.rg t[i] (List.getElem_mem hlt)).2
   generalize t[i] = s at *
   have hw : IntKind.i64.wrap (s.1 : Int) = (s.1 : Int) := IntWalk.i64_in _ (by omega)
   by_cases hs : (s.1 : Int) = n
   ·obtain ⟨he, -⟩ := hst
    have hii := he hs
    subst hs
    have hif := qy (show fdT t (s.1 : Int) = (i : Int) by unfold fdT; rw [hii, if_pos hlt])
    clear he hii hle hi
    go_wp2
    go_ret
    exact RetV.is_ (by rw [hif.out]; rfl) be
   ·obtain ⟨-, he⟩ := hst
    have hii := he hs
    have hsb : ((s.1 : Int) == n) = false := by simpa using hs
    clear he
    go_wp2
    exact ⟨⟨i + 1, by go_num, hii⟩, by simp [intOf]; omega⟩
  ·have hif := qy (show fdT t n = -1 from if_neg (by omega))
   have ii : ¬ (i : Int) < (t.length : Int) := by omega
   clear hle hi
   go_wp2
   go_ret
   exact RetV.is_ (by rw [hif.out]; rfl) be
theorem szSl (x : Nat × Bool) : (Tryz.prog.info? 202).map (·.size) = some (slC x).length := by kernel_rfl
theorem rowSl : ∃ d, Tryz.prog.underlying 202 = some d ∧ d.isRow = true := ⟨_, Tryz.underlying202, rfl⟩
theorem tabC_part (t : Tab) (i : Nat) (h : i < t.length) (h64 : i < 64) : ((tabC t).drop (1 + i * 2)).take (slC t[i]).length = slC t[i] := by
 have h1 := tabC_own t i h h64
 have h2 := tabC_away t i h h64
 have hl := (List.getElem?_eq_some_iff.1 h2).1
 have e1 := (List.getElem?_eq_some_iff.1 h1).2
 have e2 := (List.getElem?_eq_some_iff.1 h2).2
 rw [List.drop_eq_getElem_cons (by omega), e1, List.drop_eq_getElem_cons (by omega), e2]
 rfl
def itK (l : List Int) : List Value := l.map (Value.int .i64)
theorem itK_len (l : List Int) : (itK l).length = l.length := by simp [itK]
theorem itK_at (l : List Int) (i : Nat) (h : i < l.length) : (itK l)[i]? = some (.int .i64 l[i]) := by simp [itK, h]
theorem itK_append (a b : List Int) : itK (a ++ b) = itK a ++ itK b := by simp [itK]
theorem Rs.int_ {w : World} {A : Option Addr} {n c : Nat} {l : List Int} (h : Rs 1 w A n c (itK l)) (i : Nat) (hi : i < l.length) : ∃ b o, A = some ⟨b, o, none⟩ ∧ w.cell? ⟨b, o + i, none⟩ = some (.int .i64 l[i]) := by
 obtain ⟨b, o, hA, _, hc⟩ := h.at_ (by have := h.1; rw [itK_len] at this; omega) (by decide)
 exact ⟨b, o, hA, hc i _ (itK_at l i hi)⟩
theorem flat_set {X : Type} (enc : X → List Value) (s : Nat) (hs : ∀ x, (enc x).length = s) : ∀ (L : List X) (j : Nat) (hj : j < L.length) (x : X) (k : Nat) (u : Value), k < s → (enc L[j]).set k u = enc x → (L.flatMap enc).set (j * s + k) u = (L.set j x).flatMap enc
 | y :: t, 0, _, x, k, u, hk, h => by
  simp only [List.getElem_cons_zero] at h
  simp only [List.flatMap_cons, Nat.zero_mul, Nat.zero_add, List.set_cons_zero, ← h]
  rw [List.set_append_left _ _ (by rw [hs]; exact hk)]
 | y :: t, j + 1, hj, x, k, u, hk, h => by
  have ih := flat_set enc s hs t j (by simpa using hj) x k u hk (by simpa using h)
  simp only [List.flatMap_cons, List.set_cons_succ]
  rw [List.set_append_right _ _ (by rw [hs, Nat.add_mul]; omega), hs, show (j + 1) * s + k - s = j * s + k by rw [Nat.add_mul]; omega, ih]
theorem flat_splice {X : Type} (enc : X → List Value) (s : Nat) (hs : ∀ x, (enc x).length = s) (L : List X) (j : Nat) (hj : j < L.length) (x : X) : splice (L.flatMap enc) (j * s) (enc x) = (L.set j x).flatMap enc := by
 have e : L.set j x = L.take j ++ x :: L.drop (j + 1) := List.set_eq_take_append_cons_drop .. |>.trans (if_pos hj)
 unfold splice
 rw [e, List.flatMap_append, List.flatMap_cons, flat_take enc s hs, hs, show j * s + s = (j + 1) * s by rw [Nat.add_mul]; omega, flat_drop enc s hs]
theorem splice_cons (v : Value) (L new : List Value) (o : Nat) : splice (v :: L) (1 + o) new = v :: splice L o new := by
 unfold splice
 rw [Nat.add_comm 1 o, show o + 1 + new.length = (o + new.length) + 1 by omega]
 simp
theorem slots_set (t : Tab) (i : Nat) (h : i < t.length) (s : Nat × Bool) : slots (t.set i s) = (slots t).set i s := by
 unfold slots
 rw [List.length_set, ← List.set_append_left _ _ h, List.take_set]
theorem slots_snoc (t : Tab) (h : t.length < 64) (s : Nat × Bool) : slots (t ++ [s]) = (slots t).set t.length s := by
 unfold slots
 rw [← List.take_set, List.set_append_right _ _ (Nat.le_refl _), Nat.sub_self, List.append_assoc, List.length_append]
 congr 2
 rw [show 64 - t.length = (64 - (t.length + [s].length)) + 1 by simp; omega, List.replicate_succ]
 rfl
theorem tabC_setAway (t : Tab) (i : Nat) (h : i < t.length) (h64 : i < 64) : (tabC t).set (1 + i * 2 + 1) (.bool true) = tabC (t.set i (t[i].1, true)) := by
 have hs : i < (slots t).length := by rw [slots_len0]; exact h64
 have e : (slots t)[i] = t[i] := by have := slots_at t i h h64; rw [List.getElem?_eq_getElem hs] at this; injection this
 unfold tabC
 rw [show 1 + i * 2 + 1 = (i * 2 + 1) + 1 by omega, List.set_cons_succ, slots_set t i h, List.length_set,
  flat_set slC 2 slC_len (slots t) i hs (t[i].1, true) 1 (.bool true) (by decide) (by rw [e]; rfl)]
theorem tabC_setSlot (t : Tab) (i : Nat) (h : i < t.length) (h64 : i < 64) (s : Nat × Bool) : splice (tabC t) (1 + i * 2) (slC s) = tabC (t.set i s) := by
 have hs : i < (slots t).length := by rw [slots_len0]; exact h64
 unfold tabC
 rw [splice_cons, flat_splice slC 2 slC_len _ _ hs, slots_set t i h, List.length_set]
theorem tabC_snoc (t : Tab) (h : t.length < 64) (s : Nat × Bool) : splice ((tabC t).set 0 (.int .i64 ((t.length : Int) + 1))) (1 + t.length * 2) (slC s) = tabC (t ++ [s]) := by
 have hs : t.length < (slots t).length := by rw [slots_len0]; exact h
 unfold tabC
 rw [List.set_cons_zero, splice_cons, flat_splice slC 2 slC_len _ _ hs, slots_snoc t h]
 simp
def awI (t : Tab) (i : Nat) : Tab := awayT (t.take i) ++ t.drop i
theorem awI_len (t : Tab) (i : Nat) : (awI t i).length = t.length := by simp [awI, awayT]; omega
theorem awI_succ (t : Tab) (i : Nat) (h : i < t.length) : (awI t i).set i (((awI t i)[i]'(by rw [awI_len]; exact h)).1, true) = awI t (i + 1) := by
 have hl : (awayT (t.take i)).length = i := by simp [awayT]; omega
 have e : (awI t i)[i]'(by rw [awI_len]; exact h) = t[i] := by
  simp only [awI]
  rw [List.getElem_append_right (by omega)]
  simp [hl]
 rw [e]
 unfold awI
 rw [List.set_append_right _ _ (by omega), hl, Nat.sub_self, List.drop_eq_getElem_cons h, List.set_cons_zero, List.take_succ_eq_append_getElem h]
 simp only [awayT, List.map_append, List.map_cons, List.map_nil, List.append_assoc, List.cons_append, List.nil_append]
theorem awI_all (t : Tab) : awI t t.length = awayT t := by simp [awI]
theorem tabNext_any (t : Tab) (hok : TabOk t) (l : List Int) (A : Option Addr) (n c : Nat) (w : World) (hr : Rs 1 w A n c (itK l)) (hn : n ≤ 1000000) : Calls Tryz.prog 144 #[.agg (tabC t).toArray, .slice A n c] w (RetV w (.agg (tabC (tNext t l)).toArray)) := by
 have ht := hok.len
 have hln : l.length = n := by have := hr.1; rw [itK_len] at this; omega
 obtain ⟨dvt1, vt1, vt2⟩ := rowTab
 obtain ⟨b1, b2, be, zV⟩ := box2 w 205 205 (tabC t) (tabC [])
 have hzv : ∀ w, (zeroValue 205).run Tryz.prog w = .ok (.agg (tabC []).toArray) w := fun _ => by kernel_rfl
 go_enter Tryz.func144, Tryz.ntmps144
 go_upto_region 1 with (fail)
 generalize (w.alloc (.cells (tabC t).toArray 205)).alloc (.cells (tabC []).toArray 205) = V at *
 have q0 : V.cell? ⟨w.heap.size, 0, none⟩ = some (.int .i64 (t.length : Int)) := b1.cell 0
 go_upto_region 2 with (fail)
 clear q0 hzv
 have hb0 : Bk V w.heap.size 205 (tabC (awI t 0)) := by rw [show awI t 0 = t by simp [awI, awayT]]; exact b1
 go_loopw [11] (fun I wr => ∃ i : Nat, I = .int .i64 (i : Int) ∧ i ≤ t.length ∧ Bk wr w.heap.size 205 (tabC (awI t i)) ∧ Bk wr (w.heap.size + 1) 205 (tabC []) ∧ Below w.heap.size w wr) (fun I _ => t.length - (intOf I).toNat)
 case atStart => exact ⟨0, rfl, Nat.zero_le _, hb0, b2, be⟩
 case round =>
  clear b1 b2 be hb0 zV
  obtain ⟨i, rfl, hi, b1, b2, be⟩ := hrel
  have zV := b2.lt
  by_cases hlt : i < t.length
  ·have ii : (i : Int) < (t.length : Int) := by omega
   have i64 : (i : Int) < 64 := by omega
   have hal : (awI t i).length ≤ 64 := by rw [awI_len]; exact ht
   have hset := tabC_setAway (awI t i) i (by rw [awI_len]; exact hlt) (by omega)
   rw [awI_succ t i hlt] at hset
   go_upto_region 4 with (fail)
   refine wp_region_lit ?_
   iterate 4 (refine qw ?_)
   refine wpList_st1 4 (.tmp 17) (.const (.bool true)) rfl rfl rfl rfl b1 (by rw [tabC_len _ hal]; omega) rfl (by kernel_rfl) ?_
   intro W5 h5 g5
   simp only [Act.put, qsT, qsZ, qsS]
   have b2' := b2.grown g5 (fun e => by injection e with e; omega)
   have be' := below_grown be g5 (Nat.le_refl _)
   have h5' : Bk W5 w.heap.size 205 (tabC (awI t (i + 1))) := by rw [← hset]; exact h5
   clear h5 g5 b1 b2 be hset
   go_wp2
   exact ⟨⟨i + 1, by go_num, by omega, h5', b2', be'⟩, by simp [intOf]; omega⟩
  ·obtain rfl : i = t.length := by omega
   have ii : ¬ (t.length : Int) < (t.length : Int) := by omega
   have hb0 : Bk wr w.heap.size 205 (tabC (tNext t (l.take 0))) := by rw [awI_all] at b1; exact b1
   go_upto_region 7 with (fail)
   clear b1 ii hi hlt
   go_loopw [21] (fun I wr => ∃ j : Nat, I = .int .i64 (j : Int) ∧ j ≤ n ∧ Bk wr w.heap.size 205 (tabC (tNext t (l.take j))) ∧ Bk wr (w.heap.size + 1) 205 (tabC []) ∧ Below w.heap.size w wr) (fun I _ => n - (intOf I).toNat)
   case atStart => exact ⟨0, rfl, Nat.zero_le _, hb0, b2, be⟩
   case round =>
    clear b2 be hb0 zV
    obtain ⟨j, rfl, hj, b1, b2, be⟩ := hrel
    have zV := b2.lt
    by_cases hlt : j < n
    ·have ii : (j : Int) < (n : Int) := by omega
     have hjL : j < l.length := by omega
     have HS := qy (show tNext t (l.take (j + 1)) = next1 (tNext t (l.take j)) l[j] by rw [List.take_succ_eq_append_getElem hjL, tNext_snoc])
     obtain ⟨b, o, rfl, -, hc⟩ := (hr.2.2.below be).at_ (by rw [itK_len]; omega)
     have hcj : wr.cell? ⟨b, o + j, none⟩ = some (.int .i64 l[j]) := hc j _ (itK_at l j hjL)
     clear hc
     have hTok := tNext_ok t hok (l.take j)
     generalize tNext t (l.take j) = T at *
     generalize l[j] = x at *
     have hTl := hTok.len
     cases hx : numB x
     ·have hs := qy (show tNext t (l.take (j + 1)) = T by rw [HS.out]; unfold next1; rw [if_neg (by intro h; simp [numB] at hx; omega)])
      clear HS
      go_upto_region 9 with (fail)
      go_wp2_with (go_at_call 163; refine (number_any x _).mono ?_; rintro e w1 ⟨rfl, rfl⟩; rw [hx])
      exact ⟨⟨j + 1, by go_num, by omega, by rw [hs.out]; exact b1, b2, be⟩, by simp [intOf]; omega⟩
     ·have hx2 : 1 ≤ x ∧ x ≤ 64 := by simpa [numB] using hx
      obtain ⟨m, rfl⟩ : ∃ m : Nat, x = m := ⟨x.toNat, by omega⟩
      have HF := qy (fun w => find_any T hTok (m : Int) w)
      have hw8 : IntKind.u8.wrap (m : Int) = (m : Int) := IntWalk.u8_in _ (by omega)
      have HB := qy hw8
      clear hw8
      by_cases hf : idxT T (m : Int) < T.length
      ·have hs := qy (show tNext t (l.take (j + 1)) = T.set (idxT T (m : Int)) (m, false) by rw [HS.out]; unfold next1; rw [if_pos hx2, if_pos hf]; rfl)
       have hfd : fdT T (m : Int) = (idxT T (m : Int) : Int) := if_pos hf
       rw [hfd] at HF
       have hset := tabC_setSlot T (idxT T (m : Int)) hf (by omega) (m, false)
       rw [← hs.out] at hset
       have hlen := tabC_len T hTl
       generalize idxT T (m : Int) = k at *
       have ik : ¬ (k : Int) < 0 := by omega
       have ik64 : (k : Int) < 64 := by omega
       clear hs HS hfd
       go_upto_region 10 with (go_at_call 163; refine (number_any _ _).mono ?_; rintro e w1 ⟨rfl, rfl⟩; rw [hx])
       refine wp_region_lit ?_
       refine qA 205 (.tmp 2) b1 vt1 vt2 (szTab T hTl) ?_
       refine qw ?_
       refine wpq fun K hK => ?_
       go_simp
       refine (HF.out _).mono ?_
       rintro e w1 ⟨bs1, d1, rfl, rfl⟩
       with_reducible refine hK _ _ ?_
       clear hK K
       refine qw ?_
       replace b1 := b1.later (below_plus wr bs1 d1)
       replace b2 := b2.later (below_plus wr bs1 d1)
       replace be := belowP be bs1 d1
       clear hcj HF
       generalize plus wr bs1 d1 = W1 at *
       have hw8 := HB.out
       go_upto_region 14 with (fail)
       refine wp_region_lit ?_
       iterate 6 (refine qw ?_)
       refine wpList_stM (off := 1 + k * 2) 202 (.tmp 44) (.tmp 42) rfl rfl (slC (m, false)) (tabC T) (by rw [hlen]; simp [slC]; omega) (slC_one _) rfl rfl b1 (szSl _) ?_
       intro W5 h5 g5
       simp only [Act.put, qsT, qsZ, qsS]
       have b2' := b2.grown g5 (fun e => by injection e with e; omega)
       have be' := below_grown be g5 (Nat.le_refl _)
       have h5' : Bk W5 w.heap.size 205 (tabC (tNext t (l.take (j + 1)))) := by rw [← hset]; exact h5
       clear h5 g5 b1 b2 be hset
       go_wp2
       exact ⟨⟨j + 1, by go_num, by omega, h5', b2', be'⟩, by simp [intOf]; omega⟩
      ·have hs := qy (show tNext t (l.take (j + 1)) = T ++ [(m, false)] by rw [HS.out]; unfold next1; rw [if_pos hx2, if_neg hf]; rfl)
       have hfd : fdT T (m : Int) = -1 := if_neg hf
       rw [hfd] at HF
       have h64 : T.length < 64 := hTok.room (n := m) (by omega) (by omega) (fun h => hf (idxT_lt.2 h))
       have hset := tabC_snoc T h64 (m, false)
       rw [← hs.out] at hset
       have hlen := tabC_len T hTl
       have q0 : wr.cell? ⟨w.heap.size, 0, none⟩ = some (.int .i64 (T.length : Int)) := b1.cell 0
       have ik64 : (T.length : Int) < 64 := by omega
       have ik : ¬ (T.length : Int) < 0 := by omega
       have hwT : IntKind.i64.wrap ((T.length : Int) + 1) = (T.length : Int) + 1 := IntWalk.i64_in _ (by omega)
       clear hs HS hfd
       go_upto_region 10 with (go_at_call 163; refine (number_any _ _).mono ?_; rintro e w1 ⟨rfl, rfl⟩; rw [hx])
       refine wp_region_lit ?_
       refine qA 205 (.tmp 2) b1 vt1 vt2 (szTab T hTl) ?_
       refine qw ?_
       refine wpq fun K hK => ?_
       go_simp
       refine (HF.out _).mono ?_
       rintro e w1 ⟨bs1, d1, rfl, rfl⟩
       with_reducible refine hK _ _ ?_
       clear hK K
       refine qw ?_
       replace b1 := b1.later (below_plus wr bs1 d1)
       replace b2 := b2.later (below_plus wr bs1 d1)
       replace be := belowP be bs1 d1
       clear hcj HF q0
       generalize plus wr bs1 d1 = W1 at *
       have hw8 := HB.out
       go_upto_region 12 with (fail)
       refine wp_region_lit ?_
       refine qw ?_
       refine qL 3 (.tmp 33) b1 Tryz.underlying3 ?_
       refine qw ?_
       go_upto_region 13 with (fail)
       refine wp_region_lit ?_
       refine qw ?_
       refine qL 3 (.tmp 35) b1 Tryz.underlying3 ?_
       iterate 2 (refine qw ?_)
       refine wpList_st1 3 (.tmp 38) (.tmp 37) rfl rfl rfl rfl b1 (by rw [tabC_len _ hTl]; omega) rfl (by kernel_rfl) ?_
       intro W4 h4 g4
       simp only [Act.put, qsT, qsZ, qsS]
       have b2' := b2.grown g4 (fun e => by injection e with e; omega)
       have be' := below_grown be g4 (Nat.le_refl _)
       replace b1 : Bk W4 w.heap.size 205 ((tabC T).set 0 (.int .i64 ((T.length : Int) + 1))) := h4
       replace b2 := b2'
       replace be := be'
       clear h4 g4
       generalize T.length = k at *
       go_upto_region 14 with (fail)
       refine wp_region_lit ?_
       iterate 6 (refine qw ?_)
       refine wpList_stM (off := 1 + k * 2) 202 (.tmp 44) (.tmp 42) rfl rfl (slC (m, false)) ((tabC T).set 0 (.int .i64 ((k : Int) + 1))) (by rw [List.length_set, hlen]; simp [slC]; omega) (slC_one _) rfl rfl b1 (szSl _) ?_
       intro W5 h5 g5
       simp only [Act.put, qsT, qsZ, qsS]
       have b2' := b2.grown g5 (fun e => by injection e with e; omega)
       have be' := below_grown be g5 (Nat.le_refl _)
       have h5' : Bk W5 w.heap.size 205 (tabC (tNext t (l.take (j + 1)))) := by rw [← hset]; exact h5
       clear h5 g5 b1 b2 be hset
       go_wp2
       exact ⟨⟨j + 1, by go_num, by omega, h5', b2', be'⟩, by simp [intOf]; omega⟩
    ·obtain rfl : j = n := by omega
     have ii : ¬ (j : Int) < (j : Int) := by omega
     rw [List.take_of_length_le (by omega)] at b1
     have hTl := (tNext_ok t hok l).len
     clear hj hlt
     go_upto_region 16 with (fail)
     refine wp_region_lit ?_
     refine qA 205 (.tmp 2) b1 vt1 vt2 (szTab _ hTl) ?_
     simp only [Act.put, qsT, qsZ, qsS]
     refine wpList_stA (t := 205) 205 (.tmp 4) (.tmp 46) rfl rfl (tabC (tNext t l)) (tabC []) (by rw [tabC_len _ hTl]; rfl) (tabC_one _) rfl rfl b2 (szTab _ hTl) ?_
     intro W6 h6 g6
     simp only [Act.put, qsT, qsZ, qsS]
     go_wp2
     refine bodyPost_agg Tryz.results144 rfl h6.range vt1 vt2 (szTab _ hTl) rfl (RetV.mk ?_)
     exact below_grown be g6 (by omega)
end

section
open Go.RowKit
theorem Rs.kept {F : Nat → Prop} {s : Nat} {w w' : World} {A : Option Addr} {n c : Nat} {cs : List Value} (h : Rs s w A n c cs) (hk : Kept F w w') (hf : ∀ a, A = some a → a.block < w.heap.size → F a.block) : Rs s w' A n c cs := by
 refine ⟨h.1, h.2.1, ?_⟩
 rcases h.2.2 with h' | ⟨b, off, hA, hb, hc⟩
 ·exact .inl h'
 ·exact .inr ⟨b, off, hA, Nat.lt_of_lt_of_le hb hk.size, fun i u hu => (World.cell?_of_block (hk.block b hb (hf _ hA hb))).trans (hc i u hu)⟩
theorem Os.kept {F : Nat → Prop} {e : TypeId} {s base : Nat} {w w' : World} {A : Option Addr} {n c : Nat} {cs : List Value} (h : Os e s w base A n c cs) (hk : Kept F w w') (hf : ∀ b, (Value.slice A n c).ownBlock = some b → F b) : Os e s w' base A n c cs := by
 refine ⟨h.1, ?_⟩
 rcases h.2 with h' | ⟨g, cap, cur, hv, hb, hg, hr⟩
 ·exact .inl h'
 ·have ho : (Value.slice A n c).ownBlock = some g := by rw [hv]; rfl
  exact .inr ⟨g, cap, cur, hv, hb, (hk.block g (h.blk g ho).2 (hf g ho)).trans hg, hr⟩
def Own.osr {prot : Nat → Prop} (e : TypeId) (s base : Nat) (cs : List Value) : Own prot := ⟨fun v _ w => ∃ A n c, v = .slice A n c ∧ Os e s w base A n c cs, fun v _ b => v.ownBlock = some b,
 fun v u w b ⟨A, n, c, h1, h2⟩ h3 => (by subst h1; exact (h2.blk b h3).2),
 fun v u w w' ⟨A, n, c, h1, h2⟩ hk => ⟨A, n, c, h1, h2.kept hk (fun b hb => .inl (by subst h1; exact hb))⟩⟩
theorem own_appS {P : Program} {Q : Exit → Act → World → Prop} {w : World} {o : Oper} {a : Act} {K : Act → World → Prop} {ts e : TypeId} {z : Value} {sz by_ : Nat} (et : ET P ts e z sz by_) (s x : Operand)
  (ho : o.op = .call { callee := .builtin .append, args := #[s, x], argTypes := #[ts, ts] }) {base : Nat} {A : Option Addr} {n c : Nat} {l : List Value} (hs : a.eval s = .slice A n c) (hown : Os e sz w base A n c l)
  {A2 : Option Addr} {n2 c2 : Nat} {l2 : List Value} (hx : a.eval x = .slice A2 n2 c2) (hr2 : Rs sz w A2 n2 c2 l2) (h1 : ∀ u ∈ l2, u.oneCell' = true) (hm : n + n2 ≤ 134217728) (hbase : base ≤ w.heap.size)
  (h : ∀ A' n' c' w', n' = n + n2 → Os e sz w' base A' n' c' (l ++ l2) → w.grownBy w' (Value.slice A n c).ownBlock → (∀ b, (Value.slice A' n' c').ownBlock = some b → (Value.slice A n c).ownBlock = some b ∨ w.heap.size ≤ b) → K (a.put o.dst (.slice A' n' c')) w') : o.wp P a w K Q := by
 obtain ⟨A', n', c', w', hrun, h0, h2, h3, h4, h5⟩ := run_appS2 (P := P) w (ty := o.type) et hown hr2 h1 hm hbase
 unfold Oper.wp execOp
 simp only [ho, resolve, invoke, builtin, Sem.run_bind, Sem.run_pure, Result.andThen_ok, List.map_toArray, List.map_cons, List.map_nil, hs, hx, hrun]
 refine h A' n' c' w' h0 h2 h4 (fun b hb => ?_)
 rcases h5 with h5 | h5
 ·exact .inl (by rw [← h5]; exact hb)
 ·rw [h5] at hb
  injection hb with hb
  exact .inr (by omega)
def RetOs (e : TypeId) (s : Nat) (w : World) (cs : List Value) (en : Ending) (w' : World) : Prop := ∃ A n c bs d, en = .returned (.slice A n c) ∧ w' = plus w bs d ∧ Os e s (plus w bs d) w.heap.size A n c cs
theorem RetOs.mk {e : TypeId} {s : Nat} {w w' : World} {cs : List Value} {A : Option Addr} {n c : Nat} (h : Os e s w' w.heap.size A n c cs) (hb : Below w.heap.size w w') : RetOs e s w cs (.returned (.slice A n c)) w' := by
 obtain ⟨bs, d, rfl⟩ := plus_of hb
 exact ⟨A, n, c, bs, d, rfl, rfl, h⟩
end

section
attribute [local go_sem ↓] sliced_cut
attribute [local go_sem] cutA_zero
open Go.RowKit
theorem etI : ET Tryz.prog 192 3 (.int .i64 0) 1 8 := ⟨Tryz.underlying192, by kernel_rfl, rfl, by decide, by decide⟩
def ixR (l : List Int) (n : Int) : Int := if l.findIdx (· == n) < l.length then (l.findIdx (· == n) : Int) else -1
theorem ixR_neg (l : List Int) (n : Int) : ixR l n < 0 ↔ n ∉ l := by
 unfold ixR
 have hp : l.findIdx (· == n) < l.length ↔ ∃ x ∈ l, (x == n) = true := List.findIdx_lt_length
 by_cases h : l.findIdx (· == n) < l.length
 ·rw [if_pos h]
  obtain ⟨x, hx, he⟩ := hp.1 h
  have : x = n := by simpa using he
  subst this
  constructor
  ·intro h; omega
  ·intro h; exact absurd hx h
 ·rw [if_neg h]
  constructor
  ·intro _ hn; exact h (hp.2 ⟨n, hn, by simp⟩)
  ·intro _; omega
theorem ixR_step (l : List Int) (n : Int) (i : Nat) (hi : i ≤ l.findIdx (· == n)) (h : i < l.length) : (l[i] = n → ixR l n = i) ∧ (¬ l[i] = n → i + 1 ≤ l.findIdx (· == n)) := by
 constructor
 ·intro he
  have e : l.findIdx (· == n) = i := by
   rcases Nat.lt_or_ge i (l.findIdx (· == n)) with h1 | h1
   ·have := List.not_of_lt_findIdx h1
    simp [he] at this
   ·omega
  unfold ixR
  rw [e, if_pos h]
 ·intro he
  rcases Nat.lt_or_ge i (l.findIdx (· == n)) with h1 | h1
  ·exact h1
  ·have e : l.findIdx (· == n) = i := by omega
   have := List.findIdx_getElem (p := (· == n)) (xs := l) (w := by omega)
   simp only [e] at this
   exact absurd (by simpa using this) he
theorem refIndex_any (l : List Int) (n : Int) (A : Option Addr) (m c : Nat) (w : World) (hr : Rs 1 w A m c (itK l)) (hm : m ≤ 4000000) : Calls Tryz.prog 169 #[.slice A m c, .int .i64 n] w fun e w' => e = .returned (.int .i64 (ixR l n)) ∧ w = w' := by
 have hlm : l.length = m := by have := hr.1; rw [itK_len] at this; omega
 obtain ⟨X, hX⟩ : ∃ X, ixR l n = X := ⟨_, rfl⟩
 rw [hX]
 have HX := qy hX
 clear hX
 have hle : l.findIdx (· == n) ≤ l.length := List.findIdx_le_length
 go_enter Tryz.func169, Tryz.ntmps169
 go_upto_region 2 with (fail)
 go_loop [5] (fun I => ∃ i : Nat, I = .int .i64 (i : Int) ∧ i ≤ l.findIdx (· == n)) (fun I => m - (intOf I).toNat)
 case atStart => exact ⟨0, rfl, Nat.zero_le _⟩
 case round =>
  obtain ⟨i, rfl, hi⟩ := hrel
  by_cases hlt : i < m
  ·have hil : i < l.length := by omega
   have ii : (i : Int) < (m : Int) := by omega
   obtain ⟨b, o, rfl, hci⟩ := hr.int_ i hil
   have hst := ixR_step l n i hi hil
   generalize l[i] = x at *
   by_cases hx : x = n
   ·have hfin := qy (HX.out.symm.trans (hst.1 hx))
    subst hx
    clear hst hi hle
    go_wp2
    go_ret
    exact ⟨by rw [hfin.out]; rfl, rfl⟩
   ·have hii := hst.2 hx
    have hxb : (x == n) = false := by simpa using hx
    clear hst hi
    go_wp2
    exact ⟨⟨i + 1, by go_num, hii⟩, by simp [intOf]; omega⟩
  ·have hfin := qy (show X = -1 by rw [← HX.out]; unfold ixR; exact if_neg (by omega))
   have ii : ¬ (i : Int) < (m : Int) := by omega
   clear hi hle
   go_wp2
   go_ret
   exact ⟨by rw [hfin.out]; rfl, rfl⟩
theorem refOwner_any (l : List Int) (i : Nat) (A : Option Addr) (m c : Nat) (w : World) (hr : Rs 1 w A m c (itK l)) (hm : m ≤ 1000000) (hil : i < l.length) (hb : -1000 ≤ l[i] ∧ l[i] ≤ 1000) : Calls Tryz.prog 131 #[.slice A m c, .int .i64 (i : Int)] w fun e w' => e = .returned (.int .i64 (ab l[i])) ∧ w = w' := by
 have hlm : l.length = m := by have := hr.1; rw [itK_len] at this; omega
 obtain ⟨b, o, rfl, hci⟩ := hr.int_ i hil
 have i0 : ¬ (i : Int) < 0 := by omega
 have i1 : ¬ (m : Int) ≤ (i : Int) := by omega
 have i2 : (i : Int) < (m : Int) := by omega
 generalize l[i] = x at *
 by_cases hx : x < 0
 ·have e := qy (show ab x = 0 - x from if_pos hx)
  go_enter Tryz.func131, Tryz.ntmps131
  go_wp2
  go_ret
  exact ⟨by rw [e.out]; simp, rfl⟩
 ·have e := qy (show ab x = x from if_neg hx)
  go_enter Tryz.func131, Tryz.ntmps131
  go_wp2
  go_ret
  exact ⟨by rw [e.out]; rfl, rfl⟩
theorem memR_len (l : List Int) : (memR l).length ≤ l.length := by
 suffices ∀ out : List Int, (l.foldl mem1 out).length ≤ out.length + l.length by simpa [memR] using this []
 induction l with
 | nil => intro out; simp
 | cons a t ih =>
  intro out
  refine Nat.le_trans (ih _) ?_
  unfold mem1
  split <;> simp <;> omega
theorem refMembers_ints (l : List Int) (A : Option Addr) (m c : Nat) (w : World) (hr : Rs 1 w A m c (itK l)) (hm : m ≤ 1000000) : Calls Tryz.prog 168 #[.slice A m c] w (RetOs 3 1 w (itK (memR l))) := by
 have hlm : l.length = m := by have := hr.1; rw [itK_len] at this; omega
 have hO0 : Os 3 1 w w.heap.size none 0 0 (itK (memR (l.take 0))) := Os.nil_
 have be := Below.refl w.heap.size w
 go_enter Tryz.func168, Tryz.ntmps168
 go_upto_region 3 with (fail)
 go_loopw [3, 4] (fun OUT I wr => ∃ (i : Nat) (B : Option Addr) (k d : Nat), I = .int .i64 (i : Int) ∧ OUT = .slice B k d ∧ i ≤ m ∧ Os 3 1 wr w.heap.size B k d (itK (memR (l.take i))) ∧ Below w.heap.size w wr) (fun _ I _ => m - (intOf I).toNat)
 case atStart => exact ⟨0, none, 0, 0, rfl, rfl, Nat.zero_le _, hO0, be⟩
 case round =>
  clear hO0 be
  obtain ⟨i, B, k, d, rfl, rfl, hi, hO, be⟩ := hrel
  by_cases hlt : i < m
  ·have hil : i < l.length := by omega
   have ii : (i : Int) < (m : Int) := by omega
   obtain ⟨b, o, rfl, -, hc⟩ := (hr.2.2.below be).at_ (by rw [itK_len]; omega)
   have hci : wr.cell? ⟨b, o + i, none⟩ = some (.int .i64 l[i]) := hc i _ (itK_at l i hil)
   clear hc
   have HS := qy (show memR (l.take (i + 1)) = mem1 (memR (l.take i)) l[i] by rw [List.take_succ_eq_append_getElem hil, memR_snoc])
   have hk := hO.1
   rw [itK_len] at hk
   have hmlen : (memR (l.take i)).length ≤ i := Nat.le_trans (memR_len (l.take i)) (by simp; omega)
   have HI := qy (fun w h => refIndex_any (memR (l.take i)) l[i] B k d w h (by omega))
   have hneg := ixR_neg (memR (l.take i)) l[i]
   generalize l[i] = x at *
   obtain ⟨M, hM⟩ : ∃ M, memR (l.take i) = M := ⟨_, rfl⟩
   rw [hM] at HI hneg HS hO hmlen hk
   clear hM
   generalize ixR M x = ix at *
   by_cases h1 : 0 < x
   ·by_cases h2 : x < 65
    ·by_cases h3 : ix < 0
     ·have hs := qy (show memR (l.take (i + 1)) = M ++ [x] by rw [HS.out]; unfold mem1; exact if_pos ⟨h1, h2, hneg.1 h3⟩)
      clear HS hneg
      go_upto_region 6 with (go_at_call 169; refine (HI.out _ hO.rs).mono ?_; rintro e w1 ⟨rfl, rfl⟩)
      go_wp2_with (at_builtin; refine wpList_appS etI rfl (.tmp 32) (.tmp 37) rfl rfl (hO.later (Below.allocS (Below.refl _ _) _)) rfl (Rs.of_bk (n := 1) (c := 1) (Bk.new wr _ _) rfl (Nat.le_refl _)) (by simp [Value.oneCell']) (by omega) (by have := be.size; simp; omega) ?_; intro A2 n2 c2 w4 hn2 hO4 hb4 hg4; subst hn2)
      have he2 : Os 3 1 w4 w.heap.size A2 (k + 1) c2 (itK (memR (l.take (i + 1)))) := by rw [hs.out, itK_append]; exact hO4
      exact ⟨⟨i + 1, A2, _, c2, by go_num, rfl, by omega, he2, (Below.allocS be _).trans hb4⟩, by simp [intOf]; omega⟩
     ·have hs := qy (show memR (l.take (i + 1)) = M by rw [HS.out]; unfold mem1; exact if_neg (fun h => h3 (hneg.2 h.2.2)))
      clear HS hneg
      go_wp2_with (go_at_call 169; refine (HI.out _ hO.rs).mono ?_; rintro e w1 ⟨rfl, rfl⟩)
      exact ⟨⟨i + 1, B, k, d, by go_num, rfl, by omega, by rw [hs.out]; exact hO, be⟩, by simp [intOf]; omega⟩
    ·have hs := qy (show memR (l.take (i + 1)) = M by rw [HS.out]; unfold mem1; exact if_neg (fun h => h2 h.2.1))
     clear HS hneg HI
     go_wp2
     exact ⟨⟨i + 1, B, k, d, by go_num, rfl, by omega, by rw [hs.out]; exact hO, be⟩, by simp [intOf]; omega⟩
   ·have hs := qy (show memR (l.take (i + 1)) = M by rw [HS.out]; unfold mem1; exact if_neg (fun h => h1 h.1))
    clear HS hneg HI
    go_wp2
    exact ⟨⟨i + 1, B, k, d, by go_num, rfl, by omega, by rw [hs.out]; exact hO, be⟩, by simp [intOf]; omega⟩
  ·have ii : ¬ (i : Int) < (m : Int) := by omega
   rw [List.take_of_length_le (by omega)] at hO
   clear hi
   go_wp2
   go_ret
   exact RetOs.mk hO be
theorem refNext_any (r l : List Int) (A : Option Addr) (m c : Nat) (B : Option Addr) (n d : Nat) (w : World) (hr : Rs 1 w A m c (itK r)) (hl : Rs 1 w B n d (itK l)) (hm : m ≤ 1000000) (hn : n ≤ 1000000) (hb : ∀ x ∈ r, -1000 ≤ x ∧ x ≤ 1000) : Calls Tryz.prog 154 #[.slice A m c, .slice B n d] w (RetOs 3 1 w (itK (ph2 r (memR l) (memR l).length))) := by
 have hrm : r.length = m := by have := hr.1; rw [itK_len] at this; omega
 have hln : l.length = n := by have := hl.1; rw [itK_len] at this; omega
 have hml := memR_len l
 have HM := qy (refMembers_ints l B n d w hl hn)
 obtain ⟨M, hM⟩ : ∃ M, memR l = M := ⟨_, rfl⟩
 rw [hM] at HM hml ⊢
 clear hM
 go_enter Tryz.func154, Tryz.ntmps154
 go_upto_region 2 with (go_at_call 168; refine HM.out.mono ?_; rintro e w1 ⟨A1, n1, c1, bs1, d1, rfl, rfl, hO1⟩)
 have be := below_plus w bs1 d1
 have hr1 := hO1.rs
 clear HM hl hO1
 generalize plus w bs1 d1 = V at *
 have hn1 : M.length = n1 := by have := hr1.1; rw [itK_len] at this; omega
 have hO0 : Os 3 1 V V.heap.size none 0 0 (itK (ph1 (r.take 0) M)) := Os.nil_
 have bv := Below.refl V.heap.size V
 go_upto_region 4 with (fail)
 go_loopw [6, 7] (fun OUT I wr => ∃ (i : Nat) (C : Option Addr) (k e : Nat), I = .int .i64 (i : Int) ∧ OUT = .slice C k e ∧ i ≤ m ∧ Os 3 1 wr V.heap.size C k e (itK (ph1 (r.take i) M)) ∧ Below V.heap.size V wr) (fun _ I _ => m - (intOf I).toNat)
 case atStart => exact ⟨0, none, 0, 0, rfl, rfl, Nat.zero_le _, hO0, bv⟩
 case round =>
  clear hO0 bv
  obtain ⟨i, C, k, e, rfl, rfl, hi, hO, bv⟩ := hrel
  have be2 := be.trans (bv.mono be.size)
  have hkl : k ≤ i := by
   have hk := hO.1
   rw [itK_len, show (ph1 (r.take i) M).length = i by simp [ph1]; omega] at hk
   omega
  by_cases hlt : i < m
  ·have hil : i < r.length := by omega
   have ii : (i : Int) < (m : Int) := by omega
   have hrw : Rs 1 wr A m c (itK r) := ⟨hr.1, hr.2.1, (hr.2.2.below be2).more be2.size⟩
   have HS := qy (show ph1 (r.take (i + 1)) M = ph1 (r.take i) M ++ [if ab r[i] ∈ M then ab r[i] else 0 - ab r[i]] by rw [List.take_succ_eq_append_getElem hil]; simp only [ph1, List.map_append, List.map_cons, List.map_nil])
   have hbi := hb r[i] (List.getElem_mem hil)
   have HOW := qy (refOwner_any r i A m c wr hrw hm hil hbi)
   have hab : -1000 ≤ ab r[i] ∧ ab r[i] ≤ 1000 := by unfold ab; split <;> omega
   have HI := qy (fun w h => refIndex_any M (ab r[i]) A1 n1 c1 w h (by omega))
   have hneg := ixR_neg M (ab r[i])
   generalize ab r[i] = x at *
   generalize ixR M x = ix at *
   have hr1w := hr1.later bv
   by_cases h3 : ix < 0
   ·have hs := qy (show ph1 (r.take (i + 1)) M = ph1 (r.take i) M ++ [0 - x] by rw [HS.out, if_neg (hneg.1 h3)])
    generalize ph1 (r.take i) M = T at *
    clear HS hneg
    have wx : IntKind.i64.wrap (0 - x) = 0 - x := IntWalk.i64_in _ (by omega)
    go_upto_region 9 with (first
     | (go_at_call 131; refine HOW.out.mono ?_; rintro e w1 ⟨rfl, rfl⟩)
     | (go_at_call 169; refine (HI.out _ hr1w).mono ?_; rintro e w1 ⟨rfl, rfl⟩))
    go_wp2_with (at_builtin; refine wpList_appS etI rfl (.tmp 27) (.tmp 29) rfl rfl (hO.later (Below.allocS (Below.refl _ _) _)) rfl (Rs.of_bk (n := 1) (c := 1) (Bk.new wr _ _) rfl (Nat.le_refl _)) (by simp [Value.oneCell']) (by omega) (by have := bv.size; simp; omega) ?_; intro A2 n2 c2 w4 hn2 hO4 hb4 hg4; subst hn2)
    have he2 : Os 3 1 w4 V.heap.size A2 (k + 1) c2 (itK (ph1 (r.take (i + 1)) M)) := by rw [hs.out, itK_append]; simpa [itK] using hO4
    exact ⟨⟨i + 1, A2, _, c2, by go_num, rfl, by omega, he2, (Below.allocS bv _).trans hb4⟩, by simp [intOf]; omega⟩
   ·have hs := qy (show ph1 (r.take (i + 1)) M = ph1 (r.take i) M ++ [x] by rw [HS.out, if_pos (Decidable.not_not.1 (fun h => h3 (hneg.2 h)))])
    generalize ph1 (r.take i) M = T at *
    clear HS hneg
    go_upto_region 9 with (first
     | (go_at_call 131; refine HOW.out.mono ?_; rintro e w1 ⟨rfl, rfl⟩)
     | (go_at_call 169; refine (HI.out _ hr1w).mono ?_; rintro e w1 ⟨rfl, rfl⟩))
    go_wp2_with (at_builtin; refine wpList_appS etI rfl (.tmp 27) (.tmp 29) rfl rfl (hO.later (Below.allocS (Below.refl _ _) _)) rfl (Rs.of_bk (n := 1) (c := 1) (Bk.new wr _ _) rfl (Nat.le_refl _)) (by simp [Value.oneCell']) (by omega) (by have := bv.size; simp; omega) ?_; intro A2 n2 c2 w4 hn2 hO4 hb4 hg4; subst hn2)
    have he2 : Os 3 1 w4 V.heap.size A2 (k + 1) c2 (itK (ph1 (r.take (i + 1)) M)) := by rw [hs.out, itK_append]; simpa [itK] using hO4
    exact ⟨⟨i + 1, A2, _, c2, by go_num, rfl, by omega, he2, (Below.allocS bv _).trans hb4⟩, by simp [intOf]; omega⟩
  ·have ii : ¬ (i : Int) < (m : Int) := by omega
   rw [List.take_of_length_le (by omega)] at hO
   have hO0 : Os 3 1 wr V.heap.size C k e (itK (ph2 r M 0)) := hO
   have HK := qy (show k ≤ m by omega)
   clear hi hO hkl
   go_upto_region 11 with (fail)
   go_loopw [6, 9] (fun OUT I wr => ∃ (i : Nat) (C : Option Addr) (k e : Nat), I = .int .i64 (i : Int) ∧ OUT = .slice C k e ∧ i ≤ n1 ∧ k ≤ m + i ∧ Os 3 1 wr V.heap.size C k e (itK (ph2 r M i)) ∧ Below V.heap.size V wr) (fun _ I _ => n1 - (intOf I).toNat)
   case atStart => exact ⟨0, C, k, e, rfl, rfl, Nat.zero_le _, by have := HK.out; omega, hO0, bv⟩
   case round =>
    clear hO0 bv be2 HK
    obtain ⟨i, C, k, e, rfl, rfl, hi, hkm, hO, bv⟩ := hrel
    have be2 := be.trans (bv.mono be.size)
    by_cases hlt : i < n1
    ·have hil : i < M.length := by omega
     have ii : (i : Int) < (n1 : Int) := by omega
     have hr1w := hr1.later bv
     have HS := qy (ph2_succ r M i hil)
     obtain ⟨b, o, rfl, hci⟩ := hr1w.int_ i hil
     have HI := qy (fun w h => refIndex_any (ph2 r M i) M[i] C k e w h (by omega))
     have hneg := ixR_neg (ph2 r M i) M[i]
     generalize M[i] = x at *
     generalize ixR (ph2 r M i) x = ix at *
     by_cases h3 : ix < 0
     ·have hs := qy (show ph2 r M (i + 1) = ph2 r M i ++ [x] by rw [HS.out, if_neg (hneg.1 h3)])
      generalize ph2 r M i = T at *
      clear HS hneg
      go_upto_region 14 with (go_at_call 169; refine (HI.out _ hO.rs).mono ?_; rintro e w1 ⟨rfl, rfl⟩)
      go_wp2_with (at_builtin; refine wpList_appS etI rfl (.tmp 44) (.tmp 49) rfl rfl (hO.later (Below.allocS (Below.refl _ _) _)) rfl (Rs.of_bk (n := 1) (c := 1) (Bk.new wr _ _) rfl (Nat.le_refl _)) (by simp [Value.oneCell']) (by omega) (by have := bv.size; simp; omega) ?_; intro A2 n2 c2 w4 hn2 hO4 hb4 hg4; subst hn2)
      have he2 : Os 3 1 w4 V.heap.size A2 (k + 1) c2 (itK (ph2 r M (i + 1))) := by rw [hs.out, itK_append]; simpa [itK] using hO4
      exact ⟨⟨i + 1, A2, _, c2, by go_num, rfl, by omega, by omega, he2, (Below.allocS bv _).trans hb4⟩, by simp [intOf]; omega⟩
     ·have hs := qy (show ph2 r M (i + 1) = ph2 r M i by rw [HS.out, if_pos (Decidable.not_not.1 (fun h => h3 (hneg.2 h)))])
      generalize ph2 r M i = T at *
      clear HS hneg
      go_wp2_with (go_at_call 169; refine (HI.out _ hO.rs).mono ?_; rintro e w1 ⟨rfl, rfl⟩)
      exact ⟨⟨i + 1, C, k, e, by go_num, rfl, by omega, by omega, by rw [hs.out]; exact hO, bv⟩, by simp [intOf]; omega⟩
    ·have ii : ¬ (i : Int) < (n1 : Int) := by omega
     rw [show i = n1 by omega] at hO
     clear hi hlt
     go_wp2
     go_ret
     exact RetOs.mk (hO.mono be.size) be2
def levC (e : Nat × Tab) : List Value := .int .i64 (e.1 : Int) :: tabC e.2
theorem levC_len (e : Nat × Tab) : (levC e).length = 130 := by simp [levC, tabC_len0]
theorem levC_one (e : Nat × Tab) : ∀ u ∈ levC e, u.oneCell' = true := by
 intro u hu
 rcases List.mem_cons.1 hu with rfl | hu
 ·rfl
 ·exact tabC_one _ u hu
def levels (S : Stk) : List (Nat × Tab) := (S.lv ++ List.replicate (8 - S.lv.length) (0, [])).take 8
theorem levels_len (S : Stk) : (levels S).length = 8 := by simp [levels]; omega
theorem levels_at (S : Stk) (i : Nat) (h : i < S.lv.length) (h8 : i < 8) : (levels S)[i]? = some S.lv[i] := by simp [levels, List.getElem?_take, h8, List.getElem?_append_left h]
def stkC (S : Stk) : List Value := .int .i64 (S.lv.length : Int) :: ((levels S).flatMap levC ++ [.int .u64 (S.ev : Int), .int .u64 (S.bz : Int)])
theorem stkC_len (S : Stk) : (stkC S).length = 1043 := by
 simp only [stkC, List.length_cons, List.length_append, flat_len levC 130 levC_len, levels_len]
 rfl
theorem stkC_one (S : Stk) : ∀ u ∈ stkC S, u.oneCell' = true := by
 intro u hu
 rcases List.mem_cons.1 hu with rfl | hu
 ·rfl
 ·rcases List.mem_append.1 hu with hu | hu
  ·exact flat_one levC levC_one _ u hu
  ·simp at hu; rcases hu with rfl | rfl <;> rfl
theorem szStk (S : Stk) : (Tryz.prog.info? 210).map (·.size) = some (stkC S).length := by rw [stkC_len]; kernel_rfl
theorem rowStk : ∃ d, Tryz.prog.underlying 210 = some d ∧ d.isRow = true := ⟨_, Tryz.underlying210, rfl⟩
theorem szLev (e : Nat × Tab) : (Tryz.prog.info? 207).map (·.size) = some (levC e).length := by rw [levC_len]; kernel_rfl
theorem rowLev : ∃ d, Tryz.prog.underlying 207 = some d ∧ d.isRow = true := ⟨_, Tryz.underlying207, rfl⟩
theorem stkC_ev (S : Stk) : (stkC S)[1041]? = some (.int .u64 (S.ev : Int)) := by
 rw [stkC, List.getElem?_cons_succ, List.getElem?_append_right (by rw [flat_len levC 130 levC_len, levels_len]; omega), flat_len levC 130 levC_len, levels_len]
 rfl
theorem stkC_bz (S : Stk) : (stkC S)[1042]? = some (.int .u64 (S.bz : Int)) := by
 rw [stkC, List.getElem?_cons_succ, List.getElem?_append_right (by rw [flat_len levC 130 levC_len, levels_len]; omega), flat_len levC 130 levC_len, levels_len]
 rfl
theorem stkC_lev (S : Stk) (i : Nat) (h : i < S.lv.length) (h8 : i < 8) (k : Nat) (u : Value) (hk : (levC S.lv[i])[k]? = some u) : (stkC S)[1 + i * 130 + k]? = some u := by
 have hs : i < (levels S).length := by rw [levels_len]; exact h8
 have e : (levels S)[i] = S.lv[i] := by have := levels_at S i h h8; rw [List.getElem?_eq_getElem hs] at this; injection this
 have h1 := flat_at levC 130 levC_len (levels S) i hs k u (by rw [e]; exact hk)
 rw [stkC, show 1 + i * 130 + k = (i * 130 + k) + 1 by omega, List.getElem?_cons_succ, List.getElem?_append_left (List.getElem?_eq_some_iff.1 h1).1]
 exact h1
theorem part_ofS {cs part : List Value} {off : Nat} (h : ∀ (k : Nat) (u : Value), part[k]? = some u → cs[off + k]? = some u) : (cs.drop off).take part.length = part := by
 apply List.ext_getElem?
 intro k
 rw [List.getElem?_take]
 split
 ·rename_i hk
  rw [List.getElem?_drop, List.getElem?_eq_getElem hk]
  exact h k _ (List.getElem?_eq_getElem hk)
 ·rename_i hk
  rw [List.getElem?_eq_none (by omega)]
theorem stkC_part (S : Stk) (i : Nat) (h : i < S.lv.length) (h8 : i < 8) : ((stkC S).drop (1 + i * 130)).take (levC S.lv[i]).length = levC S.lv[i] := part_ofS (fun k u hk => stkC_lev S i h h8 k u hk)
def bitB (n : Int) (f m : Nat) : Nat := if (f : Int) ≤ n ∧ n < (f : Int) + m then 2 ^ (n - f).toNat else 0
theorem bitB_lt (n : Int) (f m : Nat) (hm : m ≤ 64) : bitB n f m < 18446744073709551616 := by
 unfold bitB
 split
 ·have : 2 ^ (n - f).toNat < 2 ^ 64 := Nat.pow_lt_pow_right (by decide) (by omega)
  omega
 ·decide
theorem hasB_and (x : Nat) (n : Int) (f m : Nat) : (((x &&& bitB n f m : Nat) : Int) == 0) = !hasB x n f m := by
 unfold bitB hasB
 by_cases h : (f : Int) ≤ n ∧ n < (f : Int) + m
 ·rw [if_pos h, decide_eq_true h.1, decide_eq_true h.2]
  rw [nat_bit]
  have hd := Nat.testBit_eq_decide_div_mod_eq (x := x) (i := (n - f).toNat)
  have hp : 0 < 2 ^ (n - (f : Int)).toNat := Nat.two_pow_pos _
  rcases Nat.mod_two_eq_zero_or_one (x / 2 ^ (n - (f : Int)).toNat) with h0 | h0
  ·rw [hd, h0]; simp
  ·rw [hd, h0]
   simp only [Nat.one_mul, decide_true, Bool.and_self, Bool.not_true, beq_eq_false_iff_ne]
   omega
 ·rw [if_neg h]
  have : ((decide ((f : Int) ≤ n) && decide (n < (f : Int) + m)) : Bool) = false := by
   simp only [Bool.and_eq_false_iff, decide_eq_false_iff_not]; omega
  rw [this]; simp
theorem bit_any (n : Int) (f m : Nat) (hm : m ≤ 64) (hf : f ≤ 1) (hn : n ≤ 9223372036854775807) (w : World) : Calls Tryz.prog 165 #[.int .i64 n, .int .i64 (f : Int), .int .i64 (m : Int)] w fun e w' => e = .returned (.int .u64 (bitB n f m : Nat)) ∧ w = w' := by
 by_cases h1 : (f : Int) ≤ n
 ·obtain ⟨k, rfl⟩ : ∃ k : Nat, n = k := ⟨n.toNat, by omega⟩
  have i1 : ¬ (k : Int) < (f : Int) := by omega
  have hs : IntKind.i64.wrap ((k : Int) - (f : Int)) = ((k - f : Nat) : Int) := by rw [IntWalk.i64_in _ (by omega)]; omega
  by_cases h2 : k - f < m
  ·have hb := qy (show bitB (k : Int) f m = 2 ^ (k - f) by unfold bitB; rw [if_pos (by omega), show ((k : Int) - (f : Int)).toNat = k - f by omega])
   generalize bitB (k : Int) f m = B at *
   have hp : Hid (2 ^ (k - f) < 2 ^ 64) := qy (Nat.pow_lt_pow_right (by decide) (by omega))
   generalize k - f = d at *
   have i2 : ¬ (m : Int) ≤ (d : Int) := by omega
   have i3 : d < m := h2
   clear h1
   go_enter Tryz.func165, Tryz.ntmps165
   go_wp2
   go_ret
   have h2p : ((2 ^ d : Nat) : Int) = (2 : Int) ^ d := by simp
   have hp2 := hp.out
   have hbo := hb.out
   rw [← h2p]
   clear hp hb h2p
   generalize 2 ^ d = P at *
   rw [IntWalk.u64_in _ (by omega), hbo]
   exact ⟨rfl, rfl⟩
  ·have hb := qy (show bitB (k : Int) f m = 0 by unfold bitB; rw [if_neg (by omega)])
   generalize bitB (k : Int) f m = B at *
   generalize k - f = d at *
   have i2 : (m : Int) ≤ (d : Int) := by omega
   clear h1
   go_enter Tryz.func165, Tryz.ntmps165
   go_wp2
   go_ret
   rw [hb.out]; simp
 ·have i1 : n < (f : Int) := by omega
  have hb := qy (show bitB n f m = 0 by unfold bitB; rw [if_neg (by omega)])
  generalize bitB n f m = B at *
  clear h1
  go_enter Tryz.func165, Tryz.ntmps165
  go_wp2
  go_ret
  rw [hb.out]; simp
theorem backendBit_any (n : Int) (hn : n ≤ 9223372036854775807) (w : World) : Calls Tryz.prog 159 #[.int .i64 n] w fun e w' => e = .returned (.int .u64 (bitB n 1 64 : Nat)) ∧ w = w' := by
 have HB := qy (fun w => bit_any n 1 64 (by decide) (by decide) hn w)
 generalize bitB n 1 64 = B at *
 go_enter Tryz.func159, Tryz.ntmps159
 go_wp2_with (go_at_call 165; refine (HB.out _).mono ?_; rintro e w1 ⟨rfl, rfl⟩)
 go_ret
 exact ⟨rfl, rfl⟩
theorem versionBit_any (n : Int) (hn : n ≤ 9223372036854775807) (w : World) : Calls Tryz.prog 146 #[.int .i64 n] w fun e w' => e = .returned (.int .u64 (bitB n 0 8 : Nat)) ∧ w = w' := by
 have HB := qy (fun w => bit_any n 0 8 (by decide) (by decide) hn w)
 generalize bitB n 0 8 = B at *
 go_enter Tryz.func146, Tryz.ntmps146
 go_wp2_with (go_at_call 165; refine (HB.out _).mono ?_; rintro e w1 ⟨rfl, rfl⟩)
 go_ret
 exact ⟨rfl, rfl⟩
theorem all_any (S : Stk) (h8 : S.lv.length ≤ 8) (g : Nat) (w : World) (hS : Bk w g 210 (stkC S)) : Calls Tryz.prog 127 #[.pointer (some ⟨g, 0, none⟩)] w (RetV w (.slice (some ⟨g, 1, none⟩) S.lv.length 8)) := by
 have h0 : (stkC S)[0]? = some (.int .i64 (S.lv.length : Int)) := rfl
 generalize S.lv.length = n at *
 have i8 : (n : Int) ≤ 8 := by omega
 go_enter Tryz.func127, Tryz.ntmps127
 go_upto_region 3 with (fail)
 refine wp_relS 9 13 rfl (by kernel_rfl) (by kernel_rfl) ?_
 refine qb 0 1 ?_
 refine qa 0 5 2 ?_
 refine qa 1 6 3 ?_
 refine qb 0 4 ?_
 refine qa 3 8 5 ?_
 refine qa 4 9 6 ?_
 refine ql 5 10 7 3 hS Tryz.underlying3 ?_ (hv := h0)
 refine qc 2 7 6 11 8 ?_
 refine qa 7 12 9 ?_
 refine Steps.fin_ (fun vs x hp => ?_)
 simp only [qta, qtb, qda, qdb, putAll, Nat.zero_add, Nat.reduceAdd, Act.put, qsT, qsZ, qsS, qi (hp 0 qd), qi (hp 1 qd), qi (hp 2 qd), qi (hp 3 qd), qi (hp 4 qd), qi (hp 5 qd), qi (hp 6 qd), qi (hp 7 qd), qi (hp 8 qd)]
 clear hp
 clear vs
 go_wp2
 go_ret
 exact RetV.is_ (by simp) bpl
def ixS (S : Stk) (v : Int) : Int := if idxS S v < S.lv.length then (idxS S v : Int) else -1
theorem idxS_step (S : Stk) (n : Int) (i : Nat) (hi : i ≤ idxS S n) (h : i < S.lv.length) : ((S.lv[i].1 : Int) = n → idxS S n = i) ∧ (¬ (S.lv[i].1 : Int) = n → i + 1 ≤ idxS S n) := by
 constructor
 ·intro he
  rcases Nat.lt_or_ge i (idxS S n) with h1 | h1
  ·have := List.not_of_lt_findIdx h1
   simp [he] at this
  ·omega
 ·intro he
  rcases Nat.lt_or_ge i (idxS S n) with h1 | h1
  ·exact h1
  ·have e : idxS S n = i := by omega
   have := idxS_at (S := S) (v := n) (by omega)
   simp only [e] at this
   exact absurd this he
theorem index_any (S : Stk) (h8 : S.lv.length ≤ 8) (g : Nat) (v : Int) (w : World) (hS : Bk w g 210 (stkC S)) : Calls Tryz.prog 145 #[.pointer (some ⟨g, 0, none⟩), .int .i64 v] w (RetV w (.int .i64 (ixS S v))) := by
 obtain ⟨dv1, vl1, vl2⟩ := rowLev
 have HA := qy (all_any S h8 g w hS)
 have hzv : ∀ w, (zeroValue 207).run Tryz.prog w = .ok (.agg (levC (0, [])).toArray) w := fun _ => by kernel_rfl
 obtain ⟨ix, hix⟩ : ∃ ix, ixS S v = ix := ⟨_, rfl⟩
 have HIX := qy hix
 have hle : idxS S v ≤ S.lv.length := idxS_le S v
 rw [hix]
 clear hix
 go_enter Tryz.func145, Tryz.ntmps145
 go_upto_region 2 with (go_at_call 127; refine HA.out.mono ?_; rintro e w1 ⟨bs1, d1, rfl, rfl⟩)
 have be := below_plus w bs1 d1
 clear HA
 generalize plus w bs1 d1 = V at *
 go_loopw [10] (fun I wr => ∃ i : Nat, I = .int .i64 (i : Int) ∧ i ≤ idxS S v ∧ Below w.heap.size w wr) (fun I _ => S.lv.length - (intOf I).toNat)
 case atStart => exact ⟨0, rfl, Nat.zero_le _, be⟩
 case round =>
  clear be
  obtain ⟨i, rfl, hi, be⟩ := hrel
  by_cases hlt : i < S.lv.length
  ·have hSr := hS.later be
   have ii : (i : Int) < (S.lv.length : Int) := by omega
   have hst := idxS_step S v i hi hlt
   have hp := stkC_part S i hlt (by omega)
   obtain ⟨e0, he0⟩ : ∃ e0, S.lv[i] = e0 := ⟨_, rfl⟩
   rw [he0] at hst hp
   clear he0
   go_upto_region 3 with (fail)
   refine wp_region_lit ?_
   iterate 2 (refine qw ?_)
   refine wpList_ldA (t := 210) (off := 1 + i * 130) 207 (.tmp 13) rfl rfl (levC e0) rfl hSr hp vl1 vl2 (szLev _) ?_
   iterate 2 (refine qw ?_)
   refine wpList_stA (t := 207) 207 (.tmp 6) (.tmp 14) rfl rfl (levC e0) (levC (0, [])) (by rw [levC_len, levC_len]) (levC_one _) rfl rfl (Bk.new _ _ _) (szLev _) ?_
   intro W4 h4 g4
   simp only [Act.put, qsT, qsZ, qsS]
   have be' : Below w.heap.size w W4 := below_grown (be.alloc be.size _) g4 be.size
   have b4 : Bk W4 wr.heap.size 207 (levC e0) := h4
   have q4 : W4.cell? ⟨wr.heap.size, 0, none⟩ = some (.int .i64 (e0.1 : Int)) := b4.cell 0
   clear h4 g4 b4 hSr
   generalize wr.heap.size = g4 at *
   by_cases hv : (e0.1 : Int) = v
   ·have hii := hst.1 hv
    have hfin := qy (show ix = (i : Int) by rw [← HIX.out]; unfold ixS; rw [hii, if_pos hlt])
    subst hv
    clear hst hii hi hle
    go_wp2
    go_ret
    exact RetV.is_ (by rw [hfin.out]; rfl) be'
   ·have hii := hst.2 hv
    have hvb : ((e0.1 : Int) == v) = false := by simpa using hv
    clear hst hi
    go_wp2
    exact ⟨⟨i + 1, by go_num, hii, be'⟩, by simp [intOf]; omega⟩
  ·have hfin := qy (show ix = -1 by rw [← HIX.out]; unfold ixS; rw [if_neg (by omega)])
   have ii : ¬ (i : Int) < (S.lv.length : Int) := by omega
   clear hi hle
   go_wp2
   go_ret
   exact RetV.is_ (by rw [hfin.out]; rfl) be
abbrev Ent := Nat × Option Addr × Nat × Nat
def enE (e : Ent) : List Value := [.int .i64 (e.1 : Int), .slice e.2.1 e.2.2.1 e.2.2.2]
theorem enE_len (e : Ent) : (enE e).length = 2 := rfl
theorem enE_one (e : Ent) : ∀ u ∈ enE e, u.oneCell' = true := by simp [enE, Value.oneCell']
def EnOk (w : World) (L : List (Nat × Tab)) (E : List Ent) : Prop := E.length = L.length ∧ ∀ (i : Nat) (h : i < L.length) (h' : i < E.length), E[i].1 = L[i].1 ∧ Rs 1 w E[i].2.1 E[i].2.2.1 E[i].2.2.2 (itK (refT L[i].2))
theorem EnOk.later {w w' : World} {L : List (Nat × Tab)} {E : List Ent} (h : EnOk w L E) (hb : Below w.heap.size w w') : EnOk w' L E := ⟨h.1, fun i h1 h2 => ⟨(h.2 i h1 h2).1, (h.2 i h1 h2).2.later hb⟩⟩
theorem EnOk.nil_ (w : World) : EnOk w [] [] := ⟨rfl, fun i h => absurd h (Nat.not_lt_zero i)⟩
theorem EnOk.snoc {w : World} {L : List (Nat × Tab)} {E : List Ent} (h : EnOk w L E) (v : Nat) (t : Tab) (A : Option Addr) (n c : Nat) (hr : Rs 1 w A n c (itK (refT t))) : EnOk w (L ++ [(v, t)]) (E ++ [(v, A, n, c)]) := by
 refine ⟨by simp [h.1], fun i h1 h2 => ?_⟩
 by_cases hi : i < L.length
 ·rw [List.getElem_append_left hi, List.getElem_append_left (by rw [h.1]; exact hi)]
  exact h.2 i hi (by rw [h.1]; exact hi)
 ·have e : i = L.length := by simp at h1; omega
  subst e
  rw [List.getElem_append_right (Nat.le_refl _), List.getElem_append_right (by rw [h.1]; exact Nat.le_refl _)]
  simp [h.1, hr]
theorem EnOk.erase {w : World} {L : List (Nat × Tab)} {E : List Ent} (h : EnOk w L E) (k : Nat) : EnOk w (L.eraseIdx k) (E.eraseIdx k) := by
 refine ⟨by rw [List.length_eraseIdx, List.length_eraseIdx, h.1], fun i h1 h2 => ?_⟩
 rw [List.getElem_eraseIdx, List.getElem_eraseIdx]
 by_cases hi : i < k
 ·simp only [dif_pos hi]
  exact h.2 i _ _
 ·simp only [dif_neg hi]
  exact h.2 (i + 1) _ _
def Off (D : Nat → Prop) (w : World) (A : Option Addr) : Prop := ∀ a, A = some a → a.block < w.heap.size ∧ ¬ D a.block
theorem Off.none_ {D : Nat → Prop} {w : World} : Off D w none := fun a h => by cases h
theorem Off.size {D : Nat → Prop} {w w' : World} {A : Option Addr} (h : Off D w A) (hs : w.heap.size ≤ w'.heap.size) : Off D w' A := fun a ha => ⟨Nat.lt_of_lt_of_le (h a ha).1 hs, (h a ha).2⟩
theorem Off.more {D D' : Nat → Prop} {w : World} {A : Option Addr} (h : Off D w A) (hd : ∀ b, D' b → D b ∨ w.heap.size ≤ b) : Off D' w A := fun a ha => ⟨(h a ha).1, fun hb => by
 rcases hd _ hb with h1 | h1
 ·exact (h a ha).2 h1
 ·have := (h a ha).1; omega⟩
def RSt (D : Nat → Prop) (w : World) (L : List (Nat × Tab)) (A : Option Addr) (n c : Nat) : Prop := ∃ E, EnOk w L E ∧ Rs 2 w A n c (E.flatMap enE) ∧ Off D w A ∧ ∀ e ∈ E, Off D w e.2.1
section
variable {D : Nat → Prop}
theorem RSt.later {w w' : World} {L : List (Nat × Tab)} {A : Option Addr} {n c : Nat} (h : RSt D w L A n c) (hb : Below w.heap.size w w') : RSt D w' L A n c := by
 obtain ⟨E, h1, h2, h3, h4⟩ := h
 exact ⟨E, h1.later hb, h2.later hb, h3.size hb.size, fun e he => (h4 e he).size hb.size⟩
theorem RSt.more {D' : Nat → Prop} {w : World} {L : List (Nat × Tab)} {A : Option Addr} {n c : Nat} (h : RSt D w L A n c) (hd : ∀ b, D' b → D b ∨ w.heap.size ≤ b) : RSt D' w L A n c := by
 obtain ⟨E, h1, h2, h3, h4⟩ := h
 exact ⟨E, h1, h2, h3.more hd, fun e he => (h4 e he).more hd⟩
theorem RSt.len {w : World} {L : List (Nat × Tab)} {A : Option Addr} {n c : Nat} (h : RSt D w L A n c) : n = L.length := by
 obtain ⟨E, h1, h2, -, -⟩ := h
 have := h2.1
 rw [flat_len enE 2 enE_len, h1.1] at this
 omega
theorem RSt.cap {w : World} {L : List (Nat × Tab)} {A : Option Addr} {n c : Nat} (h : RSt D w L A n c) : n ≤ c := by
 obtain ⟨E, h1, h2, -, -⟩ := h
 exact h2.2.1
theorem RSt.chg {w w' : World} {L : List (Nat × Tab)} {A : Option Addr} {n c : Nat} (h : RSt D w L A n c) (hc : Chg D w w') : RSt D w' L A n c := by
 obtain ⟨E, h1, h2, h3, h4⟩ := h
 exact ⟨E, ⟨h1.1, fun i a b => ⟨(h1.2 i a b).1, (h1.2 i a b).2.chg hc (fun x hx => (h4 _ (List.getElem_mem b) x hx).2)⟩⟩, h2.chg hc (fun x hx => (h3 x hx).2), h3.size hc.size, fun e he => (h4 e he).size hc.size⟩
theorem RSt.nil_ {w : World} : RSt D w [] none 0 0 := ⟨[], EnOk.nil_ w, Rs.nil_, Off.none_, (fun e h => by cases h)⟩
theorem Off.own {e : TypeId} {s : Nat} {w : World} {base : Nat} {A : Option Addr} {n c : Nat} {cs : List Value} (h : Os e s w base A n c cs) (hD : ∀ b, D b → b < base) : Off D w A := by
 intro a ha
 rcases h.2 with ⟨hv, h0⟩ | ⟨g, cap, cur, hv, hb, hg, _⟩
 ·injection hv with h1; rw [h1] at ha; cases ha
 ·injection hv with h1
  rw [h1] at ha
  injection ha with ha
  subst ha
  exact ⟨(Array.getElem?_eq_some_iff.1 hg).1, fun hd => by have := hD _ hd; simp at this; omega⟩
end
theorem RSt.at_ {D : Nat → Prop} {w : World} {L : List (Nat × Tab)} {A : Option Addr} {n c : Nat} (h : RSt D w L A n c) (i : Nat) (hi : i < L.length) : ∃ b o A' n' c', A = some ⟨b, o, none⟩ ∧ w.cell? ⟨b, o + i * 2, none⟩ = some (.int .i64 (L[i].1 : Int)) ∧ w.cell? ⟨b, o + i * 2 + 1, none⟩ = some (.slice A' n' c') ∧ Rs 1 w A' n' c' (itK (refT L[i].2)) ∧ Off D w A' := by
 obtain ⟨E, h1, h2, -, h4⟩ := h
 have hiE : i < E.length := by rw [h1.1]; exact hi
 obtain ⟨b, o, hA, _, hc⟩ := h2.at_ (by have := h2.1; rw [flat_len enE 2 enE_len] at this; omega) (by decide)
 obtain ⟨e1, e2⟩ := h1.2 i hi hiE
 refine ⟨b, o, E[i].2.1, E[i].2.2.1, E[i].2.2.2, hA, ?_, ?_, e2, h4 _ (List.getElem_mem hiE)⟩
 ·have := hc (i * 2 + 0) (.int .i64 (E[i].1 : Int)) (flat_at enE 2 enE_len E i hiE 0 _ rfl)
  rw [← e1]
  exact this
 ·have := hc (i * 2 + 1) (.slice E[i].2.1 E[i].2.2.1 E[i].2.2.2) (flat_at enE 2 enE_len E i hiE 1 _ rfl)
  rw [Nat.add_assoc]
  exact this
def rstC (A : Option Addr) (n c : Nat) (S : Stk) : List Value := .slice A n c :: ((refEv S).map Value.bool ++ (refBz S).map Value.bool)
theorem rstC_len (A : Option Addr) (n c : Nat) (S : Stk) : (rstC A n c S).length = 74 := by simp [rstC, refEv, refBz]
theorem rstC_one (A : Option Addr) (n c : Nat) (S : Stk) : ∀ u ∈ rstC A n c S, u.oneCell' = true := by
 intro u hu
 rcases List.mem_cons.1 hu with rfl | hu
 ·rfl
 ·rcases List.mem_append.1 hu with hu | hu <;> (obtain ⟨x, _, rfl⟩ := List.mem_map.1 hu; rfl)
theorem szRst (A : Option Addr) (n c : Nat) (S : Stk) : (Tryz.prog.info? 152).map (·.size) = some (rstC A n c S).length := by rw [rstC_len]; kernel_rfl
theorem rowRst : ∃ d, Tryz.prog.underlying 152 = some d ∧ d.isRow = true := ⟨_, Tryz.underlying152, rfl⟩
theorem rstC_ev (A : Option Addr) (n c : Nat) (S : Stk) (i : Nat) (h : i < 65) : (rstC A n c S)[1 + i]? = some (.bool (deadS S (i : Int))) := by
 rw [rstC, Nat.add_comm, List.getElem?_cons_succ, List.getElem?_append_left (by simp [refEv]; exact h)]
 simp [refEv, h]
theorem rstC_bz (A : Option Addr) (n c : Nat) (S : Stk) (i : Nat) (h : i < 8) : (rstC A n c S)[66 + i]? = some (.bool (S.bz.testBit i)) := by
 rw [rstC, show 66 + i = (65 + i) + 1 by omega, List.getElem?_cons_succ, List.getElem?_append_right (by simp [refEv])]
 simp [refEv, refBz, h]
theorem rstC_setEv (A : Option Addr) (n c : Nat) (S S' : Stk) (i : Nat) (h : i < 65) (b : Bool) (he : refEv S' = (refEv S).set i b) (hb : refBz S' = refBz S) : (rstC A n c S).set (1 + i) (.bool b) = rstC A n c S' := by
 unfold rstC
 rw [Nat.add_comm, List.set_cons_succ, List.set_append_left _ _ (by simp [refEv]; exact h), he, hb, List.map_set]
theorem rstC_setBz (A : Option Addr) (n c : Nat) (S S' : Stk) (i : Nat) (b : Bool) (he : refBz S' = (refBz S).set i b) (hb : refEv S' = refEv S) : (rstC A n c S).set (66 + i) (.bool b) = rstC A n c S' := by
 unfold rstC
 rw [show 66 + i = (65 + i) + 1 by omega, List.set_cons_succ, List.set_append_right _ _ (by simp [refEv]), he, hb, List.map_set]
 simp [refEv]
theorem refIndexS_any (S : Stk) (h8 : S.lv.length ≤ 8) (A : Option Addr) (n c : Nat) (v : Int) (w : World) {D : Nat → Prop} (hR : RSt D w S.lv A n c) : Calls Tryz.prog 155 #[.agg (rstC A n c S).toArray, .int .i64 v] w (RetV w (.int .i64 (ixS S v))) := by
 have hn1 : n ≤ S.lv.length := Nat.le_of_eq hR.len
 have hn2 : S.lv.length ≤ n := Nat.le_of_eq hR.len.symm
 obtain ⟨X, hX⟩ : ∃ X, ixS S v = X := ⟨_, rfl⟩
 rw [hX]
 have HX := qy hX
 clear hX
 have hle : idxS S v ≤ S.lv.length := idxS_le S v
 obtain ⟨dvr1, vr1, vr2⟩ := rowRst
 obtain ⟨bs, be, zV⟩ := box1 w 152 (rstC A n c S)
 go_enter Tryz.func155, Tryz.ntmps155
 go_upto_region 1 with (fail)
 generalize w.alloc (.cells (rstC A n c S).toArray 152) = V at *
 have q0 : V.cell? ⟨w.heap.size, 0, none⟩ = some (.slice A n c) := bs.cell 0
 replace hR := hR.later be
 go_upto_region 2 with (fail)
 go_loop [5] (fun I => ∃ i : Nat, I = .int .i64 (i : Int) ∧ i ≤ idxS S v) (fun I => n - (intOf I).toNat)
 case atStart => exact ⟨0, rfl, Nat.zero_le _⟩
 case round =>
  obtain ⟨i, rfl, hi⟩ := hrel
  by_cases hlt : i < n
  ·have hil : i < S.lv.length := by omega
   have ii : (i : Int) < (n : Int) := by omega
   obtain ⟨b, o, A', n', c', rfl, hc0, -, -, -⟩ := hR.at_ i hil
   have hst := idxS_step S v i hi hil
   generalize S.lv[i] = e0 at *
   by_cases hv : (e0.1 : Int) = v
   ·have hii := hst.1 hv
    have hfin := qy (show X = (i : Int) by rw [← HX.out]; unfold ixS; rw [hii, if_pos hil])
    subst hv
    clear hst hii hi hle
    go_wp2
    go_ret
    exact RetV.is_ (by rw [hfin.out]; rfl) be
   ·have hii := hst.2 hv
    have hvb : ((e0.1 : Int) == v) = false := by simpa using hv
    clear hst hi
    go_wp2
    exact ⟨⟨i + 1, by go_num, hii⟩, by simp [intOf]; omega⟩
  ·have hfin := qy (show X = -1 by rw [← HX.out]; unfold ixS; exact if_neg (by omega))
   have ii : ¬ (i : Int) < (n : Int) := by omega
   clear hi hle
   go_wp2
   go_ret
   exact RetV.is_ (by rw [hfin.out]; rfl) be
def frR (S : Stk) : Int := if freeS S < 8 then (freeS S : Int) else -1
theorem refFree_any (S : Stk) (h8 : S.lv.length ≤ 8) (A : Option Addr) (n c : Nat) (w : World) {D : Nat → Prop} (hR : RSt D w S.lv A n c) : Calls Tryz.prog 167 #[.agg (rstC A n c S).toArray] w (RetV w (.int .i64 (frR S))) := by
 obtain ⟨X, hX⟩ : ∃ X, frR S = X := ⟨_, rfl⟩
 rw [hX]
 have HX := qy hX
 clear hX
 have hf8 := freeS_le S
 obtain ⟨dvr1, vr1, vr2⟩ := rowRst
 obtain ⟨bs, be, zV⟩ := box1 w 152 (rstC A n c S)
 go_enter Tryz.func167, Tryz.ntmps167
 go_upto_region 1 with (fail)
 generalize w.alloc (.cells (rstC A n c S).toArray 152) = V at *
 replace hR := hR.later be
 have HBE := qy be
 have bv := Below.refl V.heap.size V
 go_upto_region 2 with (fail)
 go_loopw [3] (fun I wr => ∃ i : Nat, I = .int .i64 (i : Int) ∧ i ≤ freeS S ∧ Below V.heap.size V wr) (fun I _ => 8 - (intOf I).toNat)
 case atStart => exact ⟨0, rfl, Nat.zero_le _, bv⟩
 case round =>
  clear bv be
  obtain ⟨i, rfl, hi, bv⟩ := hrel
  have be := HBE.out.trans (bv.mono HBE.out.size)
  have hRw := hR.later bv
  replace bs := bs.later bv
  by_cases hlt : i < 8
  ·have ii : (i : Int) < 8 := by omega
   have HI := qy (fun w h => refIndexS_any S h8 A n c (i : Int) w (D := D) h)
   have hsp := freeS_spec S i hi hlt
   have htk : takenS S i = (S.bz.testBit i || decide (0 ≤ ixS S (i : Int))) := by
    unfold takenS ixS
    by_cases h9 : idxS S (i : Int) < S.lv.length
    ·simp [h9]
    ·simp [h9]
   have qb : wr.cell? ⟨w.heap.size, 66 + i, none⟩ = some (.bool (S.bz.testBit i)) := (bs.cell _).trans (rstC_bz A n c S i hlt)
   have hsp2 : (S.bz.testBit i = false ∧ ixS S (i : Int) < 0 → freeS S = i) ∧ (S.bz.testBit i = true ∨ 0 ≤ ixS S (i : Int) → i + 1 ≤ freeS S) := by
    rw [htk] at hsp
    rcases hsp with ⟨h1, h2⟩ | ⟨h1, h2⟩
    ·refine ⟨fun ⟨hb, hx⟩ => ?_, fun _ => h2⟩
     rw [hb, Bool.false_or, decide_eq_true_eq] at h1
     omega
    ·refine ⟨fun _ => h2.symm, fun h => ?_⟩
     rw [Bool.or_eq_false_iff, decide_eq_false_iff_not] at h1
     rcases h with h | h
     ·rw [h] at h1; cases h1.1
     ·exact absurd h h1.2
   clear hsp htk
   generalize S.bz.testBit i = b at *
   generalize ixS S (i : Int) = ix at *
   cases b
   ·by_cases hx : ix < 0
    ·have hif : freeS S = i := hsp2.1 ⟨rfl, hx⟩
     have hfin := qy (show X = (i : Int) by rw [← HX.out]; unfold frR; rw [hif, if_pos hlt])
     clear hsp2 hif hi hf8
     go_upto_region 4 with (fail)
     refine wp_region_lit ?_
     iterate 6 (refine qw ?_)
     refine wpList_ldG (t := 152) 152 (.tmp 1) rfl (by go_simp) (rstC A n c S) rfl (bs) (whole_ _) vr1 vr2 (szRst A n c S) ?_
     refine wpList_step (fun K hK => ?_); go_simp; with_reducible refine hK _ _ ?_; clear hK K
     refine wpList_step (fun K hK => ?_)
     go_simp
     refine (HI.out _ hRw).mono ?_
     rintro e w1 ⟨bs9, d9, rfl, rfl⟩
     with_reducible refine hK _ _ ?_
     clear hK K
     refine wpList_step (fun K hK => ?_); go_simp; with_reducible refine hK _ _ ?_; clear hK K
     refine qw ?_
     have be2 := belowP be bs9 d9
     go_wp2
     go_ret
     exact RetV.is_ (by rw [hfin.out]; rfl) be2
    ·have hif : i + 1 ≤ freeS S := hsp2.2 (.inr (by omega))
     clear hsp2 hi
     go_upto_region 4 with (fail)
     refine wp_region_lit ?_
     iterate 6 (refine qw ?_)
     refine wpList_ldG (t := 152) 152 (.tmp 1) rfl (by go_simp) (rstC A n c S) rfl (bs) (whole_ _) vr1 vr2 (szRst A n c S) ?_
     refine wpList_step (fun K hK => ?_); go_simp; with_reducible refine hK _ _ ?_; clear hK K
     refine wpList_step (fun K hK => ?_)
     go_simp
     refine (HI.out _ hRw).mono ?_
     rintro e w1 ⟨bs9, d9, rfl, rfl⟩
     with_reducible refine hK _ _ ?_
     clear hK K
     refine wpList_step (fun K hK => ?_); go_simp; with_reducible refine hK _ _ ?_; clear hK K
     refine qw ?_
     have bv2 := belowP bv bs9 d9
     go_wp2
     exact ⟨⟨i + 1, by go_num, hif, bv2⟩, by simp [intOf]; omega⟩
   ·have hif : i + 1 ≤ freeS S := hsp2.2 (.inl rfl)
    clear hsp2 hi HI
    go_wp2
    exact ⟨⟨i + 1, by go_num, hif, bv⟩, by simp [intOf]; omega⟩
  ·have hfin := qy (show X = -1 by rw [← HX.out]; unfold frR; exact if_neg (by omega))
   have ii : ¬ (i : Int) < 8 := by omega
   clear hi hf8
   go_wp2
   go_ret
   exact RetV.is_ (by rw [hfin.out]; rfl) be
theorem refDead_any (S : Stk) (A : Option Addr) (n c : Nat) (v : Int) (w : World) : Calls Tryz.prog 166 #[.agg (rstC A n c S).toArray, .int .i64 v] w (RetV w (.bool (deadS S v))) := by
 obtain ⟨X, hX⟩ : ∃ X, deadS S v = X := ⟨_, rfl⟩
 rw [hX]
 have HX := qy hX
 clear hX
 by_cases h1 : 0 < v ∧ v < 65
 ·obtain ⟨i, rfl⟩ : ∃ i : Nat, v = i := ⟨v.toNat, by omega⟩
  have hc := rstC_ev A n c S i (by omega)
  rw [HX.out] at hc
  obtain ⟨i1, i2⟩ := h1
  have i3 : 0 ≤ (i : Int) := by omega
  obtain ⟨dvr1, vr1, vr2⟩ := rowRst
  obtain ⟨bs, be, zV⟩ := box1 w 152 (rstC A n c S)
  go_enter Tryz.func166, Tryz.ntmps166
  go_upto_region 1 with (fail)
  generalize w.alloc (.cells (rstC A n c S).toArray 152) = V at *
  have q0 : V.cell? ⟨w.heap.size, 1 + i, none⟩ = some (.bool X) := (bs.cell _).trans hc
  go_wp2
  go_ret
  exact RetV.is_ rfl be
 ·have hfin := qy (show X = false by
   rw [← HX.out]; unfold deadS hasB
   by_cases h2 : ((1 : Nat) : Int) ≤ v
   ·rw [decide_eq_false (show ¬ v < ((1 : Nat) : Int) + (64 : Nat) by omega)]; simp
   ·rw [decide_eq_false h2]; simp)
  by_cases h2 : 0 < v
  ·have h3 : ¬ v < 65 := by omega
   obtain ⟨dvr1, vr1, vr2⟩ := rowRst
   obtain ⟨bs, be, zV⟩ := box1 w 152 (rstC A n c S)
   go_enter Tryz.func166, Tryz.ntmps166
   go_upto_region 1 with (fail)
   generalize w.alloc (.cells (rstC A n c S).toArray 152) = V at *
   go_wp2
   go_ret
   exact RetV.is_ (by rw [hfin.out]; rfl) be
  ·
   obtain ⟨dvr1, vr1, vr2⟩ := rowRst
   obtain ⟨bs, be, zV⟩ := box1 w 152 (rstC A n c S)
   go_enter Tryz.func166, Tryz.ntmps166
   go_upto_region 1 with (fail)
   generalize w.alloc (.cells (rstC A n c S).toArray 152) = V at *
   go_wp2
   go_ret
   exact RetV.is_ (by rw [hfin.out]; rfl) be
theorem stkLen_any (S : Stk) (h8 : S.lv.length ≤ 8) (g : Nat) (w : World) (hS : Bk w g 210 (stkC S)) : Calls Tryz.prog 160 #[.pointer (some ⟨g, 0, none⟩)] w (RetV w (.int .i64 (S.lv.length : Nat))) := by
 have HA := qy (all_any S h8 g w hS)
 go_enter Tryz.func160, Tryz.ntmps160
 go_wp2_with (go_at_call 127; refine HA.out.mono ?_; rintro e w1 ⟨bs1, d1, rfl, rfl⟩)
 go_ret
 exact RetV.is_ rfl bpl
theorem evicted_any (S : Stk) (he : S.ev < 18446744073709551616) (g : Nat) (n : Int) (hn : n ≤ 9223372036854775807) (w : World) (hS : Bk w g 210 (stkC S)) : Calls Tryz.prog 138 #[.pointer (some ⟨g, 0, none⟩), .int .i64 n] w (RetV w (.bool (deadS S n))) := by
 have HB := qy (fun w => backendBit_any n hn w)
 have hev := stkC_ev S
 have hand := u64_and_nat S.ev (bitB n 1 64) he (bitB_lt n 1 64 (by decide))
 have hz := hasB_and S.ev n 1 64
 have hD := qy (show deadS S n = hasB S.ev n 1 64 from rfl)
 generalize deadS S n = D at *
 generalize hasB S.ev n 1 64 = b at *
 generalize S.ev &&& bitB n 1 64 = Z at *
 generalize bitB n 1 64 = B at *
 go_enter Tryz.func138, Tryz.ntmps138
 go_upto_region 1 with (fail)
 refine wp_relS 13 17 rfl (by kernel_rfl) (by kernel_rfl) ?_
 refine qb 0 1 ?_
 refine qa 0 5 2 ?_
 refine qa 1 6 3 ?_
 refine qf 0 2 7 4 ?_
 refine qg 3 8 2 7 5 ?_
 refine qg 4 9 2 7 6 ?_
 apply qm 7 rfl rfl
 ·intro FA x hO hD K hK
  obtain ⟨e10, ev10⟩ := qE (hD 5 10)
  have e7 := qe (hD 2 7)
  first | have ge7 := slot_of e7 | have ge7 := slot_un e7
  clear hO hD
  refine wanted_ifG (by go_simp) ?_
  refine wp_ld1 23 (.tmp 10) rfl ev10.out (hS.later bpl) hev Tryz.underlying23 rfl ?_
  exact qk hK rfl
 refine qf 1 2 7 8 ?_
 apply qm 9 rfl rfl
 ·intro FA x hO hD K hK
  have e12 := qe (hD 7 12)
  have e7 := qe (hD 2 7)
  first | have ge7 := slot_of e7 | have ge7 := slot_un e7
  clear hO hD
  refine wanted_ifG (by go_simp) ?_
  go_simp
  refine (HB.out _).mono ?_
  rintro e w1 ⟨rfl, rfl⟩
  exact qk hK rfl
 refine qh 6 11 8 13 2 7 10 ?_
 refine qg 9 14 2 7 11 ?_
 refine qc 2 7 10 15 12 ?_
 refine qa 11 16 13 ?_
 refine Steps.fin_ (fun vs x hp => ?_)
 simp only [qta, qtb, qda, qdb, putAll, Nat.zero_add, Nat.reduceAdd, Act.put, qsT, qsZ, qsS, qi (hp 0 qd), qi (hp 1 qd), qi (hp 2 qd), qi (hp 3 qd), qi (hp 4 qd), qi (hp 5 qd), qi (hp 6 qd), qi (hp 7 qd), qi (hp 8 qd), qi (hp 9 qd), qi (hp 10 qd), qi (hp 11 qd), qi (hp 12 qd)]
 clear hp
 clear vs
 go_wp2
 go_ret
 exact RetV.is_ (by rw [hD.out]; simp [bne, hz]) bpl
def frV (S : Stk) : Int := if freeS S < 8 then (freeS S : Int) else 0
def frB (S : Stk) : Bool := decide (freeS S < 8)
theorem free_any (S : Stk) (hok : StkOk S) (g : Nat) (w : World) (hS : Bk w g 210 (stkC S)) : Calls Tryz.prog 161 #[.pointer (some ⟨g, 0, none⟩)] w (RetV w (.tuple #[.int .i64 (frV S), .bool (frB S)])) := by
 have h8 := hok.len
 have hbz := stkC_bz S
 have hf8 := freeS_le S
 obtain ⟨fv, hfv⟩ : ∃ x, frV S = x := ⟨_, rfl⟩
 obtain ⟨fb, hfb⟩ : ∃ x, frB S = x := ⟨_, rfl⟩
 rw [hfv, hfb]
 have HV := qy hfv
 have HBB := qy hfb
 clear hfv hfb
 go_enter Tryz.func161, Tryz.ntmps161
 go_upto_region 4 with (fail)
 have be := Below.refl w.heap.size w
 go_loopw [7] (fun I wr => ∃ i : Nat, I = .int .i64 (i : Int) ∧ i ≤ freeS S ∧ Below w.heap.size w wr) (fun I _ => 8 - (intOf I).toNat)
 case atStart => exact ⟨0, rfl, Nat.zero_le _, be⟩
 case round =>
  clear be
  obtain ⟨i, rfl, hi, be⟩ := hrel
  by_cases hlt : i < 8
  ·replace hS := hS.later be
   have ii : (i : Int) < 8 := by omega
   have HB := qy (fun w => versionBit_any (i : Int) (by omega) w)
   have HI := qy (fun w h => index_any S h8 g (i : Int) w h)
   have hand := u64_and_nat S.bz (bitB (i : Int) 0 8) (by have := hok.bz; omega) (bitB_lt (i : Int) 0 8 (by decide))
   have hz := hasB_and S.bz (i : Int) 0 8
   have hsp := freeS_spec S i hi hlt
   have htk : takenS S i = (hasB S.bz (i : Int) 0 8 || decide (0 ≤ ixS S (i : Int))) := by
    unfold takenS hasB ixS
    have e1 : ((i : Int) - ((0 : Nat) : Int)).toNat = i := by omega
    have e2 : decide (((0 : Nat) : Int) ≤ (i : Int)) = true := decide_eq_true (by omega)
    have e3 : decide ((i : Int) < ((0 : Nat) : Int) + (8 : Nat)) = true := decide_eq_true (by omega)
    rw [e1, e2, e3]
    by_cases h9 : idxS S (i : Int) < S.lv.length
    ·simp [h9]
    ·simp [h9]
   rw [htk] at hsp
   clear htk
   have hsp2 : (hasB S.bz (i : Int) 0 8 = false ∧ ixS S (i : Int) < 0 → freeS S = i) ∧ (hasB S.bz (i : Int) 0 8 = true ∨ 0 ≤ ixS S (i : Int) → i + 1 ≤ freeS S) := by
    rcases hsp with ⟨h1, h2⟩ | ⟨h1, h2⟩
    ·refine ⟨fun ⟨hb, hx⟩ => ?_, fun _ => h2⟩
     rw [hb, Bool.false_or, decide_eq_true_eq] at h1
     omega
    ·refine ⟨fun _ => h2.symm, fun h => ?_⟩
     rw [Bool.or_eq_false_iff, decide_eq_false_iff_not] at h1
     rcases h with h | h
     ·rw [h] at h1; cases h1.1
     ·exact absurd h h1.2
   clear hsp
   generalize hasB S.bz (i : Int) 0 8 = b at *
   generalize S.bz &&& bitB (i : Int) 0 8 = Z at *
   generalize bitB (i : Int) 0 8 = B at *
   generalize ixS S (i : Int) = ix at *
   cases b
   ·by_cases hx : ix < 0
    ·have hx0 : ¬ 0 ≤ ix := by omega
     have hif : freeS S = i := hsp2.1 ⟨rfl, hx⟩
     have hv := qy (show fv = (i : Int) by rw [← HV.out]; unfold frV; rw [if_pos (by omega), hif])
     have hbb := qy (show fb = true by rw [← HBB.out]; unfold frB; exact decide_eq_true (by omega))
     clear hsp2 hif hi hf8
     go_upto_region 6 with (fail)
     refine wp_relS 14 26 rfl (by kernel_rfl) (by kernel_rfl) ?_
     refine qb 0 1 ?_
     refine qa 0 10 2 ?_
     refine qa 1 11 3 ?_
     refine ql 2 12 4 23 hS Tryz.underlying23 ?_ (hv := hbz)
     refine qb 4 5 ?_
     apply qm 6 rfl rfl
     ·intro FA x hO hD K hK
      have e14 := qe (hD 4 14)
      clear hO hD
      go_simp
      refine (HB.out _).mono ?_
      rintro e w1 ⟨rfl, rfl⟩
      exact qk hK rfl
     refine qc 3 13 5 15 7 ?_
     refine qa 6 16 8 ?_
     refine qa 7 17 9 ?_
     refine qf 0 8 18 10 ?_
     refine qf 4 8 18 11 ?_
     apply qo (φ := (MP.eq (.int .i64 ix))) 12 rfl rfl
     ·intro FA x hO hD K hK
      have e19 := qe (hD 9 19)
      have e20 := qe (hD 10 20)
      have e18 := qe (hD 8 18)
      first | have ge18 := slot_of e18 | have ge18 := slot_un e18
      clear hO hD
      refine wanted_ifG (by go_simp) ?_
      go_simp
      refine (HI.out _ (hS.later bpl)).mono ?_
      rintro e w1 ⟨bs9, d9, rfl, rfl⟩
      exact hK.out _ _ (Ex.plus_ _ _ _) rfl
     refine qg 11 21 8 18 13 ?_
     refine qc 8 18 12 22 14 ?_
     refine Steps.fin_ (fun vs x hp => ?_)
     simp only [qta, qtb, qda, qdb, putAll, Nat.zero_add, Nat.reduceAdd, Act.put, qsT, qsZ, qsS, qi (hp 0 qd), qi (hp 1 qd), qi (hp 2 qd), qi (hp 3 qd), qi (hp 4 qd), qi (hp 5 qd), qi (hp 6 qd), qi (hp 7 qd), qi (hp 8 qd), qi (hp 9 qd), qi (hp 10 qd), qi (hp 11 qd), qi (hp 12 qd), qi (hp 13 qd)]
     clear hp
     clear vs
     have be2 := be.trans ((below_plus wr x.bs x.d).mono be.size)
     go_wp2
     go_ret2
     refine RetV.is_ ?_ be2
     rw [hv.out, hbb.out]
     rfl
    ·have hx0 : 0 ≤ ix := by omega
     have hif : i + 1 ≤ freeS S := hsp2.2 (.inr hx0)
     clear hsp2 hi
     go_upto_region 6 with (fail)
     refine wp_relS 14 26 rfl (by kernel_rfl) (by kernel_rfl) ?_
     refine qb 0 1 ?_
     refine qa 0 10 2 ?_
     refine qa 1 11 3 ?_
     refine ql 2 12 4 23 hS Tryz.underlying23 ?_ (hv := hbz)
     refine qb 4 5 ?_
     apply qm 6 rfl rfl
     ·intro FA x hO hD K hK
      have e14 := qe (hD 4 14)
      clear hO hD
      go_simp
      refine (HB.out _).mono ?_
      rintro e w1 ⟨rfl, rfl⟩
      exact qk hK rfl
     refine qc 3 13 5 15 7 ?_
     refine qa 6 16 8 ?_
     refine qa 7 17 9 ?_
     refine qf 0 8 18 10 ?_
     refine qf 4 8 18 11 ?_
     apply qo (φ := (MP.eq (.int .i64 ix))) 12 rfl rfl
     ·intro FA x hO hD K hK
      have e19 := qe (hD 9 19)
      have e20 := qe (hD 10 20)
      have e18 := qe (hD 8 18)
      first | have ge18 := slot_of e18 | have ge18 := slot_un e18
      clear hO hD
      refine wanted_ifG (by go_simp) ?_
      go_simp
      refine (HI.out _ (hS.later bpl)).mono ?_
      rintro e w1 ⟨bs9, d9, rfl, rfl⟩
      exact hK.out _ _ (Ex.plus_ _ _ _) rfl
     refine qg 11 21 8 18 13 ?_
     refine qc 8 18 12 22 14 ?_
     refine Steps.fin_ (fun vs x hp => ?_)
     simp only [qta, qtb, qda, qdb, putAll, Nat.zero_add, Nat.reduceAdd, Act.put, qsT, qsZ, qsS, qi (hp 0 qd), qi (hp 1 qd), qi (hp 2 qd), qi (hp 3 qd), qi (hp 4 qd), qi (hp 5 qd), qi (hp 6 qd), qi (hp 7 qd), qi (hp 8 qd), qi (hp 9 qd), qi (hp 10 qd), qi (hp 11 qd), qi (hp 12 qd), qi (hp 13 qd)]
     clear hp
     clear vs
     have be2 := be.trans ((below_plus wr x.bs x.d).mono be.size)
     go_wp2
     exact ⟨⟨i + 1, by go_num, hif, be2⟩, by simp [intOf]; omega⟩
   ·have hif : i + 1 ≤ freeS S := hsp2.2 (.inl rfl)
    clear hsp2 hi HI
    go_upto_region 6 with (fail)
    refine wp_relS 14 26 rfl (by kernel_rfl) (by kernel_rfl) ?_
    refine qb 0 1 ?_
    refine qa 0 10 2 ?_
    refine qa 1 11 3 ?_
    refine ql 2 12 4 23 hS Tryz.underlying23 ?_ (hv := hbz)
    refine qb 4 5 ?_
    apply qm 6 rfl rfl
    ·intro FA x hO hD K hK
     have e14 := qe (hD 4 14)
     clear hO hD
     go_simp
     refine (HB.out _).mono ?_
     rintro e w1 ⟨rfl, rfl⟩
     exact qk hK rfl
    refine qc 3 13 5 15 7 ?_
    refine qa 6 16 8 ?_
    refine qa 7 17 9 ?_
    refine qf 0 8 18 10 ?_
    refine qf 4 8 18 11 ?_
    refine qh 9 19 10 20 8 18 12 ?_
    refine qg 11 21 8 18 13 ?_
    refine qc 8 18 12 22 14 ?_
    refine Steps.fin_ (fun vs x hp => ?_)
    simp only [qta, qtb, qda, qdb, putAll, Nat.zero_add, Nat.reduceAdd, Act.put, qsT, qsZ, qsS, qi (hp 0 qd), qi (hp 1 qd), qi (hp 2 qd), qi (hp 3 qd), qi (hp 4 qd), qi (hp 5 qd), qi (hp 6 qd), qi (hp 7 qd), qi (hp 8 qd), qi (hp 9 qd), qi (hp 10 qd), qi (hp 11 qd), qi (hp 12 qd), qi (hp 13 qd)]
    clear hp
    clear vs
    have be2 := be.trans ((below_plus wr x.bs x.d).mono be.size)
    go_wp2
    exact ⟨⟨i + 1, by go_num, hif, be2⟩, by simp [intOf]; omega⟩
  ·have hv := qy (show fv = 0 by rw [← HV.out]; unfold frV; rw [if_neg (by omega)])
   have hbb := qy (show fb = false by rw [← HBB.out]; unfold frB; exact decide_eq_false (by omega))
   have ii : ¬ (i : Int) < 8 := by omega
   clear hi hf8
   go_wp2
   go_ret2
   refine RetV.is_ ?_ be
   rw [hv.out, hbb.out]
   rfl
theorem bodyPost_agg1m {P : Program} {fn : Func} {R : Ending → World → Prop} {a : Act} {w : World} {slot slot2 slot3 ty g : Nat} {d : TypeDesc} {cs : List Value} {u u' : Value} (hfr : fn.results = #[.tmp slot, .cell slot2 ty, .tmp slot3]) (hs : a.tmps.getD slot undef = u) (hs2 : a.tmps.getD slot2 undef = .pointer (some ⟨g, 0, none⟩)) (hs3 : a.tmps.getD slot3 undef = u')
  (hb : w.rangeAt g 0 cs) (hu : P.underlying ty = some d) (hd : d.isRow = true) (hi : (P.info? ty).map (·.size) = some cs.length) (hdf : a.defers = []) (hR : R (.returned (.tuple #[u, .agg cs.toArray, u'])) w) : bodyPost P fn R .ret a w := by
 refine bodyPost_ret (v := .tuple #[u, .agg cs.toArray, u']) ?_ hdf hR
 have h1 := run_loadVar_mid (P := P) w g 0 ty cs d hb hu hd hi
 have hs' : a.tmps[slot]?.getD undef = u := by simpa using hs
 have hs2' : a.tmps[slot2]?.getD undef = .pointer (some ⟨g, 0, none⟩) := by simpa using hs2
 have hs3' : a.tmps[slot3]?.getD undef = u' := by simpa using hs3
 simp [results, hfr, hs', hs2', hs3', asAddr, h1]
theorem stkC_lev0 (S : Stk) (i : Nat) (h : i < S.lv.length) (h8 : i < 8) : (stkC S)[1 + i * 130]? = some (.int .i64 (S.lv[i].1 : Int)) := by
 have := stkC_lev S i h h8 0 (.int .i64 (S.lv[i].1 : Int)) rfl
 simpa using this
theorem stkC_tab (S : Stk) (i : Nat) (h : i < S.lv.length) (h8 : i < 8) : ((stkC S).drop (1 + i * 130 + 1)).take (tabC S.lv[i].2).length = tabC S.lv[i].2 := part_ofS (fun k u hk => by
 have := stkC_lev S i h h8 (k + 1) u (by simpa [levC] using hk)
 rw [show 1 + i * 130 + 1 + k = 1 + i * 130 + (k + 1) by omega]
 exact this)
theorem newest_yes (S : Stk) (h8 : S.lv.length ≤ 8) (h0 : 0 < S.lv.length) (g : Nat) (w : World) (hS : Bk w g 210 (stkC S)) : Calls Tryz.prog 142 #[.pointer (some ⟨g, 0, none⟩)] w (RetV w (.tuple #[.int .i64 ((S.lv[S.lv.length - 1]).1 : Nat), .agg (tabC (S.lv[S.lv.length - 1]).2).toArray, .bool true])) := by
 obtain ⟨dvt, vt1, vt2⟩ := rowTab
 have hzv : ∀ w, (zeroValue 205).run Tryz.prog w = .ok (.agg (tabC []).toArray) w := fun _ => by kernel_rfl
 have hq := stkC_lev0 S (S.lv.length - 1) (by omega) (by omega)
 have hp := stkC_tab S (S.lv.length - 1) (by omega) (by omega)
 obtain ⟨e0, he0⟩ : ∃ e0, S.lv[S.lv.length - 1]'(by omega) = e0 := ⟨_, rfl⟩
 rw [he0] at hq hp ⊢
 clear he0
 obtain ⟨v0, t0⟩ := e0
 simp only [] at hq hp ⊢
 have HL := qy (fun w h => stkLen_any S h8 g w h)
 obtain ⟨n, hn⟩ : ∃ n, S.lv.length = n + 1 := ⟨S.lv.length - 1, by omega⟩
 rw [hn] at HL h8
 rw [hn, Nat.add_sub_cancel] at hq hp
 clear hn h0
 have hS1 := hS.alloc (.cells (tabC []).toArray 205)
 have b3 : Bk (w.alloc (.cells (tabC []).toArray 205)) w.heap.size 205 (tabC []) := Bk.new w 205 (tabC []).toArray
 have be : Below w.heap.size w (w.alloc (.cells (tabC []).toArray 205)) := Below.allocS (Below.refl _ _) _
 have n0 : ¬ (((n + 1 : Nat) : Int)) = 0 := by omega
 have n8 : (n : Int) < 8 := by omega
 have nw : IntKind.i64.wrap (((n + 1 : Nat) : Int) - 1) = (n : Int) := by rw [IntWalk.i64_in _ (by omega)]; omega
 have nw2 : IntKind.i64.wrap ((n : Int) + 1 - 1) = (n : Int) := by rw [IntWalk.i64_in _ (by omega)]; omega
 go_enter Tryz.func142, Tryz.ntmps142
 go_upto_region 1 with (fail)
 generalize w.alloc (.cells (tabC []).toArray 205) = V at *
 go_upto_region 4 with (go_at_call 160; refine (HL.out _ hS1).mono ?_; rintro e w1 ⟨bs1, d1, rfl, rfl⟩)
 replace hS1 := hS1.later (below_plus V bs1 d1)
 replace b3 := b3.later (below_plus V bs1 d1)
 replace be := belowP be bs1 d1
 generalize plus V bs1 d1 = W at *
 go_upto_region 5 with (fail)
 refine wp_relS 9 26 rfl (by kernel_rfl) (by kernel_rfl) ?_
 refine qb 6 1 ?_
 refine qa 0 18 2 ?_
 refine qa 1 19 3 ?_
 refine ql 2 20 4 3 hS1 Tryz.underlying3 ?_ (hv := hq)
 refine qb 6 5 ?_
 refine qa 4 22 6 ?_
 refine qa 5 23 7 ?_
 apply qm 8 rfl rfl
 ·intro FA x hO hD K hK
  obtain ⟨e24, ev24⟩ := qE (hD 6 24)
  clear hO hD
  refine wanted_if rfl ?_
  refine wp_ldA 205 (.tmp 24) rfl (tabC t0) ev24.out (hS1.later bpl) hp vt1 vt2 (by rw [tabC_len0]; kernel_rfl) ?_
  exact qk hK rfl
 refine qa 3 21 9 ?_
 refine Steps.fin_ (fun vs x hp => ?_)
 simp only [qta, qtb, qda, qdb, putAll, Nat.zero_add, Nat.reduceAdd, Act.put, qsT, qsZ, qsS, qi (hp 0 qd), qi (hp 1 qd), qi (hp 2 qd), qi (hp 3 qd), qi (hp 4 qd), qi (hp 5 qd), qi (hp 6 qd), qi (hp 7 qd), qi (hp 8 qd)]
 clear hp
 clear vs
 go_wp2_with (refine at_op (.store 205 (.tmp 3) (.tmp 25)) rfl ?_; refine wpList_stA (t := 205) 205 (.tmp 3) (.tmp 25) rfl rfl (tabC t0) (tabC []) (by rw [tabC_len0, tabC_len0]) (tabC_one _) rfl rfl (b3.later bpl) (by rw [tabC_len0]; kernel_rfl) ?_; intro W4 h4 g4)
 refine bodyPost_agg1m Tryz.results142 rfl rfl rfl h4.range vt1 vt2 (by rw [tabC_len0]; kernel_rfl) rfl (RetV.mk ?_)
 exact below_grown (belowP be _ _) g4 (Nat.le_refl _)
theorem newest_no (S : Stk) (h0 : S.lv.length = 0) (g : Nat) (w : World) (hS : Bk w g 210 (stkC S)) : Calls Tryz.prog 142 #[.pointer (some ⟨g, 0, none⟩)] w (RetV w (.tuple #[.int .i64 0, .agg (tabC []).toArray, .bool false])) := by
 obtain ⟨dvt, vt1, vt2⟩ := rowTab
 have hzv : ∀ w, (zeroValue 205).run Tryz.prog w = .ok (.agg (tabC []).toArray) w := fun _ => by kernel_rfl
 have hbd : ∀ w, (Instr.build 205 #[]).run Tryz.prog w = .ok (.agg (tabC []).toArray) w := fun _ => by kernel_rfl
 have HL := qy (fun w h => stkLen_any S (by omega) g w h)
 rw [h0] at HL
 have hS1 := hS.alloc (.cells (tabC []).toArray 205)
 have b3 : Bk (w.alloc (.cells (tabC []).toArray 205)) w.heap.size 205 (tabC []) := Bk.new w 205 (tabC []).toArray
 have be : Below w.heap.size w (w.alloc (.cells (tabC []).toArray 205)) := Below.allocS (Below.refl _ _) _
 clear h0
 go_enter Tryz.func142, Tryz.ntmps142
 go_upto_region 1 with (fail)
 generalize w.alloc (.cells (tabC []).toArray 205) = V at *
 go_upto_region 3 with (go_at_call 160; refine (HL.out _ hS1).mono ?_; rintro e w1 ⟨bs1, d1, rfl, rfl⟩)
 replace b3 := b3.later (below_plus V bs1 d1)
 replace be := belowP be bs1 d1
 generalize plus V bs1 d1 = W at *
 refine wp_region_lit ?_
 refine wpList_build 205 [] rfl rfl (.agg (tabC []).toArray) ?_ ?_
 ·exact hbd _
 refine qw ?_
 refine wpList_stA (t := 205) 205 (.tmp 3) (.tmp 11) rfl rfl (tabC []) (tabC []) rfl (tabC_one _) rfl rfl b3 (szTab _ (Nat.zero_le _)) ?_
 intro W4 h4 g4
 refine qw ?_
 go_wp2
 refine bodyPost_agg1m Tryz.results142 rfl rfl rfl h4.range vt1 vt2 (szTab _ (Nat.zero_le _)) rfl (RetV.mk ?_)
 exact below_grown be g4 (Nat.le_refl _)
end

section
open Go.RowKit
theorem foldl_zipIdx_set (new : List Value) : ∀ (off k : Nat) (cells : Array Value), off + k + new.length ≤ cells.size →
  (new.zipIdx k).foldl (fun cs (x : Value × Nat) => cs.setIfInBounds (off + x.2) x.1) cells = (splice cells.toList (off + k) new).toArray := by
 induction new with
 | nil => intro off k cells h; simp [splice]
 | cons v r ih =>
  intro off k cells h
  simp only [List.zipIdx_cons, List.foldl_cons]
  rw [ih off (k + 1) _ (by simp only [Array.size_setIfInBounds, List.length_cons] at *; omega)]
  congr 1
  simp only [Array.toList_setIfInBounds]
  have hk : off + k < cells.toList.length := by simp only [List.length_cons, Array.length_toList] at *; omega
  generalize cells.toList = L at *
  unfold splice
  rw [show off + (k + 1) = off + k + 1 by omega, List.take_succ_eq_append_getElem (by rw [List.length_set]; exact hk), List.take_set_of_le (Nat.le_refl _), List.getElem_set_self, List.drop_set_of_lt (by omega)]
  simp [Nat.add_assoc, Nat.add_comm 1]
theorem fill_cons (place : Nat → Option (Nat × Nat)) (cells : List Value) (i : Nat) (v : Value) (rest : List (Nat × Value)) (off size : Nat) (vc : List Value) (hp : place i = some (off, size)) (hv : v.cells = vc.toArray) (hs : vc.length = size) (hl : off + size ≤ cells.length) :
  Instr.fill place cells.toArray ((i, v) :: rest) = Instr.fill place (splice cells off vc).toArray rest := by
 rw [Instr.fill, hp]
 simp only [hv, List.size_toArray, hs]
 rw [if_neg (by simp; omega)]
 congr 1
 have := foldl_zipIdx_set vc off 0 cells.toArray (by simp; omega)
 simpa using this
theorem fill_nil (place : Nat → Option (Nat × Nat)) (cells : Array Value) : Instr.fill place cells [] = some cells := rfl
theorem run_build_struct {P : Program} {w : World} {t : TypeId} {fields : Array Field} {zero : List Value} {places : Array (Nat × Nat)} {parts : List (Nat × Value)} {out : List Value}
  (hz : (zeroValue t).run P w = .ok (.agg zero.toArray) w) (hu : P.underlying t = some (.struct fields)) (hp : (Array.mapM (fun (f : Field) => (do let s ← sizeOf f.type; pure (f.offset, s) : Sem (Nat × Nat))) fields).run P w = .ok places w)
  (hf : Instr.fill (fun x => places[x]?) zero.toArray parts = some out.toArray) : (Instr.build t parts.toArray).run P w = .ok (.agg out.toArray) w := by
 unfold Instr.build
 simp only [Sem.run_bind, hz, Result.andThen_ok, run_underlying hu, hp]
 simp only [Value.cells, hf, Sem.run_pure]
end

section
attribute [local go_sem ↓] sliced_cut
attribute [local go_sem] cutA_zero
open Go.RowKit
def RetSt (w : World) (g : Nat) (S : Stk) (v : Value) (e : Ending) (w' : World) : Prop := e = .returned v ∧ Bk w' g 210 (stkC S) ∧ Chg (fun b => b = g) w w'
theorem RetSt.is_ {w w' : World} {g : Nat} {S : Stk} {v v' : Value} (hv : v' = v) (h : Bk w' g 210 (stkC S)) (hc : Chg (fun b => b = g) w w') : RetSt w g S v (.returned v') w' := ⟨by rw [hv], h, hc⟩
theorem stkC_setEv (S : Stk) (x : Nat) : (stkC S).set 1041 (.int .u64 (x : Int)) = stkC { S with ev := x } := by
 have e : levels { S with ev := x } = levels S := rfl
 unfold stkC
 rw [e, List.set_cons_succ, List.set_append_right _ _ (by rw [flat_len levC 130 levC_len, levels_len]; omega), flat_len levC 130 levC_len, levels_len]
 rfl
theorem stkC_setBz (S : Stk) (x : Nat) : (stkC S).set 1042 (.int .u64 (x : Int)) = stkC { S with bz := x } := by
 have e : levels { S with bz := x } = levels S := rfl
 unfold stkC
 rw [e, List.set_cons_succ, List.set_append_right _ _ (by rw [flat_len levC 130 levC_len, levels_len]; omega), flat_len levC 130 levC_len, levels_len]
 rfl
theorem bitB_in (n : Int) (f m : Nat) (h1 : (f : Int) ≤ n) (h2 : n < (f : Int) + m) : bitB n f m = 2 ^ (n - f).toNat := if_pos ⟨h1, h2⟩
theorem bitB_num (n : Int) : (((bitB n 1 64 : Nat) : Int) == 0) = !numB n := by
 unfold bitB numB
 by_cases h : ((1 : Nat) : Int) ≤ n ∧ n < ((1 : Nat) : Int) + (64 : Nat)
 ·have h1 : decide (1 ≤ n) = true := decide_eq_true (by omega)
  have h2 : decide (n ≤ 64) = true := decide_eq_true (by omega)
  rw [if_pos h, h1, h2]
  have := Nat.two_pow_pos (n - ((1 : Nat) : Int)).toNat
  simp only [Bool.and_self, Bool.not_true, beq_eq_false_iff_ne]
  omega
 ·rw [if_neg h]
  have : (decide (1 ≤ n) && decide (n ≤ 64)) = false := by
   simp only [Bool.and_eq_false_iff, decide_eq_false_iff_not]; omega
  rw [this]; rfl
theorem numB_rg {n : Int} (h : numB n = true) : 1 ≤ n ∧ n ≤ 64 := by simpa [numB] using h
theorem evict_any (S : Stk) (hok : StkOk S) (g : Nat) (n : Int) (hn : n ≤ 9223372036854775807) (w : World) (hS : Bk w g 210 (stkC S)) : Calls Tryz.prog 139 #[.pointer (some ⟨g, 0, none⟩), .int .i64 n] w (RetSt w g (eviS S n) (.int .i64 (eviE S n : Nat))) := by
 have HB := qy (fun w => backendBit_any n hn w)
 have qe : w.cell? ⟨g, 1041, none⟩ = some (.int .u64 (S.ev : Int)) := (hS.cell _).trans (stkC_ev S)
 have hand := u64_and_nat S.ev (bitB n 1 64) hok.ev (bitB_lt n 1 64 (by decide))
 have hor := u64_or_nat S.ev (bitB n 1 64) hok.ev (bitB_lt n 1 64 (by decide))
 have hz := hasB_and S.ev n 1 64
 have hb0 := bitB_num n
 obtain ⟨ES, hES⟩ : ∃ x, eviS S n = x := ⟨_, rfl⟩
 obtain ⟨EE, hEE⟩ : ∃ x, eviE S n = x := ⟨_, rfl⟩
 rw [hES, hEE]
 have HES := qy hES
 have HEE := qy hEE
 clear hES hEE
 cases hnb : numB n
 ·have he := qy (show EE = 1 by rw [← HEE.out]; unfold eviE; rw [hnb]; rfl)
  have hs := qy (show ES = S by rw [← HES.out]; unfold eviS; rw [hnb]; rfl)
  rw [hnb] at hb0
  simp only [Bool.not_false] at hb0
  generalize bitB n 1 64 = B at *
  clear hand hor hz
  go_enter Tryz.func139, Tryz.ntmps139
  go_wp2_with (go_at_call 159; refine (HB.out _).mono ?_; rintro e w1 ⟨rfl, rfl⟩)
  go_ret
  exact RetSt.is_ (by rw [he.out]; rfl) (by rw [hs.out]; exact hS) (Chg.refl _)
 ·rw [hnb] at hb0
  simp only [Bool.not_true] at hb0
  have hz2 : (((S.ev &&& bitB n 1 64 : Nat) : Int) == 0) = !deadS S n := hz
  cases hd : deadS S n
  ·have hr := numB_rg hnb
   have he := qy (show EE = 0 by rw [← HEE.out]; unfold eviE; rw [hnb, hd]; rfl)
   have hs := qy (show ES = { S with ev := S.ev ||| bitB n 1 64 } by
    rw [← HES.out, bitB_in n 1 64 (by omega) (by omega)]; unfold eviS; rw [hnb, hd, show n.toNat - 1 = (n - ((1 : Nat) : Int)).toNat by omega]; rfl)
   have hset := qy (stkC_setEv S (S.ev ||| bitB n 1 64))
   rw [← hs.out] at hset
   rw [hd] at hz2
   simp only [Bool.not_false, Bool.not_true] at hz2
   clear hz hs
   generalize S.ev &&& bitB n 1 64 = Z at *
   generalize S.ev ||| bitB n 1 64 = Y at *
   generalize bitB n 1 64 = B at *
   go_enter Tryz.func139, Tryz.ntmps139
   go_upto_region 8 with (go_at_call 159; refine (HB.out _).mono ?_; rintro e w1 ⟨rfl, rfl⟩)
   refine wp_region_lit ?_
   iterate 8 (refine qw ?_)
   refine wpList_st1 23 (.tmp 26) (.tmp 24) rfl rfl rfl rfl hS (by rw [stkC_len]; omega) rfl (by kernel_rfl) ?_
   intro W4 h4 g4
   simp only [Act.put, qsT, qsZ, qsS]
   go_wp2
   go_ret
   exact RetSt.is_ (by rw [he.out]; rfl) (by rw [← hset.out]; exact h4) (Chg.one g4 rfl)
  ·have he := qy (show EE = 7 by rw [← HEE.out]; unfold eviE; rw [hnb, hd]; rfl)
   have hs := qy (show ES = S by rw [← HES.out]; unfold eviS; rw [hnb, hd]; rfl)
   rw [hd] at hz2
   simp only [Bool.not_false, Bool.not_true] at hz2
   clear hz hor
   generalize S.ev &&& bitB n 1 64 = Z at *
   generalize bitB n 1 64 = B at *
   go_enter Tryz.func139, Tryz.ntmps139
   go_wp2_with (go_at_call 159; refine (HB.out _).mono ?_; rintro e w1 ⟨rfl, rfl⟩)
   go_ret
   exact RetSt.is_ (by rw [he.out]; rfl) (by rw [hs.out]; exact hS) (Chg.refl _)
theorem release_any (S : Stk) (hok : StkOk S) (g : Nat) (n : Int) (hn : n ≤ 9223372036854775807) (w : World) (hS : Bk w g 210 (stkC S)) : Calls Tryz.prog 114 #[.pointer (some ⟨g, 0, none⟩), .int .i64 n] w (RetSt w g (rlsS S n) (.int .i64 (rlsE S n : Nat))) := by
 have HB := qy (fun w => versionBit_any n hn w)
 have hbz : S.bz < 18446744073709551616 := by have := hok.bz; omega
 have qe : w.cell? ⟨g, 1042, none⟩ = some (.int .u64 (S.bz : Int)) := (hS.cell _).trans (stkC_bz S)
 have hand := u64_and_nat S.bz (bitB n 0 8) hbz (bitB_lt n 0 8 (by decide))
 have hor := u64_andNot_nat S.bz (bitB n 0 8) hbz (bitB_lt n 0 8 (by decide))
 have hz := hasB_and S.bz n 0 8
 obtain ⟨ES, hES⟩ : ∃ x, rlsS S n = x := ⟨_, rfl⟩
 obtain ⟨EE, hEE⟩ : ∃ x, rlsE S n = x := ⟨_, rfl⟩
 rw [hES, hEE]
 have HES := qy hES
 have HEE := qy hEE
 clear hES hEE
 cases hd : hasB S.bz n 0 8
 ·have he := qy (show EE = 6 by rw [← HEE.out]; unfold rlsE; rw [hd]; rfl)
  have hs := qy (show ES = S by rw [← HES.out]; unfold rlsS; rw [hd]; rfl)
  rw [hd] at hz
  simp only [Bool.not_false, Bool.not_true] at hz
  clear hor
  generalize S.bz &&& bitB n 0 8 = Z at *
  generalize bitB n 0 8 = B at *
  go_enter Tryz.func114, Tryz.ntmps114
  go_wp2_with (go_at_call 146; refine (HB.out _).mono ?_; rintro e w1 ⟨rfl, rfl⟩)
  go_ret
  exact RetSt.is_ (by rw [he.out]; rfl) (by rw [hs.out]; exact hS) (Chg.refl _)
 ·have hr := hasB_rg hd
  have he := qy (show EE = 0 by rw [← HEE.out]; unfold rlsE; rw [hd]; rfl)
  have hs := qy (show ES = { S with bz := S.bz &&& (18446744073709551615 - bitB n 0 8) } by
   rw [← HES.out, bitB_in n 0 8 (by omega) (by omega)]; unfold rlsS clrB; rw [hd, show n.toNat = (n - ((0 : Nat) : Int)).toNat by omega]; rfl)
  have hset := qy (stkC_setBz S (S.bz &&& (18446744073709551615 - bitB n 0 8)))
  rw [← hs.out] at hset
  rw [hd] at hz
  simp only [Bool.not_false, Bool.not_true] at hz
  clear hs
  generalize S.bz &&& bitB n 0 8 = Z at *
  generalize S.bz &&& (18446744073709551615 - bitB n 0 8) = Y at *
  generalize bitB n 0 8 = B at *
  go_enter Tryz.func114, Tryz.ntmps114
  go_upto_region 6 with (go_at_call 146; refine (HB.out _).mono ?_; rintro e w1 ⟨rfl, rfl⟩)
  refine wp_region_lit ?_
  iterate 8 (refine qw ?_)
  refine wpList_st1 23 (.tmp 24) (.tmp 22) rfl rfl rfl rfl hS (by rw [stkC_len]; omega) rfl (by kernel_rfl) ?_
  intro W4 h4 g4
  simp only [Act.put, qsT, qsZ, qsS]
  go_wp2
  go_ret
  exact RetSt.is_ (by rw [he.out]; rfl) (by rw [← hset.out]; exact h4) (Chg.one g4 rfl)
theorem admit_any (S : Stk) (hok : StkOk S) (g : Nat) (n : Int) (hn : n ≤ 9223372036854775807) (w : World) (hS : Bk w g 210 (stkC S)) : Calls Tryz.prog 140 #[.pointer (some ⟨g, 0, none⟩), .int .i64 n] w (RetSt w g (admS S n) (.int .i64 (admE S n : Nat))) := by
 have HB := qy (fun w => backendBit_any n hn w)
 have HE := qy (fun w h => evicted_any S hok.ev g n hn w h)
 have hev := stkC_ev S
 have hor := u64_andNot_nat S.ev (bitB n 1 64) hok.ev (bitB_lt n 1 64 (by decide))
 obtain ⟨ES, hES⟩ : ∃ x, admS S n = x := ⟨_, rfl⟩
 obtain ⟨EE, hEE⟩ : ∃ x, admE S n = x := ⟨_, rfl⟩
 rw [hES, hEE]
 have HES := qy hES
 have HEE := qy hEE
 clear hES hEE
 cases hd : deadS S n
 ·have he := qy (show EE = 6 by rw [← HEE.out]; unfold admE; rw [hd]; rfl)
  have hs := qy (show ES = S by rw [← HES.out]; unfold admS; rw [hd]; rfl)
  rw [hd] at HE
  go_enter Tryz.func140, Tryz.ntmps140
  go_wp2_with (go_at_call 138; refine (HE.out _ hS).mono ?_; rintro e w1 ⟨bs1, d1, rfl, rfl⟩)
  go_ret
  exact RetSt.is_ (by rw [he.out]; rfl) (by rw [hs.out]; exact hS.later bpl) (Chg.of_below bpl)
 ·have hr := hasB_rg hd
  have he := qy (show EE = 0 by rw [← HEE.out]; unfold admE; rw [hd]; rfl)
  have hs := qy (show ES = { S with ev := S.ev &&& (18446744073709551615 - bitB n 1 64) } by
   rw [← HES.out, bitB_in n 1 64 (by omega) (by omega)]; unfold admS clrB; rw [hd, show n.toNat - 1 = (n - ((1 : Nat) : Int)).toNat by omega]; rfl)
  have hset := qy (stkC_setEv S (S.ev &&& (18446744073709551615 - bitB n 1 64)))
  rw [← hs.out] at hset
  rw [hd] at HE
  clear hs
  generalize S.ev &&& (18446744073709551615 - bitB n 1 64) = Y at *
  generalize bitB n 1 64 = B at *
  go_enter Tryz.func140, Tryz.ntmps140
  go_upto_region 5 with (go_at_call 138; refine (HE.out _ hS).mono ?_; rintro e w1 ⟨bs1, d1, rfl, rfl⟩)
  have be := below_plus w bs1 d1
  replace hS := hS.later be
  generalize plus w bs1 d1 = V at *
  refine wp_relS 7 20 rfl (by kernel_rfl) (by kernel_rfl) ?_
  refine qb 0 1 ?_
  refine qa 0 11 2 ?_
  refine qa 1 12 3 ?_
  refine ql 2 13 4 23 hS Tryz.underlying23 ?_ (hv := hev)
  refine qb 1 5 ?_
  apply qm 6 rfl rfl
  ·intro FA x hO hD K hK
   have e15 := qe (hD 4 15)
   clear hO hD
   go_simp
   refine (HB.out _).mono ?_
   rintro e w1 ⟨rfl, rfl⟩
   exact qk hK rfl
  refine qc 3 14 5 16 7 ?_
  refine Steps.fin_ (fun vs x hp => ?_)
  simp only [qta, qtb, qda, qdb, putAll, Nat.zero_add, Nat.reduceAdd, Act.put, qsT, qsZ, qsS, qi (hp 0 qd), qi (hp 1 qd), qi (hp 2 qd), qi (hp 3 qd), qi (hp 4 qd), qi (hp 5 qd), qi (hp 6 qd)]
  clear hp
  clear vs
  have be2 := be.trans ((below_plus V x.bs x.d).mono be.size)
  go_wp2_with (refine at_op (.store 23 (.tmp 19) (.tmp 17)) rfl ?_; refine wpList_st1 23 (.tmp 19) (.tmp 17) rfl rfl rfl rfl (hS.later bpl) (by rw [stkC_len]; omega) rfl (by kernel_rfl) ?_; intro W4 h4 g4)
  go_ret
  exact RetSt.is_ (by rw [he.out]; rfl) (by rw [← hset.out]; exact h4) ((Chg.of_below be2).trans (Chg.one g4 rfl))
theorem levels_snoc (S : Stk) (h : S.lv.length < 8) (e : Nat × Tab) : levels { S with lv := S.lv ++ [e] } = (levels S).set S.lv.length e := by
 unfold levels
 rw [← List.take_set, List.set_append_right _ _ (Nat.le_refl _), Nat.sub_self, List.append_assoc, List.length_append]
 congr 2
 rw [show 8 - S.lv.length = (8 - (S.lv.length + [e].length)) + 1 by simp; omega, List.replicate_succ]
 rfl
theorem stkC_add (S : Stk) (h : S.lv.length < 8) (e : Nat × Tab) : (splice (stkC S) (1 + S.lv.length * 130) (levC e)).set 0 (.int .i64 ((S.lv.length : Int) + 1)) = stkC { S with lv := S.lv ++ [e] } := by
 have hs : S.lv.length < (levels S).length := by rw [levels_len]; exact h
 have hfl : ((levels S).flatMap levC).length = 1040 := by rw [flat_len levC 130 levC_len, levels_len]
 have hsp : splice ((levels S).flatMap levC ++ [.int .u64 (S.ev : Int), .int .u64 (S.bz : Int)]) (S.lv.length * 130) (levC e) = splice ((levels S).flatMap levC) (S.lv.length * 130) (levC e) ++ [.int .u64 (S.ev : Int), .int .u64 (S.bz : Int)] := by
  unfold splice
  rw [List.take_append_of_le_length (by omega), List.drop_append_of_le_length (by rw [levC_len]; omega)]
  simp only [List.append_assoc]
 unfold stkC
 rw [splice_cons, List.set_cons_zero, hsp, flat_splice levC 130 levC_len _ _ hs, levels_snoc S h]
 simp
theorem run_buildLev (v : Nat) (t : Tab) (w : World) : (Instr.build 207 #[(0, .int .i64 (v : Int)), (1, .agg (tabC t).toArray)]).run Tryz.prog w = .ok (.agg (levC (v, t)).toArray) w := by
 refine run_build_struct (fields := Tryz.prog.fieldsOf 207) (zero := levC (0, [])) (places := #[(0, 1), (1, 129)]) (parts := [(0, .int .i64 (v : Int)), (1, .agg (tabC t).toArray)]) (by kernel_rfl) (by kernel_rfl) (by kernel_rfl) ?_
 rw [fill_cons _ _ 0 _ _ 0 1 [.int .i64 (v : Int)] rfl rfl rfl (by rw [levC_len]; omega), fill_cons _ _ 1 _ _ 1 129 (tabC t) rfl rfl (tabC_len0 t) (by rw [length_splice _ _ _ (by rw [levC_len]; simp), levC_len]; decide), fill_nil]
 congr 2
 have hz := tabC_len0 []
 unfold levC splice
 simp only [List.length_cons, List.length_nil, List.take_zero, List.nil_append, Nat.zero_add, List.drop_succ_cons, List.drop_zero, List.cons_append, List.take_succ_cons, tabC_len0]
 rw [List.drop_of_length_le (by simp [hz]), List.append_nil]
theorem wp_buildV {P : Program} {Q : Exit → Act → World → Prop} {o : Oper} {a : Act} {w : World} {K : Act → World → Prop} (ty : TypeId) (ps : List (Nat × Operand)) (ho : o.op = .build ty ps.toArray) (v : Value)
  (hv : (Instr.build ty (ps.map fun p => (p.1, a.eval p.2)).toArray).run P w = .ok v w) (h : K (a.put o.dst v) w) : o.wp P a w K Q := by
 unfold Oper.wp execOp
 simp only [ho, Sem.run_bind, List.map_toArray, hv, Result.andThen_ok, Sem.run_pure]
 exact h
theorem stkAdd_any (S : Stk) (h8 : S.lv.length < 8) (g : Nat) (v : Nat) (t : Tab) (w : World) (hS : Bk w g 210 (stkC S)) : Calls Tryz.prog 162 #[.pointer (some ⟨g, 0, none⟩), .int .i64 (v : Int), .agg (tabC t).toArray] w fun e w' => e = .returned (.tuple #[]) ∧ Bk w' g 210 (stkC { S with lv := S.lv ++ [(v, t)] }) ∧ Chg (fun b => b = g) w w' := by
 obtain ⟨dvt, vt1, vt2⟩ := rowTab
 have h0 : (stkC S)[0]? = some (.int .i64 (S.lv.length : Int)) := rfl
 have hset := qy (stkC_add S h8 (v, t))
 have b5 : Bk (w.alloc (.cells (tabC t).toArray 205)) w.heap.size 205 (tabC t) := Bk.new w 205 (tabC t).toArray
 have be : Below w.heap.size w (w.alloc (.cells (tabC t).toArray 205)) := Below.allocS (Below.refl _ _) _
 have hg := hS.lt
 replace hS := hS.alloc (.cells (tabC t).toArray 205)
 obtain ⟨n, hn⟩ : ∃ n, S.lv.length = n := ⟨_, rfl⟩
 have HN := qy hn
 rw [hn] at h0 hset h8
 clear hn
 have n8 : (n : Int) < 8 := by omega
 have nw : IntKind.i64.wrap ((n : Int) + 1) = (n : Int) + 1 := IntWalk.i64_in _ (by omega)
 go_enter Tryz.func162, Tryz.ntmps162
 go_upto_region 1 with (fail)
 generalize w.alloc (.cells (tabC t).toArray 205) = V at *
 refine wp_relS 11 24 rfl (by kernel_rfl) (by kernel_rfl) ?_
 refine qb 0 1 ?_
 refine qb 0 2 ?_
 refine qa 1 7 3 ?_
 refine qa 2 8 4 ?_
 refine ql 3 9 5 3 hS Tryz.underlying3 ?_ (hv := h0)
 refine qb 1 6 ?_
 apply qm 7 rfl rfl
 ·intro FA x hO hD K hK
  have e5 := hO 5
  simp only [eval_tmp, qgT, qgS, qgZ, qoS] at e5
  have ev5 := qy ((eval_tmp FA 5).trans e5)
  clear hO hD
  refine wanted_if rfl ?_
  refine wp_ldA 205 (.tmp 5) rfl (tabC t) ev5.out (b5.later bpl) (whole_ _) vt1 vt2 (by rw [tabC_len0]; kernel_rfl) ?_
  exact qk hK rfl
 apply qm 8 rfl rfl
 ·intro FA x hO hD K hK
  obtain ⟨e11, ev11⟩ := qE (hD 5 11)
  obtain ⟨e12, ev12⟩ := qE (hD 6 12)
  clear hO hD
  refine wanted_if rfl ?_
  refine wp_buildV 207 [(0, .tmp 11), (1, .tmp 12)] rfl (.agg (levC (v, t)).toArray) (by simp only [List.map_cons, List.map_nil, ev11.out, ev12.out]; exact run_buildLev v t _) ?_
  exact qk hK rfl
 refine qa 0 6 9 ?_
 refine qa 8 14 10 ?_
 refine qc 9 15 4 10 11 ?_
 refine Steps.fin_ (fun vs x hp => ?_)
 simp only [qta, qtb, qda, qdb, putAll, Nat.zero_add, Nat.reduceAdd, Act.put, qsT, qsZ, qsS, qi (hp 0 qd), qi (hp 1 qd), qi (hp 2 qd), qi (hp 3 qd), qi (hp 4 qd), qi (hp 5 qd), qi (hp 6 qd), qi (hp 7 qd), qi (hp 8 qd), qi (hp 9 qd), qi (hp 10 qd)]
 clear hp
 clear vs
 have be2 := be.trans ((below_plus V x.bs x.d).mono be.size)
 replace hS := hS.later (below_plus V x.bs x.d)
 clear b5
 generalize plus V x.bs x.d = W at *
 refine wpList_stM (off := 1 + n * 130) 207 (.tmp 16) (.tmp 13) rfl rfl (levC (v, t)) (stkC S) (by rw [stkC_len, levC_len]; omega) (levC_one _) rfl rfl hS (szLev _) ?_
 intro W4 h4 g4
 simp only [Act.put, qsT, qsZ, qsS]
 have q4 : W4.cell? ⟨g, 0, none⟩ = some (.int .i64 (n : Int)) := by
  rw [h4.cell]
  show (splice (.int .i64 (S.lv.length : Int) :: _) (1 + n * 130) (levC (v, t)))[0]? = _
  rw [splice_cons, HN.out]
  rfl
 go_upto_region 2 with (fail)
 refine wp_region_lit ?_
 iterate 7 (refine qw ?_)
 refine wpList_st1 3 (.tmp 23) (.tmp 21) rfl rfl rfl rfl h4 (by rw [length_splice _ _ _ (by rw [stkC_len, levC_len]; omega), stkC_len]; omega) rfl (by kernel_rfl) ?_
 intro W5 h5 g5
 simp only [Act.put, qsT, qsZ, qsS]
 go_wp2
 go_end0
 refine ⟨rfl, ?_, (Chg.of_below be2).trans ((Chg.one (D := fun b => b = g) g4 rfl).trans (Chg.one (D := fun b => b = g) g5 rfl))⟩
 rw [← hset.out]
 exact h5
theorem push_any (S : Stk) (hok : StkOk S) (g : Nat) (t : Tab) (w : World) (hS : Bk w g 210 (stkC S)) : Calls Tryz.prog 143 #[.pointer (some ⟨g, 0, none⟩), .agg (tabC t).toArray] w (RetSt w g (pushS S t) (.tuple #[.int .i64 (pushV S : Nat), .int .i64 (pushE S : Nat)])) := by
 obtain ⟨dvt, vt1, vt2⟩ := rowTab
 have HF := qy (fun w h => free_any S hok g w h)
 obtain ⟨PS, hPS⟩ : ∃ x, pushS S t = x := ⟨_, rfl⟩
 obtain ⟨PV, hPV⟩ : ∃ x, pushV S = x := ⟨_, rfl⟩
 obtain ⟨PE, hPE⟩ : ∃ x, pushE S = x := ⟨_, rfl⟩
 rw [hPS, hPV, hPE]
 have HPS := qy hPS
 have HPV := qy hPV
 have HPE := qy hPE
 clear hPS hPV hPE
 have hlen : freeS S < 8 → S.lv.length < 8 := fun h => by
  rcases Nat.lt_or_ge S.lv.length 8 with h2 | h2
  ·exact h2
  ·have h3 := (hok.push (t := []) ⟨by simp, by simp⟩).len
   unfold pushS at h3
   rw [if_pos h] at h3
   simp at h3
   omega
 have b3 : Bk (w.alloc (.cells (tabC t).toArray 205)) w.heap.size 205 (tabC t) := Bk.new w 205 (tabC t).toArray
 have be : Below w.heap.size w (w.alloc (.cells (tabC t).toArray 205)) := Below.allocS (Below.refl _ _) _
 replace hS := hS.alloc (.cells (tabC t).toArray 205)
 by_cases hf : freeS S < 8
 ·have e1 : frV S = (freeS S : Int) := if_pos hf
  have e2 : frB S = true := decide_eq_true hf
  rw [e1, e2] at HF
  have hs := qy (show PS = { S with lv := S.lv ++ [(freeS S, t)] } by rw [← HPS.out]; exact if_pos hf)
  have hv := qy (show PV = freeS S by rw [← HPV.out]; exact if_pos hf)
  have he := qy (show PE = 0 by rw [← HPE.out]; exact if_pos hf)
  have HA := qy (fun w h => stkAdd_any S (hlen hf) g (freeS S) t w h)
  generalize freeS S = fv at *
  clear e1 e2 hf hlen
  go_enter Tryz.func143, Tryz.ntmps143
  go_upto_region 1 with (fail)
  generalize w.alloc (.cells (tabC t).toArray 205) = V at *
  go_upto_region 6 with (go_at_call 161; refine (HF.out _ hS).mono ?_; rintro e w1 ⟨bs1, d1, rfl, rfl⟩)
  replace hS := hS.later (below_plus V bs1 d1)
  replace b3 := b3.later (below_plus V bs1 d1)
  replace be := belowP be bs1 d1
  generalize plus V bs1 d1 = W at *
  refine wp_region_lit ?_
  iterate 2 (refine qw ?_)
  refine qA 205 (.tmp 3) b3 vt1 vt2 ((by rw [tabC_len0]; kernel_rfl)) ?_
  refine wpq fun K hK => ?_
  go_simp
  refine (HA.out _ hS).mono ?_
  rintro e w2 ⟨rfl, hS2, hc2⟩
  with_reducible refine hK _ _ ?_
  clear hK K
  go_wp2
  go_ret2
  exact RetSt.is_ (by rw [hv.out, he.out]; rfl) (by rw [hs.out]; exact hS2) ((Chg.of_below be).trans hc2)
 ·have e1 : frV S = 0 := if_neg hf
  have e2 : frB S = false := decide_eq_false hf
  rw [e1, e2] at HF
  have hs := qy (show PS = S by rw [← HPS.out]; exact if_neg hf)
  have hv := qy (show PV = 0 by rw [← HPV.out]; exact if_neg hf)
  have he := qy (show PE = 23 by rw [← HPE.out]; exact if_neg hf)
  clear e1 e2 hf hlen
  go_enter Tryz.func143, Tryz.ntmps143
  go_upto_region 1 with (fail)
  generalize w.alloc (.cells (tabC t).toArray 205) = V at *
  go_wp2_with (go_at_call 161; refine (HF.out _ hS).mono ?_; rintro e w1 ⟨bs1, d1, rfl, rfl⟩)
  go_ret2
  exact RetSt.is_ (by rw [hv.out, he.out]; rfl) (by rw [hs.out]; exact hS.later bpl) (Chg.of_below (belowP be _ _))
theorem wpList_copyS {P : Program} {w : World} {ops : Array Oper} {rest : List Oper} {o : Oper} {a : Act} {Q : Exit → Act → World → Prop} (hgd : o.guard = none) (d s : Operand) (dT sT : TypeId)
  (ho : o.op = .call { callee := .builtin .copy, args := #[d, s], argTypes := #[dT, sT] }) (e : TypeId) (sz : Nat) (hu : P.underlying dT = some (.slice e)) (hsz : (P.info? e).map (·.size) = some sz)
  {g off dLen dCap : Nat} {ad : Addr} {sLen sCap : Nat} (hd : a.eval d = .slice (some ⟨g, off, none⟩) dLen dCap) (hs : a.eval s = .slice (some ad) sLen sCap) {cur : List Value} {t : TypeId} (hb : Bk w g t cur) (cs : List Value) (hn : cs.length = Nat.min sLen dLen * sz)
  (hsrc : ∀ j v, cs[j]? = some v → w.cell? (ad.add j) = some v) (hfit : off + cs.length ≤ cur.length) (h1 : ∀ v ∈ cs, v.oneCell' = true)
  (h : ∀ w', Bk w' g t (splice cur off cs) → w.grownBy w' (some g) → wpList P ops Q rest (a.put o.dst (goInt (Nat.min sLen dLen))) w') : wpList P ops Q (o :: rest) a w := by
 refine wpList_plain hgd fun K hK => ?_
 have hl := run_firstCells_some (P := P) w sz (Nat.min sLen dLen) ad sLen sCap cs hn hsrc
 have hst := run_storeCells_at P g off t cs 0 cur.toArray w hb (by simpa using hfit) h1
 have hrun : (Builtin.copy_ #[dT, sT] o.type #[.slice (some ⟨g, off, none⟩) dLen dCap, .slice (some ad) sLen sCap]).run P w = .ok (goInt (Nat.min sLen dLen)) (w.setRow g (splice cur off cs).toArray) := by
  cases hq : P.info? e with
  | none => simp [hq] at hsz
  | some i =>
   have hi : i.size = sz := by simpa [hq] using hsz
   simp only [Builtin.copy_, Sem.run_bind, run_underlying hu, Builtin.lenOf, sizeOf, typeInfo, hq, hi, Result.andThen_ok, Sem.run_pure, List.getElem?_toArray, List.getElem?_cons_zero, List.getElem?_cons_succ, hl]
   simp [hq, hi, hl, hst, splice]
 unfold Oper.wp execOp
 simp only [ho, resolve, invoke, builtin, Sem.run_bind, Sem.run_pure, Result.andThen_ok, List.map_toArray, List.map_cons, List.map_nil, hd, hs, hrun]
 refine hK _ _ (h _ ?_ ⟨rfl, rfl, rfl, by simp [World.setRow], fun k hk hne => setRow_other w g k _ (fun e => hne (by rw [e]))⟩)
 exact setRow_heap w g _ _ t _ hb
theorem flat_splices {X : Type} (enc : X → List Value) (s : Nat) (hs : ∀ x, (enc x).length = s) (L M : List X) (i : Nat) : splice (L.flatMap enc) (i * s) (M.flatMap enc) = (L.take i ++ (M ++ L.drop (i + M.length))).flatMap enc := by
 unfold splice
 rw [flat_take enc s hs, flat_len enc s hs, ← Nat.add_mul, flat_drop enc s hs, List.flatMap_append, List.flatMap_append]
theorem splice_app (A B new : List Value) (o : Nat) (h : o + new.length ≤ A.length) : splice (A ++ B) o new = splice A o new ++ B := by
 unfold splice
 rw [List.take_append_of_le_length (by omega), List.drop_append_of_le_length h]
 simp only [List.append_assoc]
theorem stkC_retire (S : Stk) (h8 : S.lv.length ≤ 8) (i n : Nat) (hn : S.lv.length = n + 1) (hi : i < n) : splice ((splice (stkC S) (1 + i * 130) ((S.lv.drop (i + 1)).flatMap levC)).set 0 (.int .i64 (n : Int))) (1 + n * 130) (levC (0, [])) = stkC { S with lv := S.lv.eraseIdx i } := by
 have hL : (levels S).length = 8 := levels_len S
 have hfl : ((levels S).flatMap levC).length = 1040 := by rw [flat_len levC 130 levC_len, hL]
 have hdl : ((S.lv.drop (i + 1)).flatMap levC).length = (n - i) * 130 := by rw [flat_len levC 130 levC_len, List.length_drop, hn]; congr 1; omega
 have hml : (S.lv.drop (i + 1)).length = n - i := by rw [List.length_drop]; omega
 have hlen : ((levels S).take i ++ (S.lv.drop (i + 1) ++ (levels S).drop (i + (n - i)))).length = 8 := by simp [hL, hml]; omega
 have hb : i * 130 + (n - i) * 130 ≤ 1040 := by rw [← Nat.add_mul]; omega
 unfold stkC
 rw [splice_cons, List.set_cons_zero, splice_cons, splice_app _ _ _ _ (by rw [hdl, hfl]; exact hb), flat_splices levC 130 levC_len, hml, splice_app _ _ _ _ (by rw [flat_len levC 130 levC_len, hlen, levC_len]; omega),
  flat_splice levC 130 levC_len _ _ (by rw [hlen]; omega)]
 have e1 : (S.lv.eraseIdx i).length = n := by rw [List.length_eraseIdx_of_lt (by omega), hn]; rfl
 have e2 : ((levels S).take i ++ (S.lv.drop (i + 1) ++ (levels S).drop (i + (n - i)))).set n (0, []) = levels { S with lv := S.lv.eraseIdx i } := by
  have hlv : levels S = S.lv ++ List.replicate (8 - (n + 1)) (0, []) := by
   unfold levels
   rw [hn, List.take_of_length_le (by simp [hn]; omega)]
  have hlv2 : levels { S with lv := S.lv.eraseIdx i } = S.lv.eraseIdx i ++ List.replicate (8 - n) (0, []) := by
   unfold levels
   simp only [e1]
   rw [List.take_of_length_le (by simp [e1]; omega)]
  rw [hlv2, hlv, List.take_append_of_le_length (by omega), show i + (n - i) = n by omega, List.drop_append_of_le_length (by omega), ← List.append_assoc, ← List.eraseIdx_eq_take_drop_succ, List.set_append_right _ _ (by rw [e1]; exact Nat.le_refl _), e1, Nat.sub_self,
   List.drop_eq_getElem_cons (by omega), List.drop_of_length_le (by omega), show 8 - n = (8 - (n + 1)) + 1 by omega, List.replicate_succ]
  rfl
 rw [e2, e1]
theorem levels_eq (S : Stk) (h8 : S.lv.length ≤ 8) : levels S = S.lv ++ List.replicate (8 - S.lv.length) (0, []) := by
 unfold levels
 rw [List.take_of_length_le (by simp; omega)]
theorem stkC_drop (S : Stk) (h8 : S.lv.length ≤ 8) (j : Nat) (hj : j ≤ S.lv.length) (q : Nat) (u : Value) (h : ((S.lv.drop j).flatMap levC)[q]? = some u) : (stkC S)[1 + j * 130 + q]? = some u := by
 have e : S.lv.flatMap levC = (S.lv.take j).flatMap levC ++ (S.lv.drop j).flatMap levC := by rw [← List.flatMap_append, List.take_append_drop]
 have hl : ((S.lv.take j).flatMap levC).length = j * 130 := by rw [flat_len levC 130 levC_len, List.length_take]; congr 1; omega
 have hq := (List.getElem?_eq_some_iff.1 h).1
 unfold stkC
 rw [levels_eq S h8, List.flatMap_append, e, show 1 + j * 130 + q = (j * 130 + q) + 1 by omega, List.getElem?_cons_succ, List.append_assoc, List.append_assoc, List.getElem?_append_right (by omega), hl, Nat.add_sub_cancel_left, List.getElem?_append_left hq]
 exact h
theorem retire_any (S : Stk) (hok : StkOk S) (g : Nat) (v : Int) (hv : v ≤ 9223372036854775807) (w : World) (hS : Bk w g 210 (stkC S)) : Calls Tryz.prog 113 #[.pointer (some ⟨g, 0, none⟩), .int .i64 v] w (RetSt w g (retS S v) (.int .i64 (retE S v : Nat))) := by
 have h8 := hok.len
 have HI := qy (fun w h => index_any S h8 g v w h)
 obtain ⟨ES, hES⟩ : ∃ x, retS S v = x := ⟨_, rfl⟩
 obtain ⟨EE, hEE⟩ : ∃ x, retE S v = x := ⟨_, rfl⟩
 rw [hES, hEE]
 have HES := qy hES
 have HEE := qy hEE
 clear hES hEE
 by_cases hl : idxS S v < S.lv.length
 ·have hix : ixS S v = (idxS S v : Int) := if_pos hl
  rw [hix] at HI
  obtain ⟨n, hn⟩ : ∃ n, S.lv.length = n + 1 := ⟨S.lv.length - 1, by omega⟩
  have q0 : w.cell? ⟨g, 0, none⟩ = some (.int .i64 ((n + 1 : Nat) : Int)) := by rw [hS.cell, ← hn]; rfl
  have nw : IntKind.i64.wrap (((n + 1 : Nat) : Int) - 1) = (n : Int) := by rw [IntWalk.i64_in _ (by omega)]; omega
  have nw2 : IntKind.i64.wrap ((n : Int) + 1 - 1) = (n : Int) := by rw [IntWalk.i64_in _ (by omega)]; omega
  by_cases hl2 : idxS S v + 1 < S.lv.length
  ·have hbit := qy (show retS S v = { { S with lv := S.lv.eraseIdx (idxS S v) } with bz := S.bz ||| bitB v 0 8 } by
    have hat := idxS_at hl
    have h9 := (hok.rg _ (List.getElem_mem hl)).1
    rw [bitB_in v 0 8 (by omega) (by omega)]
    unfold retS
    rw [if_pos hl2, show v.toNat = (v - ((0 : Nat) : Int)).toNat by omega])
   have he := qy (show EE = 0 by rw [← HEE.out]; unfold retE; rw [if_pos hl2])
   have hret := qy (fun i (h : i < n) => stkC_retire S h8 i n hn h)
   have hlev := qy (fun i h h8 k u hk => stkC_lev S i h h8 k u hk)
   have hset := qy (stkC_setBz { S with lv := S.lv.eraseIdx (idxS S v) } (S.bz ||| bitB v 0 8))
   have hbz8 : S.bz < 18446744073709551616 := by have := hok.bz; omega
   have hor := u64_or_nat S.bz (bitB v 0 8) hbz8 (bitB_lt v 0 8 (by decide))
   have HB := qy (fun w => versionBit_any v hv w)
   have hbz := stkC_bz { S with lv := S.lv.eraseIdx (idxS S v) }
   simp only [] at hbz
   rw [HES.out] at hbit
   clear HES HEE hix
   generalize S.bz ||| bitB v 0 8 = Y at *
   generalize bitB v 0 8 = B at *
   have hb8 := hok.bz
   generalize idxS S v = i at *
   have i0 : ¬ (i : Int) < 0 := by omega
   have i1 : ((i : Int) == (n : Int)) = false := by simp; omega
   have i8 : (i : Int) ≤ 8 := by omega
   have i8' : ¬ 8 = i := by omega
   obtain ⟨j, hj⟩ : ∃ j, j = i + 1 := ⟨_, rfl⟩
   obtain ⟨m, hm⟩ : ∃ m, m = n + 1 := ⟨_, rfl⟩
   have HJ := qy hj
   have HM := qy hm
   have ji : (i : Int) + 1 = (j : Int) := by omega
   have mi : (n : Int) + 1 = (m : Int) := by omega
   have i9 : (j : Int) ≤ (m : Int) := by omega
   have i10 : (m : Int) ≤ 8 := by omega
   have i8j : ¬ 8 = j := by omega
   have i8m : j ≤ m := by omega
   have i1' : ((i : Int) == (m : Int) - 1) = false := by simp; omega
   have wj : IntKind.i64.wrap (j : Int) = (j : Int) := IntWalk.i64_in _ (by omega)
   clear hj hm
   have h0 : (stkC S)[0]? = some (.int .i64 (m : Int)) := by rw [HM.out, ← hn]; rfl
   clear hok q0
   go_enter Tryz.func113, Tryz.ntmps113
   go_upto_region 4 with (go_at_call 145; refine (HI.out _ hS).mono ?_; rintro e w1 ⟨bs1, d1, rfl, rfl⟩)
   have be := below_plus w bs1 d1
   replace hS := hS.later be
   clear HI
   generalize plus w bs1 d1 = V at *
   have q1 : V.cell? ⟨g, 0, none⟩ = some (.int .i64 (m : Int)) := by rw [hS.cell]; exact h0
   go_upto_region 8 with (fail)
   clear q1
   refine wp_relS 15 61 rfl (by kernel_rfl) (by kernel_rfl) ?_
   refine qb 0 1 ?_
   refine qa 0 20 2 ?_
   refine qa 1 21 3 ?_
   refine qb 5 4 ?_
   refine qc 2 22 3 23 5 ?_
   refine qb 0 6 ?_
   refine qa 5 25 7 ?_
   refine qa 6 26 8 ?_
   refine qb 5 9 ?_
   refine qa 8 28 10 ?_
   refine qb 0 11 ?_
   refine qa 10 30 12 ?_
   refine qa 11 31 13 ?_
   refine ql 12 32 14 3 hS Tryz.underlying3 ?_ (hv := h0)
   apply qm 15 rfl rfl
   ·intro FA x hO hD K hK
    have e27 := qe (hD 7 27)
    have e29 := qe (hD 9 29)
    have e33 := qe (hD 13 33)
    clear hO hD
    go_simp
    exact qk hK rfl
   refine Steps.fin_ (fun vs x hp => ?_)
   simp only [qta, qtb, qda, qdb, putAll, Nat.zero_add, Nat.reduceAdd, Act.put, qsT, qsZ, qsS, qi (hp 0 qd), qi (hp 1 qd), qi (hp 2 qd), qi (hp 3 qd), qi (hp 4 qd), qi (hp 5 qd), qi (hp 6 qd), qi (hp 7 qd), qi (hp 8 qd), qi (hp 9 qd), qi (hp 10 qd), qi (hp 11 qd), qi (hp 12 qd), qi (hp 13 qd), qi (hp 14 qd)]
   clear hp
   clear vs
   have b1 := below_plus V x.bs x.d
   replace hS := hS.later b1
   replace be := be.trans (b1.mono be.size)
   clear b1
   generalize plus V x.bs x.d = W at *
   have hmin : Nat.min (m - j) (8 - i) = n - i := by
    have e : Nat.min (m - j) (8 - i) = min (m - j) (8 - i) := rfl
    have e1 := HJ.out
    have e2 := HM.out
    omega
   have hdl : ((S.lv.drop j).flatMap levC).length = Nat.min (m - j) (8 - i) * 130 := by
    rw [flat_len levC 130 levC_len, List.length_drop, hn, hmin, HJ.out]
    congr 1
    omega
   have hfit : 1 + i * 130 + ((S.lv.drop j).flatMap levC).length ≤ (stkC S).length := by
    rw [hdl, stkC_len, hmin, Nat.add_assoc, ← Nat.add_mul]
    omega
   refine wpList_copyS rfl (.tmp 24) (.tmp 34) 226 226 rfl 207 130 Tryz.underlying226 (by kernel_rfl) (g := g) (off := 1 + i * 130) (ad := ⟨g, 1 + j * 130, none⟩) rfl rfl hS ((S.lv.drop j).flatMap levC) hdl ?_ hfit (flat_one levC levC_one _) ?_
   ·intro q u hu
    rw [add_plain, hS.cell]
    exact stkC_drop S h8 j (by have := HJ.out; omega) q u hu
   intro W4 h4 g4
   simp only [Act.put, qsT, qsZ, qsS]
   have hj := HJ.out
   have hm := HM.out
   have hl4 : (splice (stkC S) (1 + i * 130) ((S.lv.drop j).flatMap levC)).length = 1043 := by rw [length_splice _ _ _ hfit, stkC_len]
   have q4 : W4.cell? ⟨g, 0, none⟩ = some (.int .i64 (m : Int)) := by
    rw [h4.cell]
    show (splice (Value.int .i64 (S.lv.length : Int) :: _) (1 + i * 130) _)[0]? = _
    rw [splice_cons, hn, ← hm]
    rfl
   have nwm : IntKind.i64.wrap ((m : Int) - 1) = (n : Int) := by rw [IntWalk.i64_in _ (by omega)]; omega
   have hr2 := hret.out i (by omega)
   rw [← hj] at hr2
   generalize splice (stkC S) (1 + i * 130) ((S.lv.drop j).flatMap levC) = C4 at *
   clear hfit hdl hmin hj hm
   go_upto_region 9 with (fail)
   refine wp_region_lit ?_
   iterate 7 (refine qw ?_)
   refine wpList_st1 3 (.tmp 42) (.tmp 40) rfl rfl rfl rfl h4 (by rw [hl4]; omega) rfl (by kernel_rfl) ?_
   intro W5 h5 g5
   simp only [Act.put, qsT, qsZ, qsS]
   replace h5 : Bk W5 g 210 (C4.set 0 (.int .i64 (n : Int))) := h5
   have c5 : Chg (fun b => b = g) w W5 := (Chg.of_below be).trans ((Chg.one (D := fun b => b = g) g4 rfl).trans (Chg.one (D := fun b => b = g) g5 rfl))
   have q5 : (C4.set 0 (.int .i64 (n : Int)))[0]? = some (.int .i64 (n : Int)) := by
    rw [List.getElem?_set_self (by omega)]
   have hl5 : (C4.set 0 (.int .i64 (n : Int))).length = 1043 := by rw [List.length_set, hl4]
   generalize C4.set 0 (.int .i64 (n : Int)) = C5 at *
   clear q4 h4 g4 g5 hS be
   have n8 : (n : Int) < 8 := by omega
   have hbd : ∀ w, (Instr.build 207 #[]).run Tryz.prog w = .ok (.agg (levC (0, [])).toArray) w := fun _ => by kernel_rfl
   go_upto_region 10 with (fail)
   refine wp_relS 9 61 rfl (by kernel_rfl) (by kernel_rfl) ?_
   refine qb 0 1 ?_
   refine qb 0 2 ?_
   refine qa 1 44 3 ?_
   refine qa 2 45 4 ?_
   refine ql 3 46 5 3 h5 Tryz.underlying3 ?_ (hv := q5)
   apply qm 6 rfl rfl
   ·intro FA x hO hD K hK
    clear hO hD
    refine wanted_if rfl ?_
    refine wp_buildV 207 [] rfl (.agg (levC (0, [])).toArray) (hbd _) ?_
    exact qk hK rfl
   refine qa 0 43 7 ?_
   refine qa 6 49 8 ?_
   refine qc 7 50 4 47 9 ?_
   refine Steps.fin_ (fun vs x hp => ?_)
   simp only [qta, qtb, qda, qdb, putAll, Nat.zero_add, Nat.reduceAdd, Act.put, qsT, qsZ, qsS, qi (hp 0 qd), qi (hp 1 qd), qi (hp 2 qd), qi (hp 3 qd), qi (hp 4 qd), qi (hp 5 qd), qi (hp 6 qd), qi (hp 7 qd), qi (hp 8 qd)]
   clear hp
   clear vs
   have c6 := c5.trans (Chg.of_below (below_plus W5 x.bs x.d))
   replace h5 := h5.later (below_plus W5 x.bs x.d)
   clear c5
   generalize plus W5 x.bs x.d = W6 at *
   refine wpList_stM (off := 1 + n * 130) 207 (.tmp 51) (.tmp 48) rfl rfl (levC (0, [])) C5 (by rw [hl5, levC_len]; omega) (levC_one _) rfl rfl h5 (szLev _) ?_
   intro W7 h7 g7
   simp only [Act.put, qsT, qsZ, qsS]
   rw [hr2] at h7
   have c7 := c6.trans (Chg.one (D := fun b => b = g) g7 rfl)
   clear c6 g7 h5
   go_upto_region 11 with (fail)
   refine wp_relS 7 61 rfl (by kernel_rfl) (by kernel_rfl) ?_
   refine qb 0 1 ?_
   refine qa 0 52 2 ?_
   refine qa 1 53 3 ?_
   refine ql 2 54 4 23 h7 Tryz.underlying23 ?_ (hv := hbz)
   refine qb 1 5 ?_
   apply qm 6 rfl rfl
   ·intro FA x hO hD K hK
    have e56 := qe (hD 4 56)
    clear hO hD
    go_simp
    refine (HB.out _).mono ?_
    rintro e w1 ⟨rfl, rfl⟩
    exact qk hK rfl
   refine qc 3 55 5 57 7 ?_
   refine Steps.fin_ (fun vs x hp => ?_)
   simp only [qta, qtb, qda, qdb, putAll, Nat.zero_add, Nat.reduceAdd, Act.put, qsT, qsZ, qsS, qi (hp 0 qd), qi (hp 1 qd), qi (hp 2 qd), qi (hp 3 qd), qi (hp 4 qd), qi (hp 5 qd), qi (hp 6 qd)]
   clear hp
   clear vs
   have c8 := c7.trans (Chg.of_below (below_plus W7 x.bs x.d))
   replace h7 := h7.later (below_plus W7 x.bs x.d)
   clear c7
   generalize plus W7 x.bs x.d = W8 at *
   go_wp2_with (refine at_op (.store 23 (.tmp 60) (.tmp 58)) rfl ?_; refine wpList_st1 23 (.tmp 60) (.tmp 58) rfl rfl rfl rfl h7 (by rw [stkC_len]; omega) rfl (by kernel_rfl) ?_; intro W9 h9 g9)
   go_ret
   exact RetSt.is_ (by rw [he.out]; rfl) (by rw [hbit.out, ← hset.out]; exact h9) (c8.trans (Chg.one (D := fun b => b = g) g9 rfl))
  ·have he := qy (show EE = 1 by rw [← HEE.out]; unfold retE; rw [if_neg hl2, if_pos (by omega)])
   have hs := qy (show ES = S by rw [← HES.out]; unfold retS; rw [if_neg hl2])
   have hin : idxS S v = n := by omega
   rw [hin] at HI
   clear hix hl hl2 hin
   go_enter Tryz.func113, Tryz.ntmps113
   go_upto_region 4 with (go_at_call 145; refine (HI.out _ hS).mono ?_; rintro e w1 ⟨bs1, d1, rfl, rfl⟩)
   have q1 : (plus w bs1 d1).cell? ⟨g, 0, none⟩ = some (.int .i64 ((n + 1 : Nat) : Int)) := by rw [(hS.later bpl).cell, ← hn]; rfl
   go_wp2
   go_ret
   exact RetSt.is_ (by rw [he.out]; rfl) (by rw [hs.out]; exact hS.later bpl) (Chg.of_below bpl)
 ·have hix : ixS S v = -1 := if_neg hl
  have he := qy (show EE = 24 by rw [← HEE.out]; unfold retE; rw [if_neg (by omega), if_neg (by have := idxS_le S v; omega)])
  have hs := qy (show ES = S by rw [← HES.out]; unfold retS; rw [if_neg (by omega)])
  rw [hix] at HI
  clear hix hl
  go_enter Tryz.func113, Tryz.ntmps113
  go_wp2_with (go_at_call 145; refine (HI.out _ hS).mono ?_; rintro e w1 ⟨bs1, d1, rfl, rfl⟩)
  go_ret
  exact RetSt.is_ (by rw [he.out]; rfl) (by rw [hs.out]; exact hS.later bpl) (Chg.of_below bpl)
def stk0 : Stk := ⟨[], 0, 0⟩
def RetRS (D : Nat → Prop) (w : World) (S : Stk) (F : Value → Value) (e : Ending) (w' : World) : Prop := ∃ A n c bs d, e = .returned (F (.agg (rstC A n c S).toArray)) ∧ w' = plus w bs d ∧ RSt D (plus w bs d) S.lv A n c
theorem RetRS.mk {D : Nat → Prop} {w w' : World} {S S' : Stk} {F : Value → Value} {A : Option Addr} {n c : Nat} {v : Value} (hv : v = F (.agg (rstC A n c S).toArray)) (h : RSt D w' S.lv A n c) (hb : Below w.heap.size w w') : RetRS D w S F (.returned v) w' := by
 obtain ⟨bs, d, rfl⟩ := plus_of hb
 exact ⟨A, n, c, bs, d, by rw [hv], rfl, h⟩
theorem refBz_evi (S : Stk) (n : Int) : refBz (eviS S n) = refBz S := by unfold eviS; split <;> rfl
theorem lv_evi (S : Stk) (n : Int) : (eviS S n).lv = S.lv := by unfold eviS; split <;> rfl
theorem refBz_adm (S : Stk) (n : Int) : refBz (admS S n) = refBz S := by unfold admS; split <;> rfl
theorem lv_adm (S : Stk) (n : Int) : (admS S n).lv = S.lv := by unfold admS; split <;> rfl
theorem refEv_rls (S : Stk) (n : Int) : refEv (rlsS S n) = refEv S := by unfold rlsS; split <;> rfl
theorem lv_rls (S : Stk) (n : Int) : (rlsS S n).lv = S.lv := by unfold rlsS; split <;> rfl
theorem refEvict_any (S : Stk) (A : Option Addr) (n c : Nat) (v : Int) (w : World) {D : Nat → Prop} (hD : ∀ b, D b → b < w.heap.size) (hR : RSt D w S.lv A n c) : Calls Tryz.prog 150 #[.agg (rstC A n c S).toArray, .int .i64 v] w (RetRS D w (eviS S v) (fun x => .tuple #[x, .int .i64 (eviE S v : Nat)])) := by
 obtain ⟨EE, hEE⟩ : ∃ x, eviE S v = x := ⟨_, rfl⟩
 rw [hEE]
 have HEE := qy hEE
 clear hEE
 have hRR := qy (fun W (h : Below w.heap.size w W) => show RSt D W (eviS S v).lv A n c by rw [lv_evi]; exact hR.later h)
 cases hnb : numB v
 ·have he := qy (show EE = 1 by rw [← HEE.out]; unfold eviE; rw [hnb]; rfl)
  have hs : eviS S v = S := by unfold eviS; rw [hnb]; rfl
  rw [hs] at hRR ⊢
  have hno : v < 1 ∨ 64 < v := by simp [numB] at hnb; omega
  clear hs hnb HEE
  have hzv : ∀ w, (zeroValue 152).run Tryz.prog w = .ok (.agg (rstC none 0 0 stk0).toArray) w := fun _ => by kernel_rfl
  obtain ⟨dvr1, vr1, vr2⟩ := rowRst
  obtain ⟨bs, bz, be, zV⟩ := box2 w 152 152 (rstC A n c S) (rstC none 0 0 stk0)
  go_enter Tryz.func150, Tryz.ntmps150
  go_upto_region 1 with (fail)
  generalize (w.alloc (.cells (rstC A n c S).toArray 152)).alloc (.cells (rstC none 0 0 stk0).toArray 152) = V at *
  by_cases h1 : v < 1
  ·clear hno
   go_upto_region 2 with (fail)
   refine wp_region_lit ?_
   refine qA 152 (.tmp 2) bs vr1 vr2 (szRst A n c S) ?_
   simp only [Act.put, qsT, qsZ, qsS]
   refine wpList_stA (t := 152) 152 (.tmp 4) (.tmp 12) rfl rfl (rstC A n c S) (rstC none 0 0 stk0) (by rw [rstC_len, rstC_len]) (rstC_one _ _ _ _) rfl rfl bz (szRst _ _ _ _) ?_
   intro W9 h9 g9
   refine qw ?_
   go_wp2
   refine bodyPost_agg2 Tryz.results150 rfl rfl h9.range vr1 vr2 (szRst _ _ _ _) rfl ?_
   exact RetRS.mk (S' := S) (by rw [he.out]; rfl) (hRR.out _ (below_grown be g9 (by omega))) (below_grown be g9 (by omega))
  ·have h2 : 64 < v := by omega
   clear hno
   go_upto_region 2 with (fail)
   refine wp_region_lit ?_
   refine qA 152 (.tmp 2) bs vr1 vr2 (szRst A n c S) ?_
   simp only [Act.put, qsT, qsZ, qsS]
   refine wpList_stA (t := 152) 152 (.tmp 4) (.tmp 12) rfl rfl (rstC A n c S) (rstC none 0 0 stk0) (by rw [rstC_len, rstC_len]) (rstC_one _ _ _ _) rfl rfl bz (szRst _ _ _ _) ?_
   intro W9 h9 g9
   refine qw ?_
   go_wp2
   refine bodyPost_agg2 Tryz.results150 rfl rfl h9.range vr1 vr2 (szRst _ _ _ _) rfl ?_
   exact RetRS.mk (S' := S) (by rw [he.out]; rfl) (hRR.out _ (below_grown be g9 (by omega))) (below_grown be g9 (by omega))
 ·have hr := numB_rg hnb
  obtain ⟨i, rfl⟩ : ∃ i : Nat, v = i := ⟨v.toNat, by omega⟩
  have i1 : ¬ (i : Int) < 1 := by omega
  have i2 : ¬ 64 < (i : Int) := by omega
  have i3 : (i : Int) < 65 := by omega
  have hc := rstC_ev A n c S i (by omega)
  cases hd : deadS S (i : Int)
  ·have he := qy (show EE = 0 by rw [← HEE.out]; unfold eviE; rw [hnb, hd]; rfl)
   have hset := qy (rstC_setEv A n c S (eviS S (i : Int)) i (by omega) true (by have := refEv_evi (S := S) (n := (i : Int)) (by rw [hnb, hd]; rfl); simpa using this) (refBz_evi S _))
   rw [hd] at hc
   clear HEE hnb hd
   generalize eviS S (i : Int) = ES at *
   have hzv : ∀ w, (zeroValue 152).run Tryz.prog w = .ok (.agg (rstC none 0 0 stk0).toArray) w := fun _ => by kernel_rfl
   obtain ⟨dvr1, vr1, vr2⟩ := rowRst
   obtain ⟨bs, bz, be, zV⟩ := box2 w 152 152 (rstC A n c S) (rstC none 0 0 stk0)
   go_enter Tryz.func150, Tryz.ntmps150
   go_upto_region 1 with (fail)
   generalize (w.alloc (.cells (rstC A n c S).toArray 152)).alloc (.cells (rstC none 0 0 stk0).toArray 152) = V at *
   have q0 : V.cell? ⟨w.heap.size, 1 + i, none⟩ = some (.bool false) := (bs.cell _).trans hc
   go_upto_region 5 with (fail)
   refine wp_region_lit ?_
   iterate 3 (refine qw ?_)
   refine wpList_st1 4 (.tmp 20) (.const (.bool true)) rfl rfl rfl rfl bs (by rw [rstC_len]; omega) rfl (by kernel_rfl) ?_
   intro W4 h4 g4
   simp only [Act.put, qsT, qsZ, qsS]
   replace bs : Bk W4 w.heap.size 152 (rstC A n c ES) := by rw [← hset.out]; exact h4
   replace bz := bz.grown g4 (fun e => by injection e with e; omega)
   replace be := below_grown be g4 (Nat.le_refl _)
   clear h4 g4 q0
   go_upto_region 6 with (fail)
   refine wp_region_lit ?_
   refine qA 152 (.tmp 2) bs vr1 vr2 (szRst A n c ES) ?_
   simp only [Act.put, qsT, qsZ, qsS]
   refine wpList_stA (t := 152) 152 (.tmp 4) (.tmp 21) rfl rfl (rstC A n c ES) (rstC none 0 0 stk0) (by rw [rstC_len, rstC_len]) (rstC_one _ _ _ _) rfl rfl bz (szRst _ _ _ _) ?_
   intro W9 h9 g9
   refine qw ?_
   go_wp2
   refine bodyPost_agg2 Tryz.results150 rfl rfl h9.range vr1 vr2 (szRst _ _ _ _) rfl ?_
   exact RetRS.mk (S' := S) (by rw [he.out]; rfl) (hRR.out _ (below_grown be g9 (by omega))) (below_grown be g9 (by omega))
  ·have he := qy (show EE = 7 by rw [← HEE.out]; unfold eviE; rw [hnb, hd]; rfl)
   have hs : eviS S (i : Int) = S := by unfold eviS; rw [hnb, hd]; rfl
   rw [hs] at hRR ⊢
   rw [hd] at hc
   clear HEE hnb hd hs
   have hzv : ∀ w, (zeroValue 152).run Tryz.prog w = .ok (.agg (rstC none 0 0 stk0).toArray) w := fun _ => by kernel_rfl
   obtain ⟨dvr1, vr1, vr2⟩ := rowRst
   obtain ⟨bs, bz, be, zV⟩ := box2 w 152 152 (rstC A n c S) (rstC none 0 0 stk0)
   go_enter Tryz.func150, Tryz.ntmps150
   go_upto_region 1 with (fail)
   generalize (w.alloc (.cells (rstC A n c S).toArray 152)).alloc (.cells (rstC none 0 0 stk0).toArray 152) = V at *
   have q0 : V.cell? ⟨w.heap.size, 1 + i, none⟩ = some (.bool true) := (bs.cell _).trans hc
   go_upto_region 4 with (fail)
   refine wp_region_lit ?_
   refine qA 152 (.tmp 2) bs vr1 vr2 (szRst A n c S) ?_
   simp only [Act.put, qsT, qsZ, qsS]
   refine wpList_stA (t := 152) 152 (.tmp 4) (.tmp 17) rfl rfl (rstC A n c S) (rstC none 0 0 stk0) (by rw [rstC_len, rstC_len]) (rstC_one _ _ _ _) rfl rfl bz (szRst _ _ _ _) ?_
   intro W9 h9 g9
   refine qw ?_
   go_wp2
   refine bodyPost_agg2 Tryz.results150 rfl rfl h9.range vr1 vr2 (szRst _ _ _ _) rfl ?_
   exact RetRS.mk (S' := S) (by rw [he.out]; rfl) (hRR.out _ (below_grown be g9 (by omega))) (below_grown be g9 (by omega))
theorem refAdmit_any (S : Stk) (hok : StkOk S) (A : Option Addr) (n c : Nat) (v : Int) (w : World) {D : Nat → Prop} (hD : ∀ b, D b → b < w.heap.size) (hR : RSt D w S.lv A n c) : Calls Tryz.prog 151 #[.agg (rstC A n c S).toArray, .int .i64 v] w (RetRS D w (admS S v) (fun x => .tuple #[x, .int .i64 (admE S v : Nat)])) := by
 obtain ⟨EE, hEE⟩ : ∃ x, admE S v = x := ⟨_, rfl⟩
 rw [hEE]
 have HEE := qy hEE
 clear hEE
 have hRR := qy (fun W (h : Below w.heap.size w W) => show RSt D W (admS S v).lv A n c by rw [lv_adm]; exact hR.later h)
 have HD := qy (fun w => refDead_any S A n c v w)
 cases hd : deadS S v
 ·have he := qy (show EE = 6 by rw [← HEE.out]; unfold admE; rw [hd]; rfl)
  have hs : admS S v = S := by unfold admS; rw [hd]; rfl
  rw [hs] at hRR ⊢
  rw [hd] at HD
  clear HEE hs hd
  have hzv : ∀ w, (zeroValue 152).run Tryz.prog w = .ok (.agg (rstC none 0 0 stk0).toArray) w := fun _ => by kernel_rfl
  obtain ⟨dvr1, vr1, vr2⟩ := rowRst
  obtain ⟨bs, bz, be, zV⟩ := box2 w 152 152 (rstC A n c S) (rstC none 0 0 stk0)
  go_enter Tryz.func151, Tryz.ntmps151
  go_upto_region 1 with (fail)
  generalize (w.alloc (.cells (rstC A n c S).toArray 152)).alloc (.cells (rstC none 0 0 stk0).toArray 152) = V at *
  go_upto_region 1 with (fail)
  refine wp_region_lit ?_
  refine qA 152 (.tmp 2) bs vr1 vr2 (szRst A n c S) ?_
  refine qw ?_
  refine wpq fun K hK => ?_
  go_simp
  refine (HD.out _).mono ?_
  rintro e w1 ⟨bs1, d1, rfl, rfl⟩
  with_reducible refine hK _ _ ?_
  clear hK K
  replace bs := bs.later (below_plus V bs1 d1)
  replace bz := bz.later (below_plus V bs1 d1)
  replace be := belowP be bs1 d1
  replace zV : w.heap.size + 2 ≤ (plus V bs1 d1).heap.size := by simp [size_plus]; omega
  generalize plus V bs1 d1 = V1 at *
  refine qw ?_
  go_upto_region 2 with (fail)
  refine wp_region_lit ?_
  refine qA 152 (.tmp 2) bs vr1 vr2 (szRst A n c S) ?_
  simp only [Act.put, qsT, qsZ, qsS]
  refine wpList_stA (t := 152) 152 (.tmp 4) (.tmp 10) rfl rfl (rstC A n c S) (rstC none 0 0 stk0) (by rw [rstC_len, rstC_len]) (rstC_one _ _ _ _) rfl rfl bz (szRst _ _ _ _) ?_
  intro W9 h9 g9
  refine qw ?_
  go_wp2
  refine bodyPost_agg2 Tryz.results151 rfl rfl h9.range vr1 vr2 (szRst _ _ _ _) rfl ?_
  exact RetRS.mk (S' := S) (by rw [he.out]; rfl) (hRR.out _ (below_grown be g9 (by omega))) (below_grown be g9 (by omega))
 ·have hr := hasB_rg hd
  obtain ⟨i, rfl⟩ : ∃ i : Nat, v = i := ⟨v.toNat, by omega⟩
  have i3 : (i : Int) < 65 := by omega
  have he := qy (show EE = 0 by rw [← HEE.out]; unfold admE; rw [hd]; rfl)
  have hset := qy (rstC_setEv A n c S (admS S (i : Int)) i (by omega) false (by have := refEv_adm (S := S) (n := (i : Int)) hok.ev hd; simpa using this) (refBz_adm S _))
  rw [hd] at HD
  clear HEE hd hr
  generalize admS S (i : Int) = ES at *
  have hzv : ∀ w, (zeroValue 152).run Tryz.prog w = .ok (.agg (rstC none 0 0 stk0).toArray) w := fun _ => by kernel_rfl
  obtain ⟨dvr1, vr1, vr2⟩ := rowRst
  obtain ⟨bs, bz, be, zV⟩ := box2 w 152 152 (rstC A n c S) (rstC none 0 0 stk0)
  go_enter Tryz.func151, Tryz.ntmps151
  go_upto_region 1 with (fail)
  generalize (w.alloc (.cells (rstC A n c S).toArray 152)).alloc (.cells (rstC none 0 0 stk0).toArray 152) = V at *
  go_upto_region 1 with (fail)
  refine wp_region_lit ?_
  refine qA 152 (.tmp 2) bs vr1 vr2 (szRst A n c S) ?_
  refine qw ?_
  refine wpq fun K hK => ?_
  go_simp
  refine (HD.out _).mono ?_
  rintro e w1 ⟨bs1, d1, rfl, rfl⟩
  with_reducible refine hK _ _ ?_
  clear hK K
  replace bs := bs.later (below_plus V bs1 d1)
  replace bz := bz.later (below_plus V bs1 d1)
  replace be := belowP be bs1 d1
  replace zV : w.heap.size + 2 ≤ (plus V bs1 d1).heap.size := by simp [size_plus]; omega
  generalize plus V bs1 d1 = V1 at *
  refine qw ?_
  go_upto_region 3 with (fail)
  refine wp_region_lit ?_
  iterate 3 (refine qw ?_)
  refine wpList_st1 4 (.tmp 13) (.const (.bool false)) rfl rfl rfl rfl bs (by rw [rstC_len]; omega) rfl (by kernel_rfl) ?_
  intro W4 h4 g4
  simp only [Act.put, qsT, qsZ, qsS]
  replace bs : Bk W4 w.heap.size 152 (rstC A n c ES) := by rw [← hset.out]; exact h4
  replace bz := bz.grown g4 (fun e => by injection e with e; omega)
  replace be := below_grown be g4 (Nat.le_refl _)
  clear h4 g4
  go_upto_region 4 with (fail)
  refine wp_region_lit ?_
  refine qA 152 (.tmp 2) bs vr1 vr2 (szRst A n c ES) ?_
  simp only [Act.put, qsT, qsZ, qsS]
  refine wpList_stA (t := 152) 152 (.tmp 4) (.tmp 14) rfl rfl (rstC A n c ES) (rstC none 0 0 stk0) (by rw [rstC_len, rstC_len]) (rstC_one _ _ _ _) rfl rfl bz (szRst _ _ _ _) ?_
  intro W9 h9 g9
  refine qw ?_
  go_wp2
  refine bodyPost_agg2 Tryz.results151 rfl rfl h9.range vr1 vr2 (szRst _ _ _ _) rfl ?_
  exact RetRS.mk (S' := S) (by rw [he.out]; rfl) (hRR.out _ (below_grown be g9 (by omega))) (below_grown be g9 (by omega))
theorem refRelease_any (S : Stk) (hok : StkOk S) (A : Option Addr) (n c : Nat) (v : Int) (w : World) {D : Nat → Prop} (hD : ∀ b, D b → b < w.heap.size) (hR : RSt D w S.lv A n c) : Calls Tryz.prog 125 #[.agg (rstC A n c S).toArray, .int .i64 v] w (RetRS D w (rlsS S v) (fun x => .tuple #[x, .int .i64 (rlsE S v : Nat)])) := by
 obtain ⟨EE, hEE⟩ : ∃ x, rlsE S v = x := ⟨_, rfl⟩
 rw [hEE]
 have HEE := qy hEE
 clear hEE
 have hRR := qy (fun W (h : Below w.heap.size w W) => show RSt D W (rlsS S v).lv A n c by rw [lv_rls]; exact hR.later h)
 cases hd : hasB S.bz v 0 8
 ·have he := qy (show EE = 6 by rw [← HEE.out]; unfold rlsE; rw [hd]; rfl)
  have hs : rlsS S v = S := by unfold rlsS; rw [hd]; rfl
  rw [hs] at hRR ⊢
  clear HEE hs
  by_cases h1 : v < 0
  ·clear hd
   have hzv : ∀ w, (zeroValue 152).run Tryz.prog w = .ok (.agg (rstC none 0 0 stk0).toArray) w := fun _ => by kernel_rfl
   obtain ⟨dvr1, vr1, vr2⟩ := rowRst
   obtain ⟨bs, bz, be, zV⟩ := box2 w 152 152 (rstC A n c S) (rstC none 0 0 stk0)
   go_enter Tryz.func125, Tryz.ntmps125
   go_upto_region 1 with (fail)
   generalize (w.alloc (.cells (rstC A n c S).toArray 152)).alloc (.cells (rstC none 0 0 stk0).toArray 152) = V at *
   go_upto_region 2 with (fail)
   refine wp_region_lit ?_
   refine qA 152 (.tmp 2) bs vr1 vr2 (szRst A n c S) ?_
   simp only [Act.put, qsT, qsZ, qsS]
   refine wpList_stA (t := 152) 152 (.tmp 4) (.tmp 19) rfl rfl (rstC A n c S) (rstC none 0 0 stk0) (by rw [rstC_len, rstC_len]) (rstC_one _ _ _ _) rfl rfl bz (szRst _ _ _ _) ?_
   intro W9 h9 g9
   refine qw ?_
   go_wp2
   refine bodyPost_agg2 Tryz.results125 rfl rfl h9.range vr1 vr2 (szRst _ _ _ _) rfl ?_
   exact RetRS.mk (S' := S) (by rw [he.out]; rfl) (hRR.out _ (below_grown be g9 (by omega))) (below_grown be g9 (by omega))
  ·by_cases h2 : 7 < v
   ·clear hd
    have hzv : ∀ w, (zeroValue 152).run Tryz.prog w = .ok (.agg (rstC none 0 0 stk0).toArray) w := fun _ => by kernel_rfl
    obtain ⟨dvr1, vr1, vr2⟩ := rowRst
    obtain ⟨bs, bz, be, zV⟩ := box2 w 152 152 (rstC A n c S) (rstC none 0 0 stk0)
    go_enter Tryz.func125, Tryz.ntmps125
    go_upto_region 1 with (fail)
    generalize (w.alloc (.cells (rstC A n c S).toArray 152)).alloc (.cells (rstC none 0 0 stk0).toArray 152) = V at *
    go_upto_region 2 with (fail)
    refine wp_region_lit ?_
    refine qA 152 (.tmp 2) bs vr1 vr2 (szRst A n c S) ?_
    simp only [Act.put, qsT, qsZ, qsS]
    refine wpList_stA (t := 152) 152 (.tmp 4) (.tmp 19) rfl rfl (rstC A n c S) (rstC none 0 0 stk0) (by rw [rstC_len, rstC_len]) (rstC_one _ _ _ _) rfl rfl bz (szRst _ _ _ _) ?_
    intro W9 h9 g9
    refine qw ?_
    go_wp2
    refine bodyPost_agg2 Tryz.results125 rfl rfl h9.range vr1 vr2 (szRst _ _ _ _) rfl ?_
    exact RetRS.mk (S' := S) (by rw [he.out]; rfl) (hRR.out _ (below_grown be g9 (by omega))) (below_grown be g9 (by omega))
   ·obtain ⟨i, rfl⟩ : ∃ i : Nat, v = i := ⟨v.toNat, by omega⟩
    have i3 : (i : Int) < 8 := by omega
    have hc := rstC_bz A n c S i (by omega)
    have hb : S.bz.testBit i = false := by
     unfold hasB at hd
     rw [decide_eq_true (show ((0 : Nat) : Int) ≤ (i : Int) by omega), decide_eq_true (show (i : Int) < ((0 : Nat) : Int) + (8 : Nat) by omega), show ((i : Int) - ((0 : Nat) : Int)).toNat = i by omega] at hd
     simpa using hd
    rw [hb] at hc
    clear hd hb
    have hzv : ∀ w, (zeroValue 152).run Tryz.prog w = .ok (.agg (rstC none 0 0 stk0).toArray) w := fun _ => by kernel_rfl
    obtain ⟨dvr1, vr1, vr2⟩ := rowRst
    obtain ⟨bs, bz, be, zV⟩ := box2 w 152 152 (rstC A n c S) (rstC none 0 0 stk0)
    go_enter Tryz.func125, Tryz.ntmps125
    go_upto_region 1 with (fail)
    generalize (w.alloc (.cells (rstC A n c S).toArray 152)).alloc (.cells (rstC none 0 0 stk0).toArray 152) = V at *
    have q0 : V.cell? ⟨w.heap.size, 66 + i, none⟩ = some (.bool false) := (bs.cell _).trans hc
    go_upto_region 2 with (fail)
    refine wp_region_lit ?_
    refine qA 152 (.tmp 2) bs vr1 vr2 (szRst A n c S) ?_
    simp only [Act.put, qsT, qsZ, qsS]
    refine wpList_stA (t := 152) 152 (.tmp 4) (.tmp 19) rfl rfl (rstC A n c S) (rstC none 0 0 stk0) (by rw [rstC_len, rstC_len]) (rstC_one _ _ _ _) rfl rfl bz (szRst _ _ _ _) ?_
    intro W9 h9 g9
    refine qw ?_
    go_wp2
    refine bodyPost_agg2 Tryz.results125 rfl rfl h9.range vr1 vr2 (szRst _ _ _ _) rfl ?_
    exact RetRS.mk (S' := S) (by rw [he.out]; rfl) (hRR.out _ (below_grown be g9 (by omega))) (below_grown be g9 (by omega))
 ·have hr := hasB_rg hd
  obtain ⟨i, rfl⟩ : ∃ i : Nat, v = i := ⟨v.toNat, by omega⟩
  have i1 : ¬ (i : Int) < 0 := by omega
  have i2 : ¬ 7 < (i : Int) := by omega
  have i3 : (i : Int) < 8 := by omega
  have hc := rstC_bz A n c S i (by omega)
  have hb : S.bz.testBit i = true := by have := hr.2.2; rwa [show ((i : Int) - ((0 : Nat) : Int)).toNat = i by omega] at this
  rw [hb] at hc
  have he := qy (show EE = 0 by rw [← HEE.out]; unfold rlsE; rw [hd]; rfl)
  have hset := qy (rstC_setBz A n c S (rlsS S (i : Int)) i false (by have := refBz_rel (S := S) (v := (i : Int)) hd hok; simpa using this) (refEv_rls S _))
  clear HEE hd hr hb
  generalize rlsS S (i : Int) = ES at *
  have hzv : ∀ w, (zeroValue 152).run Tryz.prog w = .ok (.agg (rstC none 0 0 stk0).toArray) w := fun _ => by kernel_rfl
  obtain ⟨dvr1, vr1, vr2⟩ := rowRst
  obtain ⟨bs, bz, be, zV⟩ := box2 w 152 152 (rstC A n c S) (rstC none 0 0 stk0)
  go_enter Tryz.func125, Tryz.ntmps125
  go_upto_region 1 with (fail)
  generalize (w.alloc (.cells (rstC A n c S).toArray 152)).alloc (.cells (rstC none 0 0 stk0).toArray 152) = V at *
  have q0 : V.cell? ⟨w.heap.size, 66 + i, none⟩ = some (.bool true) := (bs.cell _).trans hc
  go_upto_region 3 with (fail)
  refine wp_region_lit ?_
  iterate 3 (refine qw ?_)
  refine wpList_st1 4 (.tmp 22) (.const (.bool false)) rfl rfl rfl rfl bs (by rw [rstC_len]; omega) rfl (by kernel_rfl) ?_
  intro W4 h4 g4
  simp only [Act.put, qsT, qsZ, qsS]
  replace bs : Bk W4 w.heap.size 152 (rstC A n c ES) := by rw [← hset.out]; exact h4
  replace bz := bz.grown g4 (fun e => by injection e with e; omega)
  replace be := below_grown be g4 (Nat.le_refl _)
  clear h4 g4 q0
  go_upto_region 4 with (fail)
  refine wp_region_lit ?_
  refine qA 152 (.tmp 2) bs vr1 vr2 (szRst A n c ES) ?_
  simp only [Act.put, qsT, qsZ, qsS]
  refine wpList_stA (t := 152) 152 (.tmp 4) (.tmp 23) rfl rfl (rstC A n c ES) (rstC none 0 0 stk0) (by rw [rstC_len, rstC_len]) (rstC_one _ _ _ _) rfl rfl bz (szRst _ _ _ _) ?_
  intro W9 h9 g9
  refine qw ?_
  go_wp2
  refine bodyPost_agg2 Tryz.results125 rfl rfl h9.range vr1 vr2 (szRst _ _ _ _) rfl ?_
  exact RetRS.mk (S' := S) (by rw [he.out]; rfl) (hRR.out _ (below_grown be g9 (by omega))) (below_grown be g9 (by omega))
theorem etE : ET Tryz.prog 149 194 (.agg #[.int .i64 0, .slice none 0 0]) 2 32 := ⟨Tryz.underlying149, by kernel_rfl, rfl, by decide, by decide⟩
theorem bodyPost_agg3s {P : Program} {fn : Func} {R : Ending → World → Prop} {a : Act} {w : World} {slot slot2 slot3 ty g : Nat} {d : TypeDesc} {cs : List Value} {u u' : Value} (hfr : fn.results = #[.cell slot ty, .tmp slot2, .tmp slot3]) (hs : a.tmps.getD slot undef = .pointer (some ⟨g, 0, none⟩)) (hs2 : a.tmps.getD slot2 undef = u) (hs3 : a.tmps.getD slot3 undef = u')
  (hb : w.rangeAt g 0 cs) (hu : P.underlying ty = some d) (hd : d.isRow = true) (hi : (P.info? ty).map (·.size) = some cs.length) (hdf : a.defers = []) (hR : R (.returned (.tuple #[.agg cs.toArray, u, u'])) w) : bodyPost P fn R .ret a w := by
 refine bodyPost_ret (v := .tuple #[.agg cs.toArray, u, u']) ?_ hdf hR
 have h1 := run_loadVar_mid (P := P) w g 0 ty cs d hb hu hd hi
 have hs' : a.tmps[slot]?.getD undef = .pointer (some ⟨g, 0, none⟩) := by simpa using hs
 have hs2' : a.tmps[slot2]?.getD undef = u := by simpa using hs2
 have hs3' : a.tmps[slot3]?.getD undef = u' := by simpa using hs3
 simp [results, hfr, hs', hs2', hs3', asAddr, h1]
theorem rstC_setL (A : Option Addr) (n c : Nat) (B : Option Addr) (m d : Nat) (S S' : Stk) (h1 : S'.ev = S.ev) (h2 : S'.bz = S.bz) : (rstC A n c S).set 0 (.slice B m d) = rstC B m d S' := by
 unfold rstC refEv refBz deadS
 rw [h1, h2]
 rfl
theorem refPush_any (S : Stk) (hok : StkOk S) (A : Option Addr) (n c : Nat) (t : Tab) (B : Option Addr) (m d : Nat) (w : World) {D : Nat → Prop} (hD : ∀ b, D b → b < w.heap.size) (hR : RSt D w S.lv A n c) (hT : Rs 1 w B m d (itK (refT t))) (hB : Off D w B) : Calls Tryz.prog 153 #[.agg (rstC A n c S).toArray, .slice B m d] w (RetRS D w (pushS S t) (fun x => .tuple #[x, .int .i64 (pushV S : Nat), .int .i64 (pushE S : Nat)])) := by
 have HF := qy (fun w h => refFree_any S hok.len A n c w (D := D) h)
 have HR0 := qy (And.intro hR hT)
 obtain ⟨PV, hPV⟩ : ∃ x, pushV S = x := ⟨_, rfl⟩
 obtain ⟨PE, hPE⟩ : ∃ x, pushE S = x := ⟨_, rfl⟩
 rw [hPV, hPE]
 have HPV := qy hPV
 have HPE := qy hPE
 clear hPV hPE
 have hn8 : n ≤ 8 := by have := hR.len; have := hok.len; omega
 by_cases hf : freeS S < 8
 ·have e1 : frR S = (freeS S : Int) := if_pos hf
  rw [e1] at HF
  have hs : pushS S t = { S with lv := S.lv ++ [(freeS S, t)] } := if_pos hf
  rw [hs]
  have hv := qy (show PV = freeS S by rw [← HPV.out]; exact if_pos hf)
  have he := qy (show PE = 0 by rw [← HPE.out]; exact if_pos hf)
  clear HPV HPE e1 hs
  generalize freeS S = fv at *
  have i0 : ¬ (fv : Int) < 0 := by omega
  have hzv : ∀ w, (zeroValue 152).run Tryz.prog w = .ok (.agg (rstC none 0 0 stk0).toArray) w := fun _ => by kernel_rfl
  obtain ⟨dvr1, vr1, vr2⟩ := rowRst
  obtain ⟨bs, bz, be, zV⟩ := box2 w 152 152 (rstC A n c S) (rstC none 0 0 stk0)
  go_enter Tryz.func153, Tryz.ntmps153
  go_upto_region 1 with (fail)
  generalize (w.alloc (.cells (rstC A n c S).toArray 152)).alloc (.cells (rstC none 0 0 stk0).toArray 152) = V at *
  go_upto_region 1 with (fail)
  obtain ⟨E, hE0, hrE0, -, hEd⟩ := HR0.out.1
  have HE0 := qy hE0
  have HrE0 := qy hrE0
  clear hE0 hrE0
  replace hR := hR.later be
  replace hT := hT.later be
  refine wp_region_lit ?_
  refine qA 152 (.tmp 2) bs vr1 vr2 (szRst A n c S) ?_
  refine wpq fun K hK => ?_
  go_simp
  refine (HF.out _ hR).mono ?_
  rintro e w1 ⟨bs1, d1, rfl, rfl⟩
  with_reducible refine hK _ _ ?_
  clear hK K
  refine qw ?_
  replace hR := hR.later (below_plus V bs1 d1)
  replace hT := hT.later (below_plus V bs1 d1)
  replace bs := bs.later (below_plus V bs1 d1)
  replace bz := bz.later (below_plus V bs1 d1)
  replace be := belowP be bs1 d1
  clear HF zV
  generalize plus V bs1 d1 = W at *
  have zW := bz.lt
  have hE := HE0.out.later be
  have hrE := HrE0.out.later be
  have hnE : n ≤ 8 := hn8
  go_upto_region 4 with (fail)
  refine wp_region_lit ?_
  iterate 2 (refine qw ?_)
  refine wpList_ld1 (t := 152) (cs := rstC A n c S) 149 (.tmp 14) rfl (by rfl) rfl (bs.alloc _) rfl Tryz.underlying149 rfl ?_
  simp only [Act.put, qsT, qsZ, qsS]
  refine wpList_appS etE rfl (.tmp 13) (.tmp 15) rfl rfl (Os.lit W (Nat.le_refl _) #[] 0 rfl (Nat.zero_le _)) rfl (hrE.alloc _) (flat_one enE enE_one _) (by omega) (by simp) ?_
  intro A2 n2 c2 w4 hn2 hO4 hb4 hg4
  subst hn2
  simp only [Act.put, qsT, qsZ, qsS]
  have hb4W : Below W.heap.size W w4 := (Below.allocS (Below.refl _ _) _).trans hb4
  simp only [List.nil_append, Nat.zero_add] at hO4
  iterate 4 (refine qw ?_)
  have belowW : Below W.heap.size W (w4.alloc (.cells #[.int .i64 (fv : Int), .slice B m d] 194)) := Below.allocS hb4W _
  refine wpList_appS etE rfl (.tmp 16) (.tmp 20) rfl rfl (hO4.later (Below.allocS (Below.refl _ _) _)) rfl (Rs.of_bk (n := 1) (c := 1) (Bk.new w4 _ _) rfl (Nat.le_refl _)) (by simp [Value.oneCell']) (by omega) belowW.size ?_
  intro A3 n3 c3 w5 hn3 hO5 hb5 hg5
  subst hn3
  simp only [Act.put, qsT, qsZ, qsS]
  have hbw := belowW.trans hb5
  replace bs := bs.later hbw
  replace bz := bz.later hbw
  replace be := be.trans (hbw.mono be.size)
  have zw := hbw.size
  clear belowW hO4 hb4 hg4 hb4W hb5 hg5 hE hrE hT hbw
  have hset := rstC_setL A n c A3 (n + 1) c3 S { S with lv := S.lv ++ [(fv, t)] } rfl rfl
  refine qw ?_
  refine wpList_st1 149 (.tmp 22) (.tmp 21) rfl rfl rfl rfl bs (by rw [rstC_len]; omega) rfl (by kernel_rfl) ?_
  intro W6 h6 g6
  simp only [Act.put, qsT, qsZ, qsS]
  replace bs : Bk W6 w.heap.size 152 (rstC A3 (n + 1) c3 { S with lv := S.lv ++ [(fv, t)] }) := by rw [← hset]; exact h6
  replace bz := bz.grown g6 (fun e => by injection e with e; omega)
  have hO6 := hO5.grown g6 (fun k hk e => by have := (hO5.blk k hk).1; injection e with e; omega)
  replace be := below_grown be g6 (Nat.le_refl _)
  clear h6 g6 hO5 hset
  generalize hES : ({ S with lv := S.lv ++ [(fv, t)] } : Stk) = ES at *
  go_upto_region 5 with (fail)
  refine wp_region_lit ?_
  refine qA 152 (.tmp 2) bs vr1 vr2 (szRst A3 (n + 1) c3 ES) ?_
  refine qw ?_
  refine wpList_stA (t := 152) 152 (.tmp 4) (.tmp 23) rfl rfl (rstC A3 (n + 1) c3 ES) (rstC none 0 0 stk0) (by rw [rstC_len, rstC_len]) (rstC_one _ _ _ _) rfl rfl bz (szRst _ _ _ _) ?_
  intro W9 h9 g9
  iterate 2 (refine qw ?_)
  go_wp2
  refine bodyPost_agg3s Tryz.results153 rfl rfl rfl h9.range vr1 vr2 (szRst _ _ _ _) rfl ?_
  have be9 := below_grown be g9 (by omega)
  have hO9 := hO6.grown g9 (fun k hk e => by have := (hO6.blk k hk).1; injection e with e; omega)
  refine RetRS.mk (S' := S) (by rw [hv.out, he.out]; rfl) ?_ be9
  rw [← hES]
  refine ⟨E ++ [(fv, B, m, d)], (HE0.out.later be9).snoc fv t B m d (HR0.out.2.later be9), ?_, Off.own hO9 (fun b hb => by have := hD b hb; omega), fun e he => ?_⟩
  ·have := hO9.rs
   rw [List.flatMap_append]
   simpa [enE] using this
  ·rcases List.mem_append.1 he with he | he
   ·exact (hEd e he).size be9.size
   ·simp only [List.mem_cons, List.not_mem_nil, or_false] at he
    subst he
    exact hB.size be9.size
 ·have e1 : frR S = -1 := if_neg hf
  rw [e1] at HF
  have hs : pushS S t = S := if_neg hf
  rw [hs]
  have hv := qy (show PV = 0 by rw [← HPV.out]; exact if_neg hf)
  have he := qy (show PE = 23 by rw [← HPE.out]; exact if_neg hf)
  clear HPV HPE e1 hs
  have hzv : ∀ w, (zeroValue 152).run Tryz.prog w = .ok (.agg (rstC none 0 0 stk0).toArray) w := fun _ => by kernel_rfl
  obtain ⟨dvr1, vr1, vr2⟩ := rowRst
  obtain ⟨bs, bz, be, zV⟩ := box2 w 152 152 (rstC A n c S) (rstC none 0 0 stk0)
  go_enter Tryz.func153, Tryz.ntmps153
  go_upto_region 1 with (fail)
  generalize (w.alloc (.cells (rstC A n c S).toArray 152)).alloc (.cells (rstC none 0 0 stk0).toArray 152) = V at *
  go_upto_region 1 with (fail)
  replace hR := hR.later be
  refine wp_region_lit ?_
  refine qA 152 (.tmp 2) bs vr1 vr2 (szRst A n c S) ?_
  refine wpq fun K hK => ?_
  go_simp
  refine (HF.out _ hR).mono ?_
  rintro e w1 ⟨bs1, d1, rfl, rfl⟩
  with_reducible refine hK _ _ ?_
  clear hK K
  refine qw ?_
  replace hR := hR.later (below_plus V bs1 d1)
  replace bs := bs.later (below_plus V bs1 d1)
  replace bz := bz.later (below_plus V bs1 d1)
  replace be := belowP be bs1 d1
  clear HF zV
  generalize plus V bs1 d1 = W at *
  have zW := bz.lt
  go_upto_region 3 with (fail)
  refine wp_region_lit ?_
  refine qA 152 (.tmp 2) bs vr1 vr2 (szRst A n c S) ?_
  simp only [Act.put, qsT, qsZ, qsS]
  refine wpList_stA (t := 152) 152 (.tmp 4) (.tmp 12) rfl rfl (rstC A n c S) (rstC none 0 0 stk0) (by rw [rstC_len, rstC_len]) (rstC_one _ _ _ _) rfl rfl bz (szRst _ _ _ _) ?_
  intro W9 h9 g9
  iterate 2 (refine qw ?_)
  go_wp2
  refine bodyPost_agg3s Tryz.results153 rfl rfl rfl h9.range vr1 vr2 (szRst _ _ _ _) rfl ?_
  exact RetRS.mk (S' := S) (by rw [hv.out, he.out]; rfl) (HR0.out.1.later (below_grown be g9 (by omega))) (below_grown be g9 (by omega))
theorem refEv_ret (S : Stk) (v : Int) : refEv (retS S v) = refEv S := by unfold retS; split <;> rfl
theorem refRetire_any (S : Stk) (hok : StkOk S) (A : Option Addr) (n c : Nat) (v : Int) (w : World) {D : Nat → Prop} (hD : ∀ b, D b → b < w.heap.size) (hR : RSt D w S.lv A n c) : Calls Tryz.prog 124 #[.agg (rstC A n c S).toArray, .int .i64 v] w (RetRS D w (retS S v) (fun x => .tuple #[x, .int .i64 (retE S v : Nat)])) := by
 have h8 := hok.len
 have HI := qy (fun w h => refIndexS_any S h8 A n c v w (D := D) h)
 obtain ⟨EE, hEE⟩ : ∃ x, retE S v = x := ⟨_, rfl⟩
 rw [hEE]
 have HEE := qy hEE
 clear hEE
 have hn := hR.len
 have hcap := hR.cap
 have HR0 := qy hR
 by_cases hl : idxS S v < S.lv.length
 ·have hix : ixS S v = (idxS S v : Int) := if_pos hl
  rw [hix] at HI
  by_cases hl2 : idxS S v + 1 < S.lv.length
  ·have he := qy (show EE = 0 by rw [← HEE.out]; unfold retE; rw [if_pos hl2])
   obtain ⟨E, hE0, hrE0, -, hEd⟩ := hR
   have hat := idxS_at hl
   have hv8 := (hok.rg _ (List.getElem_mem hl)).1
   obtain ⟨i, rfl⟩ : ∃ i : Nat, v = i := ⟨v.toNat, by omega⟩
   have hi8 : i < 8 := by omega
   have hlv : (retS S (i : Int)).lv = S.lv.eraseIdx (idxS S (i : Int)) := by unfold retS; rw [if_pos hl2]
   have hEE0 : EnOk w (retS S (i : Int)).lv (E.eraseIdx (idxS S (i : Int))) := by rw [hlv]; exact hE0.erase _
   have hbz : refBz (retS S (i : Int)) = (refBz S).set i true := by have := refBz_ret hl2 hok; simpa using this
   have hev := refEv_ret S (i : Int)
   have hEl := hE0.1
   clear hat hv8 hix hE0
   generalize idxS S (i : Int) = k at *
   generalize retS S (i : Int) = RS at *
   clear HEE hlv
   have HEE0 := qy hEE0
   have HBZ := qy hbz
   have HEV := qy hev
   obtain ⟨xb, xo, rfl, hxb, -⟩ := hrE0.at_ (by omega) (by decide)
   have htake0 : Rs 2 w (some ⟨xb, xo, none⟩) k c ((E.take k).flatMap enE) := by have h := hrE0.take (k := k) (by omega); rw [flat_take enE 2 enE_len] at h; exact h
   have hcut0 : Rs 2 w (cutA (some ⟨xb, xo, none⟩) c (k + 1) 2) (n - (k + 1)) (c - (k + 1)) ((E.drop (k + 1)).flatMap enE) := by have h := hrE0.cut (k := k + 1) (by omega); rw [flat_drop enE 2 enE_len] at h; exact h
   have l1 : k ≤ n := by omega
   have l2 : (k : Int) ≤ (n : Int) := by omega
   have l3 : (n : Int) ≤ (c : Int) := by omega
   have l4 : k ≤ c := by omega
   have l5 : (k : Int) ≤ (c : Int) := by omega
   have l6 : k + 1 ≤ n := by omega
   have l7 : ((k + 1 : Nat) : Int) ≤ (n : Int) := by omega
   have l8 : IntKind.i64.wrap ((k : Int) + 1) = ((k + 1 : Nat) : Int) := by rw [IntWalk.i64_in _ (by omega)]; simp
   have l9 : ((k + 1 : Nat) : Int) ≤ (c : Int) := by omega
   have l10 : k + 1 ≤ c := by omega
   have l11 : 0 ≤ (k : Int) + 1 := by omega
   have l12 : (k : Int) + 1 ≤ (n : Int) := by omega
   have l13 : ¬ (k : Int) < 0 := by omega
   have l14 : IntKind.i64.wrap ((n : Int) - 1) = (n : Int) - 1 := IntWalk.i64_in _ (by omega)
   have l15 : ((k : Int) == (n : Int) - 1) = false := by simp; omega
   have n8 : n ≤ 8 := by omega
   have ii8 : (i : Int) < 8 := by omega
   clear hn hEE0 hbz hev hEl hrE0 hcap
   have hzv : ∀ w, (zeroValue 152).run Tryz.prog w = .ok (.agg (rstC none 0 0 stk0).toArray) w := fun _ => by kernel_rfl
   obtain ⟨dvr1, vr1, vr2⟩ := rowRst
   obtain ⟨bs, bz, be, zV⟩ := box2 w 152 152 (rstC (some ⟨xb, xo, none⟩) n c S) (rstC none 0 0 stk0)
   go_enter Tryz.func124, Tryz.ntmps124
   go_upto_region 1 with (fail)
   generalize (w.alloc (.cells (rstC (some ⟨xb, xo, none⟩) n c S).toArray 152)).alloc (.cells (rstC none 0 0 stk0).toArray 152) = V at *
   go_upto_region 1 with (fail)
   refine wp_region_lit ?_
   refine qA 152 (.tmp 2) bs vr1 vr2 (szRst _ _ _ _) ?_
   refine qw ?_
   refine wpq fun K hK => ?_
   go_simp
   refine (HI.out _ (HR0.out.later be)).mono ?_
   rintro e w1 ⟨bs1, d1, rfl, rfl⟩
   with_reducible refine hK _ _ ?_
   clear hK K
   replace bs := bs.later (below_plus V bs1 d1)
   replace bz := bz.later (below_plus V bs1 d1)
   replace be := belowP be bs1 d1
   have zW := bz.lt
   clear HI zV
   generalize plus V bs1 d1 = W at *
   refine qw ?_
   have htake := htake0.later be
   have hcut := hcut0.later be
   have q0 : W.cell? ⟨w.heap.size, 0, none⟩ = some (.slice (some ⟨xb, xo, none⟩) n c) := bs.cell 0
   go_upto_region 6 with (fail)
   clear q0
   refine wp_relS 11 37 rfl (by kernel_rfl) (by kernel_rfl) ?_
   apply qo (φ := (MP.ofs 194 2 W.heap.size [])) 1 rfl rfl
   ·intro FA x hO hD K hK
    clear hO hD
    go_simp
    refine hK.out _ _ (Ex.alloc _ _) ⟨_, _, rfl, ?_⟩
    have h := Os.lit (s := 2) (e := 194) (base := W.heap.size) (plus W x.bs x.d) (by simp [size_plus]) #[] 0 rfl (Nat.zero_le _)
    rw [size_plus] at h
    exact h
   refine qb 2 2 ?_
   refine ql 1 21 3 149 bs Tryz.underlying149 ?_
   refine qb 6 4 ?_
   refine qc 2 22 3 23 5 ?_
   apply qo (φ := (MP.os 194 2 W.heap.size ([] ++ (E.take k).flatMap enE))) 6 rfl rfl
   ·intro FA x hO hD K hK
    obtain ⟨u20, f20, e20, ev20⟩ := qG (hD 0 20)
    obtain ⟨e24, ev24⟩ := qE (hD 4 24)
    clear hO hD
    obtain ⟨A1, n1, hv1, h1⟩ := f20
    have hn1 : n1 = 0 := by have := h1.rs.1; simp at this; omega
    subst hn1
    refine wanted_if rfl ?_
    refine wp_appFS etE (.tmp 20) (.tmp 24) rfl (ev20.out.trans hv1) h1 ev24.out (htake.plus_ x.bs x.d) (flat_one enE enE_one _) (by omega) (by simp [size_plus]) ?_
    intro A3 n3 c3 w3 hn3 ho3 hex
    exact hK.out _ _ hex ⟨_, _, _, rfl, ho3⟩
   refine qb 2 7 ?_
   refine ql 6 26 8 149 bs Tryz.underlying149 ?_
   refine qb 6 9 ?_
   refine qa 8 28 10 ?_
   refine qc 7 27 9 29 11 ?_
   refine Steps.fin_ (fun vs x hp => ?_)
   have p0 := hp 0 qd
   have p5 := hp 5 qd
   simp only [qta, qtb, qda, qdb, putAll, Nat.zero_add, Nat.reduceAdd, Act.put, qsT, qsZ, qsS, qi (hp 1 qd), qi (hp 2 qd), qi (hp 3 qd), qi (hp 4 qd), qi (hp 6 qd), qi (hp 7 qd), qi (hp 8 qd), qi (hp 9 qd), qi (hp 10 qd)]
   clear hp
   generalize vs 0 = y0 at *
   generalize vs 5 = y5 at *
   clear vs
   obtain ⟨A4, n4, c4, rfl, h4⟩ := p5
   have hbx := below_plus W x.bs x.d
   replace hcut := hcut.later hbx
   replace bs := bs.later hbx
   replace bz := bz.later hbx
   replace be := be.trans (hbx.mono be.size)
   have zX := hbx.size
   have hl4 := h4.rs.1
   simp only [List.nil_append] at h4 hl4
   rw [flat_len enE 2 enE_len, List.length_take] at hl4
   have hn4 : n4 ≤ 100 := by omega
   clear hl4 hbx htake
   generalize plus W x.bs x.d = X at *
   refine wpList_appS etE rfl (.tmp 25) (.tmp 30) rfl rfl h4 rfl hcut (flat_one enE enE_one _) (by omega) zX ?_
   intro A5 n5 c5 w5 hn5 hO5 hb5 hg5
   simp only [Act.put, qsT, qsZ, qsS]
   have hlen5 := hO5.1
   rw [← List.flatMap_append, ← List.eraseIdx_eq_take_drop_succ] at hO5 hlen5
   replace bs := bs.below hb5 (by omega)
   replace bz := bz.below hb5 (by omega)
   replace be := be.trans (hb5.mono (by omega))
   have z5 := hb5.size
   have hset := rstC_setL (some ⟨xb, xo, none⟩) n c A5 n5 c5 S { S with lv := RS.lv } rfl rfl
   clear h4 hcut hb5 hg5 hlen5 hn5
   refine qw ?_
   refine wpList_st1 149 (.tmp 32) (.tmp 31) rfl rfl rfl rfl bs (by rw [rstC_len]; omega) rfl (by kernel_rfl) ?_
   intro W6 h6 g6
   simp only [Act.put, qsT, qsZ, qsS]
   replace bs : Bk W6 w.heap.size 152 (rstC A5 n5 c5 { S with lv := RS.lv }) := by rw [← hset]; exact h6
   replace bz := bz.grown g6 (fun e => by injection e with e; omega)
   have hO6 := hO5.grown g6 (fun k hk e => by have := (hO5.blk k hk).1; injection e with e; omega)
   replace be := below_grown be g6 (Nat.le_refl _)
   clear h6 g6 hO5 hset
   have hset := rstC_setBz A5 n5 c5 { S with lv := RS.lv } RS i true HBZ.out HEV.out
   go_upto_region 7 with (fail)
   refine wp_region_lit ?_
   iterate 3 (refine qw ?_)
   refine wpList_st1 4 (.tmp 35) (.const (.bool true)) rfl rfl rfl rfl bs (by rw [rstC_len]; omega) rfl (by kernel_rfl) ?_
   intro W7 h7 g7
   simp only [Act.put, qsT, qsZ, qsS]
   replace bs : Bk W7 w.heap.size 152 (rstC A5 n5 c5 RS) := by rw [← hset]; exact h7
   replace bz := bz.grown g7 (fun e => by injection e with e; omega)
   have hO7 := hO6.grown g7 (fun k hk e => by have := (hO6.blk k hk).1; injection e with e; omega)
   replace be := below_grown be g7 (Nat.le_refl _)
   clear h7 g7 hO6 hset
   go_upto_region 8 with (fail)
   refine wp_region_lit ?_
   refine qA 152 (.tmp 2) bs vr1 vr2 (szRst A5 n5 c5 RS) ?_
   simp only [Act.put, qsT, qsZ, qsS]
   refine wpList_stA (t := 152) 152 (.tmp 4) (.tmp 36) rfl rfl (rstC A5 n5 c5 RS) (rstC none 0 0 stk0) (by rw [rstC_len, rstC_len]) (rstC_one _ _ _ _) rfl rfl bz (szRst _ _ _ _) ?_
   intro W9 h9 g9
   refine qw ?_
   go_wp2
   refine bodyPost_agg2 Tryz.results124 rfl rfl h9.range vr1 vr2 (szRst _ _ _ _) rfl ?_
   have be9 := below_grown be g9 (by omega)
   have hO9 := hO7.grown g9 (fun k hk e => by have := (hO7.blk k hk).1; injection e with e; omega)
   refine RetRS.mk (S' := S) (by rw [he.out]; rfl) ⟨_, HEE0.out.later be9, hO9.rs, Off.own hO9 (fun b hb => by have := hD b hb; have := be9.size; omega), fun e he2 => (hEd e (List.mem_of_mem_eraseIdx he2)).size be9.size⟩ be9
  ·have he := qy (show EE = 1 by rw [← HEE.out]; unfold retE; rw [if_neg hl2, if_pos (by omega)])
   have hs : retS S v = S := by unfold retS; rw [if_neg hl2]
   rw [hs]
   clear HEE hs
   obtain ⟨m, hm⟩ : ∃ m, n = m + 1 := ⟨n - 1, by omega⟩
   subst hm
   rw [show idxS S v = m by omega] at HI
   have l1 : IntKind.i64.wrap (((m + 1 : Nat) : Int) - 1) = (m : Int) := by rw [IntWalk.i64_in _ (by omega)]; omega
   have l2 : IntKind.i64.wrap ((m : Int) + 1 - 1) = (m : Int) := by rw [IntWalk.i64_in _ (by omega)]; omega
   have l3 : IntKind.i64.wrap (m : Int) = (m : Int) := IntWalk.i64_in _ (by omega)
   clear hn hix hl hl2
   have hzv : ∀ w, (zeroValue 152).run Tryz.prog w = .ok (.agg (rstC none 0 0 stk0).toArray) w := fun _ => by kernel_rfl
   obtain ⟨dvr1, vr1, vr2⟩ := rowRst
   obtain ⟨bs, bz, be, zV⟩ := box2 w 152 152 (rstC A (m + 1) c S) (rstC none 0 0 stk0)
   go_enter Tryz.func124, Tryz.ntmps124
   go_upto_region 1 with (fail)
   generalize (w.alloc (.cells (rstC A (m + 1) c S).toArray 152)).alloc (.cells (rstC none 0 0 stk0).toArray 152) = V at *
   go_upto_region 1 with (fail)
   refine wp_region_lit ?_
   refine qA 152 (.tmp 2) bs vr1 vr2 (szRst _ _ _ _) ?_
   refine qw ?_
   refine wpq fun K hK => ?_
   go_simp
   refine (HI.out _ (HR0.out.later be)).mono ?_
   rintro e w1 ⟨bs1, d1, rfl, rfl⟩
   with_reducible refine hK _ _ ?_
   clear hK K
   replace bs := bs.later (below_plus V bs1 d1)
   replace bz := bz.later (below_plus V bs1 d1)
   replace be := belowP be bs1 d1
   have zW := bz.lt
   clear HI zV
   generalize plus V bs1 d1 = W at *
   refine qw ?_
   have q0 : W.cell? ⟨w.heap.size, 0, none⟩ = some (.slice A (m + 1) c) := bs.cell 0
   go_upto_region 5 with (fail)
   refine wp_region_lit ?_
   refine qA 152 (.tmp 2) bs vr1 vr2 (szRst A (m + 1) c S) ?_
   simp only [Act.put, qsT, qsZ, qsS]
   refine wpList_stA (t := 152) 152 (.tmp 4) (.tmp 19) rfl rfl (rstC A (m + 1) c S) (rstC none 0 0 stk0) (by rw [rstC_len, rstC_len]) (rstC_one _ _ _ _) rfl rfl bz (szRst _ _ _ _) ?_
   intro W9 h9 g9
   refine qw ?_
   go_wp2
   refine bodyPost_agg2 Tryz.results124 rfl rfl h9.range vr1 vr2 (szRst _ _ _ _) rfl ?_
   exact RetRS.mk (S' := S) (by rw [he.out]; rfl) (HR0.out.later (below_grown be g9 (by omega))) (below_grown be g9 (by omega))
 ·have hix : ixS S v = -1 := if_neg hl
  have he := qy (show EE = 24 by rw [← HEE.out]; unfold retE; rw [if_neg (by omega), if_neg (by have := idxS_le S v; omega)])
  have hs : retS S v = S := by unfold retS; rw [if_neg (by omega)]
  rw [hs]
  rw [hix] at HI
  clear hix hl HEE hs hn
  have hzv : ∀ w, (zeroValue 152).run Tryz.prog w = .ok (.agg (rstC none 0 0 stk0).toArray) w := fun _ => by kernel_rfl
  obtain ⟨dvr1, vr1, vr2⟩ := rowRst
  obtain ⟨bs, bz, be, zV⟩ := box2 w 152 152 (rstC A n c S) (rstC none 0 0 stk0)
  go_enter Tryz.func124, Tryz.ntmps124
  go_upto_region 1 with (fail)
  generalize (w.alloc (.cells (rstC A n c S).toArray 152)).alloc (.cells (rstC none 0 0 stk0).toArray 152) = V at *
  go_upto_region 1 with (fail)
  refine wp_region_lit ?_
  refine qA 152 (.tmp 2) bs vr1 vr2 (szRst A n c S) ?_
  refine qw ?_
  refine wpq fun K hK => ?_
  go_simp
  refine (HI.out _ (HR0.out.later be)).mono ?_
  rintro e w1 ⟨bs1, d1, rfl, rfl⟩
  with_reducible refine hK _ _ ?_
  clear hK K
  replace bs := bs.later (below_plus V bs1 d1)
  replace bz := bz.later (below_plus V bs1 d1)
  replace be := belowP be bs1 d1
  have zW := bz.lt
  clear HI zV
  generalize plus V bs1 d1 = W at *
  refine qw ?_
  go_upto_region 3 with (fail)
  refine wp_region_lit ?_
  refine qA 152 (.tmp 2) bs vr1 vr2 (szRst A n c S) ?_
  simp only [Act.put, qsT, qsZ, qsS]
  refine wpList_stA (t := 152) 152 (.tmp 4) (.tmp 12) rfl rfl (rstC A n c S) (rstC none 0 0 stk0) (by rw [rstC_len, rstC_len]) (rstC_one _ _ _ _) rfl rfl bz (szRst _ _ _ _) ?_
  intro W9 h9 g9
  refine qw ?_
  go_wp2
  refine bodyPost_agg2 Tryz.results124 rfl rfl h9.range vr1 vr2 (szRst _ _ _ _) rfl ?_
  exact RetRS.mk (S' := S) (by rw [he.out]; rfl) (HR0.out.later (below_grown be g9 (by omega))) (below_grown be g9 (by omega))
theorem Chg.wid {D D' : Nat → Prop} {w w' : World} (h : Chg D w w') (hd : ∀ b, D b → D' b) : Chg D' w w' := ⟨h.os, h.tape, h.output, h.size, fun b hb hn => h.block b hb (fun h => hn (hd b h))⟩
def newT (S : Stk) : Tab := (S.lv.getLast?.map (·.2)).getD []
theorem newT_ok {S : Stk} (h : StkOk S) : TabOk (newT S) := by
 unfold newT
 cases hl : S.lv.getLast? with
 | none => exact ⟨by simp, by simp⟩
 | some e => exact (h.rg e (List.mem_of_getLast? hl)).2
theorem newest_ex (S : Stk) (h8 : S.lv.length ≤ 8) : ∃ (x : Int) (b : Bool), ∀ (g : Nat) (w : World), Bk w g 210 (stkC S) → Calls Tryz.prog 142 #[.pointer (some ⟨g, 0, none⟩)] w (RetV w (.tuple #[.int .i64 x, .agg (tabC (newT S)).toArray, .bool b])) := by
 by_cases h0 : 0 < S.lv.length
 ·refine ⟨((S.lv[S.lv.length - 1]).1 : Nat), true, fun g w h => ?_⟩
  have := newest_yes S h8 h0 g w h
  have e : newT S = (S.lv[S.lv.length - 1]).2 := by
   unfold newT
   rw [List.getLast?_eq_getElem?, List.getElem?_eq_getElem (by omega)]
   rfl
  rw [e]
  exact this
 ·refine ⟨0, false, fun g w h => ?_⟩
  have := newest_no S (by omega) g w h
  have e : newT S = [] := by
   unfold newT
   rw [List.getLast?_eq_getElem?, List.getElem?_eq_none (by omega)]
   rfl
  rw [e]
  exact this
theorem Rs.noInt {s : Nat} {w w' : World} {A : Option Addr} {n c g : Nat} {cs ds : List Value} {t : TypeId} (h : Rs s w A n c cs) (hcs : cs ≠ [] → ∃ (j : Nat) (k : IntKind) (z : Int), cs[j]? = some (Value.int k z)) (hb : Bk w g t ds) (hds : ∀ u ∈ ds, ∀ (k : IntKind) (z : Int), u ≠ Value.int k z) (hg : w.grownBy w' (some g)) : Rs s w' A n c cs := by
 refine ⟨h.1, h.2.1, ?_⟩
 by_cases h0 : cs = []
 ·exact .inl h0
 ·rcases h.2.2 with h' | ⟨b, off, hA, hbl, hc⟩
  ·exact .inl h'
  ·refine .inr ⟨b, off, hA, Nat.lt_of_lt_of_le hbl hg.size, fun i u hu => ?_⟩
   have hne : b ≠ g := by
    rintro rfl
    obtain ⟨j, k, z, hj⟩ := hcs h0
    have h1 := hc j _ hj
    rw [hb.cell] at h1
    exact hds _ (List.mem_of_getElem? h1) k z rfl
   exact (World.cell?_of_block (hg.block b hbl (fun e => hne (by injection e)))).trans (hc i u hu)
theorem RSt.noInt {D : Nat → Prop} {w w' : World} {L : List (Nat × Tab)} {A : Option Addr} {n c g : Nat} {ds : List Value} {t : TypeId} (h : RSt D w L A n c) (hb : Bk w g t ds) (hds : ∀ u ∈ ds, ∀ (k : IntKind) (z : Int), u ≠ Value.int k z) (hg : w.grownBy w' (some g)) : RSt D w' L A n c := by
 obtain ⟨E, h1, h2, h3, h4⟩ := h
 refine ⟨E, ⟨h1.1, fun i a b => ⟨(h1.2 i a b).1, (h1.2 i a b).2.noInt (fun hne => ?_) hb hds hg⟩⟩, h2.noInt (fun hne => ?_) hb hds hg, h3.size hg.size, fun e he => (h4 e he).size hg.size⟩
 ·cases hL : refT L[i].2 with
  | nil => rw [hL] at hne; exact absurd rfl hne
  | cons x t => exact ⟨0, _, _, rfl⟩
 ·cases E with
  | nil => exact absurd rfl hne
  | cons e t => exact ⟨0, _, _, rfl⟩
def MP.rst (D : Nat → Prop) (S : Stk) (G : Value → Value) : MP := ⟨fun v w => ∃ A n c, v = G (.agg (rstC A n c S).toArray) ∧ RSt D w S.lv A n c, fun _ _ _ ⟨A, n, c, h1, h2⟩ h => ⟨A, n, c, h1, h2.later h.below⟩⟩
def MP.osw (e : TypeId) (s base : Nat) (cs : List Value) : MP := ⟨fun v w => ∃ A n c, v = .slice A n c ∧ Os e s w base A n c cs, fun _ _ _ ⟨A, n, c, h1, h2⟩ h => ⟨A, n, c, h1, h2.later h.below⟩⟩
end

section
open Go.RowKit
def RetBE (w : World) (l : List UInt8) (E : Int) (e : Ending) (w' : World) : Prop := ∃ A n c bs d, e = .returned (.tuple #[.slice A n c, .int .i64 E]) ∧ w' = plus w bs d ∧ Rb (plus w bs d) A n c l
theorem RetBE.mk {w w' : World} {l : List UInt8} {E : Int} {A : Option Addr} {n c : Nat} (h : Rb w' A n c l) (hb : Below w.heap.size w w') : RetBE w l E (.returned (.tuple #[.slice A n c, .int .i64 E])) w' := by
 obtain ⟨bs, d, rfl⟩ := plus_of hb
 exact ⟨A, n, c, bs, d, rfl, rfl, h⟩
end

section
attribute [local go_sem ↓] sliced_cut
attribute [local go_sem] cutA_zero
open Go.RowKit
abbrev StB := Option (List UInt8)
def tkB (n : Nat) : StB → List UInt8
 | none => []
 | some l => if n ≤ l.length then l.take n else []
def drB (n : Nat) : StB → StB
 | none => none
 | some l => if n ≤ l.length then some (l.drop n) else none
def SL (s : StB) : Prop := ∀ l, s = some l → l.length ≤ 1000000
theorem SL.dr {s : StB} (h : SL s) (n : Nat) : SL (drB n s) := by
 intro l hl
 cases s with
 | none => cases hl
 | some x =>
  simp only [drB] at hl
  split at hl
  ·injection hl with hl
   subst hl
   have := h x rfl
   rw [List.length_drop]
   omega
  ·cases hl
def numT (n : Nat) (s : StB) : Nat := num (tkB n s)
def RP (w : World) (r : Nat) : StB → Prop
 | none => Rdr w r [] true
 | some l => Rdr w r l false
theorem RP.lt {w : World} {r : Nat} {s : StB} (h : RP w r s) : r < w.heap.size := by
 cases s <;> exact Rdr.lt h
theorem RP.later {w w' : World} {r : Nat} {s : StB} (h : RP w r s) (hb : Below w.heap.size w w') : RP w' r s := by
 cases s <;> exact Rdr.later h hb
theorem RP.low {w w' : World} {r : Nat} {s : StB} (h : RP w r s) (hb : Below (r + 1) w w') : RP w' r s := by
 cases s <;> (obtain ⟨A, n, c, h1, h2, h3, h4⟩ := h; exact ⟨A, n, c, (hb.block r (by omega)).trans h1, h2, h3, h4.below ⟨hb.os, hb.tape, hb.output, hb.size, fun k hk => hb.block k (by omega)⟩⟩)
def adX (x : List UInt8) : Option (Bool × Nat × Nat) := if x.length = 4 then some (false, 0, num x) else if x.length = 16 then some (true, num (x.take 8), num (x.drop 8)) else none
def adS (s : StB) : Option ((Bool × Nat × Nat) × StB) := (adX (tkB (numT 1 s) (drB 1 s))).map fun q => (q, drB (numT 1 s) (drB 1 s))
def drs : Nat → StB → StB
 | 0, s => s
 | i + 1, s => drB 1 (drB 1 (drs i s))
def mbs : Nat → StB → List (Int × Int)
 | 0, _ => []
 | i + 1, s => mbs i s ++ [((numT 1 (drs i s) : Int), (numT 1 (drB 1 (drs i s)) : Int))]
def mbS (s : StB) : Option (List (Int × Int) × List UInt8) := if numT 1 s ≤ 64 then (drs (numT 1 s) (drB 1 s)).map fun l => (mbs (numT 1 s) (drB 1 s), l) else none
theorem etCm : ET Tryz.prog 65 128 (.agg #[.int .i64 0, .int .i64 0]) 2 16 := ⟨Tryz.underlying65, by kernel_rfl, rfl, by decide, by decide⟩
def opC (k v b e : Int) (six : Bool) (ah al pt pr : Nat) (wy : Int) (A : Option Addr) (n c : Nat) : List Value := [.int .i64 k, .int .i64 v, .int .i64 b, .int .i64 e, .bool six, .int .u64 (ah : Int), .int .u64 (al : Int), .int .u16 (pt : Int), .int .u8 (pr : Int), .int .i64 wy, .slice A n c]
theorem opC_one (k v b e : Int) (six : Bool) (ah al pt pr : Nat) (wy : Int) (A : Option Addr) (n c : Nat) : ∀ u ∈ opC k v b e six ah al pt pr wy A n c, u.oneCell' = true := by simp [opC, Value.oneCell']
theorem szOp (k v b e : Int) (six : Bool) (ah al pt pr : Nat) (wy : Int) (A : Option Addr) (n c : Nat) : (Tryz.prog.info? 67).map (·.size) = some (opC k v b e six ah al pt pr wy A n c).length := by kernel_rfl
theorem rowOpC : ∃ d, Tryz.prog.underlying 67 = some d ∧ d.isRow = true := ⟨_, Tryz.underlying67, rfl⟩
structure OpR where
 k : Int
 v : Int
 b : Int
 e : Int
 six : Bool
 ah : Nat
 al : Nat
 pt : Nat
 pr : Nat
 wy : Int
 ms : List (Int × Int)
def OpR.cells (o : OpR) (A : Option Addr) (n c : Nat) : List Value := opC o.k o.v o.b o.e o.six o.ah o.al o.pt o.pr o.wy A n c
def popE (k v b e : Nat) (q : Bool × Nat × Nat) (pt pr wy : Nat) : Option (List (Int × Int) × List UInt8) → Option OpR
 | some (L, []) => some ⟨k, v, b, e, q.1, q.2.1, q.2.2, pt, pr, wy, L⟩
 | _ => none
def popS (L : List UInt8) : Option OpR :=
 let s1 := drB 1 (some L); let s2 := drB 1 s1; let s3 := drB 1 s2; let s4 := drB 1 s3
 (adS s4).bind fun p => popE (numT 1 (some L)) (numT 1 s1) (numT 1 s2) (numT 1 s3) p.1 (numT 2 p.2) (numT 1 (drB 2 p.2)) (numT 1 (drB 1 (drB 2 p.2))) (mbS (drB 1 (drB 1 (drB 2 p.2))))
def OpR.fine (o : OpR) : Prop := (0 ≤ o.k ∧ o.k < 256) ∧ (0 ≤ o.v ∧ o.v < 256) ∧ (0 ≤ o.b ∧ o.b < 256) ∧ (0 ≤ o.e ∧ o.e < 256) ∧ o.ah < 18446744073709551616 ∧ o.al < 18446744073709551616 ∧ o.pt < 65536 ∧ o.pr < 256 ∧ (0 ≤ o.wy ∧ o.wy < 256) ∧ o.ms.length ≤ 64
def RetPO (w : World) (L : List UInt8) (F : Bool → Value) (e : Ending) (w' : World) : Prop := ∃ (o : OpR) (ok : Bool) (A : Option Addr) (n c : Nat) (bs : List Obj) (d : Nat), e = .returned (.tuple #[.agg (o.cells A n c).toArray, F ok]) ∧ w' = plus w bs d ∧ o.fine ∧ Rs 2 (plus w bs d) A n c (prs .i64 o.ms) ∧ (ok = true ∧ popS L = some o ∨ ok = false ∧ popS L = none ∧ o = ⟨0, 0, 0, 0, false, 0, 0, 0, 0, 0, []⟩)
theorem OpR.fine0 : OpR.fine ⟨0, 0, 0, 0, false, 0, 0, 0, 0, 0, []⟩ := by simp [OpR.fine]
theorem RetPO.none_ {w w' : World} {L : List UInt8} {F : Bool → Value} (h : popS L = none) (hb : Below w.heap.size w w') : RetPO w L F (.returned (.tuple #[.agg (opC 0 0 0 0 false 0 0 0 0 0 none 0 0).toArray, F false])) w' := by
 obtain ⟨bs, d, rfl⟩ := plus_of hb
 exact ⟨_, false, none, 0, 0, bs, d, rfl, rfl, OpR.fine0, Rs.nil_, .inr ⟨rfl, h, rfl⟩⟩
def RetSeg (w : World) (x0 x1 x2 x3 x4 x5 x6 x7 : Nat) (l l2 : List UInt8) (v : Value) (e : Ending) (w' : World) : Prop :=
 ∃ A n c A2 n2 c2 bs d, e = .returned (.tuple #[.agg #[.int .u16 x0, .int .u16 x1, .int .u32 x2, .int .u32 x3, .int .u8 x4, .int .u16 x5, .int .u16 x6, .int .u16 x7, .slice A n c, .slice A2 n2 c2], v]) ∧ w' = plus w bs d ∧ Rb (plus w bs d) A n c l ∧ Rb (plus w bs d) A2 n2 c2 l2
theorem RetSeg.mk {w w' : World} {x0 x1 x2 x3 x4 x5 x6 x7 : Nat} {l l2 : List UInt8} {A : Option Addr} {n c : Nat} {A2 : Option Addr} {n2 c2 : Nat} {v : Value} (h1 : Rb w' A n c l) (h2 : Rb w' A2 n2 c2 l2) (hb : Below w.heap.size w w') :
  RetSeg w x0 x1 x2 x3 x4 x5 x6 x7 l l2 v (.returned (.tuple #[.agg #[.int .u16 x0, .int .u16 x1, .int .u32 x2, .int .u32 x3, .int .u8 x4, .int .u16 x5, .int .u16 x6, .int .u16 x7, .slice A n c, .slice A2 n2 c2], v])) w' := by
 obtain ⟨bs, d, rfl⟩ := plus_of hb
 exact ⟨A, n, c, A2, n2, c2, bs, d, rfl, rfl, h1, h2⟩
def RetSegF (w : World) (x0 x1 x2 x3 x4 x5 x6 x7 : Nat) (l l2 : List UInt8) (v : Value) (e : Ending) (w' : World) : Prop :=
 ∃ A n c A2 n2 c2 bs d, e = .returned (.tuple #[.agg #[.int .u16 x0, .int .u16 x1, .int .u32 x2, .int .u32 x3, .int .u8 x4, .int .u16 x5, .int .u16 x6, .int .u16 x7, .slice A n c, .slice A2 n2 c2], v]) ∧ w' = plus w bs d ∧ Rb (plus w bs d) A n c l ∧ Rb (plus w bs d) A2 n2 c2 l2 ∧ (∀ a, A = some a → w.heap.size ≤ a.block) ∧ ∀ a, A2 = some a → w.heap.size ≤ a.block
theorem Ob.freshT {w : World} {w0 base : Nat} {A : Option Addr} {n c : Nat} {l : List UInt8} (h : Ob w base A n c l) (hb : w0 ≤ base) : ∀ a, A = some a → w0 ≤ a.block := fun a ha => by
 subst ha
 have := (h.blk a.block rfl).1
 omega
theorem RetSegF.mk {w w' : World} {x0 x1 x2 x3 x4 x5 x6 x7 : Nat} {l l2 : List UInt8} {A : Option Addr} {n c : Nat} {A2 : Option Addr} {n2 c2 : Nat} {v : Value} {b1 b2 : Nat} (h1 : Ob w' b1 A n c l) (h2 : Ob w' b2 A2 n2 c2 l2) (hb : Below w.heap.size w w') (f1 : w.heap.size ≤ b1) (f2 : w.heap.size ≤ b2) :
  RetSegF w x0 x1 x2 x3 x4 x5 x6 x7 l l2 v (.returned (.tuple #[.agg #[.int .u16 x0, .int .u16 x1, .int .u32 x2, .int .u32 x3, .int .u8 x4, .int .u16 x5, .int .u16 x6, .int .u16 x7, .slice A n c, .slice A2 n2 c2], v])) w' := by
 obtain ⟨bs, d, rfl⟩ := plus_of hb
 exact ⟨A, n, c, A2, n2, c2, bs, d, rfl, rfl, h1.rb, h2.rb, h1.freshT f1, h2.freshT f2⟩
theorem RetSeg.zero {w w' : World} {v : Value} (hb : Below w.heap.size w w') : RetSeg w 0 0 0 0 0 0 0 0 [] [] v (.returned (.tuple #[.agg #[.int .u16 0, .int .u16 0, .int .u32 0, .int .u32 0, .int .u8 0, .int .u16 0, .int .u16 0, .int .u16 0, .slice none 0 0, .slice none 0 0], v])) w' := RetSeg.mk Rb.nil_ Rb.nil_ hb
def RR (w : World) (r : Nat) : StB → Prop
 | none => ∃ A n c, Bk w r 178 [.slice A n c, .bool true]
 | some l => ∃ A n c, Bk w r 178 [.slice A n c, .bool false] ∧ l.length = n ∧ n ≤ c ∧ Rd w r A (bcs l)
theorem RR.bk {w : World} {r : Nat} {s : StB} (h : RR w r s) : ∃ A n c, Bk w r 178 [.slice A n c, .bool s.isNone] := by
 cases s with
 | none => exact h
 | some l =>
  obtain ⟨A, n, c, h1, _⟩ := h
  exact ⟨A, n, c, h1⟩
theorem RR.lt {w : World} {r : Nat} {s : StB} (h : RR w r s) : r < w.heap.size := by
 obtain ⟨A, n, c, h1⟩ := h.bk
 exact h1.lt
theorem RR.low {w w' : World} {r : Nat} {s : StB} (h : RR w r s) (hb : Below (r + 1) w w') : RR w' r s := by
 cases s with
 | none =>
  obtain ⟨A, n, c, h1⟩ := h
  exact ⟨A, n, c, (hb.block r (by omega)).trans h1⟩
 | some l =>
  obtain ⟨A, n, c, h1, h2, h3, h4⟩ := h
  exact ⟨A, n, c, (hb.block r (by omega)).trans h1, h2, h3, h4.below ⟨hb.os, hb.tape, hb.output, hb.size, fun k hk => hb.block k (by omega)⟩⟩
theorem RR.later {w w' : World} {r : Nat} {s : StB} (h : RR w r s) (hb : Below w.heap.size w w') : RR w' r s := h.low (hb.mono h.lt)
theorem szRo (k v b e : Int) (six : Bool) (ah al pt pr : Nat) (wy : Int) (A : Option Addr) (n c : Nat) : (Tryz.prog.info? 57).map (·.size) = some (opC k v b e six ah al pt pr wy A n c).length := by kernel_rfl
theorem rowRo : ∃ d, Tryz.prog.underlying 57 = some d ∧ d.isRow = true := ⟨_, Tryz.underlying57, rfl⟩
def shB (n : Int) : Bool := decide (0 ≤ n) && decide (n < 256)
def adG (six : Bool) (h l : Nat) : Bool := six || (decide (h = 0) && decide (l < 4294967296))
theorem short_any (n : Int) (w : World) : Calls Tryz.prog 84 #[.int .i64 n] w fun e w' => e = .returned (.bool (shB n)) ∧ w = w' := by
 by_cases h0 : 0 ≤ n
 ·by_cases h1 : n < 256
  ·have d0 : decide (0 ≤ n) = true := by simpa using h0
   have d1 : decide (n ≤ 255) = true := by simp; omega
   have hz : Hid (shB n = true) := qy (by simp [shB]; omega)
   have k1 : n ≤ 255 := by omega
   go_enter Tryz.func84, Tryz.ntmps84
   go_wp2
   go_ret
   exact ⟨by rw [hz.out]; simp; try omega, rfl⟩
  ·have d0 : decide (0 ≤ n) = true := by simpa using h0
   have d1 : decide (n ≤ 255) = false := by simp; omega
   have hz : Hid (shB n = false) := qy (by simp [shB]; omega)
   have k1 : ¬ n ≤ 255 := by omega
   go_enter Tryz.func84, Tryz.ntmps84
   go_wp2
   go_ret
   exact ⟨by rw [hz.out]; simp; try omega, rfl⟩
 ·have d0 : decide (0 ≤ n) = false := by simpa using h0
  have hz : Hid (shB n = false) := qy (by simp [shB]; omega)
  go_enter Tryz.func84, Tryz.ntmps84
  go_wp2
  go_ret
  exact ⟨by rw [hz.out]; simp; try omega, rfl⟩
theorem small_any (n : Int) (w : World) : Calls Tryz.prog 89 #[.int .i64 n] w fun e w' => e = .returned (.bool (shB n)) ∧ w = w' := by
 by_cases h0 : 0 ≤ n
 ·by_cases h1 : n < 256
  ·have d0 : decide (0 ≤ n) = true := by simpa using h0
   have d1 : decide (n < 256) = true := by simp; omega
   have hz : Hid (shB n = true) := qy (by simp [shB]; omega)
   have k1 : n < 256 := by omega
   go_enter Tryz.func89, Tryz.ntmps89
   go_wp2
   go_ret
   exact ⟨by rw [hz.out]; simp; try omega, rfl⟩
  ·have d0 : decide (0 ≤ n) = true := by simpa using h0
   have d1 : decide (n < 256) = false := by simp; omega
   have hz : Hid (shB n = false) := qy (by simp [shB]; omega)
   have k1 : ¬ n < 256 := by omega
   go_enter Tryz.func89, Tryz.ntmps89
   go_wp2
   go_ret
   exact ⟨by rw [hz.out]; simp; try omega, rfl⟩
 ·have d0 : decide (0 ≤ n) = false := by simpa using h0
  have hz : Hid (shB n = false) := qy (by simp [shB]; omega)
  go_enter Tryz.func89, Tryz.ntmps89
  go_wp2
  go_ret
  exact ⟨by rw [hz.out]; simp; try omega, rfl⟩
theorem adrRightC (six : Bool) (h l : Nat) (w : World) (hl : l < 18446744073709551616) : Calls Tryz.prog 85 #[.agg (adC six h l).toArray] w (RetV w (.bool (adG six h l))) := by
 unfold adC
 cases six
 ·by_cases h0 : h = 0
  ·subst h0
   by_cases h1 : l < 4294967296
   ·have t1 : decide (l < 4294967296) = true := by simp; omega
    have hz : Hid (adG false 0 l = true) := qy (by simp [adG]; omega)
    go_enter Tryz.func85, Tryz.ntmps85
    go_wp2
    go_ret
    exact RetV.is_ (by rw [hz.out]; simp; try omega) (Below.allocS (Below.refl _ _) _)
   ·have t1 : decide (l < 4294967296) = false := by simp; omega
    have hz : Hid (adG false 0 l = false) := qy (by simp [adG]; omega)
    go_enter Tryz.func85, Tryz.ntmps85
    go_wp2
    go_ret
    exact RetV.is_ (by rw [hz.out]; simp; try omega) (Below.allocS (Below.refl _ _) _)
  ·have e1 : ((h : Int) == 0) = false := by rw [beq_eq_false_iff_ne]; omega
   have hz : Hid (adG false h l = false) := qy (by simp [adG]; omega)
   clear h0
   go_enter Tryz.func85, Tryz.ntmps85
   go_wp2
   go_ret
   exact RetV.is_ (by rw [hz.out]; rfl) (Below.allocS (Below.refl _ _) _)
 ·go_enter Tryz.func85, Tryz.ntmps85
  go_wp2
  go_ret
  exact RetV.is_ rfl (Below.allocS (Below.refl _ _) _)
theorem refAdrRightC (six : Bool) (h l : Nat) (w : World) (hl : l < 18446744073709551616) : Calls Tryz.prog 90 #[.agg (adC six h l).toArray] w (RetV w (.bool (adG six h l))) := by
 unfold adC
 cases six
 ·by_cases h0 : h = 0
  ·subst h0
   by_cases h1 : l < 4294967296
   ·have t1 : decide (l ≤ 4294967295) = true := by simp; omega
    have hz : Hid (adG false 0 l = true) := qy (by simp [adG]; omega)
    go_enter Tryz.func90, Tryz.ntmps90
    go_wp2
    go_ret
    exact RetV.is_ (by rw [hz.out]; simp; try omega) (Below.allocS (Below.refl _ _) _)
   ·have t1 : decide (l ≤ 4294967295) = false := by simp; omega
    have hz : Hid (adG false 0 l = false) := qy (by simp [adG]; omega)
    go_enter Tryz.func90, Tryz.ntmps90
    go_wp2
    go_ret
    exact RetV.is_ (by rw [hz.out]; simp; try omega) (Below.allocS (Below.refl _ _) _)
  ·have e1 : ((h : Int) == 0) = false := by rw [beq_eq_false_iff_ne]; omega
   have hz : Hid (adG false h l = false) := qy (by simp [adG]; omega)
   clear h0
   go_enter Tryz.func90, Tryz.ntmps90
   go_wp2
   go_ret
   exact RetV.is_ (by rw [hz.out]; rfl) (Below.allocS (Below.refl _ _) _)
 ·go_enter Tryz.func90, Tryz.ntmps90
  go_wp2
  go_ret
  exact RetV.is_ rfl (Below.allocS (Below.refl _ _) _)
def rightB (k v b e : Int) (six : Bool) (ah al : Nat) (wy : Int) (ms : List (Int × Int)) : Bool := (shB k && shB v && shB b && shB e && shB wy) && (adG six ah al && (decide (ms.length ≤ 64) && ms.all (fun p => shB p.1 && shB p.2)))
theorem rng_pr {w : World} {b off : Nat} {p : Int × Int} (h : w.cell? ⟨b, off, none⟩ = some (.int .i64 p.1) ∧ w.cell? ⟨b, off + 1, none⟩ = some (.int .i64 p.2)) : w.rangeAt b off [.int .i64 p.1, .int .i64 p.2] := by
 intro i u hu
 match i, hu with
 | 0, hu => simp at hu; subst hu; exact h.1
 | 1, hu => simp at hu; subst hu; exact h.2
 | i + 2, hu => simp at hu
theorem right_any (k v b e : Int) (six : Bool) (ah al pt pr : Nat) (wy : Int) (ms : List (Int × Int)) (A : Option Addr) (n c : Nat) (w : World) (ha : al < 18446744073709551616) (hr : Rs 2 w A n c (prs .i64 ms)) (hn : n ≤ 1000000) : Calls Tryz.prog 40 #[.agg (opC k v b e six ah al pt pr wy A n c).toArray] w (RetV w (.bool (rightB k v b e six ah al wy ms))) := by
 obtain ⟨da, a1, a2⟩ : ∃ d, Tryz.prog.underlying 53 = some d ∧ d.isRow = true := ⟨_, Tryz.underlying53, rfl⟩
 obtain ⟨dm, m1, m2⟩ : ∃ d, Tryz.prog.underlying 128 = some d ∧ d.isRow = true := ⟨_, Tryz.underlying128, rfl⟩
 have hml : ms.length = n := by have := hr.1; rw [prs_length] at this; omega
 have HAR := qy (fun w => adrRightC six ah al w ha)
 replace hr := hr.alloc (.cells (opC k v b e six ah al pt pr wy A n c).toArray 67)
 obtain ⟨dv1, v1, v2⟩ := rowOpC
 obtain ⟨b1, be, zV⟩ := box1 w 67 (opC k v b e six ah al pt pr wy A n c)
 go_enter Tryz.func40, Tryz.ntmps40
 go_upto_region 1 with (fail)
 generalize w.alloc (.cells (opC k v b e six ah al pt pr wy A n c).toArray 67) = V at *
 have q0 : V.cell? ⟨w.heap.size, 0, none⟩ = some (.int .i64 k) := b1.cell 0
 have q1 : V.cell? ⟨w.heap.size, 1, none⟩ = some (.int .i64 v) := b1.cell 1
 have q2 : V.cell? ⟨w.heap.size, 2, none⟩ = some (.int .i64 b) := b1.cell 2
 have q3 : V.cell? ⟨w.heap.size, 3, none⟩ = some (.int .i64 e) := b1.cell 3
 have q9 : V.cell? ⟨w.heap.size, 9, none⟩ = some (.int .i64 wy) := b1.cell 9
 go_upto_region 2 with (fail)
 clear q0 q1 q2 q3 q9
 go_loop [18] (fun I => ∃ i : Nat, I = .int .i64 (i : Int) ∧ i ≤ 5 ∧ (1 ≤ i → shB k = true) ∧ (2 ≤ i → shB v = true) ∧ (3 ≤ i → shB b = true) ∧ (4 ≤ i → shB e = true) ∧ (5 ≤ i → shB wy = true)) (fun I => 5 - (intOf I).toNat)
 case atStart => exact ⟨0, rfl, by omega, fun h => by omega, fun h => by omega, fun h => by omega, fun h => by omega, fun h => by omega⟩
 case round =>
  obtain ⟨i, rfl, hi, hp⟩ := hrel
  rcases (by omega : i = 0 ∨ i = 1 ∨ i = 2 ∨ i = 3 ∨ i = 4 ∨ i = 5) with rfl | rfl | rfl | rfl | rfl | rfl
  ·have hx := qy (short_any k)
   have hix : (Instr.index 182 (.agg #[.int .i64 k, .int .i64 v, .int .i64 b, .int .i64 e, .int .i64 wy]) (.int .i64 0)).run Tryz.prog V = .ok (.int .i64 k) V := by
    show _ = _
    kernel_rfl
   go_wp2_with fail
   refine (hx.out _).mono ?_
   rintro e1 w1 ⟨rfl, rfl⟩
   cases hb : shB k with
   | false =>
    have hno : Hid (rightB k v b e six ah al wy ms = false) := qy (by simp [rightB, hb])
    go_wp2
    go_ret
    exact RetV.is_ (by rw [hno.out]; rfl) be
   | true =>
    clear hx
    go_wp2
    go_round
    case rel => exact ⟨1, rfl, by omega, fun _ => hb, fun h => by omega, fun h => by omega, fun h => by omega, fun h => by omega⟩
    case measure => simp [intOf]
  ·have hx := qy (short_any v)
   have hix : (Instr.index 182 (.agg #[.int .i64 k, .int .i64 v, .int .i64 b, .int .i64 e, .int .i64 wy]) (.int .i64 1)).run Tryz.prog V = .ok (.int .i64 v) V := by
    show _ = _
    kernel_rfl
   go_wp2_with fail
   refine (hx.out _).mono ?_
   rintro e1 w1 ⟨rfl, rfl⟩
   cases hb : shB v with
   | false =>
    have hno : Hid (rightB k v b e six ah al wy ms = false) := qy (by simp [rightB, hb])
    go_wp2
    go_ret
    exact RetV.is_ (by rw [hno.out]; rfl) be
   | true =>
    clear hx
    go_wp2
    go_round
    case rel => exact ⟨2, rfl, by omega, fun h => hp.1 (by omega), fun _ => hb, fun h => by omega, fun h => by omega, fun h => by omega⟩
    case measure => simp [intOf]
  ·have hx := qy (short_any b)
   have hix : (Instr.index 182 (.agg #[.int .i64 k, .int .i64 v, .int .i64 b, .int .i64 e, .int .i64 wy]) (.int .i64 2)).run Tryz.prog V = .ok (.int .i64 b) V := by
    show _ = _
    kernel_rfl
   go_wp2_with fail
   refine (hx.out _).mono ?_
   rintro e1 w1 ⟨rfl, rfl⟩
   cases hb : shB b with
   | false =>
    have hno : Hid (rightB k v b e six ah al wy ms = false) := qy (by simp [rightB, hb])
    go_wp2
    go_ret
    exact RetV.is_ (by rw [hno.out]; rfl) be
   | true =>
    clear hx
    go_wp2
    go_round
    case rel => exact ⟨3, rfl, by omega, fun h => hp.1 (by omega), fun h => hp.2.1 (by omega), fun _ => hb, fun h => by omega, fun h => by omega⟩
    case measure => simp [intOf]
  ·have hx := qy (short_any e)
   have hix : (Instr.index 182 (.agg #[.int .i64 k, .int .i64 v, .int .i64 b, .int .i64 e, .int .i64 wy]) (.int .i64 3)).run Tryz.prog V = .ok (.int .i64 e) V := by
    show _ = _
    kernel_rfl
   go_wp2_with fail
   refine (hx.out _).mono ?_
   rintro e1 w1 ⟨rfl, rfl⟩
   cases hb : shB e with
   | false =>
    have hno : Hid (rightB k v b e six ah al wy ms = false) := qy (by simp [rightB, hb])
    go_wp2
    go_ret
    exact RetV.is_ (by rw [hno.out]; rfl) be
   | true =>
    clear hx
    go_wp2
    go_round
    case rel => exact ⟨4, rfl, by omega, fun h => hp.1 (by omega), fun h => hp.2.1 (by omega), fun h => hp.2.2.1 (by omega), fun _ => hb, fun h => by omega⟩
    case measure => simp [intOf]
  ·have hx := qy (short_any wy)
   have hix : (Instr.index 182 (.agg #[.int .i64 k, .int .i64 v, .int .i64 b, .int .i64 e, .int .i64 wy]) (.int .i64 4)).run Tryz.prog V = .ok (.int .i64 wy) V := by
    show _ = _
    kernel_rfl
   go_wp2_with fail
   refine (hx.out _).mono ?_
   rintro e1 w1 ⟨rfl, rfl⟩
   cases hb : shB wy with
   | false =>
    have hno : Hid (rightB k v b e six ah al wy ms = false) := qy (by simp [rightB, hb])
    go_wp2
    go_ret
    exact RetV.is_ (by rw [hno.out]; rfl) be
   | true =>
    clear hx
    go_wp2
    go_round
    case rel => exact ⟨5, rfl, by omega, fun h => hp.1 (by omega), fun h => hp.2.1 (by omega), fun h => hp.2.2.1 (by omega), fun h => hp.2.2.2.1 (by omega), fun _ => hb⟩
    case measure => simp [intOf]
  ·have HK : Hid (shB k = true ∧ shB v = true ∧ shB b = true ∧ shB e = true ∧ shB wy = true) := qy ⟨hp.1 (by omega), hp.2.1 (by omega), hp.2.2.1 (by omega), hp.2.2.2.1 (by omega), hp.2.2.2.2 (by omega)⟩
   clear hp hi
   go_wp2_with (refine at_op (.load 53 (.tmp 25)) rfl ?_; refine wpList_ldA (t := 67) (off := 4) 53 (.tmp 25) rfl rfl (adC six ah al) rfl b1 rfl a1 a2 (szAd _ _ _) ?_)
   refine (HAR.out _).mono ?_
   rintro e1 w1 ⟨bs1, d1, rfl, rfl⟩
   replace b1 := b1.later (below_plus V bs1 d1)
   replace hr := hr.later (below_plus V bs1 d1)
   replace be := belowP be bs1 d1
   have q10 : (plus V bs1 d1).cell? ⟨w.heap.size, 10, none⟩ = some (.slice A n c) := b1.cell 10
   clear HAR
   generalize plus V bs1 d1 = V2 at *
   cases had : adG six ah al with
   | false =>
    have hno : Hid (rightB k v b e six ah al wy ms = false) := qy (by simp [rightB, had])
    go_wp2
    go_ret
    exact RetV.is_ (by rw [hno.out]; rfl) be
   | true =>
    by_cases h64 : 64 < n
    ·have i64 : (64 : Int) < (n : Int) := by omega
     have hml9 : ¬ ms.length ≤ 64 := by omega
     have hno : Hid (rightB k v b e six ah al wy ms = false) := qy (by simp [rightB, hml9])
     go_wp2
     go_ret
     exact RetV.is_ (by rw [hno.out]; rfl) be
    have i64 : ¬ (64 : Int) < (n : Int) := by omega
    go_upto_region 10 with (fail)
    have hB0 : Hid (Below w.heap.size w V2) := qy be
    clear be
    go_loopw [38] (fun I wr => ∃ i : Nat, I = .int .i64 (i : Int) ∧ i ≤ n ∧ Below V2.heap.size V2 wr ∧ (ms.take i).all (fun p => shB p.1 && shB p.2) = true) (fun I _ => n - (intOf I).toNat)
    case atStart => exact ⟨0, rfl, Nat.zero_le _, Below.refl _ _, rfl⟩
    case round =>
     obtain ⟨i, rfl, hi, hE, hall⟩ := hrel
     have be9 : Hid (Below w.heap.size w wr) := qy (hB0.out.trans (hE.mono hB0.out.size))
     by_cases hlt : i < n
     ·have ii : (i : Int) < (n : Int) := by omega
      have hjL : i < ms.length := by omega
      obtain ⟨bl, ol, rfl, hbl, -⟩ := (hr.later hE).at_ (by omega) (by decide)
      have hg7 := rng_pr ((hr.later hE).range2 i hjL)
      have hsn : ms.take (i + 1) = ms.take i ++ [ms[i]] := by simp
      have hmem : ms[i] ∈ ms := List.getElem_mem hjL
      generalize ms[i] = p at *
      obtain ⟨x, y⟩ := p
      replace hsn := qy hsn
      have hx := qy (short_any x)
      have hy := qy (short_any y)
      have hbad : Hid (shB x = false ∨ shB y = false → rightB k v b e six ah al wy ms = false) := qy (fun h => by
       have : ms.all (fun p => shB p.1 && shB p.2) = false := by
        rw [List.all_eq_false]
        exact ⟨(x, y), hmem, by rcases h with h | h <;> simp [h]⟩
       simp [rightB, this])
      clear hmem
      go_upto_region 12 with (first
       | (refine at_op (.load 128 (.tmp 40)) rfl ?_; refine wpList_load_mid rfl 128 (.tmp 40) rfl bl (ol + i * 2) rfl [.int .i64 x, .int .i64 y] _ hg7 m1 m2 (by kernel_rfl) ?_)
       | (refine at_op (.store 128 (.tmp 6) (.tmp 41)) rfl ?_; refine wpList_stA (t := 128) 128 (.tmp 6) (.tmp 41) rfl rfl [.int .i64 x, .int .i64 y] [.int .i64 0, .int .i64 0] rfl (by simp [Value.oneCell']) rfl rfl (Bk.new _ _ _) (by kernel_rfl) ?_; intro W4 h4 g4))
      have be4 : Below wr.heap.size wr W4 := below_grown (Below.allocS (Below.refl _ _) _) g4 (Nat.le_refl _)
      have q0 : W4.cell? ⟨wr.heap.size, 0, none⟩ = some (.int .i64 x) := h4.cell 0
      have q1 : W4.cell? ⟨wr.heap.size, 1, none⟩ = some (.int .i64 y) := h4.cell 1
      have be10 : Hid (Below w.heap.size w W4) := qy (be9.out.trans (be4.mono be9.out.size))
      replace hE := hE.trans (be4.mono hE.size)
      clear be4 h4 g4
      generalize wr.heap.size = g6 at *
      go_wp2_with fail
      refine (hx.out _).mono ?_
      rintro e1 w1 ⟨rfl, rfl⟩
      cases hbx : shB x with
      | false =>
       have hno : Hid (rightB k v b e six ah al wy ms = false) := qy (hbad.out (.inl hbx))
       clear hbad
       go_wp2
       go_ret
       exact RetV.is_ (by rw [hno.out]; rfl) be10.out
      | true =>
       go_wp2_with fail
       refine (hy.out _).mono ?_
       rintro e1 w1 ⟨rfl, rfl⟩
       cases hby : shB y with
       | false =>
        have hno : Hid (rightB k v b e six ah al wy ms = false) := qy (hbad.out (.inr hby))
        clear hbad
        go_wp2
        go_ret
        exact RetV.is_ (by rw [hno.out]; rfl) be10.out
       | true =>
        clear hbad
        go_wp2
        exact ⟨⟨i + 1, by go_num, by omega, hE, by rw [hsn.out, List.all_append, hall]; simp [hbx, hby]⟩, by simp [intOf]; omega⟩
     ·obtain rfl : i = n := by omega
      have ii : ¬ (i : Int) < (i : Int) := by omega
      have hyes : Hid (rightB k v b e six ah al wy ms = true) := qy (by
       have h1 := HK.out
       have : ms.all (fun p => shB p.1 && shB p.2) = true := by rw [← hall, List.take_of_length_le (by omega)]
       simp [rightB, h1, had, this]
       omega)
      go_wp2
      go_ret
      exact RetV.is_ (by rw [hyes.out]; rfl) be9.out
end

section
abbrev Adr := Bool × Nat × Nat
structure Vp where
 ad : Adr
 pt : Nat
 pr : Nat
 wy : Int
 ms : List (Int × Int)
 S : Stk
structure Cf where
 num : Nat
 key : List UInt8
 now : Nat
 bk : List (Option Adr)
 vs : List Vp
def knC (C : Cf) (n : Int) : Bool := decide (1 ≤ n) && decide (n ≤ 64) && (C.bk.getD n.toNat none).isSome
def eqV (a : Adr) (pt pr : Nat) (v : Vp) : Bool := decide (v.ad = a ∧ v.pt = pt ∧ v.pr = pr)
def fdC (C : Cf) (a : Adr) (pt pr : Nat) : Nat := C.vs.findIdx (eqV a pt pr)
def wtB (x : Int) : Bool := decide (0 ≤ x) && decide (x ≤ 100)
def okM (C : Cf) (l : List (Int × Int)) : Bool := l.all (fun p => knC C p.1 && wtB p.2) && decide ((l.map (·.1)).Nodup)
def ev0 (C : Cf) : Nat := (C.vs.head?.map (·.S.ev)).getD 0
def newV (C : Cf) (o : OpR) : Vp := ⟨(o.six, o.ah, o.al), o.pt, o.pr, o.wy, [], ⟨[], ev0 C, 0⟩⟩
def wyB (x : Int) : Bool := decide (1 ≤ x) && decide (x ≤ 4)
def addE (C : Cf) (o : OpR) : Nat :=
 if (adG o.six o.ah o.al && (decide (o.pr = 6 ∨ o.pr = 17) && wyB o.wy)) = false then 1
 else if fdC C (o.six, o.ah, o.al) o.pt o.pr < C.vs.length then 7
 else if 16 ≤ C.vs.length then 23 else 0
def tabS (S : Stk) (ms : List (Int × Int)) : Tab := tNext (newT S) (ms.map (·.1))
def setE (C : Cf) (v : Vp) (ms : List (Int × Int)) : Nat := if okM C ms = false then 1 else pushE v.S
def setV (v : Vp) (ms : List (Int × Int)) : Vp := { v with S := pushS v.S (tabS v.S ms), ms := ms }
def mrkE (S : Stk) (k n : Int) : Nat := if k = 7 then admE S n else eviE S n
def mrkS (S : Stk) (k n : Int) : Stk := if k = 7 then admS S n else eviS S n
def mrkV (k n : Int) (v : Vp) : Vp := { v with S := mrkS v.S k n }
def markE (C : Cf) (k n : Int) : Nat := if knC C n = false then 6 else match C.vs with | [] => 1 | v :: _ => mrkE v.S k n
def vAt (C : Cf) (n : Int) : Option Vp := if 0 ≤ n then C.vs[n.toNat]? else none
def vipE (C : Cf) (o : OpR) (v : Vp) : Nat := if o.k = 3 then setE C v o.ms else if o.k = 4 then retE v.S o.e else if o.k = 5 then rlsE v.S o.e else 1
def vipV (o : OpR) (v : Vp) : Vp := if o.k = 3 then setV v o.ms else if o.k = 4 then { v with S := retS v.S o.e } else { v with S := rlsS v.S o.e }
def chE (C : Cf) (o : OpR) : Nat :=
 if o.k = 1 then (if numB o.b && adG o.six o.ah o.al then 0 else 1)
 else if o.k = 2 then addE C o
 else if o.k = 6 ∨ o.k = 7 then markE C o.k o.b
 else if o.k = 8 then 0
 else match vAt C o.v with | none => 6 | some v => vipE C o v
def chC (C : Cf) (o : OpR) : Cf :=
 if o.k = 1 then { C with bk := C.bk.set o.b.toNat (some (o.six, o.ah, o.al)) }
 else if o.k = 2 then { C with vs := C.vs ++ [newV C o] }
 else if o.k = 6 ∨ o.k = 7 then { C with vs := C.vs.map (mrkV o.k o.b) }
 else if o.k = 8 then { C with now := (C.now + 1) % 18446744073709551616 }
 else match vAt C o.v with | none => C | some v => { C with vs := C.vs.set o.v.toNat (vipV o v) }
def doC (C : Cf) (o : OpR) : Cf := if chE C o = 0 then chC C o else C
def upN (C : Cf) : Cf := { C with num := (C.num + 1) % 18446744073709551616 }
def apC (C : Cf) (o : OpR) : Cf := if chE C o = 0 then upN (chC C o) else C
def cf0 (key : List UInt8) : Cf := ⟨0, key, 0, List.replicate 65 none, []⟩
/-! what holds of every state -/
def adOk (a : Adr) : Prop := adG a.1 a.2.1 a.2.2 = true ∧ a.2.1 < 18446744073709551616 ∧ a.2.2 < 18446744073709551616
structure VpOk (C : Cf) (v : Vp) : Prop where
 ad : adOk v.ad
 pt : v.pt < 65536
 pr : v.pr = 6 ∨ v.pr = 17
 wy : 1 ≤ v.wy ∧ v.wy ≤ 4
 ms : okM C v.ms = true
 st : StkOk v.S
 ev : v.S.ev = ev0 C
structure CfOk (C : Cf) : Prop where
 num : C.num < 18446744073709551616
 now : C.now < 18446744073709551616
 key : C.key.length = 16
 bl : C.bk.length = 65
 b0 : C.bk.getD 0 none = none
 bk : ∀ i a, C.bk.getD i none = some a → adOk a
 vl : C.vs.length ≤ 16
 vs : ∀ v ∈ C.vs, VpOk C v
 kn : ∀ n : Int, hasB (ev0 C) n 1 64 = true → knC C n = true
 nd : C.vs.Pairwise (fun v u => ¬ (v.ad = u.ad ∧ v.pt = u.pt ∧ v.pr = u.pr))
structure OpOk (o : OpR) : Prop where
 k : -9223372036854775808 ≤ o.k ∧ o.k ≤ 9223372036854775807
 v : -9223372036854775808 ≤ o.v ∧ o.v ≤ 9223372036854775807
 b : -9223372036854775808 ≤ o.b ∧ o.b ≤ 9223372036854775807
 e : -9223372036854775808 ≤ o.e ∧ o.e ≤ 9223372036854775807
 ah : o.ah < 18446744073709551616
 al : o.al < 18446744073709551616
 pt : o.pt < 65536
 pr : o.pr < 256
 wy : -9223372036854775808 ≤ o.wy ∧ o.wy ≤ 9223372036854775807
 ms : ∀ p ∈ o.ms, (-9223372036854775808 ≤ p.1 ∧ p.1 ≤ 9223372036854775807) ∧ (-9223372036854775808 ≤ p.2 ∧ p.2 ≤ 9223372036854775807)
theorem cf0_ok (key : List UInt8) (h : key.length = 16) : CfOk (cf0 key) := by
 refine ⟨by simp [cf0], by simp [cf0], h, by simp [cf0], by rfl, ?_, by simp [cf0], by simp [cf0], ?_, by simp [cf0]⟩
 ·intro i a hi
  simp only [cf0, List.getD_eq_getElem?_getD, List.getElem?_replicate] at hi
  split at hi <;> simp at hi
 ·intro n hn
  have := (hasB_rg hn).2.2
  simp [cf0, ev0] at this
theorem knC_rg {C : Cf} {n : Int} (h : knC C n = true) : 1 ≤ n ∧ n ≤ 64 := by
 simp only [knC, Bool.and_eq_true, decide_eq_true_eq] at h
 exact h.1
theorem okM_all {C : Cf} {l : List (Int × Int)} (h : okM C l = true) : ∀ p ∈ l, knC C p.1 = true ∧ 0 ≤ p.2 ∧ p.2 ≤ 100 := by
 intro p hp
 simp only [okM, Bool.and_eq_true, List.all_eq_true] at h
 have h1 := h.1 p hp
 refine ⟨h1.1, ?_⟩
 have := h1.2
 simpa [wtB] using this
theorem okM_nd {C : Cf} {l : List (Int × Int)} (h : okM C l = true) : (l.map (·.1)).Nodup := by
 simp only [okM, Bool.and_eq_true, decide_eq_true_eq] at h
 exact h.2
theorem okM_len {C : Cf} {l : List (Int × Int)} (h : okM C l = true) : l.length ≤ 64 := by
 have h1 := nodup_le 64 ((l.map (·.1)).map (fun x => x.toNat - 1)) (by
  rw [List.nodup_iff_pairwise_ne, List.pairwise_map]
  refine List.Pairwise.imp_of_mem ?_ (okM_nd h)
  intro a b ha hb hab
  obtain ⟨p, hp, rfl⟩ := List.mem_map.1 ha
  obtain ⟨q, hq, rfl⟩ := List.mem_map.1 hb
  have := knC_rg (okM_all h p hp).1
  have := knC_rg (okM_all h q hq).1
  omega) (fun x hx => by
  obtain ⟨y, hy, rfl⟩ := List.mem_map.1 hx
  obtain ⟨p, hp, rfl⟩ := List.mem_map.1 hy
  have := knC_rg (okM_all h p hp).1
  omega)
 simpa using h1
theorem okM_congr {C C' : Cf} (h : ∀ n, knC C n = true → knC C' n = true) {l : List (Int × Int)} (hl : okM C l = true) : okM C' l = true := by
 simp only [okM, Bool.and_eq_true, List.all_eq_true, decide_eq_true_eq] at hl ⊢
 exact ⟨fun p hp => ⟨h _ (hl.1 p hp).1, (hl.1 p hp).2⟩, hl.2⟩
theorem VpOk.congr {C C' : Cf} (h : ∀ n, knC C n = true → knC C' n = true) (he : ev0 C' = ev0 C) {v : Vp} (hv : VpOk C v) : VpOk C' v :=
 ⟨hv.ad, hv.pt, hv.pr, hv.wy, okM_congr h hv.ms, hv.st, hv.ev.trans he.symm⟩
theorem hasB_dead (S : Stk) (n : Int) : deadS S n = hasB S.ev n 1 64 := rfl
theorem ev_evi_congr {S S' : Stk} (h : S.ev = S'.ev) (n : Int) : (eviS S n).ev = (eviS S' n).ev := by
 unfold eviS deadS
 rw [h]
 split <;> simp [h]
theorem ev_adm_congr {S S' : Stk} (h : S.ev = S'.ev) (n : Int) : (admS S n).ev = (admS S' n).ev := by
 unfold admS deadS
 rw [h]
 split <;> simp [h]
theorem ev_mrk_congr {S S' : Stk} (h : S.ev = S'.ev) (k n : Int) : (mrkS S k n).ev = (mrkS S' k n).ev := by
 unfold mrkS
 split
 ·exact ev_adm_congr h n
 ·exact ev_evi_congr h n
theorem ev_ret (S : Stk) (v : Int) : (retS S v).ev = S.ev := by unfold retS; split <;> rfl
theorem ev_rls (S : Stk) (v : Int) : (rlsS S v).ev = S.ev := by unfold rlsS; split <;> rfl
theorem ev_push (S : Stk) (t : Tab) : (pushS S t).ev = S.ev := by unfold pushS; split <;> rfl
theorem StkOk.mrk {S : Stk} (h : StkOk S) (k n : Int) : StkOk (mrkS S k n) := by
 unfold mrkS
 split
 ·exact h.adm n
 ·exact h.evi n
theorem tabS_ok {S : Stk} (h : StkOk S) (ms : List (Int × Int)) : TabOk (tabS S ms) := tNext_ok _ (newT_ok h) _
theorem vipV_ev (o : OpR) (v : Vp) : (vipV o v).S.ev = v.S.ev := by
 unfold vipV setV
 split
 ·exact ev_push _ _
 ·split
  ·exact ev_ret _ _
  ·exact ev_rls _ _
theorem vipV_st {o : OpR} {v : Vp} (h : StkOk v.S) : StkOk (vipV o v).S := by
 unfold vipV setV
 split
 ·exact h.push (tabS_ok h _)
 ·split
  ·exact h.ret _
  ·exact h.rls _
theorem vipV_id (o : OpR) (v : Vp) : (vipV o v).ad = v.ad ∧ (vipV o v).pt = v.pt ∧ (vipV o v).pr = v.pr ∧ (vipV o v).wy = v.wy := by
 unfold vipV setV
 split
 ·exact ⟨rfl, rfl, rfl, rfl⟩
 ·split <;> exact ⟨rfl, rfl, rfl, rfl⟩
theorem ev0_set {C : Cf} {i : Nat} {v v' : Vp} (hi : C.vs[i]? = some v) (h : v'.S.ev = v.S.ev) : ev0 { C with vs := C.vs.set i v' } = ev0 C := by
 unfold ev0
 cases hc : C.vs with
 | nil => rfl
 | cons a t =>
  cases i with
  | zero =>
   rw [hc] at hi
   simp at hi
   subst hi
   simp [h]
  | succ i => simp
theorem pw_set {l : List Vp} {R : Vp → Vp → Prop} (h : l.Pairwise R) {i : Nat} {v v' : Vp} (hi : l[i]? = some v) (h1 : ∀ u, R v u → R v' u) (h2 : ∀ u, R u v → R u v') : (l.set i v').Pairwise R := by
 rw [List.pairwise_iff_getElem] at h ⊢
 intro a b ha hb hab
 simp only [List.length_set] at ha hb
 have hv : ∀ (hl : i < l.length), l[i] = v := fun hl => by rw [List.getElem?_eq_getElem hl] at hi; exact Option.some.inj hi
 rw [List.getElem_set, List.getElem_set]
 have := h a b ha hb hab
 split
 ·rename_i e
  subst e
  rw [if_neg (by omega)]
  rw [hv ha] at this
  exact h1 _ this
 ·split
  ·rename_i e
   subst e
   rw [hv hb] at this
   exact h2 _ this
  ·exact this
theorem bk_kn {C : Cf} {i : Nat} {a : Adr} (hl : C.bk.length = 65) (n : Int) (h : knC C n = true) : knC { C with bk := C.bk.set i (some a) } n = true := by
 simp only [knC, Bool.and_eq_true, decide_eq_true_eq] at h ⊢
 refine ⟨h.1, ?_⟩
 simp only [List.getD_eq_getElem?_getD, List.getElem?_set] at h ⊢
 split
 ·split
  ·rfl
  ·rename_i h1 h2
   have := h.2
   rw [List.getElem?_eq_none (by omega)] at this
   simp at this
 ·exact h.2
theorem fdC_none {C : Cf} {a : Adr} {pt pr : Nat} (h : ¬ fdC C a pt pr < C.vs.length) : ∀ v ∈ C.vs, ¬ (v.ad = a ∧ v.pt = pt ∧ v.pr = pr) := by
 intro v hv e
 apply h
 unfold fdC
 rw [List.findIdx_lt_length]
 exact ⟨v, hv, decide_eq_true e⟩
theorem doC_ok {C : Cf} (h : CfOk C) {o : OpR} (ho : OpOk o) : CfOk (doC C o) := by
 unfold doC
 by_cases he : chE C o = 0
 rotate_left
 ·rw [if_neg he]; exact h
 rw [if_pos he]
 unfold chC
 unfold chE at he
 by_cases k1 : o.k = 1
 ·rw [if_pos k1] at he ⊢
  split at he
  rotate_left
  ·cases he
  rename_i hg
  simp only [Bool.and_eq_true] at hg
  have hb := hg.1
  simp only [numB, Bool.and_eq_true, decide_eq_true_eq] at hb
  have hk := bk_kn (C := C) (i := o.b.toNat) (a := (o.six, o.ah, o.al)) h.bl
  refine ⟨h.num, h.now, h.key, by simpa using h.bl, ?_, ?_, h.vl, fun v hv => (h.vs v hv).congr hk rfl, fun n hn => hk n (h.kn n hn), h.nd⟩
  ·have := h.b0
   simp only [List.getD_eq_getElem?_getD] at this ⊢
   rw [List.getElem?_set_ne (by omega)]
   exact this
  ·intro i a hi
   simp only [List.getD_eq_getElem?_getD, List.getElem?_set] at hi
   split at hi
   ·split at hi
    ·simp at hi; subst hi; exact ⟨hg.2, ho.ah, ho.al⟩
    ·simp at hi
   ·exact h.bk i a (by simpa only [List.getD_eq_getElem?_getD] using hi)
 rw [if_neg k1] at he ⊢
 by_cases k2 : o.k = 2
 ·rw [if_pos k2] at he ⊢
  unfold addE at he
  split at he
  ·cases he
  rename_i hg
  split at he
  ·cases he
  rename_i hf
  split at he
  ·cases he
  rename_i h16
  have hg : (adG o.six o.ah o.al && (decide (o.pr = 6 ∨ o.pr = 17) && wyB o.wy)) = true := by
   cases hx : (adG o.six o.ah o.al && (decide (o.pr = 6 ∨ o.pr = 17) && wyB o.wy))
   ·exact absurd hx hg
   ·rfl
  simp only [Bool.and_eq_true, decide_eq_true_eq, wyB] at hg
  have he0 : ev0 { C with vs := C.vs ++ [newV C o] } = ev0 C := by
   unfold ev0
   cases hc : C.vs with
   | nil => simp [newV, ev0, hc]
   | cons a t => simp
  have hkn : ∀ n, knC C n = true → knC { C with vs := C.vs ++ [newV C o] } n = true := fun n hn => hn
  refine ⟨h.num, h.now, h.key, h.bl, h.b0, h.bk, by simp; omega, ?_, ?_, ?_⟩
  ·intro v hv
   rcases List.mem_append.1 hv with hv | hv
   ·exact (h.vs v hv).congr hkn he0
   ·simp at hv
    subst hv
    refine ⟨⟨hg.1, ho.ah, ho.al⟩, ho.pt, hg.2.1, hg.2.2, rfl, ?_, he0.symm⟩
    refine ⟨by simp [newV], by simp [newV], ?_, by simp [newV], by simp [newV]⟩
    show ev0 C < _
    unfold ev0
    cases hc : C.vs with
    | nil => simp
    | cons a t => exact (h.vs a (by simp [hc])).st.ev
  ·intro n hn
   rw [he0] at hn
   exact h.kn n hn
  ·rw [List.pairwise_append]
   refine ⟨h.nd, by simp, fun v hv u hu => ?_⟩
   simp at hu
   subst hu
   exact fdC_none hf v hv
 rw [if_neg k2] at he ⊢
 by_cases k6 : o.k = 6 ∨ o.k = 7
 ·rw [if_pos k6] at he ⊢
  unfold markE at he
  split at he
  ·cases he
  rename_i hkn
  have hkn : knC C o.b = true := by
   cases hx : knC C o.b
   ·exact absurd hx hkn
   ·rfl
  have hev : ∀ v ∈ C.vs, (mrkV o.k o.b v).S.ev = ev0 { C with vs := C.vs.map (mrkV o.k o.b) } := by
   intro v hv
   cases hc : C.vs with
   | nil => rw [hc] at hv; cases hv
   | cons a t =>
    show (mrkS v.S o.k o.b).ev = _
    simp only [ev0, List.map_cons, List.head?_cons, Option.map_some, Option.getD_some]
    show _ = (mrkS a.S o.k o.b).ev
    exact ev_mrk_congr ((h.vs v hv).ev.trans (h.vs a (by simp [hc])).ev.symm) _ _
  refine ⟨h.num, h.now, h.key, h.bl, h.b0, h.bk, by simpa using h.vl, ?_, ?_, ?_⟩
  ·intro v hv
   obtain ⟨u, hu, rfl⟩ := List.mem_map.1 hv
   have hu' := h.vs u hu
   exact ⟨hu'.ad, hu'.pt, hu'.pr, hu'.wy, okM_congr (C := C) (fun n hn => hn) hu'.ms, hu'.st.mrk _ _, hev u hu⟩
  ·intro n hn
   show knC C n = true
   cases hc : C.vs with
   | nil => simp [ev0, hc, hasB] at hn
   | cons a t =>
    have ha := h.vs a (by simp [hc])
    have h1 : hasB (mrkS a.S o.k o.b).ev n 1 64 = true := by
     simpa [ev0, hc, mrkV] using hn
    have hr := hasB_rg h1
    obtain ⟨i, rfl⟩ : ∃ i : Nat, n = i := ⟨n.toNat, by omega⟩
    have h2 : deadS (mrkS a.S o.k o.b) (i : Int) = true := h1
    unfold mrkS at h2
    split at h2
    ·by_cases hd : deadS a.S o.b = true
     ·rw [deadS_adm ha.st.ev hd] at h2
      simp only [Bool.and_eq_true] at h2
      exact h.kn _ (by rw [← ha.ev]; exact h2.1)
     ·have : admS a.S o.b = a.S := by unfold admS; rw [if_neg hd]
      rw [this] at h2
      exact h.kn _ (by rw [← ha.ev]; exact h2)
    ·by_cases hd : (numB o.b && !deadS a.S o.b) = true
     ·rw [deadS_evi hd] at h2
      simp only [Bool.or_eq_true, decide_eq_true_eq] at h2
      rcases h2 with h2 | h2
      ·exact h.kn _ (by rw [← ha.ev]; exact h2)
      ·rw [h2]; exact hkn
     ·have : eviS a.S o.b = a.S := by unfold eviS; rw [if_neg hd]
      rw [this] at h2
      exact h.kn _ (by rw [← ha.ev]; exact h2)
  ·rw [List.pairwise_map]
   exact h.nd
 rw [if_neg k6] at he ⊢
 by_cases k8 : o.k = 8
 ·rw [if_pos k8]
  refine ⟨h.num, Nat.mod_lt _ (by decide), h.key, h.bl, h.b0, h.bk, h.vl, fun v hv => VpOk.congr (C := C) (C' := { C with now := (C.now + 1) % 18446744073709551616 }) (fun n hn => hn) rfl (h.vs v hv), h.kn, h.nd⟩
 rw [if_neg k8] at he ⊢
 cases hv : vAt C o.v with
 | none => exact h
 | some v =>
  rw [hv] at he
  replace he : vipE C o v = 0 := he
  show CfOk { C with vs := C.vs.set o.v.toNat (vipV o v) }
  unfold vAt at hv
  split at hv
  rotate_left
  ·cases hv
  have hm := List.mem_of_getElem? hv
  have hvo := h.vs v hm
  have he0 := ev0_set (C := C) hv (vipV_ev o v)
  have hid := vipV_id o v
  refine ⟨h.num, h.now, h.key, h.bl, h.b0, h.bk, by simpa using h.vl, ?_, ?_, ?_⟩
  ·intro u hu
   rcases List.mem_or_eq_of_mem_set hu with hu | rfl
   ·exact VpOk.congr (C := C) (C' := { C with vs := C.vs.set o.v.toNat (vipV o v) }) (fun n hn => hn) he0 (h.vs u hu)
   ·refine ⟨by rw [hid.1]; exact hvo.ad, by rw [hid.2.1]; exact hvo.pt, by rw [hid.2.2.1]; exact hvo.pr, by rw [hid.2.2.2]; exact hvo.wy, ?_, vipV_st hvo.st, ?_⟩
    ·show okM C _ = true
     unfold vipE setE at he
     unfold vipV setV
     split
     ·rename_i k3
      rw [if_pos k3] at he
      split at he
      ·cases he
      ·rename_i hx
       show okM C o.ms = true
       cases hy : okM C o.ms
       ·exact absurd hy hx
       ·rfl
     ·split <;> exact hvo.ms
    ·rw [vipV_ev, he0]; exact hvo.ev
  ·intro n hn
   rw [he0] at hn
   exact h.kn n hn
  ·refine pw_set h.nd hv (fun u hu => ?_) (fun u hu => ?_)
   ·rw [hid.1, hid.2.1, hid.2.2.1]; exact hu
   ·rw [hid.1, hid.2.1, hid.2.2.1]; exact hu
theorem upN_ok {C : Cf} (h : CfOk C) : CfOk (upN C) :=
 ⟨Nat.mod_lt _ (by decide), h.now, h.key, h.bl, h.b0, h.bk, h.vl, fun v hv => VpOk.congr (C := C) (C' := upN C) (fun n hn => hn) rfl (h.vs v hv), h.kn, h.nd⟩
theorem apC_ok {C : Cf} (h : CfOk C) {o : OpR} (ho : OpOk o) : CfOk (apC C o) := by
 have := doC_ok h ho
 unfold apC
 unfold doC at this
 split
 ·rename_i he
  rw [if_pos he] at this
  exact upN_ok this
 ·exact h
theorem apC_do (C : Cf) (o : OpR) : apC C o = if chE C o = 0 then upN (doC C o) else doC C o := by
 unfold apC doC
 split <;> rfl
end

section
open Go.RowKit
attribute [local go_sem ↓] sliced_cut
attribute [local go_sem] cutA_zero
def uadd (x y : UInt64) : UInt64 := x + y
def uxor (x y : UInt64) : UInt64 := x ^^^ y
theorem wadd (x y : UInt64) : IntKind.u64.wrap ((x.toNat : Int) + (y.toNat : Int)) = ((uadd x y).toNat : Int) := by
 unfold uadd
 rw [UInt64.toNat_add, IntKind.wrap_u64]
 omega
theorem wxor (x y : UInt64) : bits .xor .u64 (x.toNat : Int) (y.toNat : Int) = ((uxor x y).toNat : Int) := by
 unfold uxor
 rw [u64_xor_nat _ _ x.toNat_lt y.toNat_lt, UInt64.toNat_xor]
attribute [local go_sem] wadd wxor
structure W4 where
 a : UInt64
 b : UInt64
 c : UInt64
 d : UInt64
def W4.cells (v : W4) : List Value := [.int .u64 (v.a.toNat : Int), .int .u64 (v.b.toNat : Int), .int .u64 (v.c.toNat : Int), .int .u64 (v.d.toNat : Int)]
end

section
attribute [local go_sem ↓] sliced_cut
attribute [local go_sem] cutA_zero
open Go.RowKit
def lnum : List UInt8 → Nat
 | [] => 0
 | b :: l => b.toNat + 256 * lnum l
def lit (l : List UInt8) : UInt64 := UInt64.ofNat (lnum l)
end

section
open Go.RowKit
attribute [local go_sem ↓] sliced_cut
attribute [local go_sem] cutA_zero wadd wxor
theorem wxorc (x : UInt64) (k : Nat) (hk : k < 18446744073709551616) : bits .xor .u64 (x.toNat : Int) (k : Nat) = ((uxor x (UInt64.ofNat k)).toNat : Int) := by
 have e : k = (UInt64.ofNat k).toNat := by rw [UInt64.toNat_ofNat', Nat.mod_eq_of_lt hk]
 have := wxor x (UInt64.ofNat k)
 rw [← e] at this
 exact this
theorem xc1 (x : UInt64) : bits .xor .u64 (x.toNat : Int) 8317987319222330741 = ((uxor x 8317987319222330741).toNat : Int) := wxorc x 8317987319222330741 (by decide)
theorem xc2 (x : UInt64) : bits .xor .u64 (x.toNat : Int) 7237128888997146477 = ((uxor x 7237128888997146477).toNat : Int) := wxorc x 7237128888997146477 (by decide)
theorem xc3 (x : UInt64) : bits .xor .u64 (x.toNat : Int) 7816392313619706465 = ((uxor x 7816392313619706465).toNat : Int) := wxorc x 7816392313619706465 (by decide)
theorem xc4 (x : UInt64) : bits .xor .u64 (x.toNat : Int) 8387220255154660723 = ((uxor x 8387220255154660723).toNat : Int) := wxorc x 8387220255154660723 (by decide)
theorem xc5 (x : UInt64) : bits .xor .u64 (x.toNat : Int) 255 = ((uxor x 255).toNat : Int) := wxorc x 255 (by decide)
attribute [local go_sem] xc1 xc2 xc3 xc4 xc5
end

section
attribute [local go_sem ↓] sliced_cut
attribute [local go_sem] cutA_zero wadd wxor xc5
open Go.RowKit
def K16 (key : List UInt8) : Prop := key.length = 16
end

section
attribute [local go_sem ↓] sliced_cut
attribute [local go_sem] cutA_zero
open Go.RowKit
theorem rowKey : ∃ d, Tryz.prog.underlying 88 = some d ∧ d.isRow = true ∧ (Tryz.prog.info? 88).map (·.size) = some 16 := ⟨_, Tryz.underlying88, rfl, by kernel_rfl⟩
end

section
open Go.RowKit
attribute [local go_sem ↓] sliced_cut
attribute [local go_sem] cutA_zero
theorem szU8 (w : World) : (sizeOf 5).run Tryz.prog w = .ok 1 w := by
 obtain ⟨i, hi, hz0, hz1, hz2⟩ := info_parts bt.info
 simp [sizeOf, typeInfo, hi, hz1]
theorem eql_key (w : World) (a b : List UInt8) (ha : K16 a) (hb : K16 b) : (binOp .eql 88 (.agg (bcs a).toArray) (.agg (bcs b).toArray)).run Tryz.prog w = .ok (.bool (a == b)) w :=
 run_eql_bytes w 88 5 16 Tryz.underlying88 Tryz.underlying5 szU8 a b ha hb
theorem eql_key' (w : World) (a b : List UInt8) (ha : K16 a) (hb : K16 b) : (binOp .eql 27 (.agg (bcs a).toArray) (.agg (bcs b).toArray)).run Tryz.prog w = .ok (.bool (a == b)) w :=
 run_eql_bytes w 27 5 16 Tryz.underlying27 Tryz.underlying5 szU8 a b ha hb
attribute [local go_sem ↓] eql_key eql_key'
end

section
attribute [local go_sem ↓] sliced_cut
attribute [local go_sem] cutA_zero
open Go.RowKit
def ringC (key : List UInt8) (n : Nat) : List Value := bcs key ++ [.int .u64 (n : Int)]
theorem ringC_length (key : List UInt8) (hk : K16 key) (n : Nat) : (ringC key n).length = 17 := by
 simp [ringC, bcs_length, show key.length = 16 from hk]
theorem ringC_16 (key : List UInt8) (hk : K16 key) (n : Nat) : (ringC key n)[16]? = some (.int .u64 (n : Int)) := by
 unfold ringC
 rw [List.getElem?_append_right (by rw [bcs_length, show key.length = 16 from hk]; omega), bcs_length, show key.length = 16 from hk]
 rfl
theorem ringC_one (key : List UInt8) (n : Nat) : ∀ u ∈ ringC key n, u.oneCell' = true := by
 intro u hu
 rcases List.mem_append.1 hu with h | h
 ·exact bcs_one key u h
 ·simp at h; subst h; rfl
theorem run_buildRing (key : List UInt8) (hk : K16 key) (n : Nat) (w : World) : (Instr.build 90 #[(0, .agg (bcs key).toArray), (1, .int .u64 (n : Int))]).run Tryz.prog w = .ok (.agg (ringC key n).toArray) w := by
 obtain ⟨k0, k1, k2, k3, k4, k5, k6, k7, k8, k9, k10, k11, k12, k13, k14, k15, rfl⟩ := list16 hk
 kernel_rfl
theorem rowRing : ∃ d, Tryz.prog.underlying 90 = some d ∧ d.isRow = true ∧ (Tryz.prog.info? 90).map (·.size) = some 17 := ⟨_, Tryz.underlying90, rfl, by kernel_rfl⟩
def ring0 : List Value := [.int .u8 0, .int .u8 0, .int .u8 0, .int .u8 0, .int .u8 0, .int .u8 0, .int .u8 0, .int .u8 0, .int .u8 0, .int .u8 0, .int .u8 0, .int .u8 0, .int .u8 0, .int .u8 0, .int .u8 0, .int .u8 0, .int .u64 0]
theorem ringNew_any (key : List UInt8) (hk : K16 key) (n : Nat) (w : World) : Calls Tryz.prog 78 #[.agg (bcs key).toArray, .int .u64 n] w (RetV w (.agg (ringC key n).toArray)) := by
 obtain ⟨dk, u1, u2, u3⟩ := rowKey
 obtain ⟨dr, v1, v2, v3⟩ := rowRing
 have hl := ringC_length key hk n
 have hb0 := (Bk.new w 88 (bcs key).toArray).alloc (.cells #[.int .u8 0, .int .u8 0, .int .u8 0, .int .u8 0, .int .u8 0, .int .u8 0, .int .u8 0, .int .u8 0, .int .u8 0, .int .u8 0, .int .u8 0, .int .u8 0, .int .u8 0, .int .u8 0, .int .u8 0, .int .u8 0, .int .u64 0] 90)
 have hb1 := Bk.new (w.alloc (.cells (bcs key).toArray 88)) 90 #[.int .u8 0, .int .u8 0, .int .u8 0, .int .u8 0, .int .u8 0, .int .u8 0, .int .u8 0, .int .u8 0, .int .u8 0, .int .u8 0, .int .u8 0, .int .u8 0, .int .u8 0, .int .u8 0, .int .u8 0, .int .u8 0, .int .u64 0]
 rw [World.size_alloc] at hb1
 go_enter Tryz.func78, Tryz.ntmps78
 go_wp2_with (first
  | (refine at_op (.load 88 (.tmp 2)) rfl ?_; refine wpList_ldA 88 (.tmp 2) rfl rfl (bcs key) rfl hb0 (by rw [List.drop_zero]; exact List.take_of_length_le (Nat.le_refl _)) u1 u2 (by rw [bcs_length, show key.length = 16 from hk]; exact u3) ?_)
  | (refine at_op (.build 90 #[(0, .tmp 5), (1, .tmp 6)]) rfl ?_; refine wpList_build 90 [(0, .tmp 5), (1, .tmp 6)] rfl rfl (.agg (ringC key n).toArray) ?_ ?_; exact run_buildRing key hk n _)
  | (refine at_op (.store 90 (.tmp 4) (.tmp 7)) rfl ?_; refine wpList_stA 90 (.tmp 4) (.tmp 7) rfl rfl (ringC key n) ring0 (by rw [hl]; rfl) (ringC_one key n) rfl rfl hb1 (by rw [hl]; exact v3) ?_; intro w2 hb2 hg2))
 refine bodyPost_agg Tryz.results78 rfl hb2.range v1 v2 (by rw [hl]; exact v3) rfl (RetV.mk ?_)
 exact (((Below.refl _ _).alloc (Nat.le_refl _) _).alloc (by simp) _).trans (below_of_grown hg2 (by simp; omega) (fun k hk => by injection hk with hk; omega))
theorem bcs_whole (key : List UInt8) : ((bcs key).drop 0).take (bcs key).length = bcs key := by rw [List.drop_zero]; exact List.take_of_length_le (Nat.le_refl _)
theorem ringC_key (key : List UInt8) (n : Nat) : ((ringC key n).drop 0).take (bcs key).length = bcs key := by rw [List.drop_zero, ringC]; exact List.take_left
theorem szKey (key : List UInt8) (hk : K16 key) : (Tryz.prog.info? 88).map (·.size) = some (bcs key).length := by rw [bcs_length, show key.length = 16 from hk]; kernel_rfl
theorem szRing (key : List UInt8) (hk : K16 key) (n : Nat) : (Tryz.prog.info? 90).map (·.size) = some (ringC key n).length := by rw [ringC_length key hk n]; kernel_rfl
theorem ringNext_any (key : List UInt8) (hk : K16 key) (n : Nat) (w : World) (hn : n < 18446744073709551616) : Calls Tryz.prog 111 #[.agg (ringC key n).toArray] w (RetV w (.agg (ringC key ((n + 1) % 18446744073709551616)).toArray)) := by
 have q := ringC_16 key hk n
 obtain ⟨dk, u1, u2, u3⟩ := rowKey
 obtain ⟨dr, v1, v2, v3⟩ := rowRing
 have e : IntKind.u64.wrap ((n : Int) + 1) = (((n + 1) % 18446744073709551616 : Nat) : Int) := by rw [IntKind.wrap_u64]; omega
 generalize (n + 1) % 18446744073709551616 = n2 at *
 have hb0 := (Bk.new w 90 (ringC key n).toArray).alloc (.cells #[.int .u8 0, .int .u8 0, .int .u8 0, .int .u8 0, .int .u8 0, .int .u8 0, .int .u8 0, .int .u8 0, .int .u8 0, .int .u8 0, .int .u8 0, .int .u8 0, .int .u8 0, .int .u8 0, .int .u8 0, .int .u8 0, .int .u64 0] 90)
 have hb1 := Bk.new (w.alloc (.cells (ringC key n).toArray 90)) 90 #[.int .u8 0, .int .u8 0, .int .u8 0, .int .u8 0, .int .u8 0, .int .u8 0, .int .u8 0, .int .u8 0, .int .u8 0, .int .u8 0, .int .u8 0, .int .u8 0, .int .u8 0, .int .u8 0, .int .u8 0, .int .u8 0, .int .u64 0]
 rw [World.size_alloc] at hb1
 go_enter Tryz.func111, Tryz.ntmps111
 go_wp2_with (first
  | (refine at_op (.load 88 (.tmp 3)) rfl ?_; refine wpList_ldA 88 (.tmp 3) rfl rfl (bcs key) rfl hb0 (ringC_key key n) u1 u2 (szKey key hk) ?_)
  | (go_at_call 78; refine (ringNew_any key hk n2 _).mono ?_; rintro e w1 ⟨bs1, d1, rfl, rfl⟩)
  | (refine at_op (.store 90 (.tmp 2) (.tmp 8)) rfl ?_; refine wpList_stA 90 (.tmp 2) (.tmp 8) rfl rfl (ringC key n2) ring0 (by rw [ringC_length key hk]; rfl) (ringC_one key n2) rfl rfl (hb1.later bpl) (szRing key hk n2) ?_; intro w2 hb2 hg2))
 refine bodyPost_agg Tryz.results111 rfl hb2.range v1 v2 (szRing key hk n2) rfl (RetV.mk ?_)
 exact (belowP (((Below.refl _ _).alloc (Nat.le_refl _) _).alloc (by simp) _) bs1 d1).trans (below_of_grown hg2 (by simp [size_plus]; omega) (fun k hk => by injection hk with hk; omega))
end

end Go.Proofs.YtjiiloffgipfhaaGreatDoor
