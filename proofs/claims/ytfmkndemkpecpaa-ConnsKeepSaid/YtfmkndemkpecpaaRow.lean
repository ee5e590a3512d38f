/- Slices whose elements have s cells each (structs, ints): read, cut, owned, appended to. No program in sight. -/
import Derived.Test.YtfmkndemkpecpaaAgg
namespace Go.Proofs.Ytfmkndemkpecpaa
open Go.RowKit Go.ChangeShapes Go.WideShapes
set_option linter.unusedVariables false
set_option linter.unusedSimpArgs false

/-- a slice type, its element type, the element's zero value, its cells and bytes -/
structure ET (P : Program) (ts e : TypeId) (z : Value) (s by_ : Nat) : Prop where
  sl : P.underlying ts = some (.slice e)
  info : (P.info? e).map (fun i => (i.zero, i.size, i.bytes)) = some (some z, s, by_)
  zs : z.cells.size = s
  pos : 0 < s
  small : by_ ≤ 64
/-- a slice reads as the cells cs -/
def Rs (s : Nat) (w : World) (A : Option Addr) (n c : Nat) (cs : List Value) : Prop := cs.length = n * s ∧ n ≤ c ∧ Rd w w.heap.size A cs
/-- a slice of the call's own (its block from base on) reads as cs -/
def Os (e : TypeId) (s : Nat) (w : World) (base : Nat) (A : Option Addr) (n c : Nat) (cs : List Value) : Prop := w.ownsRow base e s (.slice A n c) n cs

theorem Rd.cutS {w : World} {B : Nat} {A : Option Addr} {cs : List Value} (h : Rd w B A cs) {s c k : Nat} (hc : cs.length ≤ c * s) : Rd w B (cutA A c k s) (cs.drop (k * s)) := by
  by_cases hk : cs.length ≤ k * s
  · exact .inl (List.drop_eq_nil_of_le hk)
  rcases h with h | ⟨b, off, hA, hb, hcell⟩
  · exact .inl (by simp [h])
  · have hck : ¬ c = k := fun e => by subst e; exact hk hc
    refine .inr ⟨b, off + k * s, ?_, hb, fun i u hu => ?_⟩
    · subst hA
      simp only [cutA, if_neg hck, Option.map_some, Addr.add]
      split
      · simp_all
      · rfl
    · rw [Nat.add_assoc]
      rw [List.getElem?_drop] at hu
      exact hcell _ _ hu
theorem Rd.of_ownS {w : World} {A : Option Addr} {cs : List Value} {base : Nat} {e : TypeId} {s n c : Nat} (h : w.ownsRow base e s (.slice A n c) n cs) : Rd w w.heap.size A cs := by
  rcases Nat.eq_zero_or_pos n with h0 | h0
  · subst h0
    exact .inl (List.eq_nil_of_length_eq_zero (by simpa using h.1))
  · obtain ⟨g, cap, hv, _, hlt⟩ := h.form h0
    have hA : A = some ⟨g, 0, none⟩ := by injection hv
    subst hA
    refine .inr ⟨g, 0, rfl, hlt, fun i u hu => ?_⟩
    have := h.cells (g := g) rfl i u hu
    have hplain : (⟨g, 0, none⟩ : Addr).add i = ⟨g, 0 + i, none⟩ := by unfold Addr.add; split <;> simp_all
    rwa [hplain] at this
section
variable {s : Nat} {w w' : World} {base : Nat} {e : TypeId} {A : Option Addr} {n c : Nat} {cs : List Value}
theorem Rs.nil_ : Rs s w none 0 0 [] := ⟨by simp, Nat.le_refl _, .inl rfl⟩
theorem Rs.later (h : Rs s w A n c cs) (hb : Below w.heap.size w w') : Rs s w' A n c cs := ⟨h.1, h.2.1, (h.2.2.below hb).more hb.size⟩
theorem Rs.drew (h : Rs s w A n c cs) : Rs s w.drew A n c cs := h
theorem Rs.alloc (h : Rs s w A n c cs) (o : Obj) : Rs s (w.alloc o) A n c cs := ⟨h.1, h.2.1, (h.2.2.alloc (Nat.le_refl _) o).more (by simp)⟩
theorem Rs.plus_ (h : Rs s w A n c cs) (bs : List Obj) (d : Nat) : Rs s (plus w bs d) A n c cs := h.later (below_plus w bs d)
theorem Rs.take (h : Rs s w A n c cs) {k : Nat} (hk : k ≤ n) : Rs s w A k c (cs.take (k * s)) := ⟨by rw [List.length_take, h.1]; exact Nat.min_eq_left (Nat.mul_le_mul_right _ hk), Nat.le_trans hk h.2.1, h.2.2.take _⟩
theorem Rs.cut (h : Rs s w A n c cs) {k : Nat} (hk : k ≤ n) : Rs s w (cutA A c k s) (n - k) (c - k) (cs.drop (k * s)) :=
  ⟨by rw [List.length_drop, h.1, Nat.sub_mul], by have := h.2.1; omega, h.2.2.cutS (by rw [h.1]; exact Nat.mul_le_mul_right _ h.2.1)⟩
theorem Rs.grown (h : Rs s w A n c cs) {row : Option Nat} (hg : w.grownBy w' row) (hr : ∀ a, A = some a → some a.block ≠ row) : Rs s w' A n c cs := by
  refine ⟨h.1, h.2.1, ?_⟩
  rcases h.2.2 with h' | ⟨b, off, hA, hbl, hc⟩
  · exact .inl h'
  · exact .inr ⟨b, off, hA, Nat.lt_of_lt_of_le hbl hg.size, fun i u hu => (World.cell?_of_block (hg.block b hbl (hr _ hA))).trans (hc i u hu)⟩
/-- the i-th element's cells -/
theorem Rs.at_ (h : Rs s w A n c cs) (hn : 0 < n) (hs : 0 < s) : ∃ b off, A = some ⟨b, off, none⟩ ∧ b < w.heap.size ∧ ∀ i u, cs[i]? = some u → w.cell? ⟨b, off + i, none⟩ = some u :=
  h.2.2.at_ (by rw [h.1]; exact Nat.mul_pos hn hs)
theorem Os.rs (h : Os e s w base A n c cs) : Rs s w A n c cs := by
  refine ⟨h.1, ?_, Rd.of_ownS h⟩
  rcases h.2 with ⟨hv, h0⟩ | ⟨g, cap, cur, hv, _, _, hnc, _⟩
  · omega
  · injection hv with _ _ h3
    omega
theorem Os.nil_ : Os e s w base none 0 0 [] := World.ownsRow_nil w base _ s
theorem Os.blk (h : Os e s w base A n c cs) : ∀ k, (Value.slice A n c).ownBlock = some k → base ≤ k ∧ k < w.heap.size := h.lt
theorem Os.grown {row : Option Nat} (h : Os e s w base A n c cs) (hg : w.grownBy w' row) (hne : ∀ k, (Value.slice A n c).ownBlock = some k → row ≠ some k) : Os e s w' base A n c cs := by
  refine h.kept hg ?_
  cases hk : (Value.slice A n c).ownBlock with
  | none => exact .inl rfl
  | some k => exact .inr (fun e => hne k hk e.symm)
theorem Os.later (h : Os e s w base A n c cs) (hb : Below w.heap.size w w') : Os e s w' base A n c cs := h.grown (grownBy_of_below hb) (fun _ _ => by simp)
theorem Os.plus_ (h : Os e s w base A n c cs) (bs : List Obj) (d : Nat) : Os e s (plus w bs d) base A n c cs := h.later (below_plus w bs d)
theorem Os.mono {base' : Nat} (h : Os e s w base A n c cs) (hb : base' ≤ base) : Os e s w base' A n c cs := by
  refine ⟨h.1, ?_⟩
  rcases h.2 with h2 | ⟨g, cap, cur, hv, hg, hr⟩
  · exact .inl h2
  · exact .inr ⟨g, cap, cur, hv, by omega, hr⟩
theorem Os.capm (h : Os e s w base A n c cs) : c ≤ maxLen := by
  rcases h.2 with ⟨hv, h0⟩ | ⟨g, cap, cur, hv, _, _, _, hm, _⟩
  · injection hv with _ _ h3; subst h3; exact Nat.zero_le _
  · injection hv with _ _ h3; subst h3; exact hm
end
/-- new elements, written out -/
theorem Os.lit (w : World) {base s : Nat} {e : TypeId} (hb : base ≤ w.heap.size) (cs : Array Value) (n : Nat) (hn : cs.size = n * s) (hm : n ≤ maxLen) : Os e s (w.alloc (.cells cs e)) base (some ⟨w.heap.size, 0, none⟩) n n cs.toList :=
  ⟨by simpa using hn, .inr ⟨w.heap.size, n, cs, rfl, hb, heap_alloc_new w _, Nat.le_refl _, hm, hn, List.take_of_length_le (by simp [hn])⟩⟩
/-- a block whose cells are the elements (whatever its type) -/
theorem Rs.of_bk {w : World} {g s n c : Nat} {t : TypeId} {cs : List Value} (h : Bk w g t cs) (hn : cs.length = n * s) (hc : n ≤ c) : Rs s w (some ⟨g, 0, none⟩) n c cs :=
  ⟨hn, hc, .inr ⟨g, 0, rfl, h.lt, fun i u hu => by rw [Nat.zero_add]; exact (h.cell i).trans hu⟩⟩

/-- append onto a row of the call's own, whatever the source -/
theorem run_appS {P : Program} (w : World) {ts ty e : TypeId} {z : Value} {s by_ : Nat} (et : ET P ts e z s by_) {base : Nat} {A : Option Addr} {n c : Nat} {l : List Value} (hown : Os e s w base A n c l)
    {A2 : Option Addr} {n2 c2 : Nat} {l2 : List Value} (hr : Rs s w A2 n2 c2 l2) (h1 : ∀ u ∈ l2, u.oneCell' = true) (hm : n + n2 ≤ 1099511627776) (hbase : base ≤ w.heap.size) :
    ∃ A' n' c' w', (Builtin.append_ #[ts, ts] ty #[.slice A n c, .slice A2 n2 c2]).run P w = .ok (.slice A' n' c') w' ∧ n' = n + n2 ∧ Os e s w' base A' n' c' (l ++ l2) ∧ Below base w w' ∧ w.grownBy w' (Value.slice A n c).ownBlock := by
  obtain ⟨i, hi, hz0, hz1, hz2⟩ := info_parts et.info
  have hbel : ∀ {w'}, w.grownBy w' (Value.slice A n c).ownBlock → Below base w w' := fun hg => below_of_grown hg hbase fun k hk => (hown.blk k hk).1
  have fin : ∀ v' w', w'.ownsRow base e s v' (n + n2) (l ++ l2) → ∃ A' n' c', v' = .slice A' n' c' ∧ n' = n + n2 ∧ Os e s w' base A' n' c' (l ++ l2) := by
    intro v' w' h
    have h2 := h.2
    rcases h2 with ⟨hv, h0⟩ | ⟨g, cap, cur, hv, _⟩
    · refine ⟨none, 0, 0, hv, h0.symm, ?_⟩
      rw [hv, h0] at h
      exact h
    · refine ⟨_, _, _, hv, rfl, ?_⟩
      rw [hv] at h
      exact h
  cases A2 with
  | none =>
    have hl2 : l2 = [] := by
      rcases hr.2.2 with h | ⟨b, off, h, _⟩
      · exact h
      · cases h
    have hn2 : n2 = 0 := by
      have h3 := hr.1
      rw [hl2] at h3
      rcases Nat.eq_zero_or_pos n2 with h | h
      · exact h
      · have := Nat.mul_pos h et.pos
        simp at h3
        omega
    subst hn2
    subst hl2
    refine ⟨A, n, c, w, ?_, rfl, by simpa using hown, Below.refl _ _, World.grownBy.refl w _⟩
    rcases hown.2 with ⟨hv, h0⟩ | ⟨g, cap, cur, hv, _, _, hnc, _⟩
    · injection hv with h1 h2 h3
      subst h1 h2 h3
      simp [Builtin.append_, run_underlying et.sl, sizeOf, typeInfo, hi, Builtin.lenOf, Builtin.firstCells]
    · injection hv with h1 h2 h3
      subst h1 h3
      simp [Builtin.append_, run_underlying et.sl, sizeOf, typeInfo, hi, Builtin.lenOf, Builtin.firstCells, hnc, storeCells]
  | some ad =>
    have hcells : ∀ j u, l2[j]? = some u → w.cell? (ad.add j) = some u := by
      intro j u hu
      rcases hr.2.2 with h | ⟨b, off, h, _, hc⟩
      · rw [h] at hu; simp at hu
      · injection h with h
        subst h
        rw [add_plain]
        exact hc j u hu
    have hby : (n + n2) * by_ ≤ 140737488355328 := Nat.le_trans (Nat.mul_le_mul hm et.small) (by decide)
    obtain ⟨v', w', hrun, h2, h3, _, _⟩ := run_append_own_at (P := P) w base ts ty e i z s by_ et.sl hi hz0 hz1 hz2 et.zs et.pos (.slice A n c) n l hown ad n2 c2 l2
      hr.1 hcells h1 (by simp only [maxLen]; omega) hby hbase
    obtain ⟨A', n', c', rfl, hn', hob⟩ := fin v' w' h2
    exact ⟨A', n', c', w', hrun, hn', hob, hbel h3, h3⟩

theorem wpList_appS {P : Program} {w : World} {ops : Array Oper} {rest : List Oper} {o : Oper} {a : Act} {Q : Exit → Act → World → Prop} {ts e : TypeId} {z : Value} {sz by_ : Nat} (et : ET P ts e z sz by_) (hgd : o.guard = none) (s x : Operand)
    (ho : o.op = .call { callee := .builtin .append, args := #[s, x], argTypes := #[ts, ts] })
    {base : Nat} {A : Option Addr} {n c : Nat} {l : List Value} (hs : a.eval s = .slice A n c) (hown : Os e sz w base A n c l)
    {A2 : Option Addr} {n2 c2 : Nat} {l2 : List Value} (hx : a.eval x = .slice A2 n2 c2) (hr : Rs sz w A2 n2 c2 l2) (h1 : ∀ u ∈ l2, u.oneCell' = true) (hm : n + n2 ≤ 1099511627776) (hbase : base ≤ w.heap.size)
    (h : ∀ A' n' c' w', n' = n + n2 → Os e sz w' base A' n' c' (l ++ l2) → Below base w w' → w.grownBy w' (Value.slice A n c).ownBlock → wpList P ops Q rest (a.put o.dst (.slice A' n' c')) w') : wpList P ops Q (o :: rest) a w := by
  refine wpList_plain hgd fun _ hK => ?_
  obtain ⟨A', n', c', w', hrun, h0, h2, h3, h4⟩ := run_appS (P := P) w (ty := o.type) et hown hr h1 hm hbase
  unfold Oper.wp execOp
  simp only [ho, resolve, invoke, builtin, Sem.run_bind, Sem.run_pure, Result.andThen_ok, List.map_toArray, List.map_cons, List.map_nil, hs, hx, hrun]
  exact hK _ _ (h A' n' c' w' h0 h2 h3 h4)

/-- the cells of pairs of ints -/
def prs (k : IntKind) (L : List (Int × Int)) : List Value := L.flatMap fun p => [.int .i64 p.1, .int k p.2]
theorem prs_length (k : IntKind) : ∀ L : List (Int × Int), (prs k L).length = L.length * 2
  | [] => rfl
  | p :: L => by
    have := prs_length k L
    simp only [prs, List.flatMap_cons, List.length_append, List.length_cons, List.length_nil] at this ⊢
    omega
theorem prs_append (k : IntKind) (a b : List (Int × Int)) : prs k (a ++ b) = prs k a ++ prs k b := by simp [prs]
theorem prs_one (k : IntKind) (L : List (Int × Int)) : ∀ u ∈ prs k L, u.oneCell' = true := by
  intro u hu
  simp only [prs, List.mem_flatMap] at hu
  obtain ⟨p, _, h⟩ := hu
  simp only [List.mem_cons, List.not_mem_nil, or_false] at h
  rcases h with rfl | rfl <;> rfl
theorem prs_take (q : IntKind) : ∀ (L : List (Int × Int)) (k : Nat), (prs q L).take (k * 2) = prs q (L.take k)
  | _, 0 => by simp [prs]
  | [], k + 1 => by simp [prs]
  | p :: L, k + 1 => by
    have := prs_take q L k
    simp only [prs, List.flatMap_cons, List.take_succ_cons] at this ⊢
    rw [show (k + 1) * 2 = k * 2 + 1 + 1 by omega]
    simp [this]
theorem prs_drop (q : IntKind) : ∀ (L : List (Int × Int)) (k : Nat), (prs q L).drop (k * 2) = prs q (L.drop k)
  | _, 0 => by simp [prs]
  | [], k + 1 => by simp [prs]
  | p :: L, k + 1 => by
    have := prs_drop q L k
    simp only [prs, List.flatMap_cons, List.drop_succ_cons] at this ⊢
    rw [show (k + 1) * 2 = k * 2 + 1 + 1 by omega]
    simp [this]
theorem prs_at (k : IntKind) : ∀ (L : List (Int × Int)) (i : Nat) (h : i < L.length), (prs k L)[2 * i]? = some (.int .i64 L[i].1) ∧ (prs k L)[2 * i + 1]? = some (.int k L[i].2)
  | [], i, h => by simp at h
  | p :: L, 0, _ => by simp [prs]
  | p :: L, i + 1, h => by
    have := prs_at k L i (by simpa using h)
    simp only [prs, List.flatMap_cons] at this ⊢
    rw [show 2 * (i + 1) = 2 * i + 1 + 1 by omega]
    simpa using this
end Go.Proofs.Ytfmkndemkpecpaa
