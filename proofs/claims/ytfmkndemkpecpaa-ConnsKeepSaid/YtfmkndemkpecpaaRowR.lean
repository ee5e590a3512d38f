/- Rows of structs as words of a region's values; calls that hand back such a row. -/
import Derived.Test.YtfmkndemkpecpaaRow
import Derived.Test.YtfmkndemkpecpaaRelS
namespace Go.Proofs.Ytfmkndemkpecpaa
open Go.RowKit
set_option linter.unusedVariables false

/-- a slice of elements of s cells -/
def MP.rs (s : Nat) (cs : List Value) : MP := ⟨fun v w => ∃ A n c, v = .slice A n c ∧ Rs s w A n c cs, fun _ _ _ ⟨A, n, c, h1, h2⟩ h => ⟨A, n, c, h1, h2.later h.below⟩⟩
/-- a call hands back a new or old slice that reads as cs, and changes nothing that was there -/
def RetRs (s : Nat) (w : World) (cs : List Value) (e : Ending) (w' : World) : Prop := ∃ A n c bs d, e = .returned (.slice A n c) ∧ w' = plus w bs d ∧ Rs s (plus w bs d) A n c cs
theorem RetRs.mk {s : Nat} {w w' : World} {cs : List Value} {A : Option Addr} {n c : Nat} (h : Rs s w' A n c cs) (hb : Below w.heap.size w w') : RetRs s w cs (.returned (.slice A n c)) w' := by
  obtain ⟨bs, d, rfl⟩ := plus_of hb
  exact ⟨A, n, c, bs, d, rfl, rfl, h⟩
/-- an element's cells -/
theorem Rs.range2 {w : World} {b off n c : Nat} {k : IntKind} {L : List (Int × Int)} (h : Rs 2 w (some ⟨b, off, none⟩) n c (prs k L)) (j : Nat) (hj : j < L.length) :
    w.cell? ⟨b, off + j * 2, none⟩ = some (.int .i64 L[j].1) ∧ w.cell? ⟨b, off + j * 2 + 1, none⟩ = some (.int k L[j].2) := by
  have hp := prs_at k L j hj
  rcases h.2.2 with h0 | ⟨b', off', hA, hb, hc⟩
  · rw [h0] at hp; simp at hp
  · injection hA with hA
    injection hA with e1 e2
    subst e1 e2
    rw [Nat.add_assoc, Nat.mul_comm]
    exact ⟨hc _ _ hp.1, hc _ _ hp.2⟩
/-- a slice of the call's own, without room -/
def MP.ofs (e : TypeId) (s base : Nat) (cs : List Value) : MP := ⟨fun v w => ∃ A n, v = .slice A n n ∧ Os e s w base A n n cs, fun _ _ _ ⟨A, n, h1, h2⟩ h => ⟨A, n, h1, h2.later h.below⟩⟩
/-- a slice of the call's own -/
def MP.os (e : TypeId) (s base : Nat) (cs : List Value) : MP := ⟨fun v w => ∃ A n c, v = .slice A n c ∧ Os e s w base A n c cs, fun _ _ _ ⟨A, n, c, h1, h2⟩ h => ⟨A, n, c, h1, h2.later h.below⟩⟩
/-- append onto a slice without room: new memory, or nothing -/
theorem run_appFS {P : Program} (w : World) {ts ty e : TypeId} {z : Value} {s by_ : Nat} (et : ET P ts e z s by_) {base : Nat} {A : Option Addr} {n : Nat} {l : List Value} (hown : Os e s w base A n n l)
    {A2 : Option Addr} {n2 c2 : Nat} {l2 : List Value} (hr2 : Rs s w A2 n2 c2 l2) (h1 : ∀ u ∈ l2, u.oneCell' = true) (hm : n + n2 ≤ 1099511627776) (hbase : base ≤ w.heap.size) :
    ∃ A' n' c' w', (Builtin.append_ #[ts, ts] ty #[.slice A n n, .slice A2 n2 c2]).run P w = .ok (.slice A' n' c') w' ∧ n' = n + n2 ∧ Os e s w' base A' n' c' (l ++ l2) ∧ Ex w w' := by
  obtain ⟨i, hi, hz0, hz1, hz2⟩ := info_parts et.info
  have hr := hown.rs
  have hl0 : ∀ {A : Option Addr} {n c : Nat} {l : List Value}, Rs s w A n c l → A = none → l = [] := by
    intro A n c l h e
    rcases h.2.2 with h' | ⟨b, off, h', _⟩
    · exact h'
    · rw [e] at h'; cases h'
  have hn0 : ∀ {A : Option Addr} {n c : Nat} {l : List Value}, Rs s w A n c l → l = [] → n = 0 := by
    intro A n c l h e
    have h3 := h.1
    rw [e] at h3
    rcases Nat.eq_zero_or_pos n with h | h
    · exact h
    · have := Nat.mul_pos h et.pos
      simp at h3
      omega
  have hsrc : Src P i.size ts (.slice A2 n2 c2) n2 l2 w := by
    rw [hz1]
    cases A2 with
    | none =>
      have hl2 := hl0 hr2 rfl
      obtain rfl := hn0 hr2 hl2
      subst hl2
      exact Src.ofNil w et.sl c2
    | some ad =>
      refine Src.ofSlice w et.sl ad n2 c2 l2 hr2.1 (fun j u hu => ?_) h1
      rcases hr2.2.2 with h | ⟨b, off, h, _, hc⟩
      · rw [h] at hu; simp at hu
      · injection h with h
        subst h
        rw [add_plain]
        exact hc j u hu
  by_cases h0 : n2 = 0
  · subst h0
    obtain rfl : l2 = [] := List.eq_nil_of_length_eq_zero (by simpa using hr2.1)
    exact ⟨A, n, n, w, run_append_nothing w ts ts ty e i et.sl hi A n n (Nat.le_refl _) _ hsrc, rfl, by simpa using hown, Ex.refl _⟩
  · have hold : (Builtin.firstCells i.size n (.slice A n n)).run P w.drew = .ok l.toArray w.drew := by
      rw [hz1]
      cases A with
      | none =>
        have hl := hl0 hr rfl
        subst hl
        exact run_firstCells_none w.drew s n n n
      | some ad =>
        refine run_firstCells_some w.drew s n ad n n l hr.1 (fun j u hu => ?_)
        rcases hr.2.2 with h | ⟨b, off, h, _, hc⟩
        · rw [h] at hu; simp at hu
        · injection h with h
          subst h
          rw [add_plain]
          exact hc j u hu
    have hby : (n + n2) * by_ ≤ 140737488355328 := Nat.le_trans (Nat.mul_le_mul hm et.small) (by decide)
    have H := run_append_grow_src (P := P) w ts ts ty e i z et.sl hi hz0 A n n l hold _ n2 l2 hsrc (by omega) (by omega) (growslice_fits (by omega) (by rw [hz2]; exact hby))
    have hlen : (l ++ l2).length = (n + n2) * s := by rw [List.length_append, hr.1, hr2.1, Nat.add_mul]
    have hge := grownCap_ge w (n + n2) n e
    refine ⟨_, _, _, _, H, rfl, ⟨hlen, .inr ⟨w.heap.size, _, _, rfl, hbase, heap_alloc_new w.drew _, hge, grownCap_le_maxLen w (n + n2) n e (by simp only [maxLen]; omega), ?_, ?_⟩⟩, Ex.of ((Below.refl _ _).drew.alloc (Nat.le_refl _) _)⟩
    · simp only [Array.size_append, List.size_toArray, size_zeroCells, et.zs, hlen, ← Nat.add_mul]
      congr 1
      omega
    · simp only [Array.toList_append]
      rw [← hlen]
      exact List.take_left
/-- the same, as an operation of a region that draws its order -/
theorem wp_appFS {P : Program} {Q : Exit → Act → World → Prop} {w : World} {o : Oper} {a : Act} {K : Act → World → Prop} {ts e : TypeId} {z : Value} {s by_ : Nat} (et : ET P ts e z s by_) (sl x : Operand)
    (ho : o.op = .call { callee := .builtin .append, args := #[sl, x], argTypes := #[ts, ts] }) {base : Nat} {A : Option Addr} {n : Nat} {l : List Value} (hs : a.eval sl = .slice A n n) (hown : Os e s w base A n n l)
    {A2 : Option Addr} {n2 c2 : Nat} {l2 : List Value} (hx : a.eval x = .slice A2 n2 c2) (hr2 : Rs s w A2 n2 c2 l2) (h1 : ∀ u ∈ l2, u.oneCell' = true) (hm : n + n2 ≤ 1099511627776) (hbase : base ≤ w.heap.size)
    (h : ∀ A' n' c' w', n' = n + n2 → Os e s w' base A' n' c' (l ++ l2) → Ex w w' → K (a.put o.dst (.slice A' n' c')) w') : o.wp P a w K Q := by
  obtain ⟨A', n', c', w', hrun, h0, h2, h3⟩ := run_appFS (P := P) w (ty := o.type) et hown hr2 h1 hm hbase
  unfold Oper.wp execOp
  simp only [ho, resolve, invoke, builtin, Sem.run_bind, Sem.run_pure, Result.andThen_ok, List.map_toArray, List.map_cons, List.map_nil, hs, hx, hrun]
  exact h A' n' c' w' h0 h2 h3
end Go.Proofs.Ytfmkndemkpecpaa
