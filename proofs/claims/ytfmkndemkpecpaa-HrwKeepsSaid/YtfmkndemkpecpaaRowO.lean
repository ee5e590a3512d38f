/- A slice of structs of two ints that came in. -/
import Derived.Test.YtfmkndemkpecpaaRow
import Derived.Deep.SlicePairs
namespace Go.Proofs.Ytfmkndemkpecpaa
open Go.RowKit Go.ChangeShapes Go.WideShapes Go.Deep
set_option linter.unusedVariables false
set_option linter.unusedSimpArgs false

/-- the pairs that two families make -/
theorem prs_fn (F : Nat → Int × Int) : ∀ (n i : Nat) (u : Value), (prs .i64 ((List.range n).map F))[i]? = some u → i < n * 2 ∧ (i % 2 = 0 ∧ u = .int .i64 (F (i / 2)).1 ∨ i % 2 = 1 ∧ u = .int .i64 (F (i / 2)).2) := by
  intro n i u hu
  have hi : i < (prs .i64 ((List.range n).map F)).length := (List.getElem?_eq_some_iff.1 hu).1
  rw [prs_length, List.length_map, List.length_range] at hi
  have hk : i / 2 < ((List.range n).map F).length := by rw [List.length_map, List.length_range]; omega
  have h := prs_at .i64 ((List.range n).map F) (i / 2) hk
  simp only [List.getElem_map, List.getElem_range] at h
  refine ⟨hi, ?_⟩
  rcases Nat.mod_two_eq_zero_or_one i with h0 | h0
  · rw [show 2 * (i / 2) = i by omega] at h
    exact .inl ⟨h0, (Option.some.inj (hu.symm.trans h.1))⟩
  · rw [show 2 * (i / 2) + 1 = i by omega] at h
    exact .inr ⟨h0, (Option.some.inj (hu.symm.trans h.2))⟩
theorem open_prs {H : Type} {enc : TypeId × Value → H} {P : Program} {W : World} {base : Nat} {t e : TypeId} {f0 f1 : Field} {v : Value} {d : DataW H} {p : List MemPlace}
    (ht : P.underlying t = some (.slice e)) (he : P.underlying e = some (.struct #[f0, f1])) (ce : P.cellsOf e = 2) (o0 : f0.offset = 0) (o1 : f1.offset = 1) (c0 : P.cellsOf f0.type = 1) (c1 : P.cellsOf f1.type = 1)
    (k0 : P.underlying f0.type = some (.int .i64)) (k1 : P.underlying f1.type = some (.int .i64)) (hv : Value.okWide P W .any base t v)
    (h : DataW.Trod enc P W 0 (fun _ => true) true t v d p) :
    ∃ A c, ∃ L : List (Int × Int), v = .slice A L.length c ∧ L.length ≤ c ∧ c ≤ maxLen ∧ Rd W W.heap.size A (prs .i64 L) ∧ ∀ q ∈ L, (Lit.int .i64 q.1).wf = true ∧ (Lit.int .i64 q.2).wf = true := by
  obtain ⟨a0, len, cap, rfl⟩ := okWide_slice ht hv
  obtain ⟨fuel, hf⟩ := h
  rcases open_slice_pairs ht he ce o0 o1 c0 c1 hf with ⟨hcs, _⟩ | ⟨a, l', c', m, n, V0, V1, D0, D1, P0, P1, hcs, _, hl, hm, hmm, _, hx⟩
  · simp [Value.cells] at hcs
    obtain ⟨rfl, rfl, rfl⟩ := hcs
    exact ⟨none, 0, [], rfl, by simp, by simp, .inl rfl, fun q hq => by simp at hq⟩
  · simp [Value.cells] at hcs
    obtain ⟨rfl, rfl, rfl⟩ := hcs
    have hlm : len ≤ m := by rw [hmm]; split <;> omega
    have each : ∀ i, i < len → ∃ q : Int × Int, W.cell? (a.add (i * 2)) = some (.int .i64 q.1) ∧ W.cell? (a.add (i * 2 + 1)) = some (.int .i64 q.2) ∧ (Lit.int .i64 q.1).wf = true ∧ (Lit.int .i64 q.2).wf = true := by
      intro i hi
      obtain ⟨h0, h1, t0, t1⟩ := hx i (by omega)
      obtain ⟨n0, e0, _, w0⟩ := DataW.trod_int k0 t0
      obtain ⟨n1, e1, _, w1⟩ := DataW.trod_int k1 t1
      injection e0 with e0
      injection e1 with e1
      exact ⟨(n0, n1), by rw [← e0]; exact h0, by rw [← e1]; exact h1, w0, w1⟩
    obtain ⟨F, hF⟩ := choose_lt each
    refine ⟨some a, cap, (List.range len).map F, by simp, by simpa using hl, hm, ?_, ?_⟩
    · rcases Nat.eq_zero_or_pos len with h0 | h0
      · exact .inl (by simp [h0, prs])
      · have hc0 := (hF 0 h0).1
        obtain ⟨b, off, spot⟩ := a
        have hspot : spot = none := by simpa [Addr.add] using World.cell?_spot hc0
        subst hspot
        refine .inr ⟨b, off, rfl, lt_of_cell hc0, fun i u hu => ?_⟩
        obtain ⟨hi, h⟩ := prs_fn F len i u hu
        have hF' := hF (i / 2) (by omega)
        rw [add_plain, add_plain] at hF'
        rcases h with ⟨hm2, rfl⟩ | ⟨hm2, rfl⟩
        · rw [show off + i = off + i / 2 * 2 by omega]; exact hF'.1
        · rw [show off + i = off + (i / 2 * 2 + 1) by omega]; exact hF'.2.1
    · intro q hq
      obtain ⟨i, hi, rfl⟩ := List.mem_map.1 hq
      exact ⟨(hF i (List.mem_range.1 hi)).2.2.1, (hF i (List.mem_range.1 hi)).2.2.2⟩
end Go.Proofs.Ytfmkndemkpecpaa
