/- Slices of structs of any kind that came in; flows and acts that came in. -/
import Derived.Test.YtfmkndemkpecpaaConA
import Derived.Test.YtfmkndemkpecpaaOpnA
import Derived.Deep.Slices
namespace Go.Proofs.Ytfmkndemkpecpaa
open Go.RowKit Go.ChangeShapes Go.WideShapes Go.Deep
set_option linter.unusedVariables false
set_option linter.unusedSimpArgs false

theorem open_rows {X : Type} [Inhabited X] (encX : X → List Value) (ok : X → Prop) (c : Nat) (hlen : ∀ x, (encX x).length = c) (hpos : 0 < c) {H : Type} {enc : TypeId × Value → H} {P : Program} {W : World} {base : Nat} {t e : TypeId} {v : Value} {d : DataW H} {p : List MemPlace}
    (ht : P.underlying t = some (.slice e)) (ce : P.cellsOf e = c) (each : ∀ m cs y, DataW.trod enc P W 0 (fun _ => true) true m e cs = some y → ∃ x, cs = encX x ∧ ok x) (hv : Value.okWide P W .any base t v)
    (h : DataW.Trod enc P W 0 (fun _ => true) true t v d p) :
    ∃ A k, ∃ L : List X, v = .slice A L.length k ∧ L.length ≤ k ∧ k ≤ maxLen ∧ Rd W W.heap.size A (L.flatMap encX) ∧ ∀ x ∈ L, ok x := by
  obtain ⟨a0, len, cap, rfl⟩ := okWide_slice ht hv
  obtain ⟨fuel, hf⟩ := h
  rcases open_slice ht hf with ⟨hcs, _⟩ | ⟨a, l', c', m, n, D, Pl, hcs, _, hl, hm, hmm, _, hx⟩
  · simp [Value.cells] at hcs
    obtain ⟨rfl, rfl, rfl⟩ := hcs
    exact ⟨none, 0, [], rfl, by simp, by simp, .inl rfl, fun q hq => by simp at hq⟩
  · simp [Value.cells] at hcs
    obtain ⟨rfl, rfl, rfl⟩ := hcs
    have hlm : len ≤ m := by rw [hmm]; split <;> omega
    have each2 : ∀ i, i < len → ∃ q : X, ok q ∧ ∀ j, j < c → W.cell? ((a.add (i * c)).add j) = (encX q)[j]? := by
      intro i hi
      obtain ⟨cs', h1, h2⟩ := hx i (by omega)
      rw [ce] at h1
      obtain ⟨_, hlen', hcell⟩ := World.cells?_some h1
      obtain ⟨q, rfl, hq⟩ := each _ _ _ h2
      exact ⟨q, hq, hcell⟩
    obtain ⟨F, hF⟩ := choose_lt each2
    have hFl : ∀ (n i : Nat) (u : Value), (((List.range n).map F).flatMap encX)[i]? = some u → i / c < n ∧ (encX (F (i / c)))[i % c]? = some u := by
      intro n
      induction n with
      | zero => intro i u hu; simp at hu
      | succ n ih =>
        intro i u hu
        rw [List.range_succ, List.map_append, List.flatMap_append] at hu
        have hln : (((List.range n).map F).flatMap encX).length = n * c := by
          clear hu ih
          induction n with
          | zero => simp
          | succ n ih => rw [List.range_succ, List.map_append, List.flatMap_append, List.length_append, ih]; simp [hlen, Nat.add_mul]
        by_cases hi : i < n * c
        · rw [List.getElem?_append_left (by rw [hln]; exact hi)] at hu
          have := ih i u hu
          exact ⟨by omega, this.2⟩
        · rw [List.getElem?_append_right (by rw [hln]; omega), hln] at hu
          simp only [List.map_cons, List.map_nil, List.flatMap_cons, List.flatMap_nil, List.append_nil] at hu
          have h3 := (List.getElem?_eq_some_iff.1 hu).1
          rw [hlen] at h3
          obtain ⟨r, rfl⟩ : ∃ r, i = n * c + r := ⟨i - n * c, by omega⟩
          have e0 : n * c + r - n * c = r := by omega
          rw [e0] at hu h3
          have e1 : (n * c + r) / c = n := by
            rw [Nat.add_comm, Nat.add_mul_div_right _ _ hpos, Nat.div_eq_of_lt h3]; omega
          have e2 : (n * c + r) % c = r := by rw [Nat.add_comm, Nat.add_mul_mod_self_right, Nat.mod_eq_of_lt h3]
          rw [e1, e2]
          exact ⟨by omega, hu⟩
    refine ⟨some a, cap, (List.range len).map F, by simp, by simpa using hl, hm, ?_, ?_⟩
    · rcases Nat.eq_zero_or_pos len with h0 | h0
      · exact .inl (by simp [h0])
      · have hc0 := (hF 0 h0).2 0 hpos
        obtain ⟨b, off, spot⟩ := a
        have h1 : 0 < (encX (F 0)).length := by rw [hlen]; exact hpos
        rw [List.getElem?_eq_getElem h1] at hc0
        have hspot : spot = none := by simpa [Addr.add] using World.cell?_spot hc0
        subst hspot
        refine .inr ⟨b, off, rfl, by have := lt_of_cell hc0; simpa [Addr.add] using this, fun i u hu => ?_⟩
        obtain ⟨hi, h⟩ := hFl len i u hu
        have hF' := (hF (i / c) hi).2 (i % c) (Nat.mod_lt _ hpos)
        rw [add_plain, add_plain, h] at hF'
        rw [← hF']
        congr 2
        have := Nat.div_add_mod i c
        rw [Nat.mul_comm] at this
        omega
    · intro q hq
      obtain ⟨i, hi, rfl⟩ := List.mem_map.1 hq
      exact (hF i (List.mem_range.1 hi)).1
theorem list9 {α : Type} {l : List α} (h : l.length = 9) : ∃ a b c d e f g i j, l = [a, b, c, d, e, f, g, i, j] := by
  match l, h with
  | [a, b, c, d, e, f, g, i, j], _ => exact ⟨a, b, c, d, e, f, g, i, j, rfl⟩
theorem list11 {α : Type} {l : List α} (h : l.length = 11) : ∃ a b c d e f g i j k m, l = [a, b, c, d, e, f, g, i, j, k, m] := by
  match l, h with
  | [a, b, c, d, e, f, g, i, j, k, m], _ => exact ⟨a, b, c, d, e, f, g, i, j, k, m, rfl⟩
set_option maxRecDepth 100000 in
theorem open_fw_cells {H : Type} {enc : TypeId × Value → H} {W : World} {m : Nat} {cs : List Value} {y : DataW H × List MemPlace}
    (hf : DataW.trod enc Try.prog W 0 (fun _ => true) true m 29 cs = some y) : ∃ f : Fw, cs = f.c := by
  obtain ⟨xs, n, _, _, hl, hlen, hg⟩ := DataW.trod_struct Try.underlying29 hf
  have hC0 : Try.prog.cellsOf 26 = 3 := by kernel_rfl
  have hC1 : Try.prog.cellsOf 27 = 1 := by kernel_rfl
  have hC2 : Try.prog.cellsOf 5 = 1 := by kernel_rfl
  have hCR : Try.prog.cellsOf 29 = 9 := by kernel_rfl
  rw [hCR] at hl
  obtain ⟨c0, c1, c2, c3, c4, c5, c6, c7, c8, rfl⟩ := list9 hl
  have hx : xs.length = 5 := by rw [hlen]; rfl
  obtain ⟨x0, x1, x2, x3, x4, rfl⟩ : ∃ a b c d e, xs = [a, b, c, d, e] := by
    match xs, hx with
    | [a, b, c, d, e], _ => exact ⟨a, b, c, d, e, rfl⟩
  have h0 := hg 0 _ rfl
  have h1 := hg 1 _ rfl
  have h2 := hg 2 _ rfl
  have h3 := hg 3 _ rfl
  have h4 := hg 4 _ rfl
  simp only [List.getElem_toArray, List.getElem_cons_zero, List.getElem_cons_succ, hC0, hC1, hC2, List.drop_zero, List.drop_succ_cons, List.take_succ_cons, List.take_zero, List.getElem?_cons_zero, List.getElem?_cons_succ] at h0 h1 h2 h3 h4
  obtain ⟨s6, sh, sl, es, s1, s2⟩ := open_adr_cells h0
  obtain ⟨d6, dh, dl, ed, d1, d2⟩ := open_adr_cells h1
  obtain ⟨z2, hz2, _, hw2⟩ := DataW.trod_int Try.underlying27 h2
  obtain ⟨z3, hz3, _, hw3⟩ := DataW.trod_int Try.underlying27 h3
  obtain ⟨z4, hz4, _, hw4⟩ := DataW.trod_int Try.underlying5 h4
  have b2 := bounds_u16 hw2
  have b3 := bounds_u16 hw3
  have b4 := bounds_u8 hw4
  simp only [List.cons.injEq, and_true] at es ed hz2 hz3 hz4
  obtain ⟨rfl, rfl, rfl⟩ := es
  obtain ⟨rfl, rfl, rfl⟩ := ed
  subst hz2 hz3 hz4
  refine ⟨⟨s6, sh, sl, d6, dh, dl, z2.toNat, z3.toNat, z4.toNat⟩, by simp [Fw.c, flC]; omega⟩
set_option maxRecDepth 100000 in
theorem open_fw {H : Type} {enc : TypeId × Value → H} {W : World} {base : Nat} {v : Value} {d : DataW H} {p : List MemPlace} (hv : Value.okWide Try.prog W .any base 29 v)
    (h : DataW.Trod enc Try.prog W 0 (fun _ => true) true 29 v d p) : ∃ f : Fw, v = f.v := by
  obtain ⟨cs, rfl, hsz⟩ := okWide_struct Try.underlying29 hv
  obtain ⟨fuel, hf⟩ := h
  obtain ⟨f, hc⟩ := open_fw_cells hf
  refine ⟨f, ?_⟩
  simp only [Value.cells] at hc
  unfold Fw.v
  congr 1
  exact Array.toList_inj.1 hc
instance : Inhabited Fw := ⟨⟨false, 0, 0, false, 0, 0, 0, 0, 0⟩⟩
set_option maxRecDepth 100000 in
theorem open_fws {H : Type} {enc : TypeId × Value → H} {W : World} {base : Nat} {v : Value} {d : DataW H} {p : List MemPlace} (hv : Value.okWide Try.prog W .any base 111 v)
    (h : DataW.Trod enc Try.prog W 0 (fun _ => true) true 111 v d p) :
    ∃ A k, ∃ L : List Fw, v = .slice A L.length k ∧ L.length ≤ k ∧ k ≤ maxLen ∧ Rd W W.heap.size A (L.flatMap Fw.c) := by
  obtain ⟨A, k, L, h1, h2, h3, h4, _⟩ := open_rows Fw.c (fun _ => True) 9 Fw.c_len (by decide) Try.underlying111 (by kernel_rfl) (fun m cs y hy => by obtain ⟨f, hf⟩ := open_fw_cells hy; exact ⟨f, hf, trivial⟩) hv h
  exact ⟨A, k, L, h1, h2, h3, h4⟩
/-- an act: its kind, its flow, its word -/
structure Ac where
  k : Int
  f : Fw
  wd : Nat
def Ac.c (a : Ac) : List Value := .int .i64 a.k :: a.f.c ++ [.int .u16 (a.wd : Int)]
theorem Ac.c_len (a : Ac) : a.c.length = 11 := rfl
instance : Inhabited Ac := ⟨⟨0, default, 0⟩⟩
set_option maxRecDepth 100000 in
theorem open_ac_cells {H : Type} {enc : TypeId × Value → H} {W : World} {m : Nat} {cs : List Value} {y : DataW H × List MemPlace}
    (hf : DataW.trod enc Try.prog W 0 (fun _ => true) true m 123 cs = some y) : ∃ a : Ac, cs = a.c ∧ ((-9223372036854775808 ≤ a.k ∧ a.k ≤ 9223372036854775807) ∧ a.wd < 65536) := by
  obtain ⟨xs, n, _, _, hl, hlen, hg⟩ := DataW.trod_struct Try.underlying123 hf
  have hC0 : Try.prog.cellsOf 29 = 9 := by kernel_rfl
  have hC1 : Try.prog.cellsOf 27 = 1 := by kernel_rfl
  have hC2 : Try.prog.cellsOf 3 = 1 := by kernel_rfl
  have hCR : Try.prog.cellsOf 123 = 11 := by kernel_rfl
  rw [hCR] at hl
  obtain ⟨c0, c1, c2, c3, c4, c5, c6, c7, c8, c9, c10, rfl⟩ := list11 hl
  have hx : xs.length = 3 := by rw [hlen]; rfl
  obtain ⟨x0, x1, x2, rfl⟩ : ∃ a b c, xs = [a, b, c] := by
    match xs, hx with
    | [a, b, c], _ => exact ⟨a, b, c, rfl⟩
  have h0 := hg 0 _ rfl
  have h1 := hg 1 _ rfl
  have h2 := hg 2 _ rfl
  simp only [List.getElem_toArray, List.getElem_cons_zero, List.getElem_cons_succ, hC0, hC1, hC2, List.drop_zero, List.drop_succ_cons, List.take_succ_cons, List.take_zero, List.getElem?_cons_zero, List.getElem?_cons_succ] at h0 h1 h2
  obtain ⟨k, hk, _, hw0⟩ := DataW.trod_int Try.underlying3 h0
  obtain ⟨f, hfw⟩ := open_fw_cells h1
  obtain ⟨z2, hz2, _, hw2⟩ := DataW.trod_int Try.underlying27 h2
  have b0 := bounds_i64 hw0
  have b2 := bounds_u16 hw2
  simp only [List.cons.injEq, and_true] at hk hz2
  subst hk hz2
  refine ⟨⟨k, f, z2.toNat⟩, ?_, by simp only []; omega, by simp only []; omega⟩
  simp only [Ac.c, ← hfw]
  simp
  omega
set_option maxRecDepth 100000 in
theorem open_acs {H : Type} {enc : TypeId × Value → H} {W : World} {base : Nat} {v : Value} {d : DataW H} {p : List MemPlace} (hv : Value.okWide Try.prog W .any base 120 v)
    (h : DataW.Trod enc Try.prog W 0 (fun _ => true) true 120 v d p) :
    ∃ A k, ∃ L : List Ac, v = .slice A L.length k ∧ L.length ≤ k ∧ k ≤ maxLen ∧ Rd W W.heap.size A (L.flatMap Ac.c) ∧ ∀ a ∈ L, (-9223372036854775808 ≤ a.k ∧ a.k ≤ 9223372036854775807) ∧ a.wd < 65536 :=
  open_rows Ac.c (fun a => (-9223372036854775808 ≤ a.k ∧ a.k ≤ 9223372036854775807) ∧ a.wd < 65536) 11 Ac.c_len (by decide) Try.underlying120 (by kernel_rfl) (fun m cs y hy => open_ac_cells hy) hv h
end Go.Proofs.Ytfmkndemkpecpaa
