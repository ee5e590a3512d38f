/- Addresses and flows that came in. -/
import Derived.Test.YticlohlpccollaaCook
import Derived.Test.YticlohlpccollaaRingO
namespace Go.Proofs.Yticlohlpccollaa
open Go.RowKit Go.ChangeShapes Go.WideShapes Go.ChangeAt
set_option linter.unusedVariables false

theorem list3 {α : Type} {l : List α} (h : l.length = 3) : ∃ a b c, l = [a, b, c] := by
  match l, h with
  | [a, b, c], _ => exact ⟨a, b, c, rfl⟩
theorem list9 {α : Type} {l : List α} (h : l.length = 9) : ∃ a b c d e f g i j, l = [a, b, c, d, e, f, g, i, j] := by
  match l, h with
  | [a, b, c, d, e, f, g, i, j], _ => exact ⟨a, b, c, d, e, f, g, i, j, rfl⟩
set_option maxRecDepth 100000 in
theorem open_adr_cells {H : Type} {enc : TypeId × Value → H} {W : World} {m : Nat} {cs : List Value} {y : DataW H × List MemPlace}
    (hf : DataW.trod enc Try.prog W 0 (fun _ => true) true m 64 cs = some y) : ∃ six, ∃ ah al : Nat, cs = [.bool six, .int .u64 ah, .int .u64 al] ∧ ah < 18446744073709551616 ∧ al < 18446744073709551616 := by
  obtain ⟨xs, n, _, _, hl, hlen, hg⟩ := DataW.trod_struct Try.underlying64 hf
  have hC0 : Try.prog.cellsOf 4 = 1 := by kernel_rfl
  have hC1 : Try.prog.cellsOf 50 = 1 := by kernel_rfl
  have hCR : Try.prog.cellsOf 64 = 3 := by kernel_rfl
  rw [hCR] at hl
  obtain ⟨c0, c1, c2, rfl⟩ := list3 hl
  have hx : xs.length = 3 := by rw [hlen]; rfl
  obtain ⟨x0, x1, x2, rfl⟩ := list3 hx
  have h0 := hg 0 _ rfl
  have h1 := hg 1 _ rfl
  have h2 := hg 2 _ rfl
  simp only [List.getElem_toArray, List.getElem_cons_zero, List.getElem_cons_succ, hC0, hC1, List.drop_zero, List.drop_succ_cons, List.take_succ_cons, List.take_zero, List.getElem?_cons_zero, List.getElem?_cons_succ] at h0 h1 h2
  obtain ⟨b, hb, _⟩ := DataW.trod_bool Try.underlying4 h0
  obtain ⟨z1, hz1, _, hw1⟩ := DataW.trod_int Try.underlying50 h1
  obtain ⟨z2, hz2, _, hw2⟩ := DataW.trod_int Try.underlying50 h2
  have b1 := bounds_u64 hw1
  have b2 := bounds_u64 hw2
  simp only [List.cons.injEq, and_true] at hb hz1 hz2
  subst hb hz1 hz2
  exact ⟨b, z1.toNat, z2.toNat, by simp; omega, by omega, by omega⟩
set_option maxRecDepth 100000 in
theorem open_adr {H : Type} {enc : TypeId × Value → H} {W : World} {base : Nat} {v : Value} {d : DataW H} {p : List MemPlace} (hv : Value.okWide Try.prog W .any base 64 v)
    (h : DataW.Trod enc Try.prog W 0 (fun _ => true) true 64 v d p) : ∃ six, ∃ ah al : Nat, v = .agg #[.bool six, .int .u64 ah, .int .u64 al] ∧ ah < 18446744073709551616 ∧ al < 18446744073709551616 := by
  obtain ⟨cs, rfl, hsz⟩ := okWide_struct Try.underlying64 hv
  obtain ⟨fuel, hf⟩ := h
  obtain ⟨six, ah, al, hc, h1, h2⟩ := open_adr_cells hf
  refine ⟨six, ah, al, ?_, h1, h2⟩
  simp only [Value.cells] at hc
  congr 1
  exact Array.toList_inj.1 hc
set_option maxRecDepth 100000 in
theorem open_flow_cells {H : Type} {enc : TypeId × Value → H} {W : World} {m : Nat} {cs : List Value} {y : DataW H × List MemPlace}
    (hf : DataW.trod enc Try.prog W 0 (fun _ => true) true m 79 cs = some y) : ∃ f : Flw, cs = f.cells ∧ f.ok := by
  obtain ⟨xs, n, _, _, hl, hlen, hg⟩ := DataW.trod_struct Try.underlying79 hf
  have hC0 : Try.prog.cellsOf 64 = 3 := by kernel_rfl
  have hC1 : Try.prog.cellsOf 24 = 1 := by kernel_rfl
  have hC2 : Try.prog.cellsOf 5 = 1 := by kernel_rfl
  have hCR : Try.prog.cellsOf 79 = 9 := by kernel_rfl
  rw [hCR] at hl
  obtain ⟨c0, c1, c2, c3, c4, c5, c6, c7, c8, rfl⟩ := list9 hl
  have hx : xs.length = 5 := by rw [hlen]; rfl
  obtain ⟨x0, x1, x2, x3, x4, rfl⟩ : ∃ a b c d e, xs = [a, b, c, d, e] := by
    match xs, hx with
    | [a, b, c, d, e], _ => exact ⟨a, b, c, d, e, rfl⟩
  have h0 := hg 0 _ rfl
  have h1 := hg 1 _ rfl
  have h2 := hg 2 _ rfl
  have h3 := hg 3 _ rfl
  have h4 := hg 4 _ rfl
  simp only [List.getElem_toArray, List.getElem_cons_zero, List.getElem_cons_succ, hC0, hC1, hC2, List.drop_zero, List.drop_succ_cons, List.take_succ_cons, List.take_zero, List.getElem?_cons_zero, List.getElem?_cons_succ] at h0 h1 h2 h3 h4
  obtain ⟨s6, sh, sl, es, s1, s2⟩ := open_adr_cells h0
  obtain ⟨d6, dh, dl, ed, d1, d2⟩ := open_adr_cells h1
  obtain ⟨z2, hz2, _, hw2⟩ := DataW.trod_int Try.underlying24 h2
  obtain ⟨z3, hz3, _, hw3⟩ := DataW.trod_int Try.underlying24 h3
  obtain ⟨z4, hz4, _, hw4⟩ := DataW.trod_int Try.underlying5 h4
  have b2 := bounds_u16 hw2
  have b3 := bounds_u16 hw3
  have b4 := bounds_u8 hw4
  simp only [List.cons.injEq, and_true] at es ed hz2 hz3 hz4
  obtain ⟨rfl, rfl, rfl⟩ := es
  obtain ⟨rfl, rfl, rfl⟩ := ed
  subst hz2 hz3 hz4
  refine ⟨⟨s6, sh, sl, d6, dh, dl, z2.toNat, z3.toNat, z4.toNat⟩, by simp [Flw.cells]; omega, ⟨s1, s2, d1, d2, ?_, ?_, ?_⟩⟩
  · show z2.toNat < 65536
    omega
  · show z3.toNat < 65536
    omega
  · show z4.toNat < 256
    omega
set_option maxRecDepth 100000 in
theorem open_flow {H : Type} {enc : TypeId × Value → H} {W : World} {base : Nat} {v : Value} {d : DataW H} {p : List MemPlace} (hv : Value.okWide Try.prog W .any base 79 v)
    (h : DataW.Trod enc Try.prog W 0 (fun _ => true) true 79 v d p) : ∃ f : Flw, v = .agg f.cells.toArray ∧ f.ok := by
  obtain ⟨cs, rfl, hsz⟩ := okWide_struct Try.underlying79 hv
  obtain ⟨fuel, hf⟩ := h
  obtain ⟨f, hc, hk⟩ := open_flow_cells hf
  refine ⟨f, ?_, hk⟩
  simp only [Value.cells] at hc
  congr 1
  exact Array.toList_inj.1 hc
end Go.Proofs.Yticlohlpccollaa
