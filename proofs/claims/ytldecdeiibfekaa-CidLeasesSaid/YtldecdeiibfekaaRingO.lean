/- The argument of the laws on rings, opened. -/
import Derived.Test.YtldecdeiibfekaaRingK
import Derived.ProofKit
namespace Go.Proofs.Ytldecdeiibfekaa
open Go.RowKit Go.ChangeShapes Go.WideShapes Go.ChangeAt
set_option linter.unusedVariables false

/-- Cells that read as an array of bytes. -/
theorem open_arr_cells {H : Type} {enc : TypeId × Value → H} {P : Program} {W : World} {n m : Nat} {t e : TypeId} {cs : List Value} {y : DataW H × List MemPlace}
    (ht : P.underlying t = some (.array n e)) (he : P.underlying e = some (.int .u8)) (hC : P.cellsOf e = 1) (hCt : P.cellsOf t = n)
    (hf : DataW.trod enc P W 0 (fun _ => true) true m t cs = some y) : ∃ l : List UInt8, cs = bcs l ∧ l.length = n := by
  obtain ⟨xs, m', _, _, hl, hlen, hg⟩ := DataW.trod_array ht hf
  have hcs : cs.length = n := by omega
  have each : ∀ i, i < n → ∃ b : UInt8, cs[i]? = some (.int .u8 (b.toNat : Int)) := by
    intro i hi
    have h1 := hg i hi
    rw [hC, Nat.mul_one] at h1
    have hxi : xs[i]? = some (xs[i]'(by omega)) := List.getElem?_eq_getElem (by omega)
    rw [hxi] at h1
    obtain ⟨z, hz, _, hw⟩ := DataW.trod_int he h1
    have hb := bounds_u8 hw
    refine ⟨UInt8.ofNat z.toNat, ?_⟩
    have hic : i < cs.length := by omega
    simp only [List.drop_eq_getElem_cons hic, List.take_succ_cons, List.take_zero, List.cons.injEq, and_true] at hz
    rw [List.getElem?_eq_getElem hic, hz]
    simp
    omega
  refine ⟨(List.range n).map fun i => match cs[i]? with | some (Value.int _ z) => UInt8.ofNat z.toNat | _ => 0, ?_, by simp⟩
  apply List.ext_getElem
  · simp [bcs, hcs]
  · intro i h1 h2
    obtain ⟨b, hb⟩ := each i (by omega)
    have hb2 : cs[i] = .int .u8 (b.toNat : Int) := by rw [List.getElem?_eq_getElem h1] at hb; exact Option.some.inj hb
    simp [bcs, hb2, hb]

set_option maxRecDepth 100000 in
theorem open_ring {H : Type} {enc : TypeId × Value → H} {W : World} {base : Nat} {v : Value} {d : DataW H} {p : List MemPlace} (hv : Value.okWide Try.prog W .any base 51 v)
    (h : DataW.Trod enc Try.prog W 0 (fun _ => true) true 51 v d p) : ∃ key n, v = .agg (ringC key n).toArray ∧ K16 key ∧ n < 18446744073709551616 := by
  obtain ⟨cs, rfl, hsz⟩ := okWide_struct Try.underlying51 hv
  obtain ⟨fuel, hf⟩ := h
  obtain ⟨xs, n, _, _, hl, hlen, hg⟩ := DataW.trod_struct Try.underlying51 hf
  have h0 := hg 0 _ rfl
  have h1 := hg 1 _ rfl
  have hC0 : Try.prog.cellsOf 49 = 16 := by kernel_rfl
  have hC1 : Try.prog.cellsOf 27 = 1 := by kernel_rfl
  have hCR : Try.prog.cellsOf 51 = 17 := by kernel_rfl
  rw [hCR] at hsz
  simp only [List.getElem_toArray, List.getElem_cons_zero, List.getElem_cons_succ] at h0 h1
  rw [hC0, List.drop_zero] at h0
  rw [hC1] at h1
  have hx0 : xs[0]? = some (xs[0]'(by rw [hlen]; decide)) := List.getElem?_eq_getElem _
  have hx1 : xs[1]? = some (xs[1]'(by rw [hlen]; decide)) := List.getElem?_eq_getElem _
  rw [hx0] at h0
  rw [hx1] at h1
  obtain ⟨key, hk, hkl⟩ := open_arr_cells Try.underlying49 Try.underlying5 (by kernel_rfl) hC0 h0
  obtain ⟨z, hz, _, hw⟩ := DataW.trod_int Try.underlying27 h1
  have hb := bounds_u64 hw
  refine ⟨key, z.toNat, ?_, hkl, by omega⟩
  congr 1
  apply Array.toList_inj.1
  simp only [Value.cells] at hk hz
  unfold ringC
  rw [← List.take_append_drop 16 cs.toList, hk]
  congr 1
  have h17 : cs.toList.length = 17 := by simpa using hsz
  rw [List.take_of_length_le (by rw [List.length_drop, h17]; decide)] at hz
  rw [hz]
  congr 2
  omega
end Go.Proofs.Ytldecdeiibfekaa
