/- A lease that came in; the law CidLeases. -/
import Derived.Test.YtldecdeiibfekaaCidQ
import Derived.Test.YtldecdeiibfekaaCidO
namespace Go.Proofs.Ytldecdeiibfekaa
open Go.RowKit Go.ChangeShapes Go.WideShapes
set_option linter.unusedVariables false

set_option maxRecDepth 100000 in
theorem open_lease {H : Type} {enc : TypeId × Value → H} {W : World} {base : Nat} {v : Value} {dt : DataW H} {p : List MemPlace} (hv : Value.okWide Try.prog W .any base 67 v) (h : DataW.Trod enc Try.prog W 0 (fun _ => true) true 67 v dt p) :
    ∃ la : Nat, ∃ lb : Nat, v = .agg (leC la lb).toArray ∧ (la < 18446744073709551616 ∧ lb < 18446744073709551616) := by
  obtain ⟨arr, rfl, hsz⟩ := okWide_struct Try.underlying67 hv
  obtain ⟨fuel, hf⟩ := h
  obtain ⟨xs, nn, _, _, hl, hlen, hg⟩ := DataW.trod_struct Try.underlying67 hf
  have hCu64 : Try.prog.cellsOf 27 = 1 := by kernel_rfl
  have hCR : Try.prog.cellsOf 67 = 2 := by kernel_rfl
  rw [hCR] at hl
  simp only [Value.cells] at hl hg
  obtain ⟨c0, c1, hcs⟩ := listN2 hl
  rw [hcs] at hg
  have hx : xs.length = 2 := by rw [hlen]; rfl
  obtain ⟨x0, x1, rfl⟩ := listN2 hx
  have h0 := hg 0 _ rfl
  have h1 := hg 1 _ rfl
  simp only [List.getElem_toArray, List.getElem_cons_zero, List.getElem_cons_succ, hCu64, List.drop_zero, List.drop_succ_cons, List.take_succ_cons, List.take_zero, List.getElem?_cons_zero, List.getElem?_cons_succ] at h0 h1
  obtain ⟨zla, e0, -, w0⟩ := DataW.trod_int Try.underlying27 h0
  have b0 := bounds_u64 w0
  obtain ⟨zlb, e1, -, w1⟩ := DataW.trod_int Try.underlying27 h1
  have b1 := bounds_u64 w1
  simp only [List.cons.injEq, and_true] at e0 e1
  subst e0
  subst e1
  refine ⟨zla.toNat, zlb.toNat, ?_, ⟨by omega, by omega⟩⟩
  congr 1
  apply Array.toList_inj.1
  rw [hcs]
  show _ = leC zla.toNat zlb.toNat
  unfold leC
  rw [Int.toNat_of_nonneg (show 0 ≤ zla by omega), Int.toNat_of_nonneg (show 0 ≤ zlb by omega)]
theorem cidLeases_row (w : World) {key : List UInt8} {n : Nat} (hk : K16 key) (hn : n < 18446744073709551616) (a b : Nat) (ha : a < 18446744073709551616) (hb : b < 18446744073709551616) (v s : Int) (u : Int) (hu : 0 ≤ u ∧ u ≤ 18446744073709551615) :
    Calls Try.prog 5 #[.agg (ringC key n).toArray, .agg (leC a b).toArray, .agg (plI v s).toArray, .int .u64 u] w fun e w' => e = .returned (.bool true) ∧ Below w.heap.size w w' := by
  obtain ⟨u, rfl⟩ := Int.eq_ofNat_of_zero_le hu.1
  by_cases h : u ≤ b - a
  · exact cidLeases_yes w key hk n hn a b ha hb v s u (by omega) h
  · exact cidLeases_no w key hk n hn a b ha hb v s u (by omega) (by omega)
end Go.Proofs.Ytldecdeiibfekaa
