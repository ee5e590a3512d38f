/- A place that came in. -/
import Derived.Test.YtldecdeiibfekaaCidN
import Derived.Test.YtldecdeiibfekaaOpnA
import Derived.Test.YtldecdeiibfekaaRingO
namespace Go.Proofs.Ytldecdeiibfekaa
open Go.RowKit Go.ChangeShapes Go.WideShapes
set_option linter.unusedVariables false

set_option maxRecDepth 100000 in
theorem open_place {H : Type} {enc : TypeId × Value → H} {W : World} {base : Nat} {v : Value} {dt : DataW H} {p : List MemPlace} (hv : Value.okWide Try.prog W .any base 53 v) (h : DataW.Trod enc Try.prog W 0 (fun _ => true) true 53 v dt p) :
    ∃ pv : Int, ∃ ps : Int, v = .agg (plI pv ps).toArray ∧ ((-9223372036854775808 ≤ pv ∧ pv ≤ 9223372036854775807) ∧ (-9223372036854775808 ≤ ps ∧ ps ≤ 9223372036854775807)) := by
  obtain ⟨arr, rfl, hsz⟩ := okWide_struct Try.underlying53 hv
  obtain ⟨fuel, hf⟩ := h
  obtain ⟨xs, nn, _, _, hl, hlen, hg⟩ := DataW.trod_struct Try.underlying53 hf
  have hCint : Try.prog.cellsOf 3 = 1 := by kernel_rfl
  have hCR : Try.prog.cellsOf 53 = 2 := by kernel_rfl
  rw [hCR] at hl
  simp only [Value.cells] at hl hg
  obtain ⟨c0, c1, hcs⟩ := listN2 hl
  rw [hcs] at hg
  have hx : xs.length = 2 := by rw [hlen]; rfl
  obtain ⟨x0, x1, rfl⟩ := listN2 hx
  have h0 := hg 0 _ rfl
  have h1 := hg 1 _ rfl
  simp only [List.getElem_toArray, List.getElem_cons_zero, List.getElem_cons_succ, hCint, List.drop_zero, List.drop_succ_cons, List.take_succ_cons, List.take_zero, List.getElem?_cons_zero, List.getElem?_cons_succ] at h0 h1
  obtain ⟨pv, e0, -, w0⟩ := DataW.trod_int Try.underlying3 h0
  have b0 := bounds_i64 w0
  obtain ⟨ps, e1, -, w1⟩ := DataW.trod_int Try.underlying3 h1
  have b1 := bounds_i64 w1
  simp only [List.cons.injEq, and_true] at e0 e1
  subst e0
  subst e1
  refine ⟨pv, ps, ?_, ⟨by omega, by omega⟩⟩
  congr 1
  apply Array.toList_inj.1
  rw [hcs]
  show _ = plI pv ps
  unfold plI
  rfl
theorem cidMakes_row (w : World) {key : List UInt8} {n : Nat} (hk : K16 key) (hn : n < 18446744073709551616) (v s : Int) (u : Int) (hu : 0 ≤ u ∧ u ≤ 18446744073709551615) :
    Calls Try.prog 4 #[.agg (ringC key n).toArray, .agg (plI v s).toArray, .int .u64 u] w fun e w' => e = .returned (.bool true) ∧ Below w.heap.size w w' := by
  obtain ⟨u, rfl⟩ := Int.eq_ofNat_of_zero_le hu.1
  exact cidMakes_walk w key hk n hn v s u (by omega)
end Go.Proofs.Ytldecdeiibfekaa
