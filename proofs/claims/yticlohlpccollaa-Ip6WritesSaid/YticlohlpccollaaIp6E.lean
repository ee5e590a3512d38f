/- The law Ip6Writes at every input; a header that came in. -/
import Derived.Test.YticlohlpccollaaIp6D
namespace Go.Proofs.Yticlohlpccollaa
open Go.RowKit Go.ChangeShapes Go.WideShapes Go.ChangeAt
set_option linter.unusedVariables false
set_option linter.unusedSimpArgs false

set_option maxRecDepth 100000 in
theorem open_h6 {H : Type} {enc : TypeId × Value → H} {W : World} {base : Nat} {v : Value} {d : DataW H} {p : List MemPlace} (hv : Value.okWide Try.prog W .any base 66 v)
    (h : DataW.Trod enc Try.prog W 0 (fun _ => true) true 66 v d p) : ∃ (cl lb : Nat) (ln : Int) (nx ht : Nat) (s6 : Bool) (sh sl : Nat) (d6 : Bool) (dh dl : Nat), v = .agg (h6C cl lb ln nx ht s6 sh sl d6 dh dl).toArray ∧
      cl < 256 ∧ lb < 4294967296 ∧ (-9223372036854775808 ≤ ln ∧ ln ≤ 9223372036854775807) ∧ nx < 256 ∧ ht < 256 ∧ sh < 18446744073709551616 ∧ sl < 18446744073709551616 ∧ dh < 18446744073709551616 ∧ dl < 18446744073709551616 := by
  obtain ⟨cs, rfl, hsz⟩ := okWide_struct Try.underlying66 hv
  obtain ⟨fuel, hf⟩ := h
  obtain ⟨xs, n, _, _, hl, hlen, hg⟩ := DataW.trod_struct Try.underlying66 hf
  have hC0 : Try.prog.cellsOf 64 = 3 := by kernel_rfl
  have hC1 : Try.prog.cellsOf 5 = 1 := by kernel_rfl
  have hC2 : Try.prog.cellsOf 25 = 1 := by kernel_rfl
  have hC3 : Try.prog.cellsOf 3 = 1 := by kernel_rfl
  have hCR : Try.prog.cellsOf 66 = 11 := by kernel_rfl
  rw [hCR] at hl
  simp only [Value.cells] at hl hg
  have hcs : cs = cs.toList.toArray := by simp
  generalize cs.toList = l at hl hg hcs
  subst hcs
  obtain ⟨c0, c1, c2, c3, c4, c5, c6, c7, c8, c9, c10, rfl⟩ : ∃ a b c d e f g h i j k, l = [a, b, c, d, e, f, g, h, i, j, k] := by
    match l, hl with
    | [a, b, c, d, e, f, g, h, i, j, k], _ => exact ⟨a, b, c, d, e, f, g, h, i, j, k, rfl⟩
  have hx : xs.length = 7 := by rw [hlen]; rfl
  obtain ⟨x0, x1, x2, x3, x4, x5, x6, rfl⟩ : ∃ a b c d e f g, xs = [a, b, c, d, e, f, g] := by
    match xs, hx with
    | [a, b, c, d, e, f, g], _ => exact ⟨a, b, c, d, e, f, g, rfl⟩
  have h0 := hg 0 _ rfl
  have h1 := hg 1 _ rfl
  have h2 := hg 2 _ rfl
  have h3 := hg 3 _ rfl
  have h4 := hg 4 _ rfl
  have h5 := hg 5 _ rfl
  have h6 := hg 6 _ rfl
  simp only [List.getElem_toArray, List.getElem_cons_zero, List.getElem_cons_succ, hC0, hC1, hC2, hC3, List.drop_zero, List.drop_succ_cons, List.take_succ_cons, List.take_zero, List.getElem?_cons_zero, List.getElem?_cons_succ] at h0 h1 h2 h3 h4 h5 h6
  obtain ⟨z0, hz0, _, hw0⟩ := DataW.trod_int Try.underlying5 h0
  obtain ⟨z1, hz1, _, hw1⟩ := DataW.trod_int Try.underlying25 h1
  obtain ⟨z2, hz2, _, hw2⟩ := DataW.trod_int Try.underlying3 h2
  obtain ⟨z3, hz3, _, hw3⟩ := DataW.trod_int Try.underlying5 h3
  obtain ⟨z4, hz4, _, hw4⟩ := DataW.trod_int Try.underlying5 h4
  obtain ⟨s6, sh, sl, es, s1, s2⟩ := open_adr_cells h5
  obtain ⟨d6, dh, dl, ed, d1, d2⟩ := open_adr_cells h6
  have b0 := bounds_u8 hw0
  have b1 := bounds_u32 hw1
  have b2 := bounds_i64 hw2
  have b3 := bounds_u8 hw3
  have b4 := bounds_u8 hw4
  simp only [List.cons.injEq, and_true] at es ed hz0 hz1 hz2 hz3 hz4
  obtain ⟨rfl, rfl, rfl⟩ := es
  obtain ⟨rfl, rfl, rfl⟩ := ed
  subst hz0 hz1 hz2 hz3 hz4
  refine ⟨z0.toNat, z1.toNat, z2, z3.toNat, z4.toNat, s6, sh, sl, d6, dh, dl, ?_, by omega, by omega, b2, by omega, by omega, s1, s2, d1, d2⟩
  unfold h6C
  rw [Int.toNat_of_nonneg (by omega), Int.toNat_of_nonneg (by omega), Int.toNat_of_nonneg (by omega), Int.toNat_of_nonneg (by omega)]
set_option maxHeartbeats 1000000 in
set_option maxRecDepth 100000 in
theorem ip6Writes_walk (w : World) (cl lb : Nat) (ln : Int) (nx ht : Nat) (s6 : Bool) (sh sl : Nat) (d6 : Bool) (dh dl : Nat) (h1 : cl < 256) (hlb : lb < 4294967296) (hi : -9223372036854775808 ≤ ln ∧ ln ≤ 9223372036854775807) (h4 : nx < 256) (h5 : ht < 256) (k1 : sh < 18446744073709551616) (k2 : sl < 18446744073709551616) (k3 : dh < 18446744073709551616) (k4 : dl < 18446744073709551616)
    (A : Option Addr) (c : Nat) (l : List UInt8) (hl : l.length ≤ c) (hc : c ≤ maxLen) (hr : Rd w w.heap.size A (bcs l)) :
    Calls Try.prog 7 #[.agg (h6C cl lb ln nx ht s6 sh sl d6 dh dl).toArray, .slice A l.length c] w fun e w' => e = .returned (.bool true) ∧ Below w.heap.size w w' := by
  by_cases hbig : 3000 < l.length
  · simp only [maxLen] at hc
    have HAW := Lib.hid ip6Awake
    go_enter Try.func7, Try.ntmps7
    go_wp2_with (go_at_call 36; refine (HAW.out _).mono ?_; rintro e w1 ⟨bs1, d1, rfl, rfl⟩)
    go_ret
    exact ⟨rfl, belowP (Below.allocS (Below.refl _ _) _) _ _⟩
  · exact ip6Writes_of w cl lb ln nx ht s6 sh sl d6 dh dl A l.length c l ⟨rfl, hl, hr⟩ (by omega) h1 hlb hi h4 h5 k1 k2 k3 k4
end Go.Proofs.Yticlohlpccollaa
