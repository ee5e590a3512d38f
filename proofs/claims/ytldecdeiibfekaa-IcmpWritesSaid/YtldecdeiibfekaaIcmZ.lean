/- A message that came in. -/
import Derived.Test.YtldecdeiibfekaaIcmY
import Derived.Test.YtldecdeiibfekaaOpnA
namespace Go.Proofs.Ytldecdeiibfekaa
open Go.RowKit Go.ChangeShapes Go.WideShapes
set_option linter.unusedVariables false

set_option maxRecDepth 100000 in
theorem open_msg {H : Type} {enc : TypeId × Value → H} {W : World} {base : Nat} {v : Value} {dt : DataW H} {p : List MemPlace} (hv : Value.okWide Try.prog W .any base 26 v) (h : DataW.Trod enc Try.prog W 0 (fun _ => true) true 26 v dt p) :
    ∃ a : Nat, ∃ b : Nat, ∃ c : Nat, ∃ d : Nat, ∃ Al nl kl, ∃ l : List UInt8, v = .agg (msgC a b c d Al nl kl).toArray ∧ (a < 256 ∧ b < 256 ∧ c < 65536 ∧ d < 4294967296) ∧ Rb W Al nl kl l ∧ kl ≤ maxLen := by
  obtain ⟨arr, rfl, hsz⟩ := okWide_struct Try.underlying26 hv
  obtain ⟨fuel, hf⟩ := h
  obtain ⟨xs, nn, _, _, hl, hlen, hg⟩ := DataW.trod_struct Try.underlying26 hf
  have hCbytes : Try.prog.cellsOf 24 = 1 := by kernel_rfl
  have hCu16 : Try.prog.cellsOf 22 = 1 := by kernel_rfl
  have hCu32 : Try.prog.cellsOf 23 = 1 := by kernel_rfl
  have hCu8 : Try.prog.cellsOf 5 = 1 := by kernel_rfl
  have hCR : Try.prog.cellsOf 26 = 5 := by kernel_rfl
  rw [hCR] at hl
  simp only [Value.cells] at hl hg
  obtain ⟨c0, c1, c2, c3, c4, hcs⟩ := listN5 hl
  rw [hcs] at hg
  have hx : xs.length = 5 := by rw [hlen]; rfl
  obtain ⟨x0, x1, x2, x3, x4, rfl⟩ := listN5 hx
  have h0 := hg 0 _ rfl
  have h1 := hg 1 _ rfl
  have h2 := hg 2 _ rfl
  have h3 := hg 3 _ rfl
  have h4 := hg 4 _ rfl
  simp only [List.getElem_toArray, List.getElem_cons_zero, List.getElem_cons_succ, hCbytes, hCu16, hCu32, hCu8, List.drop_zero, List.drop_succ_cons, List.take_succ_cons, List.take_zero, List.getElem?_cons_zero, List.getElem?_cons_succ] at h0 h1 h2 h3 h4
  obtain ⟨za, e0, -, w0⟩ := DataW.trod_int Try.underlying5 h0
  have b0 := bounds_u8 w0
  obtain ⟨zb, e1, -, w1⟩ := DataW.trod_int Try.underlying5 h1
  have b1 := bounds_u8 w1
  obtain ⟨zc, e2, -, w2⟩ := DataW.trod_int Try.underlying22 h2
  have b2 := bounds_u16 w2
  obtain ⟨zd, e3, -, w3⟩ := DataW.trod_int Try.underlying23 h3
  have b3 := bounds_u32 w3
  obtain ⟨Al, nl, kl, l, e4, m4, r4⟩ := open_bytes_cell Try.underlying24 Try.underlying5 (by kernel_rfl) h4
  simp only [List.cons.injEq, and_true] at e0 e1 e2 e3
  subst e0
  subst e1
  subst e2
  subst e3
  subst e4
  refine ⟨za.toNat, zb.toNat, zc.toNat, zd.toNat, Al, nl, kl, l, ?_, ⟨by omega, by omega, by omega, by omega⟩, r4, m4⟩
  congr 1
  apply Array.toList_inj.1
  rw [hcs]
  show _ = msgC za.toNat zb.toNat zc.toNat zd.toNat Al nl kl
  unfold msgC
  rw [Int.toNat_of_nonneg (show 0 ≤ za by omega), Int.toNat_of_nonneg (show 0 ≤ zb by omega), Int.toNat_of_nonneg (show 0 ≤ zc by omega), Int.toNat_of_nonneg (show 0 ≤ zd by omega)]
theorem icmpWrites_row (w : World) {a b c d : Nat} {A : Option Addr} {n k : Nat} {l : List UInt8} (hb : a < 256 ∧ b < 256 ∧ c < 65536 ∧ d < 4294967296) (h : Rb w A n k l) (hk : k ≤ maxLen)
    (s6 : Bool) (sh sl : Nat) (k1 : sh < 18446744073709551616) (k2 : sl < 18446744073709551616) (d6 : Bool) (dh dl : Nat) (k3 : dh < 18446744073709551616) (k4 : dl < 18446744073709551616) :
    Calls Try.prog 3 #[.agg (msgC a b c d A n k).toArray, .agg #[.bool s6, .int .u64 sh, .int .u64 sl], .agg #[.bool d6, .int .u64 dh, .int .u64 dl]] w fun e w' => e = .returned (.bool true) ∧ Below w.heap.size w w' :=
  icmpWrites_walk w a b c d A n k l hb.1 hb.2.1 hb.2.2.1 hb.2.2.2 s6 sh sl d6 dh dl k1 k2 k3 k4 h hk
end Go.Proofs.Ytldecdeiibfekaa
