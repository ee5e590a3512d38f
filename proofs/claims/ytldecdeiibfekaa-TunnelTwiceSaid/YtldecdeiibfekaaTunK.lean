/- Tunnels and headers that came in; the row of TunnelTwice. -/
import Derived.Test.YtldecdeiibfekaaTunJ
import Derived.Test.YtldecdeiibfekaaOpnA
namespace Go.Proofs.Ytldecdeiibfekaa
open Go.RowKit Go.ChangeShapes Go.WideShapes
set_option linter.unusedVariables false

set_option maxRecDepth 100000 in
theorem open_wy {H : Type} {enc : TypeId × Value → H} {W : World} {base : Nat} {v : Value} {dt : DataW H} {p : List MemPlace} (hv : Value.okWide Try.prog W .any base 129 v) (h : DataW.Trod enc Try.prog W 0 (fun _ => true) true 129 v dt p) :
    ∃ s6 : Bool, ∃ sh sl : Nat, ∃ d6 : Bool, ∃ dh dl : Nat, ∃ tl : Nat, v = .agg (wyC s6 sh sl d6 dh dl tl).toArray ∧ (sh < 18446744073709551616 ∧ sl < 18446744073709551616 ∧ dh < 18446744073709551616 ∧ dl < 18446744073709551616 ∧ tl < 256) := by
  obtain ⟨arr, rfl, hsz⟩ := okWide_struct Try.underlying129 hv
  obtain ⟨fuel, hf⟩ := h
  obtain ⟨xs, nn, _, _, hl, hlen, hg⟩ := DataW.trod_struct Try.underlying129 hf
  have hCadr : Try.prog.cellsOf 29 = 3 := by kernel_rfl
  have hCu8 : Try.prog.cellsOf 5 = 1 := by kernel_rfl
  have hCR : Try.prog.cellsOf 129 = 7 := by kernel_rfl
  rw [hCR] at hl
  simp only [Value.cells] at hl hg
  obtain ⟨c0, c1, c2, c3, c4, c5, c6, hcs⟩ := listN7 hl
  rw [hcs] at hg
  have hx : xs.length = 3 := by rw [hlen]; rfl
  obtain ⟨x0, x1, x2, rfl⟩ := listN3 hx
  have h0 := hg 0 _ rfl
  have h1 := hg 1 _ rfl
  have h2 := hg 2 _ rfl
  simp only [List.getElem_toArray, List.getElem_cons_zero, List.getElem_cons_succ, hCadr, hCu8, List.drop_zero, List.drop_succ_cons, List.take_succ_cons, List.take_zero, List.getElem?_cons_zero, List.getElem?_cons_succ] at h0 h1 h2
  obtain ⟨s6, sh, sl, e0, p0, q0⟩ := open_adr_cells h0
  obtain ⟨d6, dh, dl, e1, p1, q1⟩ := open_adr_cells h1
  obtain ⟨ztl, e2, -, w2⟩ := DataW.trod_int Try.underlying5 h2
  have b2 := bounds_u8 w2
  simp only [List.cons.injEq, and_true] at e0 e1 e2
  obtain ⟨rfl, rfl, rfl⟩ := e0
  obtain ⟨rfl, rfl, rfl⟩ := e1
  subst e2
  refine ⟨s6, sh, sl, d6, dh, dl, ztl.toNat, ?_, ⟨p0, q0, p1, q1, by omega⟩⟩
  congr 1
  apply Array.toList_inj.1
  rw [hcs]
  show _ = wyC s6 sh sl d6 dh dl ztl.toNat
  unfold wyC
  rw [Int.toNat_of_nonneg (show 0 ≤ ztl by omega)]
set_option maxRecDepth 100000 in
theorem open_r4t {H : Type} {enc : TypeId × Value → H} {W : World} {base : Nat} {v : Value} {dt : DataW H} {p : List MemPlace} (hv : Value.okWide Try.prog W .any base 83 v) (h : DataW.Trod enc Try.prog W 0 (fun _ => true) true 83 v dt p) :
    ∃ ts : Nat, ∃ ln : Int, ∃ id : Nat, ∃ st : Bool, ∃ mo : Bool, ∃ fo : Int, ∃ tl : Nat, ∃ pr : Nat, ∃ sm : Nat, ∃ s6 : Bool, ∃ sh sl : Nat, ∃ d6 : Bool, ∃ dh dl : Nat, ∃ Ao no ko, ∃ o : List UInt8, v = .agg (h4C ts ln id st mo fo tl pr sm s6 sh sl d6 dh dl Ao no ko).toArray ∧ (ts < 256 ∧ (-9223372036854775808 ≤ ln ∧ ln ≤ 9223372036854775807) ∧ id < 65536 ∧ (-9223372036854775808 ≤ fo ∧ fo ≤ 9223372036854775807) ∧ tl < 256 ∧ pr < 256 ∧ sm < 65536 ∧ sh < 18446744073709551616 ∧ sl < 18446744073709551616 ∧ dh < 18446744073709551616 ∧ dl < 18446744073709551616) ∧ Rb W Ao no ko o ∧ ko ≤ maxLen := by
  obtain ⟨arr, rfl, hsz⟩ := okWide_struct Try.underlying83 hv
  obtain ⟨fuel, hf⟩ := h
  obtain ⟨xs, nn, _, _, hl, hlen, hg⟩ := DataW.trod_struct Try.underlying83 hf
  have hCadr : Try.prog.cellsOf 29 = 3 := by kernel_rfl
  have hCbool : Try.prog.cellsOf 4 = 1 := by kernel_rfl
  have hCbytes : Try.prog.cellsOf 24 = 1 := by kernel_rfl
  have hCint : Try.prog.cellsOf 3 = 1 := by kernel_rfl
  have hCu16 : Try.prog.cellsOf 22 = 1 := by kernel_rfl
  have hCu8 : Try.prog.cellsOf 5 = 1 := by kernel_rfl
  have hCR : Try.prog.cellsOf 83 = 16 := by kernel_rfl
  rw [hCR] at hl
  simp only [Value.cells] at hl hg
  obtain ⟨c0, c1, c2, c3, c4, c5, c6, c7, c8, c9, c10, c11, c12, c13, c14, c15, hcs⟩ := listN16 hl
  rw [hcs] at hg
  have hx : xs.length = 12 := by rw [hlen]; rfl
  obtain ⟨x0, x1, x2, x3, x4, x5, x6, x7, x8, x9, x10, x11, rfl⟩ := listN12 hx
  have h0 := hg 0 _ rfl
  have h1 := hg 1 _ rfl
  have h2 := hg 2 _ rfl
  have h3 := hg 3 _ rfl
  have h4 := hg 4 _ rfl
  have h5 := hg 5 _ rfl
  have h6 := hg 6 _ rfl
  have h7 := hg 7 _ rfl
  have h8 := hg 8 _ rfl
  have h9 := hg 9 _ rfl
  have h10 := hg 10 _ rfl
  have h11 := hg 11 _ rfl
  simp only [List.getElem_toArray, List.getElem_cons_zero, List.getElem_cons_succ, hCadr, hCbool, hCbytes, hCint, hCu16, hCu8, List.drop_zero, List.drop_succ_cons, List.take_succ_cons, List.take_zero, List.getElem?_cons_zero, List.getElem?_cons_succ] at h0 h1 h2 h3 h4 h5 h6 h7 h8 h9 h10 h11
  obtain ⟨zts, e0, -, w0⟩ := DataW.trod_int Try.underlying5 h0
  have b0 := bounds_u8 w0
  obtain ⟨ln, e1, -, w1⟩ := DataW.trod_int Try.underlying3 h1
  have b1 := bounds_i64 w1
  obtain ⟨zid, e2, -, w2⟩ := DataW.trod_int Try.underlying22 h2
  have b2 := bounds_u16 w2
  obtain ⟨st, e3, -⟩ := DataW.trod_bool Try.underlying4 h3
  obtain ⟨mo, e4, -⟩ := DataW.trod_bool Try.underlying4 h4
  obtain ⟨fo, e5, -, w5⟩ := DataW.trod_int Try.underlying3 h5
  have b5 := bounds_i64 w5
  obtain ⟨ztl, e6, -, w6⟩ := DataW.trod_int Try.underlying5 h6
  have b6 := bounds_u8 w6
  obtain ⟨zpr, e7, -, w7⟩ := DataW.trod_int Try.underlying5 h7
  have b7 := bounds_u8 w7
  obtain ⟨zsm, e8, -, w8⟩ := DataW.trod_int Try.underlying22 h8
  have b8 := bounds_u16 w8
  obtain ⟨s6, sh, sl, e9, p9, q9⟩ := open_adr_cells h9
  obtain ⟨d6, dh, dl, e10, p10, q10⟩ := open_adr_cells h10
  obtain ⟨Ao, no, ko, o, e11, m11, r11⟩ := open_bytes_cell Try.underlying24 Try.underlying5 (by kernel_rfl) h11
  simp only [List.cons.injEq, and_true] at e0 e1 e2 e3 e4 e5 e6 e7 e8 e9 e10
  subst e0
  subst e1
  subst e2
  subst e3
  subst e4
  subst e5
  subst e6
  subst e7
  subst e8
  obtain ⟨rfl, rfl, rfl⟩ := e9
  obtain ⟨rfl, rfl, rfl⟩ := e10
  subst e11
  refine ⟨zts.toNat, ln, zid.toNat, st, mo, fo, ztl.toNat, zpr.toNat, zsm.toNat, s6, sh, sl, d6, dh, dl, Ao, no, ko, o, ?_, ⟨by omega, by omega, by omega, by omega, by omega, by omega, by omega, p9, q9, p10, q10⟩, r11, m11⟩
  congr 1
  apply Array.toList_inj.1
  rw [hcs]
  show _ = h4C zts.toNat ln zid.toNat st mo fo ztl.toNat zpr.toNat zsm.toNat s6 sh sl d6 dh dl Ao no ko
  unfold h4C
  rw [Int.toNat_of_nonneg (show 0 ≤ zts by omega), Int.toNat_of_nonneg (show 0 ≤ zid by omega), Int.toNat_of_nonneg (show 0 ≤ ztl by omega), Int.toNat_of_nonneg (show 0 ≤ zpr by omega), Int.toNat_of_nonneg (show 0 ≤ zsm by omega)]
theorem tunnelTwice_row (w : World) {s6 : Bool} {sh sl : Nat} {d6 : Bool} {dh dl tl : Nat} (hw : sh < 18446744073709551616 ∧ sl < 18446744073709551616 ∧ dh < 18446744073709551616 ∧ dl < 18446744073709551616 ∧ tl < 256)
    {t6 : Bool} {th tl2 : Nat} {e6 : Bool} {eh el ul : Nat} (hv : th < 18446744073709551616 ∧ tl2 < 18446744073709551616 ∧ eh < 18446744073709551616 ∧ el < 18446744073709551616 ∧ ul < 256)
    {ts : Nat} {ln : Int} {id : Nat} {st mo : Bool} {fo : Int} {tt pr sm : Nat} {i6 : Bool} {ih il : Nat} {j6 : Bool} {jh jl : Nat} {A : Option Addr} {n k : Nat} {o : List UInt8}
    (hb : ts < 256 ∧ (-9223372036854775808 ≤ ln ∧ ln ≤ 9223372036854775807) ∧ id < 65536 ∧ (-9223372036854775808 ≤ fo ∧ fo ≤ 9223372036854775807) ∧ tt < 256 ∧ pr < 256 ∧ sm < 65536 ∧ ih < 18446744073709551616 ∧ il < 18446744073709551616 ∧ jh < 18446744073709551616 ∧ jl < 18446744073709551616)
    (h : Rb w A n k o) (hk : k ≤ maxLen) (A2 : Option Addr) (c : Nat) (l : List UInt8) (hl : l.length ≤ c) (hc : c ≤ maxLen) (hr : Rd w w.heap.size A2 (bcs l)) :
    Calls Try.prog 13 #[.agg (wyC s6 sh sl d6 dh dl tl).toArray, .agg (wyC t6 th tl2 e6 eh el ul).toArray, .agg (h4C ts ln id st mo fo tt pr sm i6 ih il j6 jh jl A n k).toArray, .slice A2 l.length c] w fun e w' => e = .returned (.bool true) ∧ Below w.heap.size w w' := by
  obtain ⟨b1, hi, b2, hf, b3, b4, b7, k1, k2, k3, k4⟩ := hb
  obtain ⟨i1, i2, i3, i4, i5⟩ := hw
  obtain ⟨j1, j2, j3, j4, j5⟩ := hv
  exact tunnelTwice_of w s6 sh sl d6 dh dl tl t6 th tl2 e6 eh el ul ts ln id st mo fo tt pr sm i6 ih il j6 jh jl A n k o A2 l.length c l h ⟨rfl, hl, hr⟩ i1 i2 i3 i4 i5 j1 j2 j3 j4 j5 b1 b2 b3 b4 hf k1 k2 k3 k4
end Go.Proofs.Ytldecdeiibfekaa
