/- Texts of the law HrwRanks, part 2. -/
import Derived.Test.YtknoenceccpkhaaZHrwRanks1
/- The walks of the laws on siphash (chapter 10). -/
namespace Go.Proofs.Ytknoenceccpkhaa
open Go.RowKit
set_option linter.unusedVariables false
attribute [local go_sem ↓] sliced_cut

attribute [local go_sem] cutA_zero

open Go.ChangeShapes Go.WideShapes in
/-- An array of bytes that came in. -/
theorem open_arr {H : Type} {enc : TypeId × Value → H} {P : Program} {W : World} {base n : Nat} {t e : TypeId} {v : Value} {d : DataW H} {p : List MemPlace}
    (ht : P.underlying t = some (.array n e)) (he : P.underlying e = some (.int .u8)) (hC : P.cellsOf e = 1) (hCt : P.cellsOf t = n) (hv : Value.okWide P W .any base t v)
    (h : DataW.Trod enc P W 0 (fun _ => true) true t v d p) : ∃ l : List UInt8, v = .agg (bcs l).toArray ∧ l.length = n := by
  obtain ⟨cs, rfl, hsz⟩ : ∃ cs, v = .agg cs ∧ cs.size = P.cellsOf t := by
    simp only [Value.okWide, ht] at hv
    obtain ⟨cs, h1, h2, _⟩ := hv
    exact ⟨cs, h1, h2⟩
  obtain ⟨fuel, hf⟩ := h
  obtain ⟨xs, m, _, _, hl, hlen, hg⟩ := DataW.trod_array ht hf
  have hcs : cs.size = n := by omega
  have each : ∀ i, i < n → ∃ b : UInt8, cs[i]? = some (.int .u8 (b.toNat : Int)) := by
    intro i hi
    have h1 := hg i hi
    rw [hC, Nat.mul_one] at h1
    have hxi : xs[i]? = some (xs[i]'(by omega)) := List.getElem?_eq_getElem (by omega)
    rw [hxi] at h1
    obtain ⟨z, hz, _, hw⟩ := DataW.trod_int he h1
    have hb := bounds_u8 hw
    refine ⟨UInt8.ofNat z.toNat, ?_⟩
    have hic : i < cs.toList.length := by simp [hcs, hi]
    simp only [Value.cells, List.drop_eq_getElem_cons hic, List.take_succ_cons, List.take_zero, List.cons.injEq, and_true] at hz
    have hz2 : cs[i]? = some (.int .u8 z) := by
      rw [Array.getElem?_eq_getElem (by simpa using hic), ← hz]
      simp
    rw [hz2]
    simp
    omega
  refine ⟨(List.range n).map fun i => match cs[i]? with | some (Value.int _ z) => UInt8.ofNat z.toNat | _ => 0, ?_, by simp⟩
  congr 1
  apply Array.ext
  · simp [bcs, hcs]
  · intro i h1 h2
    obtain ⟨b, hb⟩ := each i (by omega)
    have hb2 : cs[i] = .int .u8 (b.toNat : Int) := by rw [Array.getElem?_eq_getElem h1] at hb; exact Option.some.inj hb
    simp [bcs, hb2, hb]
set_option maxRecDepth 100000 in
theorem open_key {H : Type} {enc : TypeId × Value → H} {W : World} {base : Nat} {v : Value} {d : DataW H} {p : List MemPlace} (hv : Value.okWide Try.prog W .any base 87 v)
    (h : DataW.Trod enc Try.prog W 0 (fun _ => true) true 87 v d p) : ∃ l : List UInt8, v = .agg (bcs l).toArray ∧ K16 l := open_arr Try.underlying87 Try.underlying5 (by kernel_rfl) (by kernel_rfl) hv h
end Go.Proofs.Ytknoenceccpkhaa

/- siphash.Of, Derive and their references. -/
namespace Go.Proofs.Ytknoenceccpkhaa
open Go.RowKit
set_option linter.unusedVariables false
attribute [local go_sem ↓] sliced_cut

attribute [local go_sem] cutA_zero

theorem rowKey : ∃ d, Try.prog.underlying 165 = some d ∧ d.isRow = true ∧ (Try.prog.info? 165).map (·.size) = some 16 := ⟨_, Try.underlying165, rfl, by kernel_rfl⟩
end Go.Proofs.Ytknoenceccpkhaa

/- siphash.Derive and its reference. -/
namespace Go.Proofs.Ytknoenceccpkhaa
open Go.RowKit
set_option linter.unusedVariables false
set_option linter.unusedSimpArgs false
attribute [local go_sem ↓] sliced_cut

attribute [local go_sem] cutA_zero

theorem szU8 (w : World) : (sizeOf 5).run Try.prog w = .ok 1 w := by
  obtain ⟨i, hi, hz0, hz1, hz2⟩ := info_parts bt.info
  simp [sizeOf, typeInfo, hi, hz1]
theorem eql_key (w : World) (a b : List UInt8) (ha : K16 a) (hb : K16 b) : (binOp .eql 165 (.agg (bcs a).toArray) (.agg (bcs b).toArray)).run Try.prog w = .ok (.bool (a == b)) w :=
  run_eql_bytes w 165 5 16 Try.underlying165 Try.underlying5 szU8 a b ha hb
theorem eql_key' (w : World) (a b : List UInt8) (ha : K16 a) (hb : K16 b) : (binOp .eql 87 (.agg (bcs a).toArray) (.agg (bcs b).toArray)).run Try.prog w = .ok (.bool (a == b)) w :=
  run_eql_bytes w 87 5 16 Try.underlying87 Try.underlying5 szU8 a b ha hb
attribute [local go_sem ↓] eql_key eql_key'

end Go.Proofs.Ytknoenceccpkhaa

/- Contracts of the package ring and of its reference. -/
namespace Go.Proofs.Ytknoenceccpkhaa
open Go.RowKit
set_option linter.unusedVariables false
set_option linter.unusedSimpArgs false
attribute [local go_sem ↓] sliced_cut

attribute [local go_sem] cutA_zero

theorem bcs_whole (key : List UInt8) : ((bcs key).drop 0).take (bcs key).length = bcs key := by rw [List.drop_zero]; exact List.take_of_length_le (Nat.le_refl _)
theorem szKey (key : List UInt8) (hk : K16 key) : (Try.prog.info? 165).map (·.size) = some (bcs key).length := by rw [bcs_length, show key.length = 16 from hk]; kernel_rfl
end Go.Proofs.Ytknoenceccpkhaa

/- hrw.Score (chapter 16): a plain number of key, member and bytes. -/
namespace Go.Proofs.Ytknoenceccpkhaa
open Go.RowKit
set_option linter.unusedVariables false
set_option linter.unusedSimpArgs false
attribute [local go_sem ↓] sliced_cut

attribute [local go_sem] cutA_zero

/-- a member's cells -/
def mbC (p : Int × Int) : List Value := [.int .i64 p.1, .int .i64 p.2]
theorem mbC_one (p : Int × Int) : ∀ u ∈ mbC p, u.oneCell' = true := by simp [mbC, Value.oneCell']
theorem szMb (p : Int × Int) : (Try.prog.info? 96).map (·.size) = some (mbC p).length := by kernel_rfl
theorem rowMb : ∃ d, Try.prog.underlying 96 = some d ∧ d.isRow = true := ⟨_, Try.underlying96, rfl⟩
/-- what is summed for a member's i-th sum -/
def msgS (id i : Nat) (b : List UInt8) : List UInt8 := [5] ++ dig id 4 ++ [UInt8.ofNat (i / 256), UInt8.ofNat i] ++ b
noncomputable def bestS (key : List UInt8) (id : Nat) (b : List UInt8) : Nat → Nat
  | 0 => 0
  | i + 1 => max (bestS key id b i) (sip key (msgS id i b)).toNat
noncomputable def scoreI (key b : List UInt8) (p : Int × Int) : Int := (bestS key p.1.toNat b (min p.2.toNat 65536) : Nat)
theorem bestS_lt (key : List UInt8) (id : Nat) (b : List UInt8) : ∀ i, bestS key id b i < 18446744073709551616
  | 0 => by simp [bestS]
  | i + 1 => Nat.max_lt.2 ⟨bestS_lt key id b i, (sip key (msgS id i b)).toNat_lt⟩
/-- a byte of a row of the call's own is set -/
theorem Ob.set_ {w : World} {base g n c i : Nat} {l : List UInt8} (h : Ob w base (some ⟨g, 0, none⟩) n c l) (hi : i < n) (v : UInt8) : Ob (w.setCell ⟨g, i, none⟩ (.int .u8 (v.toNat : Int))) base (some ⟨g, 0, none⟩) n c (l.set i v) := by
  obtain ⟨h1, h2, h3⟩ := h
  refine ⟨by simpa using h1, by simpa [bcs] using h2, ?_⟩
  rcases h3 with ⟨hv, _⟩ | ⟨g', cap, cur, hv, hb, hg, hn, hm, hs, ht⟩
  · cases hv
  · injection hv with e1 e2 e3
    injection e1 with e1
    injection e1 with e1
    subst e1 e3
    refine .inr ⟨g, c, cur.set! i (.int .u8 (v.toNat : Int)), rfl, hb, ?_, hn, hm, by simpa using hs, ?_⟩
    · simp [World.setCell, Array.getElem?_modify, hg]
    · simp only [Array.set!_eq_setIfInBounds, Array.toList_setIfInBounds, List.take_set]
      rw [ht]
      simp [bcs, List.map_set]
theorem Ob.cellF {w : World} {base g n c i : Nat} {l : List UInt8} (h : Ob w base (some ⟨g, 0, none⟩) n c l) (hi : i < n) : (∃ v, w.cell? ⟨g, i, none⟩ = some (.int .u8 v)) ∧ w.frozen? ⟨g, i, none⟩ = false := by
  obtain ⟨h1, h2, h3⟩ := h
  rcases h3 with ⟨hv, _⟩ | ⟨g', cap, cur, hv, hb, hg, hn, hm, hs, ht⟩
  · cases hv
  · injection hv with e1 e2 e3
    injection e1 with e1
    injection e1 with e1
    subst e1 e3
    constructor
    · have hc : (bcs l)[i]? = some (.int .u8 (l[i].toNat : Int)) := bcs_get l i (by omega)
      rw [← ht, List.getElem?_take] at hc
      split at hc
      · exact ⟨_, by simp [World.cell?, hg]; simpa using hc⟩
      · cases hc
    · simp [World.frozen?, hg]
theorem belowB {B B' : Nat} {a w w' : World} (h : Below B a w) (h' : Below B' w w') (hb : B ≤ B') : Below B a w' := h.trans (h'.mono hb)
theorem shr8 (i : Nat) (h : i < 65536) : ((UInt8.ofNat (i / 256)).toNat : Int) = (i : Int) / 256 := by simp; omega
theorem low8 (i : Nat) : ((UInt8.ofNat i).toNat : Int) = (i : Int) % 256 := by simp
theorem set2 (id : Nat) (b : List UInt8) (x y u v : UInt8) : (([5] ++ dig id 4 ++ [x, y] ++ b).set 5 u).set 6 v = [5] ++ dig id 4 ++ [u, v] ++ b := by
  have h : (dig id 4).length = 4 := dig_length _ _
  match dig id 4, h with
  | [a, e, f, g], _ => rfl
set_option maxHeartbeats 4000000 in
set_option maxRecDepth 100000 in
theorem score_any (key : List UInt8) (hk0 : K16 key) (id : Nat) (wt : Int) (A : Option Addr) (n c : Nat) (b : List UInt8) (w : World) (hr : Rb w A n c b) (hm : n ≤ 1000) (hid : id < 4294967296) (hw : wt ≤ 60000) :
    Calls Try.prog 34 #[.agg (bcs key).toArray, .agg (mbC ((id : Int), wt)).toArray, .slice A n c] w (RetV w (.int .u64 (scoreI key b ((id : Int), wt)))) := by
  obtain ⟨dk, u1, u2, u3⟩ := rowKey
  have hr0 := hr
  obtain ⟨dm1, m1, m2⟩ := rowMb
  have hk : Bk ((w.alloc (.cells (bcs key).toArray 165)).alloc (.cells (mbC ((id : Int), wt)).toArray 96)) w.heap.size 165 (bcs key) := (Bk.new w 165 (bcs key).toArray).alloc _
  have hM : Bk ((w.alloc (.cells (bcs key).toArray 165)).alloc (.cells (mbC ((id : Int), wt)).toArray 96)) (w.heap.size + 1) 96 (mbC ((id : Int), wt)) := Bk.newK _ _ _ (by simp) rfl
  have be : Below w.heap.size w ((w.alloc (.cells (bcs key).toArray 165)).alloc (.cells (mbC ((id : Int), wt)).toArray 96)) := Below.allocS (Below.allocS (Below.refl _ _) _) _
  have zV : w.heap.size + 2 ≤ ((w.alloc (.cells (bcs key).toArray 165)).alloc (.cells (mbC ((id : Int), wt)).toArray 96)).heap.size := by simp
  go_enter Try.func34, Try.ntmps34
  go_upto_region 1 with (fail)
  generalize (w.alloc (.cells (bcs key).toArray 165)).alloc (.cells (mbC ((id : Int), wt)).toArray 96) = V at *
  have q1 : V.cell? ⟨w.heap.size + 1, 1, none⟩ = some (.int .i64 wt) := hM.cell 1
  have q0 : V.cell? ⟨w.heap.size + 1, 0, none⟩ = some (.int .i64 (id : Int)) := hM.cell 0
  by_cases h0 : wt ≤ 0
  · have d0 : decide (wt ≤ 0) = true := by simp only [decide_eq_true_eq]; omega
    have e : scoreI key b ((id : Int), wt) = 0 := by
      have : wt.toNat = 0 := by omega
      simp [scoreI, this, bestS]
    have HE := Lib.hid e
    clear e
    go_wp2
    go_ret
    exact RetV.is_ (by rw [HE.out]; rfl) be
  obtain ⟨m, rfl⟩ := Int.eq_ofNat_of_zero_le (show 0 ≤ wt by omega)
  have d0 : decide ((m : Int) ≤ 0) = false := by simp only [decide_eq_false_iff_not]; omega
  have wi : IntKind.u64.wrap (id : Int) = (id : Int) := IntWalk.u64_in _ (by omega)
  have q2 : (V.alloc (.cells #[.int .u8 5] 5)).cell? ⟨w.heap.size + 1, 0, none⟩ = some (.int .i64 (id : Int)) := (hM.alloc _).cell 0
  go_upto_region 3 with (fail)
  refine wp_region_lit ?_
  iterate 4 (refine wpList_plain rfl (fun K hK => ?_); go_simp; with_reducible refine hK _ _ ?_; clear hK K)
  refine wpList_plain rfl (fun K hK => ?_)
  go_simp
  refine (put_full _ _ _ [5] id 4 _ (Rb.litW #[.int .u8 5] _ rfl rfl (by decide) rfl) (by decide) (by omega) (by decide) (by decide)).mono ?_
  rintro e w1 ⟨A1, n1, bs1, d1, rfl, rfl, ho1⟩
  with_reducible refine hK _ _ ?_
  clear hK K
  refine wpList_plain rfl (fun K hK => ?_); go_simp; with_reducible refine hK _ _ ?_; clear hK K
  have hn1 : n1 = 5 := by rw [← ho1.1]; simp [dig_length]
  subst hn1
  replace hk := (hk.alloc (.cells #[.int .u8 5] 5)).later (below_plus _ bs1 d1)
  replace hM := (hM.alloc (.cells #[.int .u8 5] 5)).later (below_plus _ bs1 d1)
  replace be := toPlus (Below.allocS be (.cells #[.int .u8 5] 5)) (by simp; omega) bs1 d1
  have HO := ho1.mono (base' := w.heap.size + 2) (by simp; omega)
  clear ho1 q0 q1 q2
  generalize plus (V.alloc (.cells #[.int .u8 5] 5)) bs1 d1 = W1 at *
  have zW := hM.lt
  have be2 : Below w.heap.size w (W1.alloc (.cells #[.int .u8 0, .int .u8 0] 5)) := Below.allocS be _
  go_upto_region 4 with (fail)
  refine wp_region_lit ?_
  iterate 2 (refine wpList_plain rfl (fun K hK => ?_); go_simp; with_reducible refine hK _ _ ?_; clear hK K)
  refine wpList_app bt rfl (.tmp 18) (.tmp 19) rfl rfl (HO.alloc _) rfl (Rb.litW _ [0, 0] rfl rfl (by decide) rfl) (by decide) (by simp; omega) ?_
  intro A2 n2 c2 w2 ho2 hb2 hg2
  refine wpList_plain rfl (fun K hK => ?_); go_simp; with_reducible refine hK _ _ ?_; clear hK K
  refine wpList_app bt rfl (.tmp 20) (.tmp 21) rfl rfl ho2 rfl (hr0.later (belowB be2 hb2 (by omega))) (by have := ho2.len; simp [dig_length] at this; omega) (by have := hb2.size; simp at this; omega) ?_
  intro A3 n3 c3 w3 ho3 hb3 hg3
  refine wpList_plain rfl (fun K hK => ?_); go_simp; with_reducible refine hK _ _ ?_; clear hK K
  have hk3 := ((hk.alloc (.cells #[.int .u8 0, .int .u8 0] 5)).below hb2 (by omega)).below hb3 (by omega)
  have hM3 := ((hM.alloc (.cells #[.int .u8 0, .int .u8 0] 5)).below hb2 (by omega)).below hb3 (by omega)
  have be3 := belowB (belowB be2 hb2 (by omega)) hb3 (by omega)
  have hs3 : w.heap.size + 2 ≤ w3.heap.size := by have := hM3.lt; omega
  clear hk hM be be2 hb2 hb3 hg2 hg3 ho2 HO hr
  have q1 : w3.cell? ⟨w.heap.size + 1, 1, none⟩ = some (.int .i64 (m : Int)) := hM3.cell 1
  go_upto_region 7 with (fail)
  have hA3 : ∃ g, A3 = some ⟨g, 0, none⟩ ∧ w.heap.size + 2 ≤ g := by
    rcases ho3.2.2 with ⟨_, h0⟩ | ⟨g, cap, cur, hv, hg, _⟩
    · have := ho3.1; simp [dig_length] at this; omega
    · injection hv with e1; exact ⟨g, e1, hg⟩
  obtain ⟨g, rfl, hg2⟩ := hA3
  have hn3 : n3 = 7 + n := by have := ho3.1; have := hr0.1; simp [dig_length] at *; omega
  have hn7 : 7 ≤ n3 := by omega
  have hn8 : n3 ≤ 2000 := by omega
  clear hn3
  have hc3 := ho3.rb.cap
  have HB3 := Lib.hid (show ∃ x y, Ob w3 (w.heap.size + 2) (some ⟨g, 0, none⟩) n3 c3 ([5] ++ dig id 4 ++ [x, y] ++ b) from ⟨0, 0, ho3⟩)
  have HK := Lib.hid hk3
  have HE := Lib.hid be3
  clear ho3 hk3 hM3 be3 q1
  go_loopw [26, 8] (fun i s wr => ∃ j : Nat, j ≤ m ∧ i = .int .i64 (j : Int) ∧ s = .int .u64 (bestS key id b j : Nat) ∧ (∃ x y, Ob wr (w.heap.size + 2) (some ⟨g, 0, none⟩) n3 c3 ([5] ++ dig id 4 ++ [x, y] ++ b)) ∧ Bk wr w.heap.size 165 (bcs key) ∧ Below w.heap.size w wr) (fun i _ _ => m - (intOf i).toNat)
  case atStart => exact ⟨0, Nat.zero_le _, rfl, rfl, HB3.out, HK.out, HE.out⟩
  case round =>
    clear HB3 HK HE
    obtain ⟨j, hj, rfl, rfl, ⟨x, y, hO⟩, hK, hE⟩ := hrel
    by_cases hlt : j < m
    · have ij : (j : Int) < (m : Int) := by omega
      have i5 : (5 : Int) < (n3 : Int) := by omega
      have i6 : (6 : Int) < (n3 : Int) := by omega
      obtain ⟨⟨v5, q5⟩, f5⟩ := hO.cellF (i := 5) (by omega)
      obtain ⟨⟨v6, q6⟩, f6⟩ := hO.cellF (i := 6) (by omega)
      have hbl := bestS_lt key id b j
      have hbs : bestS key id b (j + 1) = max (bestS key id b j) (sip key (msgS id j b)).toNat := rfl
      have HS := Lib.hid hbs
      clear hbs
      generalize bestS key id b j = B at *
      go_upto_region 10 with (fail)
      have hO2 := (hO.set_ (i := 5) (by omega) (UInt8.ofNat (j / 256))).set_ (i := 6) (by omega) (UInt8.ofNat j)
      rw [set2, shr8 j (by omega), low8] at hO2
      replace hK := (hK.far (p := ⟨g, 5, none⟩) (by simp; omega) (.int .u8 ((j : Int) / 256))).far (p := ⟨g, 6, none⟩) (by simp; omega) (.int .u8 ((j : Int) % 256))
      replace hE := (hE.setCell (p := ⟨g, 5, none⟩) (by simp; omega) (.int .u8 ((j : Int) / 256))).setCell (p := ⟨g, 6, none⟩) (by simp; omega) (.int .u8 ((j : Int) % 256))
      generalize (wr.setCell ⟨g, 5, none⟩ (.int .u8 ((j : Int) / 256))).setCell ⟨g, 6, none⟩ (.int .u8 ((j : Int) % 256)) = w5 at *
      have HO2 := Lib.hid hO2
      have HM := Lib.hid (fun w (h : Rb w (some ⟨g, 0, none⟩) n3 c3 (msgS id j b)) => sum_any key hk0 _ _ _ _ w h (by omega))
      have hsl := (sip key (msgS id j b)).toNat_lt
      clear hO hO2 q5 q6 f5 f6
      obtain ⟨S, hS⟩ : ∃ S, S = (sip key (msgS id j b)).toNat := ⟨_, rfl⟩
      rw [← hS] at HM hsl HS
      clear hS
      go_wp2_with (first
        | (refine at_op (.load 165 (.tmp 3)) rfl ?_; refine wpList_ldA (t := 165) 165 (.tmp 3) rfl rfl (bcs key) rfl (hK) (bcs_whole key) u1 u2 (szKey key hk0) ?_)
        | (go_at_call 95; refine (HM.out _ HO2.out.rb).mono ?_; rintro e w6 ⟨bs6, d6, rfl, rfl⟩))
      have e : (if B < S then (S : Int) else (B : Int)) = ((max B S : Nat) : Int) := by split <;> omega
      exact ⟨⟨j + 1, by omega, by go_num, by rw [HS.out, e], ⟨_, _, HO2.out.plus_ _ _⟩, hK.later (below_plus _ _ _), belowP hE _ _⟩, by simp [intOf]; omega⟩
    · obtain rfl : j = m := by omega
      have ij : ¬ (j : Int) < (j : Int) := by omega
      have e : scoreI key b ((id : Int), (j : Int)) = ((bestS key id b j : Nat) : Int) := by
        simp only [scoreI, Int.toNat_natCast]
        rw [Nat.min_eq_left (by omega)]
      have HE := Lib.hid e
      clear e
      generalize bestS key id b j = B at *
      go_wp2
      go_ret
      exact RetV.is_ (by rw [HE.out]; rfl) hE
end Go.Proofs.Ytknoenceccpkhaa

/- Rows of structs as words of a region's values; calls that hand back such a row. -/
namespace Go.Proofs.Ytknoenceccpkhaa
open Go.RowKit
set_option linter.unusedVariables false

/-- a slice of elements of s cells -/
def MP.rs (s : Nat) (cs : List Value) : MP := ⟨fun v w => ∃ A n c, v = .slice A n c ∧ Rs s w A n c cs, fun _ _ _ ⟨A, n, c, h1, h2⟩ h => ⟨A, n, c, h1, h2.later h.below⟩⟩
/-- a call hands back a new or old slice that reads as cs, and changes nothing that was there -/
def RetRs (s : Nat) (w : World) (cs : List Value) (e : Ending) (w' : World) : Prop := ∃ A n c bs d, e = .returned (.slice A n c) ∧ w' = plus w bs d ∧ Rs s (plus w bs d) A n c cs
theorem RetRs.mk {s : Nat} {w w' : World} {cs : List Value} {A : Option Addr} {n c : Nat} (h : Rs s w' A n c cs) (hb : Below w.heap.size w w') : RetRs s w cs (.returned (.slice A n c)) w' := by
  obtain ⟨bs, d, rfl⟩ := plus_of hb
  exact ⟨A, n, c, bs, d, rfl, rfl, h⟩
/-- an element's cells -/
theorem Rs.range2 {w : World} {b off n c : Nat} {k : IntKind} {L : List (Int × Int)} (h : Rs 2 w (some ⟨b, off, none⟩) n c (prs k L)) (j : Nat) (hj : j < L.length) :
    w.cell? ⟨b, off + j * 2, none⟩ = some (.int .i64 L[j].1) ∧ w.cell? ⟨b, off + j * 2 + 1, none⟩ = some (.int k L[j].2) := by
  have hp := prs_at k L j hj
  rcases h.2.2 with h0 | ⟨b', off', hA, hb, hc⟩
  · rw [h0] at hp; simp at hp
  · injection hA with hA
    injection hA with e1 e2
    subst e1 e2
    rw [Nat.add_assoc, Nat.mul_comm]
    exact ⟨hc _ _ hp.1, hc _ _ hp.2⟩
/-- a slice of the call's own -/
def MP.os (e : TypeId) (s base : Nat) (cs : List Value) : MP := ⟨fun v w => ∃ A n c, v = .slice A n c ∧ Os e s w base A n c cs, fun _ _ _ ⟨A, n, c, h1, h2⟩ h => ⟨A, n, c, h1, h2.later h.below⟩⟩
end Go.Proofs.Ytknoenceccpkhaa

/- Rows of structs: append, with what becomes of the row's block; rows of encoded elements; rows that stay while other blocks change. -/
namespace Go.Proofs.Ytknoenceccpkhaa
open Go.RowKit
set_option linter.unusedVariables false

theorem run_appS2 {P : Program} (w : World) {ts ty e : TypeId} {z : Value} {s by_ : Nat} (et : ET P ts e z s by_) {base : Nat} {A : Option Addr} {n c : Nat} {l : List Value} (hown : Os e s w base A n c l)
    {A2 : Option Addr} {n2 c2 : Nat} {l2 : List Value} (hr : Rs s w A2 n2 c2 l2) (h1 : ∀ u ∈ l2, u.oneCell' = true) (hm : n + n2 ≤ 1099511627776) (hbase : base ≤ w.heap.size) :
    ∃ A' n' c' w', (Builtin.append_ #[ts, ts] ty #[.slice A n c, .slice A2 n2 c2]).run P w = .ok (.slice A' n' c') w' ∧ n' = n + n2 ∧ Os e s w' base A' n' c' (l ++ l2) ∧ Below base w w' ∧ w.grownBy w' (Value.slice A n c).ownBlock ∧
      ((Value.slice A' n' c').ownBlock = (Value.slice A n c).ownBlock ∨ (Value.slice A' n' c').ownBlock = some w.heap.size) := by
  obtain ⟨i, hi, hz0, hz1, hz2⟩ := info_parts et.info
  have hbel : ∀ {w'}, w.grownBy w' (Value.slice A n c).ownBlock → Below base w w' := fun hg => below_of_grown hg hbase fun k hk => (hown.blk k hk).1
  have fin : ∀ v' w', w'.ownsRow base e s v' (n + n2) (l ++ l2) → ∃ A' n' c', v' = .slice A' n' c' ∧ n' = n + n2 ∧ Os e s w' base A' n' c' (l ++ l2) := by
    intro v' w' h
    have h2 := h.2
    rcases h2 with ⟨hv, h0⟩ | ⟨g, cap, cur, hv, _⟩
    · refine ⟨none, 0, 0, hv, h0.symm, ?_⟩
      rw [hv, h0] at h
      exact h
    · refine ⟨_, _, _, hv, rfl, ?_⟩
      rw [hv] at h
      exact h
  cases A2 with
  | none =>
    have hl2 : l2 = [] := by
      rcases hr.2.2 with h | ⟨b, off, h, _⟩
      · exact h
      · cases h
    have hn2 : n2 = 0 := by
      have h3 := hr.1
      rw [hl2] at h3
      rcases Nat.eq_zero_or_pos n2 with h | h
      · exact h
      · have := Nat.mul_pos h et.pos
        simp at h3
        omega
    subst hn2
    subst hl2
    refine ⟨A, n, c, w, ?_, rfl, by simpa using hown, Below.refl _ _, World.grownBy.refl w _, .inl rfl⟩
    rcases hown.2 with ⟨hv, h0⟩ | ⟨g, cap, cur, hv, _, _, hnc, _⟩
    · injection hv with h1 h2 h3
      subst h1 h2 h3
      simp [Builtin.append_, run_underlying et.sl, sizeOf, typeInfo, hi, Builtin.lenOf, Builtin.firstCells]
    · injection hv with h1 h2 h3
      subst h1 h3
      simp [Builtin.append_, run_underlying et.sl, sizeOf, typeInfo, hi, Builtin.lenOf, Builtin.firstCells, hnc, storeCells]
  | some ad =>
    have hcells : ∀ j u, l2[j]? = some u → w.cell? (ad.add j) = some u := by
      intro j u hu
      rcases hr.2.2 with h | ⟨b, off, h, _, hc⟩
      · rw [h] at hu; simp at hu
      · injection h with h
        subst h
        rw [add_plain]
        exact hc j u hu
    have hby : (n + n2) * by_ ≤ 140737488355328 := Nat.le_trans (Nat.mul_le_mul hm et.small) (by decide)
    obtain ⟨v', w', hrun, h2, h3, _, h5⟩ := run_append_own_at (P := P) w base ts ty e i z s by_ et.sl hi hz0 hz1 hz2 et.zs et.pos (.slice A n c) n l hown ad n2 c2 l2
      hr.1 hcells h1 (by simp only [maxLen]; omega) hby hbase
    obtain ⟨A', n', c', rfl, hn', hob⟩ := fin v' w' h2
    exact ⟨A', n', c', w', hrun, hn', hob, hbel h3, h3, h5⟩
theorem Rs.chg {D : Nat → Prop} {s : Nat} {w w' : World} {A : Option Addr} {n c : Nat} {cs : List Value} (h : Rs s w A n c cs) (hc : Chg D w w') (hd : ∀ a, A = some a → ¬ D a.block) : Rs s w' A n c cs := by
  refine ⟨h.1, h.2.1, ?_⟩
  rcases h.2.2 with h' | ⟨b, off, hA, hb, hcell⟩
  · exact .inl h'
  · refine .inr ⟨b, off, hA, Nat.lt_of_lt_of_le hb hc.size, fun i u hu => ?_⟩
    rw [World.cell?_of_block (w := w) (hc.block b hb (hd _ hA))]
    exact hcell i u hu
theorem Os.chg {D : Nat → Prop} {e : TypeId} {s base : Nat} {w w' : World} {A : Option Addr} {n c : Nat} {cs : List Value} (h : Os e s w base A n c cs) (hc : Chg D w w') (hd : ∀ k, (Value.slice A n c).ownBlock = some k → ¬ D k) : Os e s w' base A n c cs := by
  refine ⟨h.1, ?_⟩
  rcases h.2 with h' | ⟨g, cap, cur, hv, hb, hg, hr⟩
  · exact .inl h'
  · have hk : (Value.slice A n c).ownBlock = some g := by rw [hv]; rfl
    exact .inr ⟨g, cap, cur, hv, hb, (hc.block g (h.blk g hk).2 (hd g hk)).trans hg, hr⟩
end Go.Proofs.Ytknoenceccpkhaa

/- Rows of structs as words that own blocks (wp_own). -/
namespace Go.Proofs.Ytknoenceccpkhaa
open Go.RowKit
set_option linter.unusedVariables false

theorem Rs.kept {F : Nat → Prop} {s : Nat} {w w' : World} {A : Option Addr} {n c : Nat} {cs : List Value} (h : Rs s w A n c cs) (hk : Kept F w w') (hf : ∀ a, A = some a → a.block < w.heap.size → F a.block) : Rs s w' A n c cs := by
  refine ⟨h.1, h.2.1, ?_⟩
  rcases h.2.2 with h' | ⟨b, off, hA, hb, hc⟩
  · exact .inl h'
  · exact .inr ⟨b, off, hA, Nat.lt_of_lt_of_le hb hk.size, fun i u hu => (World.cell?_of_block (hk.block b hb (hf _ hA hb))).trans (hc i u hu)⟩
theorem Os.kept {F : Nat → Prop} {e : TypeId} {s base : Nat} {w w' : World} {A : Option Addr} {n c : Nat} {cs : List Value} (h : Os e s w base A n c cs) (hk : Kept F w w') (hf : ∀ b, (Value.slice A n c).ownBlock = some b → F b) : Os e s w' base A n c cs := by
  refine ⟨h.1, ?_⟩
  rcases h.2 with h' | ⟨g, cap, cur, hv, hb, hg, hr⟩
  · exact .inl h'
  · have ho : (Value.slice A n c).ownBlock = some g := by rw [hv]; rfl
    exact .inr ⟨g, cap, cur, hv, hb, (hk.block g (h.blk g ho).2 (hf g ho)).trans hg, hr⟩
/-- own rows of structs, from base on -/
def Own.osr {prot : Nat → Prop} (e : TypeId) (s base : Nat) (cs : List Value) : Own prot := ⟨fun v _ w => ∃ A n c, v = .slice A n c ∧ Os e s w base A n c cs, fun v _ b => v.ownBlock = some b,
  fun v u w b ⟨A, n, c, h1, h2⟩ h3 => (by subst h1; exact (h2.blk b h3).2),
  fun v u w w' ⟨A, n, c, h1, h2⟩ hk => ⟨A, n, c, h1, h2.kept hk (fun b hb => .inl (by subst h1; exact hb))⟩⟩
theorem own_appS {P : Program} {Q : Exit → Act → World → Prop} {w : World} {o : Oper} {a : Act} {K : Act → World → Prop} {ts e : TypeId} {z : Value} {sz by_ : Nat} (et : ET P ts e z sz by_) (s x : Operand)
    (ho : o.op = .call { callee := .builtin .append, args := #[s, x], argTypes := #[ts, ts] }) {base : Nat} {A : Option Addr} {n c : Nat} {l : List Value} (hs : a.eval s = .slice A n c) (hown : Os e sz w base A n c l)
    {A2 : Option Addr} {n2 c2 : Nat} {l2 : List Value} (hx : a.eval x = .slice A2 n2 c2) (hr2 : Rs sz w A2 n2 c2 l2) (h1 : ∀ u ∈ l2, u.oneCell' = true) (hm : n + n2 ≤ 1099511627776) (hbase : base ≤ w.heap.size)
    (h : ∀ A' n' c' w', n' = n + n2 → Os e sz w' base A' n' c' (l ++ l2) → w.grownBy w' (Value.slice A n c).ownBlock → (∀ b, (Value.slice A' n' c').ownBlock = some b → (Value.slice A n c).ownBlock = some b ∨ w.heap.size ≤ b) → K (a.put o.dst (.slice A' n' c')) w') : o.wp P a w K Q := by
  obtain ⟨A', n', c', w', hrun, h0, h2, h3, h4, h5⟩ := run_appS2 (P := P) w (ty := o.type) et hown hr2 h1 hm hbase
  unfold Oper.wp execOp
  simp only [ho, resolve, invoke, builtin, Sem.run_bind, Sem.run_pure, Result.andThen_ok, List.map_toArray, List.map_cons, List.map_nil, hs, hx, hrun]
  refine h A' n' c' w' h0 h2 h4 (fun b hb => ?_)
  rcases h5 with h5 | h5
  · exact .inl (by rw [← h5]; exact hb)
  · rw [h5] at hb
    injection hb with hb
    exact .inr (by omega)
/-- a call hands back a new row -/
def RetOs (e : TypeId) (s : Nat) (w : World) (cs : List Value) (en : Ending) (w' : World) : Prop := ∃ A n c bs d, en = .returned (.slice A n c) ∧ w' = plus w bs d ∧ Os e s (plus w bs d) w.heap.size A n c cs
theorem RetOs.mk {e : TypeId} {s : Nat} {w w' : World} {cs : List Value} {A : Option Addr} {n c : Nat} (h : Os e s w' w.heap.size A n c cs) (hb : Below w.heap.size w w') : RetOs e s w cs (.returned (.slice A n c)) w' := by
  obtain ⟨bs, d, rfl⟩ := plus_of hb
  exact ⟨A, n, c, bs, d, rfl, rfl, h⟩
end Go.Proofs.Ytknoenceccpkhaa

/- hrw.scores, hrw.Pick (chapter 16). -/
namespace Go.Proofs.Ytknoenceccpkhaa
open Go.RowKit
set_option linter.unusedVariables false
set_option linter.unusedSimpArgs false
attribute [local go_sem ↓] sliced_cut

attribute [local go_sem] cutA_zero

theorem etSc : ET Try.prog 166 170 (.agg #[.int .i64 0, .int .u64 0]) 2 16 := ⟨Try.underlying166, by kernel_rfl, rfl, by decide, by decide⟩
theorem scd_snoc (S : Int × Int → Int) (L : List (Int × Int)) (j : Nat) (hj : j < L.length) : scd S (L.take (j + 1)) = scd S (L.take j) ++ scd S [L[j]] := by
  rw [← scd_append]
  congr 1
  simp
theorem scd_len (S : Int × Int → Int) : ∀ L, (scd S L).length ≤ L.length
  | [] => by simp [scd]
  | m :: t => by
    have := scd_len S t
    simp only [scd]
    split <;> simp <;> omega
/-- members that may be -/
def Light (L : List (Int × Int)) : Prop := ∀ p ∈ L, 0 ≤ p.1 ∧ p.1 < 64 ∧ p.2 < 8
set_option maxHeartbeats 4000000 in
set_option maxRecDepth 100000 in
theorem scores_own (key : List UInt8) (hk0 : K16 key) (L : List (Int × Int)) (hL : Light L) (Al : Option Addr) (nl cl : Nat) (A : Option Addr) (n c : Nat) (b : List UInt8) (w : World) (hr : Rb w A n c b) (hl : Rs 2 w Al nl cl (prs .i64 L)) (hm : n ≤ 1000) (hml : nl ≤ 1000) :
    Calls Try.prog 92 #[.agg (bcs key).toArray, .slice Al nl cl, .slice A n c] w (RetOs 170 2 w (prs .u64 (scd (scoreI key b) L))) := by
  obtain ⟨dk, u1, u2, u3⟩ := rowKey
  obtain ⟨dm, m1, m2⟩ := rowMb
  have hln : L.length = nl := by have := hl.1; rw [prs_length] at this; omega
  have hcap := hl.2.1
  have hk : Bk (w.alloc (.cells (bcs key).toArray 165)) w.heap.size 165 (bcs key) := Bk.new w 165 (bcs key).toArray
  have be : Below w.heap.size w (w.alloc (.cells (bcs key).toArray 165)) := Below.allocS (Below.refl _ _) _
  have zV : w.heap.size + 1 ≤ (w.alloc (.cells (bcs key).toArray 165)).heap.size := by simp
  go_enter Try.func92, Try.ntmps92
  go_upto_region 1 with (fail)
  generalize w.alloc (.cells (bcs key).toArray 165) = V at *
  go_upto_region 3 with (fail)
  have HK := Lib.hid hk
  have HE := Lib.hid be
  clear hk be
  go_loopw [12, 7] (fun i s wr => ∃ (j : Nat) (A' : Option Addr) (n' c' : Nat), j ≤ nl ∧ i = .int .i64 (j : Int) ∧ s = .slice A' n' c' ∧ Os 170 2 wr (w.heap.size + 1) A' n' c' (prs .u64 (scd (scoreI key b) (L.take j))) ∧ Bk wr w.heap.size 165 (bcs key) ∧ Below w.heap.size w wr) (fun i _ _ => nl - (intOf i).toNat)
  case atStart => exact ⟨0, none, 0, 0, Nat.zero_le _, rfl, rfl, Os.nil_, HK.out, HE.out⟩
  case round =>
    clear HK HE
    obtain ⟨j, A', n', c', hj, rfl, rfl, hO, hY, hE⟩ := hrel
    by_cases hlt : j < nl
    · have ij : (j : Int) < (nl : Int) := by omega
      have hjL : j < L.length := by omega
      obtain ⟨bl, ol, rfl, hbl, -⟩ := hl.at_ (by omega) (by decide)
      obtain ⟨q0, q1⟩ := (hl.later hE).range2 j hjL
      have hp := hL L[j] (List.getElem_mem hjL)
      have hsn := scd_snoc (scoreI key b) L j hjL
      have hle := scd_len (scoreI key b) (L.take j)
      generalize L[j] = p at *
      obtain ⟨pid, wt⟩ := p
      obtain ⟨id, rfl⟩ := Int.eq_ofNat_of_zero_le hp.1
      have hid : id < 64 := by have := hp.2.1; simp at this; omega
      have hwt : wt < 8 := hp.2.2
      have hn' : n' ≤ 1000 := by have := hO.rs.1; rw [prs_length] at this; simp at hle; omega
      have HN := Lib.hid hsn
      have zw := hE.size
      have zK := hY.lt
      clear hp hsn hle
      simp only [] at q0 q1
      go_upto_region 5 with (fail)
      have h9 : Bk (wr.alloc (.cells #[.int .i64 (id : Int), .int .i64 wt] 96)) wr.heap.size 96 (mbC ((id : Int), wt)) := Bk.new _ _ _
      replace hY := hY.alloc (.cells #[.int .i64 (id : Int), .int .i64 wt] 96)
      replace hE := Below.allocS hE (.cells #[.int .i64 (id : Int), .int .i64 wt] 96)
      replace hO := hO.later ((Below.refl _ _).alloc (Nat.le_refl _) (.cells #[.int .i64 (id : Int), .int .i64 wt] 96))
      obtain ⟨z9, hz9⟩ : ∃ z, z = wr.heap.size := ⟨_, rfl⟩
      rw [← hz9] at h9 ⊢
      have hz9' : w.heap.size + 1 ≤ z9 := by omega
      generalize wr.alloc (.cells #[.int .i64 (id : Int), .int .i64 wt] 96) = w2 at *
      clear hz9 q0 q1
      have q1 : w2.cell? ⟨z9, 1, none⟩ = some (.int .i64 wt) := h9.cell 1
      have hr2 := hr.later (hE.mono (Nat.le_refl _))
      have hbase : w.heap.size + 1 ≤ w2.heap.size := by have := h9.lt; omega
      cases hd : decide (0 < wt) with
      | true =>
        have hw := of_decide_eq_true hd
        have hsc : scd (scoreI key b) [((id : Int), wt)] = [((id : Int), scoreI key b ((id : Int), wt))] := by simp only [scd]; rw [if_pos hw]
        have HSC := Lib.hid hsc
        clear hsc hw
        have HS := Lib.hid (fun w (h : Rb w A n c b) => score_any key hk0 id wt A n c b w h (by omega) (by omega) (by omega))
        go_upto_region 6 with (fail)
        go_wp2
        refine wp_relS 9 31 rfl (by kernel_rfl) (by kernel_rfl) ?_
        apply Steps.one (MP.eq _) 1 rfl
        · intro o ho FA x hO hD K hK
          obtain rfl := Option.some.inj ho.symm
          clear ho
          have e7 := hO 7 (by kernel_rfl)
          simp only [eval_tmp, List.getElem?_toArray, List.getElem?_cons_succ, List.getElem?_cons_zero, Option.getD_some] at e7
          have ev7 := Lib.hid ((eval_tmp FA 7).trans e7)
          clear hO hD
          go_simp
          exact hK.out _ _ (Ex.refl _) rfl
        apply Steps.one (MP.eq _) 2 rfl
        · intro o ho FA x hO hD K hK
          obtain rfl := Option.some.inj ho.symm
          clear ho
          have e9 := hO 9 (by kernel_rfl)
          simp only [eval_tmp, List.getElem?_toArray, List.getElem?_cons_succ, List.getElem?_cons_zero, Option.getD_some] at e9
          have ev9 := Lib.hid ((eval_tmp FA 9).trans e9)
          clear hO hD
          go_simp
          exact hK.out _ _ (Ex.refl _) rfl
        apply Steps.one (MP.eq _) 3 rfl
        · intro o ho FA x hO hD K hK
          obtain rfl := Option.some.inj ho.symm
          clear ho
          have ev20 : FA.eval (.tmp 20) = _ := hD 1 20 (by kernel_rfl)
          have e20 := (eval_tmp FA 20).symm.trans ev20
          replace ev20 := Lib.hid ev20
          clear hO hD
          refine wanted_if rfl ?_
          refine wp_ld1 3 (.tmp 20) rfl ev20.out (h9.later (below_plus _ _ _)) rfl Try.underlying3 rfl ?_
          exact hK.out _ _ (Ex.refl _) rfl
        apply Steps.one (MP.eq _) 4 rfl
        · intro o ho FA x hO hD K hK
          obtain rfl := Option.some.inj ho.symm
          clear ho
          have e3 := hO 3 (by kernel_rfl)
          simp only [eval_tmp, List.getElem?_toArray, List.getElem?_cons_succ, List.getElem?_cons_zero, Option.getD_some] at e3
          have ev3 := Lib.hid ((eval_tmp FA 3).trans e3)
          clear hO hD
          refine wanted_if rfl ?_
          refine wp_ldA 165 (.tmp 3) rfl (bcs key) ev3.out (hY.later (below_plus _ _ _)) (whole_ _) u1 u2 (szKey key hk0) ?_
          exact hK.out _ _ (Ex.refl _) rfl
        apply Steps.one (MP.eq _) 5 rfl
        · intro o ho FA x hO hD K hK
          obtain rfl := Option.some.inj ho.symm
          clear ho
          have e9 := hO 9 (by kernel_rfl)
          simp only [eval_tmp, List.getElem?_toArray, List.getElem?_cons_succ, List.getElem?_cons_zero, Option.getD_some] at e9
          have ev9 := Lib.hid ((eval_tmp FA 9).trans e9)
          clear hO hD
          refine wanted_if rfl ?_
          refine wp_ldA 96 (.tmp 9) rfl (mbC ((id : Int), wt)) ev9.out (h9.later (below_plus _ _ _)) (whole_ _) m1 m2 (szMb _) ?_
          exact hK.out _ _ (Ex.refl _) rfl
        apply Steps.one (MP.eq _) 6 rfl
        · intro o ho FA x hO hD K hK
          obtain rfl := Option.some.inj ho.symm
          clear ho
          have e2 := hO 2 (by kernel_rfl)
          simp only [eval_tmp, List.getElem?_toArray, List.getElem?_cons_succ, List.getElem?_cons_zero, Option.getD_some] at e2
          have ev2 := Lib.hid ((eval_tmp FA 2).trans e2)
          clear hO hD
          go_simp
          exact hK.out _ _ (Ex.refl _) rfl
        apply Steps.one (MP.eq _) 7 rfl
        · intro o ho FA x hO hD K hK
          obtain rfl := Option.some.inj ho.symm
          clear ho
          have ev22 : FA.eval (.tmp 22) = _ := hD 3 22 (by kernel_rfl)
          have e22 := (eval_tmp FA 22).symm.trans ev22
          replace ev22 := Lib.hid ev22
          have ev23 : FA.eval (.tmp 23) = _ := hD 4 23 (by kernel_rfl)
          have e23 := (eval_tmp FA 23).symm.trans ev23
          replace ev23 := Lib.hid ev23
          have ev24 : FA.eval (.tmp 24) = _ := hD 5 24 (by kernel_rfl)
          have e24 := (eval_tmp FA 24).symm.trans ev24
          replace ev24 := Lib.hid ev24
          clear hO hD
          go_simp
          refine (HS.out _ (hr2.plus_ _ _)).mono ?_
          rintro e w1 ⟨bs2, d2, rfl, rfl⟩
          exact hK.out _ _ (Ex.plus_ _ _ _) rfl
        apply Steps.one (MP.eq _) 8 rfl
        · intro o ho FA x hO hD K hK
          obtain rfl := Option.some.inj ho.symm
          clear ho
          have ev21 : FA.eval (.tmp 21) = _ := hD 2 21 (by kernel_rfl)
          have e21 := (eval_tmp FA 21).symm.trans ev21
          replace ev21 := Lib.hid ev21
          have ev25 : FA.eval (.tmp 25) = _ := hD 6 25 (by kernel_rfl)
          have e25 := (eval_tmp FA 25).symm.trans ev25
          replace ev25 := Lib.hid ev25
          clear hO hD
          go_simp
          exact hK.out _ _ (Ex.refl _) rfl
        apply Steps.one (MP.rs 2 (scC ((id : Int), scoreI key b ((id : Int), wt)))) 9 rfl
        · intro o ho FA x hO hD K hK
          obtain rfl := Option.some.inj ho.symm
          clear ho
          have ev26 : FA.eval (.tmp 26) = _ := hD 7 26 (by kernel_rfl)
          have e26 := (eval_tmp FA 26).symm.trans ev26
          replace ev26 := Lib.hid ev26
          clear hO hD
          go_simp
          exact hK.out _ _ (Ex.alloc _ _) ⟨_, _, _, rfl, Rs.of_bk (Bk.newK _ _ _ (by simp [size_plus]) rfl) rfl (Nat.le_refl _)⟩
        refine Steps.fin_ (fun vs x hp => ?_)
        have p0 : vs 0 = _ := hp 0 (by omega)
        have p1 : vs 1 = _ := hp 1 (by omega)
        have p2 : vs 2 = _ := hp 2 (by omega)
        have p3 : vs 3 = _ := hp 3 (by omega)
        have p4 : vs 4 = _ := hp 4 (by omega)
        have p5 : vs 5 = _ := hp 5 (by omega)
        have p6 : vs 6 = _ := hp 6 (by omega)
        have p7 : vs 7 = _ := hp 7 (by omega)
        have p8 := hp 8 (by omega)
        clear hp
        simp only [List.take_succ_cons, List.take_zero, List.drop_succ_cons, List.drop_zero, putAll, Nat.zero_add, Nat.reduceAdd, Act.put, List.setIfInBounds_toArray, List.set_cons_zero, List.set_cons_succ, p0, p1, p2, p3, p4, p5, p6, p7]
        clear p0 p1 p2 p3 p4 p5 p6 p7
        generalize vs 8 = y8 at *
        clear vs
        obtain ⟨A8, n8, c8, rfl, h8⟩ := p8
        replace hY := hY.later (below_plus _ x.bs x.d)
        replace hE := belowP hE x.bs x.d
        replace hO := hO.plus_ x.bs x.d
        have hb3 : w.heap.size + 1 ≤ (plus w2 x.bs x.d).heap.size := by have := hY.lt; omega
        have hn8 : n8 = 1 := by have := h8.1; simp [scC] at this; omega
        subst hn8
        generalize plus w2 x.bs x.d = w3 at *
        go_wp2_with (at_builtin; refine wpList_appS etSc rfl (.tmp 19) (.tmp 27) rfl rfl hO rfl h8 (scC_one _) (by omega) hb3 ?_; intro A2 n2 c2 w4 hn2 hO4 hb4 hg4; subst hn2)
        exact ⟨⟨j + 1, A2, _, c2, by omega, by go_num, rfl, by rw [HN.out, HSC.out, prs_append]; exact hO4, hY.below hb4 (by omega), hE.trans (hb4.mono (by omega))⟩, by simp [intOf]; omega⟩
      | false =>
        have hw := of_decide_eq_false hd
        have hsc : scd (scoreI key b) [((id : Int), wt)] = [] := by simp only [scd]; rw [if_neg hw]
        have HSC := Lib.hid hsc
        clear hsc hw
        go_wp2_with fail
        exact ⟨⟨j + 1, A', n', c', by omega, by go_num, rfl, by rw [HN.out, HSC.out, List.append_nil]; exact hO, hY, hE⟩, by simp [intOf]; omega⟩
    · obtain rfl : j = nl := by omega
      have ij : ¬ (j : Int) < (j : Int) := by omega
      have e : L.take j = L := by rw [List.take_of_length_le (by omega)]
      have HO := Lib.hid hO
      rw [e] at HO
      clear hO e
      go_wp2
      go_ret
      exact RetOs.mk (HO.out.mono (by omega)) hE
theorem scores_any (key : List UInt8) (hk0 : K16 key) (L : List (Int × Int)) (hL : Light L) (Al : Option Addr) (nl cl : Nat) (A : Option Addr) (n c : Nat) (b : List UInt8) (w : World) (hr : Rb w A n c b) (hl : Rs 2 w Al nl cl (prs .i64 L)) (hm : n ≤ 1000) (hml : nl ≤ 1000) :
    Calls Try.prog 92 #[.agg (bcs key).toArray, .slice Al nl cl, .slice A n c] w (RetRs 2 w (prs .u64 (scd (scoreI key b) L))) := by
  refine (scores_own key hk0 L hL Al nl cl A n c b w hr hl hm hml).mono ?_
  rintro e w' ⟨A', n', c', bs, d, rfl, rfl, hO⟩
  exact ⟨A', n', c', bs, d, rfl, rfl, hO.rs⟩
set_option maxHeartbeats 4000000 in
set_option maxRecDepth 100000 in
theorem pick_any (key : List UInt8) (hk0 : K16 key) (L : List (Int × Int)) (hL : Light L) (Al : Option Addr) (nl cl : Nat) (A : Option Addr) (n c : Nat) (b : List UInt8) (w : World) (hr : Rb w A n c b) (hl : Rs 2 w Al nl cl (prs .i64 L)) (hm : n ≤ 1000) (hml : nl ≤ 1000) :
    Calls Try.prog 36 #[.agg (bcs key).toArray, .slice Al nl cl, .slice A n c] w (RetV w (.tuple #[.int .i64 (pk (scd (scoreI key b) L)).1, .bool (pk (scd (scoreI key b) L)).2])) := by
  obtain ⟨dk, u1, u2, u3⟩ := rowKey
  have hln : L.length = nl := by have := hl.1; rw [prs_length] at this; omega
  have hsl := scd_len (scoreI key b) L
  have HS := Lib.hid (fun w (h : Rb w A n c b) (h2 : Rs 2 w Al nl cl (prs .i64 L)) => scores_any key hk0 L hL Al nl cl A n c b w h h2 hm hml)
  have hk : Bk (w.alloc (.cells (bcs key).toArray 165)) w.heap.size 165 (bcs key) := Bk.new w 165 (bcs key).toArray
  have be : Below w.heap.size w (w.alloc (.cells (bcs key).toArray 165)) := Below.allocS (Below.refl _ _) _
  have zV : w.heap.size + 1 ≤ (w.alloc (.cells (bcs key).toArray 165)).heap.size := by simp
  go_enter Try.func36, Try.ntmps36
  go_upto_region 1 with (fail)
  generalize w.alloc (.cells (bcs key).toArray 165) = V at *
  replace hr := hr.later be
  replace hl := hl.later be
  clear hL
  generalize scd (scoreI key b) L = S at *
  go_upto_region 2 with (first
    | (refine at_op (.load 165 (.tmp 3)) rfl ?_; refine wpList_ldA (t := 165) 165 (.tmp 3) rfl rfl (bcs key) rfl (hk) (whole_ _) u1 u2 (szKey key hk0) ?_)
    | (go_at_call 92; refine (HS.out _ hr hl).mono ?_; rintro e w2 ⟨A2, n2, c2, bs2, d2, rfl, rfl, h2⟩))
  replace be := belowP be bs2 d2
  generalize plus V bs2 d2 = w2 at *
  have hn2 := h2.1
  rw [prs_length] at hn2
  clear hk hr hl HS
  cases S with
  | nil =>
    have i0 : ((n2 : Int) == 0) = true := by rw [beq_iff_eq]; simp at hn2; omega
    clear hn2
    go_wp2
    go_ret2
    exact RetV.is_ (by simp [pk]) be
  | cons m t =>
    have i0 : ((n2 : Int) == 0) = false := by simp at hn2; simp; omega
    have hn3 : n2 ≤ 1000 := by omega
    clear hn2
    have HM : Calls Try.prog 97 #[.slice A2 n2 c2, .func (.func 94) #[] #[]] w2 (RetV w2 (.agg #[.int .i64 (pickS m t).1, .int .u64 (pickS m t).2])) := minF_any A2 n2 c2 m t w2 h2 (by omega)
    have e : pk (m :: t) = ((pickS m t).1, true) := rfl
    have HP := Lib.hid e
    clear e h2
    generalize pickS m t = r at *
    obtain ⟨r1, r2⟩ := r
    have hfd : ∀ w : World, (Instr.field 170 (.agg #[.int .i64 r1, .int .u64 r2]) 0).run Try.prog w = .ok (.int .i64 r1) w := fun _ => by kernel_rfl
    simp only [] at HM HP
    go_wp2_with (go_at_call 97; refine HM.mono ?_; rintro e w3 ⟨bs3, d3, rfl, rfl⟩)
    go_ret2
    exact RetV.is_ (by rw [HP.out]; rfl) (belowP be _ _)
end Go.Proofs.Ytknoenceccpkhaa

/- bits.Len of small numbers; slices.SortFunc of at most twelve scored members (chapter 16). -/
namespace Go.Proofs.Ytknoenceccpkhaa
open Go.RowKit
set_option linter.unusedVariables false
set_option linter.unusedSimpArgs false
attribute [local go_sem ↓] sliced_cut

attribute [local go_sem] cutA_zero

theorem wpList_idx {P : Program} {w : World} {ops : Array Oper} {rest : List Oper} {o : Oper} {a : Act} {Q : Exit → Act → World → Prop} {ty : TypeId} {s : ByteArray} {k : IntKind} (m : Nat) (x : Operand) (ho : o.op = .index ty (.const (.string s)) x) (hgd : o.guard = none)
    (i : Nat) (hx : a.eval x = .int k (i : Int)) (hs : decide (m < s.size) = true) (hi : i ≤ m) (hu : P.underlying ty = some .string)
    (h : ∀ b : Nat, b < 256 → wpList P ops Q rest (a.put o.dst (.int .u8 (b : Int))) w) : wpList P ops Q (o :: rest) a w := by
  refine wpList_plain hgd fun _ hK => ?_
  have hs2 := of_decide_eq_true hs
  have hrun := run_index_string (P := P) w ty s k (i : Int) hu
  rw [dif_pos ⟨by omega, by omega⟩] at hrun
  have hc : a.eval (.const (.string s)) = .string s := rfl
  unfold Oper.wp execOp
  simp only [ho, hx, hc, hrun, Sem.run_bind, Sem.run_pure, Result.andThen_ok]
  exact hK _ _ (h _ (UInt8.toNat_lt _))
def RetSome (w : World) (e : Ending) (w' : World) : Prop := ∃ k : Int, RetV w (.int .i64 k) e w'
set_option maxHeartbeats 4000000 in
set_option maxRecDepth 100000 in
theorem len64_any (x : Nat) (w : World) (hx : x ≤ 12) : Calls Try.prog 149 #[.int .u64 (x : Int)] w (RetSome w) := by
  have i1 : ¬ (4294967296 : Int) ≤ (x : Int) := by omega
  have i2 : ¬ (65536 : Int) ≤ (x : Int) := by omega
  have i3 : ¬ (256 : Int) ≤ (x : Int) := by omega
  have w8 : IntKind.u8.wrap (x : Int) = (x : Int) := by rw [IntKind.wrap_u8]; omega
  go_enter Try.func149, Try.ntmps149
  go_upto_region 10 with (fail)
  refine wp_region_lit ?_
  iterate 3 (refine wpList_plain rfl (fun K hK => ?_); go_simp; with_reducible refine hK _ _ ?_; clear hK K)
  refine wpList_idx 12 (.tmp 21) rfl rfl x rfl (by kernel_rfl) (by omega) Try.underlying9 ?_
  intro kb hkb
  iterate 3 (refine wpList_plain rfl (fun K hK => ?_); go_simp; with_reducible refine hK _ _ ?_; clear hK K)
  go_wp2
  go_ret
  exact ⟨_, RetV.mk (Below.refl _ _)⟩
set_option maxHeartbeats 4000000 in
set_option maxRecDepth 100000 in
theorem len_any (x : Nat) (w : World) (hx : x ≤ 12) : Calls Try.prog 127 #[.int .u64 (x : Int)] w (RetSome w) := by
  have HL := Lib.hid (fun w => len64_any x w hx)
  go_enter Try.func127, Try.ntmps127
  go_wp2_with (go_at_call 149; refine (HL.out _).mono ?_; rintro e w1 ⟨k, bs1, d1, rfl, rfl⟩)
  go_ret
  exact ⟨_, RetV.mk (below_plus _ _ _)⟩
theorem prs_range {P : List (Int × Int)} {sp : List Value} {w : World} {g : Nat} {t : TypeId} (h : Bk w g t (prs .u64 P ++ sp)) (k : Nat) (hk : k < P.length) : w.rangeAt g (k * 2) (scC (P.getD k (0, 0))) := by
  have e : P.getD k (0, 0) = P[k] := by rw [List.getD_eq_getElem?_getD, List.getElem?_eq_getElem hk, Option.getD_some]
  obtain ⟨h0, h1⟩ := prs_at .u64 P k hk
  have hl := prs_length .u64 P
  rw [e]
  intro i u hu
  rw [h.cell]
  match i, hu with
  | 0, hu => rw [Nat.add_zero, Nat.mul_comm, List.getElem?_append_left (by omega), h0]; exact hu
  | 1, hu => rw [Nat.mul_comm, List.getElem?_append_left (by omega), h1]; exact hu
  | i + 2, hu => simp [scC] at hu
theorem prs_splice (P : List (Int × Int)) (sp : List Value) (k : Nat) (x : Int × Int) (hk : k < P.length) : splice (prs .u64 P ++ sp) (k * 2) (scC x) = prs .u64 (P.set k x) ++ sp := by
  have hl := prs_length .u64 P
  have e : P = P.take k ++ P[k] :: P.drop (k + 1) := by rw [← List.drop_eq_getElem_cons hk, List.take_append_drop]
  have hlt : (prs .u64 (P.take k)).length = k * 2 := by rw [prs_length, List.length_take]; omega
  have es : P.set k x = P.take k ++ x :: P.drop (k + 1) := by rw [List.set_eq_take_append_cons_drop, if_pos hk]
  rw [es]
  conv => lhs; rw [e]
  rw [prs_append, prs_append, List.append_assoc]
  have e1 : prs .u64 (P[k] :: P.drop (k + 1)) = [.int .i64 P[k].1, .int .u64 P[k].2] ++ prs .u64 (P.drop (k + 1)) := rfl
  have e2 : prs .u64 (x :: P.drop (k + 1)) = scC x ++ prs .u64 (P.drop (k + 1)) := rfl
  rw [e1, e2]
  unfold splice
  rw [List.take_append_of_le_length (by omega), List.take_of_length_le (by omega)]
  have e3 : List.drop (k * 2 + (scC x).length) (prs .u64 (P.take k) ++ ([.int .i64 P[k].1, .int .u64 P[k].2] ++ prs .u64 (P.drop (k + 1)) ++ sp)) = prs .u64 (P.drop (k + 1)) ++ sp := by
    rw [List.drop_append, List.drop_of_length_le (by omega), hlt, show k * 2 + (scC x).length - k * 2 = 2 by simp [scC]]
    rfl
  rw [e3]
  simp
/-- a row is put in order in its place -/
def RetSrt (w : World) (g : Nat) (P : List (Int × Int)) (sp : List Value) (e : Ending) (w' : World) : Prop := e = .returned (.tuple #[]) ∧ Bk w' g 170 (prs .u64 (srtL P) ++ sp) ∧ Chg (fun b => b = g) w w'
set_option maxHeartbeats 4000000 in
set_option maxRecDepth 100000 in
theorem insSort_any (P : List (Int × Int)) (sp : List Value) (g n c : Nat) (w : World) (hB : Bk w g 170 (prs .u64 P ++ sp)) (hn : P.length = n) (h12 : n ≤ 12) (h0 : 0 < n) (hc : n ≤ c) : Calls Try.prog 140 #[.slice (some ⟨g, 0, none⟩) n c, .int .i64 0, .int .i64 (n : Int), .func (.func 94) #[] #[]] w (RetSrt w g P sp) := by
  obtain ⟨du, u1, u2⟩ := rowSc
  have hB0 : Bk w g 170 (prs .u64 (srtL (P.take 1) ++ P.drop 1) ++ sp) := by
    have := sink_srt P 0 (by omega)
    rw [← this]
    exact hB
  go_enter Try.func140, Try.ntmps140
  go_upto_region 1 with (fail)
  have HB := Lib.hid hB0
  clear hB hB0
  go_loopw [8, 9] (fun I J wr => ∃ i : Nat, I = .int .i64 ((i + 1 : Nat) : Int) ∧ i + 1 ≤ n ∧ Bk wr g 170 (prs .u64 (srtL (P.take (i + 1)) ++ P.drop (i + 1)) ++ sp) ∧ Chg (fun b => b = g) w wr) (fun I _ _ => n - (intOf I).toNat)
  case atStart => exact ⟨0, rfl, h0, HB.out, Chg.refl _⟩
  case round =>
    clear HB
    obtain ⟨i, rfl, hi, hB, hW⟩ := hrel
    by_cases hlt : i + 1 < n
    · obtain ⟨ii, hii⟩ : ∃ ii, i + 1 = ii := ⟨_, rfl⟩
      rw [hii] at hB hlt ⊢
      have HS := Lib.hid (sink_srt P ii (by omega))
      have hlS : (srtL (P.take ii) ++ P.drop ii).length = n := by rw [List.length_append, srtL_len, List.length_take, List.length_drop]; omega
      generalize srtL (P.take ii) ++ P.drop ii = S0 at *
      obtain ⟨S1, hS1⟩ : ∃ S1, S1 = srtL (P.take (ii + 1)) ++ P.drop (ii + 1) := ⟨_, rfl⟩
      rw [← hS1] at HS
      have HS1 := Lib.hid hS1
      clear hS1 hii
      have iin : (ii : Int) < (n : Int) := by omega
      go_upto_region 4 with (fail)
      have HB := Lib.hid hB
      clear hB
      go_loopw [9] (fun J wr2 => ∃ (j : Nat) (S : List (Int × Int)), J = .int .i64 (j : Int) ∧ j ≤ ii ∧ S.length = n ∧ sinkL j S = S1 ∧ Bk wr2 g 170 (prs .u64 S ++ sp) ∧ Chg (fun b => b = g) w wr2) (fun J _ => (intOf J).toNat)
      case atStart => exact ⟨ii, S0, rfl, Nat.le_refl _, hlS, HS.out, HB.out, hW⟩
      case round =>
        clear HB hW HS
        obtain ⟨j0, S, rfl, hj, hlS2, hsk, hB, hW⟩ := hrel
        cases j0 with
        | zero =>
          have e : S = S1 := hsk
          have HSE := Lib.hid e
          clear e hsk
          have HB := Lib.hid hB
          go_upto_region 4 with (fail)
          go_wp2
          refine wp_relS 17 53 rfl (by kernel_rfl) (by kernel_rfl) ?_
          apply Steps.one (MP.eq _) 1 rfl
          · intro o ho FA x hO hD K hK
            obtain rfl := Option.some.inj ho.symm
            clear ho
            have e9 := hO 9 (by kernel_rfl)
            simp only [eval_tmp, List.getElem?_toArray, List.getElem?_cons_succ, List.getElem?_cons_zero, Option.getD_some] at e9
            have ev9 := Lib.hid ((eval_tmp FA 9).trans e9)
            clear hO hD
            go_simp
            exact hK.out _ _ (Ex.refl _) rfl
          apply Steps.one (MP.eq _) 2 rfl
          · intro o ho FA x hO hD K hK
            obtain rfl := Option.some.inj ho.symm
            clear ho
            have e1 := hO 1 (by kernel_rfl)
            simp only [eval_tmp, List.getElem?_toArray, List.getElem?_cons_succ, List.getElem?_cons_zero, Option.getD_some] at e1
            have ev1 := Lib.hid ((eval_tmp FA 1).trans e1)
            clear hO hD
            go_simp
            exact hK.out _ _ (Ex.refl _) rfl
          apply Steps.one (MP.eq _) 3 rfl
          · intro o ho FA x hO hD K hK
            obtain rfl := Option.some.inj ho.symm
            clear ho
            have ev18 : FA.eval (.tmp 18) = _ := hD 0 18 (by kernel_rfl)
            have e18 := (eval_tmp FA 18).symm.trans ev18
            replace ev18 := Lib.hid ev18
            have ev19 : FA.eval (.tmp 19) = _ := hD 1 19 (by kernel_rfl)
            have e19 := (eval_tmp FA 19).symm.trans ev19
            replace ev19 := Lib.hid ev19
            clear hO hD
            go_simp
            exact hK.out _ _ (Ex.refl _) rfl
          apply Steps.one (MP.eq _) 4 rfl
          · intro o ho FA x hO hD K hK
            obtain rfl := Option.some.inj ho.symm
            clear ho
            have ev20 : FA.eval (.tmp 20) = _ := hD 2 20 (by kernel_rfl)
            have e20 := (eval_tmp FA 20).symm.trans ev20
            replace ev20 := Lib.hid ev20
            clear hO hD
            go_simp
            exact hK.out _ _ (Ex.refl _) rfl
          apply Steps.one (MP.eq _) 5 rfl
          · intro o ho FA x hO hD K hK
            obtain rfl := Option.some.inj ho.symm
            clear ho
            have e3 := hO 3 (by kernel_rfl)
            simp only [eval_tmp, List.getElem?_toArray, List.getElem?_cons_succ, List.getElem?_cons_zero, Option.getD_some] at e3
            have ev3 := Lib.hid ((eval_tmp FA 3).trans e3)
            have ev21 : FA.eval (.tmp 21) = _ := hD 3 21 (by kernel_rfl)
            have e21 := (eval_tmp FA 21).symm.trans ev21
            replace ev21 := Lib.hid ev21
            first | have ge21 := slot_of e21 | have ge21 := slot_un e21
            clear hO hD
            first | (go_simp; exact hK.out _ _ (Ex.refl _) rfl) | (rcases ge21 with ge21 | ge21 <;> (go_simp; exact hK.out _ _ (Ex.refl _) rfl))
          apply Steps.one (MP.eq _) 6 rfl
          · intro o ho FA x hO hD K hK
            obtain rfl := Option.some.inj ho.symm
            clear ho
            have e0 := hO 0 (by kernel_rfl)
            simp only [eval_tmp, List.getElem?_toArray, List.getElem?_cons_succ, List.getElem?_cons_zero, Option.getD_some] at e0
            have ev0 := Lib.hid ((eval_tmp FA 0).trans e0)
            have ev21 : FA.eval (.tmp 21) = _ := hD 3 21 (by kernel_rfl)
            have e21 := (eval_tmp FA 21).symm.trans ev21
            replace ev21 := Lib.hid ev21
            first | have ge21 := slot_of e21 | have ge21 := slot_un e21
            clear hO hD
            first | (go_simp; exact hK.out _ _ (Ex.refl _) rfl) | (rcases ge21 with ge21 | ge21 <;> (go_simp; exact hK.out _ _ (Ex.refl _) rfl))
          apply Steps.one (MP.eq _) 7 rfl
          · intro o ho FA x hO hD K hK
            obtain rfl := Option.some.inj ho.symm
            clear ho
            have e9 := hO 9 (by kernel_rfl)
            simp only [eval_tmp, List.getElem?_toArray, List.getElem?_cons_succ, List.getElem?_cons_zero, Option.getD_some] at e9
            have ev9 := Lib.hid ((eval_tmp FA 9).trans e9)
            have ev21 : FA.eval (.tmp 21) = _ := hD 3 21 (by kernel_rfl)
            have e21 := (eval_tmp FA 21).symm.trans ev21
            replace ev21 := Lib.hid ev21
            first | have ge21 := slot_of e21 | have ge21 := slot_un e21
            clear hO hD
            first | (go_simp; exact hK.out _ _ (Ex.refl _) rfl) | (rcases ge21 with ge21 | ge21 <;> (go_simp; exact hK.out _ _ (Ex.refl _) rfl))
          apply Steps.one (MP.eq _) 8 rfl
          · intro o ho FA x hO hD K hK
            obtain rfl := Option.some.inj ho.symm
            clear ho
            have ev23 : FA.eval (.tmp 23) = _ := hD 5 23 (by kernel_rfl)
            have e23 := (eval_tmp FA 23).symm.trans ev23
            replace ev23 := Lib.hid ev23
            have ev24 : FA.eval (.tmp 24) = _ := hD 6 24 (by kernel_rfl)
            have e24 := (eval_tmp FA 24).symm.trans ev24
            replace ev24 := Lib.hid ev24
            have ev21 : FA.eval (.tmp 21) = _ := hD 3 21 (by kernel_rfl)
            have e21 := (eval_tmp FA 21).symm.trans ev21
            replace ev21 := Lib.hid ev21
            first | have ge21 := slot_of e21 | have ge21 := slot_un e21
            clear hO hD
            first | (go_simp; exact hK.out _ _ (Ex.refl _) rfl) | (rcases ge21 with ge21 | ge21 <;> (go_simp; exact hK.out _ _ (Ex.refl _) rfl))
          apply Steps.one (MP.eq _) 9 rfl
          · intro o ho FA x hO hD K hK
            obtain rfl := Option.some.inj ho.symm
            clear ho
            have ev25 : FA.eval (.tmp 25) = _ := hD 7 25 (by kernel_rfl)
            have e25 := (eval_tmp FA 25).symm.trans ev25
            replace ev25 := Lib.hid ev25
            have ev21 : FA.eval (.tmp 21) = _ := hD 3 21 (by kernel_rfl)
            have e21 := (eval_tmp FA 21).symm.trans ev21
            replace ev21 := Lib.hid ev21
            first | have ge21 := slot_of e21 | have ge21 := slot_un e21
            clear hO hD
            first | (go_simp; exact hK.out _ _ (Ex.refl _) rfl) | (rcases ge21 with ge21 | ge21 <;> (go_simp; exact hK.out _ _ (Ex.refl _) rfl))
          apply Steps.one (MP.eq _) 10 rfl
          · intro o ho FA x hO hD K hK
            obtain rfl := Option.some.inj ho.symm
            clear ho
            have e0 := hO 0 (by kernel_rfl)
            simp only [eval_tmp, List.getElem?_toArray, List.getElem?_cons_succ, List.getElem?_cons_zero, Option.getD_some] at e0
            have ev0 := Lib.hid ((eval_tmp FA 0).trans e0)
            have ev21 : FA.eval (.tmp 21) = _ := hD 3 21 (by kernel_rfl)
            have e21 := (eval_tmp FA 21).symm.trans ev21
            replace ev21 := Lib.hid ev21
            first | have ge21 := slot_of e21 | have ge21 := slot_un e21
            clear hO hD
            first | (go_simp; exact hK.out _ _ (Ex.refl _) rfl) | (rcases ge21 with ge21 | ge21 <;> (go_simp; exact hK.out _ _ (Ex.refl _) rfl))
          apply Steps.one (MP.eq _) 11 rfl
          · intro o ho FA x hO hD K hK
            obtain rfl := Option.some.inj ho.symm
            clear ho
            have e9 := hO 9 (by kernel_rfl)
            simp only [eval_tmp, List.getElem?_toArray, List.getElem?_cons_succ, List.getElem?_cons_zero, Option.getD_some] at e9
            have ev9 := Lib.hid ((eval_tmp FA 9).trans e9)
            have ev21 : FA.eval (.tmp 21) = _ := hD 3 21 (by kernel_rfl)
            have e21 := (eval_tmp FA 21).symm.trans ev21
            replace ev21 := Lib.hid ev21
            first | have ge21 := slot_of e21 | have ge21 := slot_un e21
            clear hO hD
            first | (go_simp; exact hK.out _ _ (Ex.refl _) rfl) | (rcases ge21 with ge21 | ge21 <;> (go_simp; exact hK.out _ _ (Ex.refl _) rfl))
          apply Steps.one (MP.eq _) 12 rfl
          · intro o ho FA x hO hD K hK
            obtain rfl := Option.some.inj ho.symm
            clear ho
            have ev28 : FA.eval (.tmp 28) = _ := hD 10 28 (by kernel_rfl)
            have e28 := (eval_tmp FA 28).symm.trans ev28
            replace ev28 := Lib.hid ev28
            have ev21 : FA.eval (.tmp 21) = _ := hD 3 21 (by kernel_rfl)
            have e21 := (eval_tmp FA 21).symm.trans ev21
            replace ev21 := Lib.hid ev21
            first | have ge21 := slot_of e21 | have ge21 := slot_un e21
            clear hO hD
            first | (go_simp; exact hK.out _ _ (Ex.refl _) rfl) | (rcases ge21 with ge21 | ge21 <;> (go_simp; exact hK.out _ _ (Ex.refl _) rfl))
          apply Steps.one (MP.eq _) 13 rfl
          · intro o ho FA x hO hD K hK
            obtain rfl := Option.some.inj ho.symm
            clear ho
            have ev27 : FA.eval (.tmp 27) = _ := hD 9 27 (by kernel_rfl)
            have e27 := (eval_tmp FA 27).symm.trans ev27
            replace ev27 := Lib.hid ev27
            have ev29 : FA.eval (.tmp 29) = _ := hD 11 29 (by kernel_rfl)
            have e29 := (eval_tmp FA 29).symm.trans ev29
            replace ev29 := Lib.hid ev29
            have ev21 : FA.eval (.tmp 21) = _ := hD 3 21 (by kernel_rfl)
            have e21 := (eval_tmp FA 21).symm.trans ev21
            replace ev21 := Lib.hid ev21
            first | have ge21 := slot_of e21 | have ge21 := slot_un e21
            clear hO hD
            first | (go_simp; exact hK.out _ _ (Ex.refl _) rfl) | (rcases ge21 with ge21 | ge21 <;> (go_simp; exact hK.out _ _ (Ex.refl _) rfl))
          apply Steps.one (MP.eq _) 14 rfl
          · intro o ho FA x hO hD K hK
            obtain rfl := Option.some.inj ho.symm
            clear ho
            have ev30 : FA.eval (.tmp 30) = _ := hD 12 30 (by kernel_rfl)
            have e30 := (eval_tmp FA 30).symm.trans ev30
            replace ev30 := Lib.hid ev30
            have ev21 : FA.eval (.tmp 21) = _ := hD 3 21 (by kernel_rfl)
            have e21 := (eval_tmp FA 21).symm.trans ev21
            replace ev21 := Lib.hid ev21
            first | have ge21 := slot_of e21 | have ge21 := slot_un e21
            clear hO hD
            first | (go_simp; exact hK.out _ _ (Ex.refl _) rfl) | (rcases ge21 with ge21 | ge21 <;> (go_simp; exact hK.out _ _ (Ex.refl _) rfl))
          apply Steps.one (MP.eq _) 15 rfl
          · intro o ho FA x hO hD K hK
            obtain rfl := Option.some.inj ho.symm
            clear ho
            have ev22 : FA.eval (.tmp 22) = _ := hD 4 22 (by kernel_rfl)
            have e22 := (eval_tmp FA 22).symm.trans ev22
            replace ev22 := Lib.hid ev22
            have ev26 : FA.eval (.tmp 26) = _ := hD 8 26 (by kernel_rfl)
            have e26 := (eval_tmp FA 26).symm.trans ev26
            replace ev26 := Lib.hid ev26
            have ev31 : FA.eval (.tmp 31) = _ := hD 13 31 (by kernel_rfl)
            have e31 := (eval_tmp FA 31).symm.trans ev31
            replace ev31 := Lib.hid ev31
            have ev21 : FA.eval (.tmp 21) = _ := hD 3 21 (by kernel_rfl)
            have e21 := (eval_tmp FA 21).symm.trans ev21
            replace ev21 := Lib.hid ev21
            first | have ge21 := slot_of e21 | have ge21 := slot_un e21
            clear hO hD
            first | (go_simp; exact hK.out _ _ (Ex.refl _) rfl) | (rcases ge21 with ge21 | ge21 <;> (go_simp; exact hK.out _ _ (Ex.refl _) rfl))
          apply Steps.one (MP.eq _) 16 rfl
          · intro o ho FA x hO hD K hK
            obtain rfl := Option.some.inj ho.symm
            clear ho
            have ev32 : FA.eval (.tmp 32) = _ := hD 14 32 (by kernel_rfl)
            have e32 := (eval_tmp FA 32).symm.trans ev32
            replace ev32 := Lib.hid ev32
            have ev21 : FA.eval (.tmp 21) = _ := hD 3 21 (by kernel_rfl)
            have e21 := (eval_tmp FA 21).symm.trans ev21
            replace ev21 := Lib.hid ev21
            first | have ge21 := slot_of e21 | have ge21 := slot_un e21
            clear hO hD
            first | (go_simp; exact hK.out _ _ (Ex.refl _) rfl) | (rcases ge21 with ge21 | ge21 <;> (go_simp; exact hK.out _ _ (Ex.refl _) rfl))
          apply Steps.one (MP.eq _) 17 rfl
          · intro o ho FA x hO hD K hK
            obtain rfl := Option.some.inj ho.symm
            clear ho
            have ev21 : FA.eval (.tmp 21) = _ := hD 3 21 (by kernel_rfl)
            have e21 := (eval_tmp FA 21).symm.trans ev21
            replace ev21 := Lib.hid ev21
            have ev33 : FA.eval (.tmp 33) = _ := hD 15 33 (by kernel_rfl)
            have e33 := (eval_tmp FA 33).symm.trans ev33
            replace ev33 := Lib.hid ev33
            clear hO hD
            go_simp
            exact hK.out _ _ (Ex.refl _) rfl
          refine Steps.fin_ (fun vs x hp => ?_)
          have p0 : vs 0 = _ := hp 0 (by omega)
          have p1 : vs 1 = _ := hp 1 (by omega)
          have p2 : vs 2 = _ := hp 2 (by omega)
          have p3 : vs 3 = _ := hp 3 (by omega)
          have p4 : vs 4 = _ := hp 4 (by omega)
          have p5 : vs 5 = _ := hp 5 (by omega)
          have p6 : vs 6 = _ := hp 6 (by omega)
          have p7 : vs 7 = _ := hp 7 (by omega)
          have p8 : vs 8 = _ := hp 8 (by omega)
          have p9 : vs 9 = _ := hp 9 (by omega)
          have p10 : vs 10 = _ := hp 10 (by omega)
          have p11 : vs 11 = _ := hp 11 (by omega)
          have p12 : vs 12 = _ := hp 12 (by omega)
          have p13 : vs 13 = _ := hp 13 (by omega)
          have p14 : vs 14 = _ := hp 14 (by omega)
          have p15 : vs 15 = _ := hp 15 (by omega)
          have p16 : vs 16 = _ := hp 16 (by omega)
          clear hp
          simp only [List.take_succ_cons, List.take_zero, List.drop_succ_cons, List.drop_zero, putAll, Nat.zero_add, Nat.reduceAdd, Act.put, List.setIfInBounds_toArray, List.set_cons_zero, List.set_cons_succ, p0, p1, p2, p3, p4, p5, p6, p7, p8, p9, p10, p11, p12, p13, p14, p15, p16]
          clear p0 p1 p2 p3 p4 p5 p6 p7 p8 p9 p10 p11 p12 p13 p14 p15 p16
          clear vs
          have hE := below_plus wr x.bs x.d
          have hB2 := hB.later hE
          rw [HSE.out, HS1.out] at hB2
          have HB2 := Lib.hid hB2
          have hW2 : Chg (fun b => b = g) w (plus wr x.bs x.d) := hW.trans (Chg.of_below hE)
          clear hB HB hB2 hE
          go_wp2
          exact ⟨⟨ii, by go_num, by omega, HB2.out, hW2⟩, by simp [intOf]; omega⟩
        | succ j =>
          obtain ⟨jj, hjj⟩ : ∃ jj, j + 1 = jj := ⟨_, rfl⟩
          have hux : sinkL jj S = if aheadI (S.getD jj (0, 0)) (S.getD j (0, 0)) < 0 then sinkL j ((S.set jj (S.getD j (0, 0))).set j (S.getD jj (0, 0))) else S := by rw [← hjj]; rfl
          rw [hjj] at hsk hj ⊢
          rw [hux] at hsk
          have i0 : (0 : Int) < (jj : Int) := by omega
          have n0 : 0 < jj := by omega
          have d0 : decide (0 < jj) = true := by simp [n0]
          have ijn : (jj : Int) < (n : Int) := by omega
          have ijn2 : (j : Int) < (n : Int) := by omega
          have e1 : (jj : Int) - 1 = (j : Int) := by omega
          have w1 : IntKind.i64.wrap ((jj : Int) - 1) = (j : Int) := by rw [IntWalk.i64_in _ (by omega)]; omega
          have w2 : IntKind.i64.wrap (j : Int) = (j : Int) := IntWalk.i64_in _ (by omega)
          have HJ := Lib.hid hjj
          have HR1 := Lib.hid (fun W (h : Bk W g 170 (prs .u64 S ++ sp)) => prs_range h jj (by omega))
          have HR2 := Lib.hid (fun W (h : Bk W g 170 (prs .u64 S ++ sp)) => prs_range h j (by omega))
          clear hux hjj
          generalize S.getD jj (0, 0) = px at *
          generalize S.getD j (0, 0) = py at *
          have HA := Lib.hid (fun w => ahead_any px py w)
          generalize aheadI px py = qa at *
          have HC := Lib.hid (fun (W : World) (h : Below wr.heap.size wr W) => show W.rangeAt g (jj * 2) (scC px) ∧ W.rangeAt g (j * 2) (scC py) from ⟨HR1.out W (hB.later h), HR2.out W (hB.later h)⟩)
          by_cases hq : qa < 0
          · rw [if_pos hq] at hsk
            have HSK := Lib.hid hsk
            clear hsk
            go_upto_region 4 with (fail)
            go_wp2
            refine wp_relS 17 53 rfl (by kernel_rfl) (by kernel_rfl) ?_
            apply Steps.one (MP.eq _) 1 rfl
            · intro o ho FA x hO hD K hK
              obtain rfl := Option.some.inj ho.symm
              clear ho
              have e9 := hO 9 (by kernel_rfl)
              simp only [eval_tmp, List.getElem?_toArray, List.getElem?_cons_succ, List.getElem?_cons_zero, Option.getD_some] at e9
              have ev9 := Lib.hid ((eval_tmp FA 9).trans e9)
              clear hO hD
              go_simp
              exact hK.out _ _ (Ex.refl _) rfl
            apply Steps.one (MP.eq _) 2 rfl
            · intro o ho FA x hO hD K hK
              obtain rfl := Option.some.inj ho.symm
              clear ho
              have e1 := hO 1 (by kernel_rfl)
              simp only [eval_tmp, List.getElem?_toArray, List.getElem?_cons_succ, List.getElem?_cons_zero, Option.getD_some] at e1
              have ev1 := Lib.hid ((eval_tmp FA 1).trans e1)
              clear hO hD
              go_simp
              exact hK.out _ _ (Ex.refl _) rfl
            apply Steps.one (MP.eq _) 3 rfl
            · intro o ho FA x hO hD K hK
              obtain rfl := Option.some.inj ho.symm
              clear ho
              have ev18 : FA.eval (.tmp 18) = _ := hD 0 18 (by kernel_rfl)
              have e18 := (eval_tmp FA 18).symm.trans ev18
              replace ev18 := Lib.hid ev18
              have ev19 : FA.eval (.tmp 19) = _ := hD 1 19 (by kernel_rfl)
              have e19 := (eval_tmp FA 19).symm.trans ev19
              replace ev19 := Lib.hid ev19
              clear hO hD
              go_simp
              exact hK.out _ _ (Ex.refl _) rfl
            apply Steps.one (MP.eq _) 4 rfl
            · intro o ho FA x hO hD K hK
              obtain rfl := Option.some.inj ho.symm
              clear ho
              have ev20 : FA.eval (.tmp 20) = _ := hD 2 20 (by kernel_rfl)
              have e20 := (eval_tmp FA 20).symm.trans ev20
              replace ev20 := Lib.hid ev20
              clear hO hD
              go_simp
              exact hK.out _ _ (Ex.refl _) rfl
            apply Steps.one (MP.eq _) 5 rfl
            · intro o ho FA x hO hD K hK
              obtain rfl := Option.some.inj ho.symm
              clear ho
              have e3 := hO 3 (by kernel_rfl)
              simp only [eval_tmp, List.getElem?_toArray, List.getElem?_cons_succ, List.getElem?_cons_zero, Option.getD_some] at e3
              have ev3 := Lib.hid ((eval_tmp FA 3).trans e3)
              have ev21 : FA.eval (.tmp 21) = _ := hD 3 21 (by kernel_rfl)
              have e21 := (eval_tmp FA 21).symm.trans ev21
              replace ev21 := Lib.hid ev21
              first | have ge21 := slot_of e21 | have ge21 := slot_un e21
              clear hO hD
              first | (go_simp; exact hK.out _ _ (Ex.refl _) rfl) | (rcases ge21 with ge21 | ge21 <;> (go_simp; exact hK.out _ _ (Ex.refl _) rfl))
            apply Steps.one (MP.eq _) 6 rfl
            · intro o ho FA x hO hD K hK
              obtain rfl := Option.some.inj ho.symm
              clear ho
              have e0 := hO 0 (by kernel_rfl)
              simp only [eval_tmp, List.getElem?_toArray, List.getElem?_cons_succ, List.getElem?_cons_zero, Option.getD_some] at e0
              have ev0 := Lib.hid ((eval_tmp FA 0).trans e0)
              have ev21 : FA.eval (.tmp 21) = _ := hD 3 21 (by kernel_rfl)
              have e21 := (eval_tmp FA 21).symm.trans ev21
              replace ev21 := Lib.hid ev21
              first | have ge21 := slot_of e21 | have ge21 := slot_un e21
              clear hO hD
              first | (go_simp; exact hK.out _ _ (Ex.refl _) rfl) | (rcases ge21 with ge21 | ge21 <;> (go_simp; exact hK.out _ _ (Ex.refl _) rfl))
            apply Steps.one (MP.eq _) 7 rfl
            · intro o ho FA x hO hD K hK
              obtain rfl := Option.some.inj ho.symm
              clear ho
              have e9 := hO 9 (by kernel_rfl)
              simp only [eval_tmp, List.getElem?_toArray, List.getElem?_cons_succ, List.getElem?_cons_zero, Option.getD_some] at e9
              have ev9 := Lib.hid ((eval_tmp FA 9).trans e9)
              have ev21 : FA.eval (.tmp 21) = _ := hD 3 21 (by kernel_rfl)
              have e21 := (eval_tmp FA 21).symm.trans ev21
              replace ev21 := Lib.hid ev21
              first | have ge21 := slot_of e21 | have ge21 := slot_un e21
              clear hO hD
              first | (go_simp; exact hK.out _ _ (Ex.refl _) rfl) | (rcases ge21 with ge21 | ge21 <;> (go_simp; exact hK.out _ _ (Ex.refl _) rfl))
            apply Steps.one (MP.eq _) 8 rfl
            · intro o ho FA x hO hD K hK
              obtain rfl := Option.some.inj ho.symm
              clear ho
              have ev23 : FA.eval (.tmp 23) = _ := hD 5 23 (by kernel_rfl)
              have e23 := (eval_tmp FA 23).symm.trans ev23
              replace ev23 := Lib.hid ev23
              have ev24 : FA.eval (.tmp 24) = _ := hD 6 24 (by kernel_rfl)
              have e24 := (eval_tmp FA 24).symm.trans ev24
              replace ev24 := Lib.hid ev24
              have ev21 : FA.eval (.tmp 21) = _ := hD 3 21 (by kernel_rfl)
              have e21 := (eval_tmp FA 21).symm.trans ev21
              replace ev21 := Lib.hid ev21
              first | have ge21 := slot_of e21 | have ge21 := slot_un e21
              clear hO hD
              first | (go_simp; exact hK.out _ _ (Ex.refl _) rfl) | (rcases ge21 with ge21 | ge21 <;> (go_simp; exact hK.out _ _ (Ex.refl _) rfl))
            apply Steps.one (MP.eq _) 9 rfl
            · intro o ho FA x hO hD K hK
              obtain rfl := Option.some.inj ho.symm
              clear ho
              have ev25 : FA.eval (.tmp 25) = _ := hD 7 25 (by kernel_rfl)
              have e25 := (eval_tmp FA 25).symm.trans ev25
              replace ev25 := Lib.hid ev25
              have ev21 : FA.eval (.tmp 21) = _ := hD 3 21 (by kernel_rfl)
              have e21 := (eval_tmp FA 21).symm.trans ev21
              replace ev21 := Lib.hid ev21
              first | have ge21 := slot_of e21 | have ge21 := slot_un e21
              clear hO hD
              refine wanted_ifG (by go_simp) ?_
              refine wp_load_mid 170 (.tmp 25) rfl g (jj * 2) ev25.out (scC px) _ (HC.out _ (below_plus _ _ _)).1 u1 u2 (szSc _) ?_
              exact hK.out _ _ (Ex.refl _) rfl
            apply Steps.one (MP.eq _) 10 rfl
            · intro o ho FA x hO hD K hK
              obtain rfl := Option.some.inj ho.symm
              clear ho
              have e0 := hO 0 (by kernel_rfl)
              simp only [eval_tmp, List.getElem?_toArray, List.getElem?_cons_succ, List.getElem?_cons_zero, Option.getD_some] at e0
              have ev0 := Lib.hid ((eval_tmp FA 0).trans e0)
              have ev21 : FA.eval (.tmp 21) = _ := hD 3 21 (by kernel_rfl)
              have e21 := (eval_tmp FA 21).symm.trans ev21
              replace ev21 := Lib.hid ev21
              first | have ge21 := slot_of e21 | have ge21 := slot_un e21
              clear hO hD
              first | (go_simp; exact hK.out _ _ (Ex.refl _) rfl) | (rcases ge21 with ge21 | ge21 <;> (go_simp; exact hK.out _ _ (Ex.refl _) rfl))
            apply Steps.one (MP.eq _) 11 rfl
            · intro o ho FA x hO hD K hK
              obtain rfl := Option.some.inj ho.symm
              clear ho
              have e9 := hO 9 (by kernel_rfl)
              simp only [eval_tmp, List.getElem?_toArray, List.getElem?_cons_succ, List.getElem?_cons_zero, Option.getD_some] at e9
              have ev9 := Lib.hid ((eval_tmp FA 9).trans e9)
              have ev21 : FA.eval (.tmp 21) = _ := hD 3 21 (by kernel_rfl)
              have e21 := (eval_tmp FA 21).symm.trans ev21
              replace ev21 := Lib.hid ev21
              first | have ge21 := slot_of e21 | have ge21 := slot_un e21
              clear hO hD
              first | (go_simp; exact hK.out _ _ (Ex.refl _) rfl) | (rcases ge21 with ge21 | ge21 <;> (go_simp; exact hK.out _ _ (Ex.refl _) rfl))
            apply Steps.one (MP.eq _) 12 rfl
            · intro o ho FA x hO hD K hK
              obtain rfl := Option.some.inj ho.symm
              clear ho
              have ev28 : FA.eval (.tmp 28) = _ := hD 10 28 (by kernel_rfl)
              have e28 := (eval_tmp FA 28).symm.trans ev28
              replace ev28 := Lib.hid ev28
              have ev21 : FA.eval (.tmp 21) = _ := hD 3 21 (by kernel_rfl)
              have e21 := (eval_tmp FA 21).symm.trans ev21
              replace ev21 := Lib.hid ev21
              first | have ge21 := slot_of e21 | have ge21 := slot_un e21
              clear hO hD
              first | (go_simp; exact hK.out _ _ (Ex.refl _) rfl) | (rcases ge21 with ge21 | ge21 <;> (go_simp; exact hK.out _ _ (Ex.refl _) rfl))
            apply Steps.one (MP.eq _) 13 rfl
            · intro o ho FA x hO hD K hK
              obtain rfl := Option.some.inj ho.symm
              clear ho
              have ev27 : FA.eval (.tmp 27) = _ := hD 9 27 (by kernel_rfl)
              have e27 := (eval_tmp FA 27).symm.trans ev27
              replace ev27 := Lib.hid ev27
              have ev29 : FA.eval (.tmp 29) = _ := hD 11 29 (by kernel_rfl)
              have e29 := (eval_tmp FA 29).symm.trans ev29
              replace ev29 := Lib.hid ev29
              have ev21 : FA.eval (.tmp 21) = _ := hD 3 21 (by kernel_rfl)
              have e21 := (eval_tmp FA 21).symm.trans ev21
              replace ev21 := Lib.hid ev21
              first | have ge21 := slot_of e21 | have ge21 := slot_un e21
              clear hO hD
              first | (go_simp; exact hK.out _ _ (Ex.refl _) rfl) | (rcases ge21 with ge21 | ge21 <;> (go_simp; exact hK.out _ _ (Ex.refl _) rfl))
            apply Steps.one (MP.eq _) 14 rfl
            · intro o ho FA x hO hD K hK
              obtain rfl := Option.some.inj ho.symm
              clear ho
              have ev30 : FA.eval (.tmp 30) = _ := hD 12 30 (by kernel_rfl)
              have e30 := (eval_tmp FA 30).symm.trans ev30
              replace ev30 := Lib.hid ev30
              have ev21 : FA.eval (.tmp 21) = _ := hD 3 21 (by kernel_rfl)
              have e21 := (eval_tmp FA 21).symm.trans ev21
              replace ev21 := Lib.hid ev21
              first | have ge21 := slot_of e21 | have ge21 := slot_un e21
              clear hO hD
              refine wanted_ifG (by go_simp) ?_
              refine wp_load_mid 170 (.tmp 30) rfl g (j * 2) ev30.out (scC py) _ (HC.out _ (below_plus _ _ _)).2 u1 u2 (szSc _) ?_
              exact hK.out _ _ (Ex.refl _) rfl
            apply Steps.one (MP.eq (.int .i64 qa)) 15 rfl
            · intro o ho FA x hO hD K hK
              obtain rfl := Option.some.inj ho.symm
              clear ho
              have ev22 : FA.eval (.tmp 22) = _ := hD 4 22 (by kernel_rfl)
              have e22 := (eval_tmp FA 22).symm.trans ev22
              replace ev22 := Lib.hid ev22
              have ev26 : FA.eval (.tmp 26) = _ := hD 8 26 (by kernel_rfl)
              have e26 := (eval_tmp FA 26).symm.trans ev26
              replace ev26 := Lib.hid ev26
              have ev31 : FA.eval (.tmp 31) = _ := hD 13 31 (by kernel_rfl)
              have e31 := (eval_tmp FA 31).symm.trans ev31
              replace ev31 := Lib.hid ev31
              have ev21 : FA.eval (.tmp 21) = _ := hD 3 21 (by kernel_rfl)
              have e21 := (eval_tmp FA 21).symm.trans ev21
              replace ev21 := Lib.hid ev21
              first | have ge21 := slot_of e21 | have ge21 := slot_un e21
              clear hO hD
              refine wanted_ifG (by go_simp) ?_
              go_simp
              refine (HA.out _).mono ?_
              rintro e w1 ⟨bs2, d2, rfl, rfl⟩
              exact hK.out _ _ (Ex.plus_ _ _ _) rfl
            apply Steps.one (MP.eq _) 16 rfl
            · intro o ho FA x hO hD K hK
              obtain rfl := Option.some.inj ho.symm
              clear ho
              have ev32 : FA.eval (.tmp 32) = _ := hD 14 32 (by kernel_rfl)
              have e32 := (eval_tmp FA 32).symm.trans ev32
              replace ev32 := Lib.hid ev32
              have ev21 : FA.eval (.tmp 21) = _ := hD 3 21 (by kernel_rfl)
              have e21 := (eval_tmp FA 21).symm.trans ev21
              replace ev21 := Lib.hid ev21
              first | have ge21 := slot_of e21 | have ge21 := slot_un e21
              clear hO hD
              first | (go_simp; exact hK.out _ _ (Ex.refl _) rfl) | (rcases ge21 with ge21 | ge21 <;> (go_simp; exact hK.out _ _ (Ex.refl _) rfl))
            apply Steps.one (MP.eq _) 17 rfl
            · intro o ho FA x hO hD K hK
              obtain rfl := Option.some.inj ho.symm
              clear ho
              have ev21 : FA.eval (.tmp 21) = _ := hD 3 21 (by kernel_rfl)
              have e21 := (eval_tmp FA 21).symm.trans ev21
              replace ev21 := Lib.hid ev21
              have ev33 : FA.eval (.tmp 33) = _ := hD 15 33 (by kernel_rfl)
              have e33 := (eval_tmp FA 33).symm.trans ev33
              replace ev33 := Lib.hid ev33
              clear hO hD
              go_simp
              exact hK.out _ _ (Ex.refl _) rfl
            refine Steps.fin_ (fun vs x hp => ?_)
            have p0 : vs 0 = _ := hp 0 (by omega)
            have p1 : vs 1 = _ := hp 1 (by omega)
            have p2 : vs 2 = _ := hp 2 (by omega)
            have p3 : vs 3 = _ := hp 3 (by omega)
            have p4 : vs 4 = _ := hp 4 (by omega)
            have p5 : vs 5 = _ := hp 5 (by omega)
            have p6 : vs 6 = _ := hp 6 (by omega)
            have p7 : vs 7 = _ := hp 7 (by omega)
            have p8 : vs 8 = _ := hp 8 (by omega)
            have p9 : vs 9 = _ := hp 9 (by omega)
            have p10 : vs 10 = _ := hp 10 (by omega)
            have p11 : vs 11 = _ := hp 11 (by omega)
            have p12 : vs 12 = _ := hp 12 (by omega)
            have p13 : vs 13 = _ := hp 13 (by omega)
            have p14 : vs 14 = _ := hp 14 (by omega)
            have p15 : vs 15 = _ := hp 15 (by omega)
            have p16 : vs 16 = _ := hp 16 (by omega)
            clear hp
            simp only [List.take_succ_cons, List.take_zero, List.drop_succ_cons, List.drop_zero, putAll, Nat.zero_add, Nat.reduceAdd, Act.put, List.setIfInBounds_toArray, List.set_cons_zero, List.set_cons_succ, p0, p1, p2, p3, p4, p5, p6, p7, p8, p9, p10, p11, p12, p13, p14, p15, p16]
            clear p0 p1 p2 p3 p4 p5 p6 p7 p8 p9 p10 p11 p12 p13 p14 p15 p16
            clear vs
            have hE := below_plus wr x.bs x.d
            replace hB := hB.later hE
            replace hW : Chg (fun b => b = g) w (plus wr x.bs x.d) := hW.trans (Chg.of_below hE)
            clear hE HC
            generalize plus wr x.bs x.d = W1 at *
            have HC := Lib.hid (fun (W : World) (h : Below W1.heap.size W1 W) => show W.rangeAt g (jj * 2) (scC px) ∧ W.rangeAt g (j * 2) (scC py) from ⟨HR1.out W (hB.later h), HR2.out W (hB.later h)⟩)
            go_upto_region 6 with (fail)
            go_wp2
            refine wp_relES 15 53 [2, 3, 4] rfl (by kernel_rfl) (by kernel_rfl) ?_
            apply Steps.oneE (MP.eq _) 1 rfl (by decide)
            · intro o ho FA x hO hD K hK
              obtain rfl := Option.some.inj ho.symm
              clear ho
              have e0 := hO 0 (by kernel_rfl)
              simp only [eval_tmp, List.getElem?_toArray, List.getElem?_cons_succ, List.getElem?_cons_zero, Option.getD_some] at e0
              have ev0 := Lib.hid ((eval_tmp FA 0).trans e0)
              clear hO hD
              go_simp
              exact hK.out _ _ (Ex.refl _) rfl
            apply Steps.oneE (MP.eq _) 2 rfl (by decide)
            · intro o ho FA x hO hD K hK
              obtain rfl := Option.some.inj ho.symm
              clear ho
              have e9 := hO 9 (by kernel_rfl)
              simp only [eval_tmp, List.getElem?_toArray, List.getElem?_cons_succ, List.getElem?_cons_zero, Option.getD_some] at e9
              have ev9 := Lib.hid ((eval_tmp FA 9).trans e9)
              clear hO hD
              go_simp
              exact hK.out _ _ (Ex.refl _) rfl
            apply Steps.oneP (.slice (some ⟨g, 0, none⟩) n c) 3 rfl (by decide)
            · intro o ho FA x hO hD
              obtain rfl := Option.some.inj ho.symm
              clear ho
              have e0 := hO 0 (by kernel_rfl)
              simp only [eval_tmp, List.getElem?_toArray, List.getElem?_cons_succ, List.getElem?_cons_zero, Option.getD_some] at e0
              have ev0 := Lib.hid ((eval_tmp FA 0).trans e0)
              clear hO hD
              refine .inl ⟨by simp [Region.wanted], fun w => ?_⟩
              go_simp
            apply Steps.oneP (.int .i64 (jj : Int)) 4 rfl (by decide)
            · intro o ho FA x hO hD
              obtain rfl := Option.some.inj ho.symm
              clear ho
              have e9 := hO 9 (by kernel_rfl)
              simp only [eval_tmp, List.getElem?_toArray, List.getElem?_cons_succ, List.getElem?_cons_zero, Option.getD_some] at e9
              have ev9 := Lib.hid ((eval_tmp FA 9).trans e9)
              clear hO hD
              refine .inl ⟨by simp [Region.wanted], fun w => ?_⟩
              go_simp
            apply Steps.oneP (.int .i64 (j : Int)) 5 rfl (by decide)
            · intro o ho FA x hO hD
              obtain rfl := Option.some.inj ho.symm
              clear ho
              have ev40 : FA.eval (.tmp 40) = _ := hD 3 40 (by kernel_rfl)
              have e40 := (eval_tmp FA 40).symm.trans ev40
              replace ev40 := Lib.hid ev40
              clear hO hD
              refine .inl ⟨by simp [Region.wanted], fun w => ?_⟩
              go_simp
            apply Steps.oneE (MP.eq _) 6 rfl (by decide)
            · intro o ho FA x hO hD K hK
              obtain rfl := Option.some.inj ho.symm
              clear ho
              have e0 := hO 0 (by kernel_rfl)
              simp only [eval_tmp, List.getElem?_toArray, List.getElem?_cons_succ, List.getElem?_cons_zero, Option.getD_some] at e0
              have ev0 := Lib.hid ((eval_tmp FA 0).trans e0)
              clear hO hD
              go_simp
              exact hK.out _ _ (Ex.refl _) rfl
            apply Steps.oneE (MP.eq _) 7 rfl (by decide)
            · intro o ho FA x hO hD K hK
              obtain rfl := Option.some.inj ho.symm
              clear ho
              have e9 := hO 9 (by kernel_rfl)
              simp only [eval_tmp, List.getElem?_toArray, List.getElem?_cons_succ, List.getElem?_cons_zero, Option.getD_some] at e9
              have ev9 := Lib.hid ((eval_tmp FA 9).trans e9)
              clear hO hD
              go_simp
              exact hK.out _ _ (Ex.refl _) rfl
            apply Steps.oneE (MP.eq _) 8 rfl (by decide)
            · intro o ho FA x hO hD K hK
              obtain rfl := Option.some.inj ho.symm
              clear ho
              have ev43 : FA.eval (.tmp 43) = _ := hD 6 43 (by kernel_rfl)
              have e43 := (eval_tmp FA 43).symm.trans ev43
              replace ev43 := Lib.hid ev43
              clear hO hD
              go_simp
              exact hK.out _ _ (Ex.refl _) rfl
            apply Steps.oneE (MP.eq _) 9 rfl (by decide)
            · intro o ho FA x hO hD K hK
              obtain rfl := Option.some.inj ho.symm
              clear ho
              have ev42 : FA.eval (.tmp 42) = _ := hD 5 42 (by kernel_rfl)
              have e42 := (eval_tmp FA 42).symm.trans ev42
              replace ev42 := Lib.hid ev42
              have ev44 : FA.eval (.tmp 44) = _ := hD 7 44 (by kernel_rfl)
              have e44 := (eval_tmp FA 44).symm.trans ev44
              replace ev44 := Lib.hid ev44
              clear hO hD
              go_simp
              exact hK.out _ _ (Ex.refl _) rfl
            apply Steps.oneE (MP.eq _) 10 rfl (by decide)
            · intro o ho FA x hO hD K hK
              obtain rfl := Option.some.inj ho.symm
              clear ho
              have ev45 : FA.eval (.tmp 45) = _ := hD 8 45 (by kernel_rfl)
              have e45 := (eval_tmp FA 45).symm.trans ev45
              replace ev45 := Lib.hid ev45
              clear hO hD
              refine wanted_if rfl ?_
              refine wp_load_mid 170 (.tmp 45) rfl g (j * 2) ev45.out (scC py) _ (HC.out _ (below_plus _ _ _)).2 u1 u2 (szSc _) ?_
              exact hK.out _ _ (Ex.refl _) rfl
            apply Steps.oneE (MP.eq _) 11 rfl (by decide)
            · intro o ho FA x hO hD K hK
              obtain rfl := Option.some.inj ho.symm
              clear ho
              have e0 := hO 0 (by kernel_rfl)
              simp only [eval_tmp, List.getElem?_toArray, List.getElem?_cons_succ, List.getElem?_cons_zero, Option.getD_some] at e0
              have ev0 := Lib.hid ((eval_tmp FA 0).trans e0)
              clear hO hD
              go_simp
              exact hK.out _ _ (Ex.refl _) rfl
            apply Steps.oneE (MP.eq _) 12 rfl (by decide)
            · intro o ho FA x hO hD K hK
              obtain rfl := Option.some.inj ho.symm
              clear ho
              have e9 := hO 9 (by kernel_rfl)
              simp only [eval_tmp, List.getElem?_toArray, List.getElem?_cons_succ, List.getElem?_cons_zero, Option.getD_some] at e9
              have ev9 := Lib.hid ((eval_tmp FA 9).trans e9)
              clear hO hD
              go_simp
              exact hK.out _ _ (Ex.refl _) rfl
            apply Steps.oneE (MP.eq _) 13 rfl (by decide)
            · intro o ho FA x hO hD K hK
              obtain rfl := Option.some.inj ho.symm
              clear ho
              have ev47 : FA.eval (.tmp 47) = _ := hD 10 47 (by kernel_rfl)
              have e47 := (eval_tmp FA 47).symm.trans ev47
              replace ev47 := Lib.hid ev47
              have ev48 : FA.eval (.tmp 48) = _ := hD 11 48 (by kernel_rfl)
              have e48 := (eval_tmp FA 48).symm.trans ev48
              replace ev48 := Lib.hid ev48
              clear hO hD
              go_simp
              exact hK.out _ _ (Ex.refl _) rfl
            apply Steps.oneE (MP.eq _) 14 rfl (by decide)
            · intro o ho FA x hO hD K hK
              obtain rfl := Option.some.inj ho.symm
              clear ho
              have ev49 : FA.eval (.tmp 49) = _ := hD 12 49 (by kernel_rfl)
              have e49 := (eval_tmp FA 49).symm.trans ev49
              replace ev49 := Lib.hid ev49
              clear hO hD
              refine wanted_if rfl ?_
              refine wp_load_mid 170 (.tmp 49) rfl g (jj * 2) ev49.out (scC px) _ (HC.out _ (below_plus _ _ _)).1 u1 u2 (szSc _) ?_
              exact hK.out _ _ (Ex.refl _) rfl
            apply Steps.oneE (MP.eq _) 15 rfl (by decide)
            · intro o ho FA x hO hD K hK
              obtain rfl := Option.some.inj ho.symm
              clear ho
              have ev37 : FA.eval (.tmp 37) = _ := hD 0 37 (by kernel_rfl)
              have e37 := (eval_tmp FA 37).symm.trans ev37
              replace ev37 := Lib.hid ev37
              have ev38 : FA.eval (.tmp 38) = _ := hD 1 38 (by kernel_rfl)
              have e38 := (eval_tmp FA 38).symm.trans ev38
              replace ev38 := Lib.hid ev38
              clear hO hD
              go_simp
              exact hK.out _ _ (Ex.refl _) rfl
            refine Steps.fin_ (fun vs x hp => ?_)
            have p0 : vs 0 = _ := hp 0 (by omega)
            have p1 : vs 1 = _ := hp 1 (by omega)
            have p2 : vs 2 = _ := hp 2 (by omega)
            have p3 : vs 3 = _ := hp 3 (by omega)
            have p4 : vs 4 = _ := hp 4 (by omega)
            have p5 : vs 5 = _ := hp 5 (by omega)
            have p6 : vs 6 = _ := hp 6 (by omega)
            have p7 : vs 7 = _ := hp 7 (by omega)
            have p8 : vs 8 = _ := hp 8 (by omega)
            have p9 : vs 9 = _ := hp 9 (by omega)
            have p10 : vs 10 = _ := hp 10 (by omega)
            have p11 : vs 11 = _ := hp 11 (by omega)
            have p12 : vs 12 = _ := hp 12 (by omega)
            have p13 : vs 13 = _ := hp 13 (by omega)
            have p14 : vs 14 = _ := hp 14 (by omega)
            clear hp
            simp only [List.take_succ_cons, List.take_zero, List.drop_succ_cons, List.drop_zero, putAll, Nat.zero_add, Nat.reduceAdd, Act.put, List.setIfInBounds_toArray, List.set_cons_zero, List.set_cons_succ, p0, p1, p2, p3, p4, p5, p6, p7, p8, p9, p10, p11, p12, p13, p14]
            clear p0 p1 p2 p3 p4 p5 p6 p7 p8 p9 p10 p11 p12 p13 p14
            clear vs
            have hE := below_plus W1 x.bs x.d
            replace hB := hB.later hE
            replace hW : Chg (fun b => b = g) w (plus W1 x.bs x.d) := hW.trans (Chg.of_below hE)
            clear hE HC
            generalize plus W1 x.bs x.d = W2 at *
            have hl1 : jj * 2 + (scC py).length ≤ (prs .u64 S ++ sp).length := by rw [List.length_append, prs_length]; simp [scC]; omega
            refine wpList_stM 170 (.tmp 51) (.tmp 46) rfl rfl (scC py) (prs .u64 S ++ sp) hl1 (scC_one _) rfl rfl hB (szSc _) ?_
            intro W3 hB3 g3
            simp only [Act.put, List.setIfInBounds_toArray, List.set_cons_zero, List.set_cons_succ]
            rw [prs_splice S sp jj py (by omega)] at hB3
            have hW3 : Chg (fun b => b = g) w W3 := hW.trans (Chg.one g3 rfl)
            clear g3 hB hW hl1
            refine wpList_plain rfl (fun K hK => ?_); go_simp; with_reducible refine hK _ _ ?_; clear hK K
            have hl2 : j * 2 + (scC px).length ≤ (prs .u64 (S.set jj py) ++ sp).length := by rw [List.length_append, prs_length, List.length_set]; simp [scC]; omega
            refine wpList_stM 170 (.tmp 52) (.tmp 50) rfl rfl (scC px) (prs .u64 (S.set jj py) ++ sp) hl2 (scC_one _) rfl rfl hB3 (szSc _) ?_
            intro W4 hB4 g4
            simp only [Act.put, List.setIfInBounds_toArray, List.set_cons_zero, List.set_cons_succ]
            rw [prs_splice (S.set jj py) sp j px (by rw [List.length_set]; omega)] at hB4
            have hW4 : Chg (fun b => b = g) w W4 := hW3.trans (Chg.one g4 rfl)
            have hl5 : ((S.set jj py).set j px).length = n := by simp [hlS2]
            clear g4 hB3 hW3 hl2
            go_wp2
            go_wp2
            apply_assumption
            go_wp2
            exact ⟨⟨j, _, rfl, by omega, hl5, HSK.out, hB4, hW4⟩, by have := HJ.out; simp [intOf]; omega⟩
          · rw [if_neg hq] at hsk
            have HSE := Lib.hid hsk
            clear hsk
            go_upto_region 4 with (fail)
            go_wp2
            refine wp_relS 17 53 rfl (by kernel_rfl) (by kernel_rfl) ?_
            apply Steps.one (MP.eq _) 1 rfl
            · intro o ho FA x hO hD K hK
              obtain rfl := Option.some.inj ho.symm
              clear ho
              have e9 := hO 9 (by kernel_rfl)
              simp only [eval_tmp, List.getElem?_toArray, List.getElem?_cons_succ, List.getElem?_cons_zero, Option.getD_some] at e9
              have ev9 := Lib.hid ((eval_tmp FA 9).trans e9)
              clear hO hD
              go_simp
              exact hK.out _ _ (Ex.refl _) rfl
            apply Steps.one (MP.eq _) 2 rfl
            · intro o ho FA x hO hD K hK
              obtain rfl := Option.some.inj ho.symm
              clear ho
              have e1 := hO 1 (by kernel_rfl)
              simp only [eval_tmp, List.getElem?_toArray, List.getElem?_cons_succ, List.getElem?_cons_zero, Option.getD_some] at e1
              have ev1 := Lib.hid ((eval_tmp FA 1).trans e1)
              clear hO hD
              go_simp
              exact hK.out _ _ (Ex.refl _) rfl
            apply Steps.one (MP.eq _) 3 rfl
            · intro o ho FA x hO hD K hK
              obtain rfl := Option.some.inj ho.symm
              clear ho
              have ev18 : FA.eval (.tmp 18) = _ := hD 0 18 (by kernel_rfl)
              have e18 := (eval_tmp FA 18).symm.trans ev18
              replace ev18 := Lib.hid ev18
              have ev19 : FA.eval (.tmp 19) = _ := hD 1 19 (by kernel_rfl)
              have e19 := (eval_tmp FA 19).symm.trans ev19
              replace ev19 := Lib.hid ev19
              clear hO hD
              go_simp
              exact hK.out _ _ (Ex.refl _) rfl
            apply Steps.one (MP.eq _) 4 rfl
            · intro o ho FA x hO hD K hK
              obtain rfl := Option.some.inj ho.symm
              clear ho
              have ev20 : FA.eval (.tmp 20) = _ := hD 2 20 (by kernel_rfl)
              have e20 := (eval_tmp FA 20).symm.trans ev20
              replace ev20 := Lib.hid ev20
              clear hO hD
              go_simp
              exact hK.out _ _ (Ex.refl _) rfl
            apply Steps.one (MP.eq _) 5 rfl
            · intro o ho FA x hO hD K hK
              obtain rfl := Option.some.inj ho.symm
              clear ho
              have e3 := hO 3 (by kernel_rfl)
              simp only [eval_tmp, List.getElem?_toArray, List.getElem?_cons_succ, List.getElem?_cons_zero, Option.getD_some] at e3
              have ev3 := Lib.hid ((eval_tmp FA 3).trans e3)
              have ev21 : FA.eval (.tmp 21) = _ := hD 3 21 (by kernel_rfl)
              have e21 := (eval_tmp FA 21).symm.trans ev21
              replace ev21 := Lib.hid ev21
              first | have ge21 := slot_of e21 | have ge21 := slot_un e21
              clear hO hD
              first | (go_simp; exact hK.out _ _ (Ex.refl _) rfl) | (rcases ge21 with ge21 | ge21 <;> (go_simp; exact hK.out _ _ (Ex.refl _) rfl))
            apply Steps.one (MP.eq _) 6 rfl
            · intro o ho FA x hO hD K hK
              obtain rfl := Option.some.inj ho.symm
              clear ho
              have e0 := hO 0 (by kernel_rfl)
              simp only [eval_tmp, List.getElem?_toArray, List.getElem?_cons_succ, List.getElem?_cons_zero, Option.getD_some] at e0
              have ev0 := Lib.hid ((eval_tmp FA 0).trans e0)
              have ev21 : FA.eval (.tmp 21) = _ := hD 3 21 (by kernel_rfl)
              have e21 := (eval_tmp FA 21).symm.trans ev21
              replace ev21 := Lib.hid ev21
              first | have ge21 := slot_of e21 | have ge21 := slot_un e21
              clear hO hD
              first | (go_simp; exact hK.out _ _ (Ex.refl _) rfl) | (rcases ge21 with ge21 | ge21 <;> (go_simp; exact hK.out _ _ (Ex.refl _) rfl))
            apply Steps.one (MP.eq _) 7 rfl
            · intro o ho FA x hO hD K hK
              obtain rfl := Option.some.inj ho.symm
              clear ho
              have e9 := hO 9 (by kernel_rfl)
              simp only [eval_tmp, List.getElem?_toArray, List.getElem?_cons_succ, List.getElem?_cons_zero, Option.getD_some] at e9
              have ev9 := Lib.hid ((eval_tmp FA 9).trans e9)
              have ev21 : FA.eval (.tmp 21) = _ := hD 3 21 (by kernel_rfl)
              have e21 := (eval_tmp FA 21).symm.trans ev21
              replace ev21 := Lib.hid ev21
              first | have ge21 := slot_of e21 | have ge21 := slot_un e21
              clear hO hD
              first | (go_simp; exact hK.out _ _ (Ex.refl _) rfl) | (rcases ge21 with ge21 | ge21 <;> (go_simp; exact hK.out _ _ (Ex.refl _) rfl))
            apply Steps.one (MP.eq _) 8 rfl
            · intro o ho FA x hO hD K hK
              obtain rfl := Option.some.inj ho.symm
              clear ho
              have ev23 : FA.eval (.tmp 23) = _ := hD 5 23 (by kernel_rfl)
              have e23 := (eval_tmp FA 23).symm.trans ev23
              replace ev23 := Lib.hid ev23
              have ev24 : FA.eval (.tmp 24) = _ := hD 6 24 (by kernel_rfl)
              have e24 := (eval_tmp FA 24).symm.trans ev24
              replace ev24 := Lib.hid ev24
              have ev21 : FA.eval (.tmp 21) = _ := hD 3 21 (by kernel_rfl)
              have e21 := (eval_tmp FA 21).symm.trans ev21
              replace ev21 := Lib.hid ev21
              first | have ge21 := slot_of e21 | have ge21 := slot_un e21
              clear hO hD
              first | (go_simp; exact hK.out _ _ (Ex.refl _) rfl) | (rcases ge21 with ge21 | ge21 <;> (go_simp; exact hK.out _ _ (Ex.refl _) rfl))
            apply Steps.one (MP.eq _) 9 rfl
            · intro o ho FA x hO hD K hK
              obtain rfl := Option.some.inj ho.symm
              clear ho
              have ev25 : FA.eval (.tmp 25) = _ := hD 7 25 (by kernel_rfl)
              have e25 := (eval_tmp FA 25).symm.trans ev25
              replace ev25 := Lib.hid ev25
              have ev21 : FA.eval (.tmp 21) = _ := hD 3 21 (by kernel_rfl)
              have e21 := (eval_tmp FA 21).symm.trans ev21
              replace ev21 := Lib.hid ev21
              first | have ge21 := slot_of e21 | have ge21 := slot_un e21
              clear hO hD
              refine wanted_ifG (by go_simp) ?_
              refine wp_load_mid 170 (.tmp 25) rfl g (jj * 2) ev25.out (scC px) _ (HC.out _ (below_plus _ _ _)).1 u1 u2 (szSc _) ?_
              exact hK.out _ _ (Ex.refl _) rfl
            apply Steps.one (MP.eq _) 10 rfl
            · intro o ho FA x hO hD K hK
              obtain rfl := Option.some.inj ho.symm
              clear ho
              have e0 := hO 0 (by kernel_rfl)
              simp only [eval_tmp, List.getElem?_toArray, List.getElem?_cons_succ, List.getElem?_cons_zero, Option.getD_some] at e0
              have ev0 := Lib.hid ((eval_tmp FA 0).trans e0)
              have ev21 : FA.eval (.tmp 21) = _ := hD 3 21 (by kernel_rfl)
              have e21 := (eval_tmp FA 21).symm.trans ev21
              replace ev21 := Lib.hid ev21
              first | have ge21 := slot_of e21 | have ge21 := slot_un e21
              clear hO hD
              first | (go_simp; exact hK.out _ _ (Ex.refl _) rfl) | (rcases ge21 with ge21 | ge21 <;> (go_simp; exact hK.out _ _ (Ex.refl _) rfl))
            apply Steps.one (MP.eq _) 11 rfl
            · intro o ho FA x hO hD K hK
              obtain rfl := Option.some.inj ho.symm
              clear ho
              have e9 := hO 9 (by kernel_rfl)
              simp only [eval_tmp, List.getElem?_toArray, List.getElem?_cons_succ, List.getElem?_cons_zero, Option.getD_some] at e9
              have ev9 := Lib.hid ((eval_tmp FA 9).trans e9)
              have ev21 : FA.eval (.tmp 21) = _ := hD 3 21 (by kernel_rfl)
              have e21 := (eval_tmp FA 21).symm.trans ev21
              replace ev21 := Lib.hid ev21
              first | have ge21 := slot_of e21 | have ge21 := slot_un e21
              clear hO hD
              first | (go_simp; exact hK.out _ _ (Ex.refl _) rfl) | (rcases ge21 with ge21 | ge21 <;> (go_simp; exact hK.out _ _ (Ex.refl _) rfl))
            apply Steps.one (MP.eq _) 12 rfl
            · intro o ho FA x hO hD K hK
              obtain rfl := Option.some.inj ho.symm
              clear ho
              have ev28 : FA.eval (.tmp 28) = _ := hD 10 28 (by kernel_rfl)
              have e28 := (eval_tmp FA 28).symm.trans ev28
              replace ev28 := Lib.hid ev28
              have ev21 : FA.eval (.tmp 21) = _ := hD 3 21 (by kernel_rfl)
              have e21 := (eval_tmp FA 21).symm.trans ev21
              replace ev21 := Lib.hid ev21
              first | have ge21 := slot_of e21 | have ge21 := slot_un e21
              clear hO hD
              first | (go_simp; exact hK.out _ _ (Ex.refl _) rfl) | (rcases ge21 with ge21 | ge21 <;> (go_simp; exact hK.out _ _ (Ex.refl _) rfl))
            apply Steps.one (MP.eq _) 13 rfl
            · intro o ho FA x hO hD K hK
              obtain rfl := Option.some.inj ho.symm
              clear ho
              have ev27 : FA.eval (.tmp 27) = _ := hD 9 27 (by kernel_rfl)
              have e27 := (eval_tmp FA 27).symm.trans ev27
              replace ev27 := Lib.hid ev27
              have ev29 : FA.eval (.tmp 29) = _ := hD 11 29 (by kernel_rfl)
              have e29 := (eval_tmp FA 29).symm.trans ev29
              replace ev29 := Lib.hid ev29
              have ev21 : FA.eval (.tmp 21) = _ := hD 3 21 (by kernel_rfl)
              have e21 := (eval_tmp FA 21).symm.trans ev21
              replace ev21 := Lib.hid ev21
              first | have ge21 := slot_of e21 | have ge21 := slot_un e21
              clear hO hD
              first | (go_simp; exact hK.out _ _ (Ex.refl _) rfl) | (rcases ge21 with ge21 | ge21 <;> (go_simp; exact hK.out _ _ (Ex.refl _) rfl))
            apply Steps.one (MP.eq _) 14 rfl
            · intro o ho FA x hO hD K hK
              obtain rfl := Option.some.inj ho.symm
              clear ho
              have ev30 : FA.eval (.tmp 30) = _ := hD 12 30 (by kernel_rfl)
              have e30 := (eval_tmp FA 30).symm.trans ev30
              replace ev30 := Lib.hid ev30
              have ev21 : FA.eval (.tmp 21) = _ := hD 3 21 (by kernel_rfl)
              have e21 := (eval_tmp FA 21).symm.trans ev21
              replace ev21 := Lib.hid ev21
              first | have ge21 := slot_of e21 | have ge21 := slot_un e21
              clear hO hD
              refine wanted_ifG (by go_simp) ?_
              refine wp_load_mid 170 (.tmp 30) rfl g (j * 2) ev30.out (scC py) _ (HC.out _ (below_plus _ _ _)).2 u1 u2 (szSc _) ?_
              exact hK.out _ _ (Ex.refl _) rfl
            apply Steps.one (MP.eq (.int .i64 qa)) 15 rfl
            · intro o ho FA x hO hD K hK
              obtain rfl := Option.some.inj ho.symm
              clear ho
              have ev22 : FA.eval (.tmp 22) = _ := hD 4 22 (by kernel_rfl)
              have e22 := (eval_tmp FA 22).symm.trans ev22
              replace ev22 := Lib.hid ev22
              have ev26 : FA.eval (.tmp 26) = _ := hD 8 26 (by kernel_rfl)
              have e26 := (eval_tmp FA 26).symm.trans ev26
              replace ev26 := Lib.hid ev26
              have ev31 : FA.eval (.tmp 31) = _ := hD 13 31 (by kernel_rfl)
              have e31 := (eval_tmp FA 31).symm.trans ev31
              replace ev31 := Lib.hid ev31
              have ev21 : FA.eval (.tmp 21) = _ := hD 3 21 (by kernel_rfl)
              have e21 := (eval_tmp FA 21).symm.trans ev21
              replace ev21 := Lib.hid ev21
              first | have ge21 := slot_of e21 | have ge21 := slot_un e21
              clear hO hD
              refine wanted_ifG (by go_simp) ?_
              go_simp
              refine (HA.out _).mono ?_
              rintro e w1 ⟨bs2, d2, rfl, rfl⟩
              exact hK.out _ _ (Ex.plus_ _ _ _) rfl
            apply Steps.one (MP.eq _) 16 rfl
            · intro o ho FA x hO hD K hK
              obtain rfl := Option.some.inj ho.symm
              clear ho
              have ev32 : FA.eval (.tmp 32) = _ := hD 14 32 (by kernel_rfl)
              have e32 := (eval_tmp FA 32).symm.trans ev32
              replace ev32 := Lib.hid ev32
              have ev21 : FA.eval (.tmp 21) = _ := hD 3 21 (by kernel_rfl)
              have e21 := (eval_tmp FA 21).symm.trans ev21
              replace ev21 := Lib.hid ev21
              first | have ge21 := slot_of e21 | have ge21 := slot_un e21
              clear hO hD
              first | (go_simp; exact hK.out _ _ (Ex.refl _) rfl) | (rcases ge21 with ge21 | ge21 <;> (go_simp; exact hK.out _ _ (Ex.refl _) rfl))
            apply Steps.one (MP.eq _) 17 rfl
            · intro o ho FA x hO hD K hK
              obtain rfl := Option.some.inj ho.symm
              clear ho
              have ev21 : FA.eval (.tmp 21) = _ := hD 3 21 (by kernel_rfl)
              have e21 := (eval_tmp FA 21).symm.trans ev21
              replace ev21 := Lib.hid ev21
              have ev33 : FA.eval (.tmp 33) = _ := hD 15 33 (by kernel_rfl)
              have e33 := (eval_tmp FA 33).symm.trans ev33
              replace ev33 := Lib.hid ev33
              clear hO hD
              go_simp
              exact hK.out _ _ (Ex.refl _) rfl
            refine Steps.fin_ (fun vs x hp => ?_)
            have p0 : vs 0 = _ := hp 0 (by omega)
            have p1 : vs 1 = _ := hp 1 (by omega)
            have p2 : vs 2 = _ := hp 2 (by omega)
            have p3 : vs 3 = _ := hp 3 (by omega)
            have p4 : vs 4 = _ := hp 4 (by omega)
            have p5 : vs 5 = _ := hp 5 (by omega)
            have p6 : vs 6 = _ := hp 6 (by omega)
            have p7 : vs 7 = _ := hp 7 (by omega)
            have p8 : vs 8 = _ := hp 8 (by omega)
            have p9 : vs 9 = _ := hp 9 (by omega)
            have p10 : vs 10 = _ := hp 10 (by omega)
            have p11 : vs 11 = _ := hp 11 (by omega)
            have p12 : vs 12 = _ := hp 12 (by omega)
            have p13 : vs 13 = _ := hp 13 (by omega)
            have p14 : vs 14 = _ := hp 14 (by omega)
            have p15 : vs 15 = _ := hp 15 (by omega)
            have p16 : vs 16 = _ := hp 16 (by omega)
            clear hp
            simp only [List.take_succ_cons, List.take_zero, List.drop_succ_cons, List.drop_zero, putAll, Nat.zero_add, Nat.reduceAdd, Act.put, List.setIfInBounds_toArray, List.set_cons_zero, List.set_cons_succ, p0, p1, p2, p3, p4, p5, p6, p7, p8, p9, p10, p11, p12, p13, p14, p15, p16]
            clear p0 p1 p2 p3 p4 p5 p6 p7 p8 p9 p10 p11 p12 p13 p14 p15 p16
            clear vs
            have hE := below_plus wr x.bs x.d
            have hB2 := hB.later hE
            rw [HSE.out, HS1.out] at hB2
            have HB2 := Lib.hid hB2
            have hW2 : Chg (fun b => b = g) w (plus wr x.bs x.d) := hW.trans (Chg.of_below hE)
            clear hB hB2 hE HC
            go_wp2
            exact ⟨⟨ii, by go_num, by omega, HB2.out, hW2⟩, by simp [intOf]; omega⟩
    · obtain rfl : n = i + 1 := by omega
      have e : srtL (P.take (i + 1)) ++ P.drop (i + 1) = srtL P := by rw [List.take_of_length_le (by omega), List.drop_of_length_le (by omega), List.append_nil]
      rw [e] at hB
      have HB := Lib.hid hB
      clear e hB
      have ii : ¬ ((i + 1 : Nat) : Int) < ((i + 1 : Nat) : Int) := by omega
      go_wp2
      go_end0
      exact ⟨rfl, HB.out, hW⟩
set_option maxHeartbeats 4000000 in
set_option maxRecDepth 100000 in
theorem insSort_none (A : Option Addr) (c : Nat) (w : World) : Calls Try.prog 140 #[.slice A 0 c, .int .i64 0, .int .i64 0, .func (.func 94) #[] #[]] w (fun e w' => e = .returned (.tuple #[]) ∧ w' = w) := by
  go_enter Try.func140, Try.ntmps140
  go_upto_region 1 with (fail)
  go_loopw [8, 9] (fun I J wr => I = .int .i64 1 ∧ wr = w) (fun _ _ _ => 0)
  case atStart => exact ⟨rfl, rfl⟩
  case round =>
    obtain ⟨rfl, rfl⟩ := hrel
    go_wp2
    go_end0
    exact ⟨rfl, rfl⟩
set_option maxHeartbeats 4000000 in
set_option maxRecDepth 100000 in
theorem pdq_any (P : List (Int × Int)) (sp : List Value) (g n c : Nat) (k : Int) (w : World) (hB : Bk w g 170 (prs .u64 P ++ sp)) (hn : P.length = n) (h12 : n ≤ 12) (h0 : 0 < n) (hc : n ≤ c) : Calls Try.prog 126 #[.slice (some ⟨g, 0, none⟩) n c, .int .i64 0, .int .i64 (n : Int), .int .i64 k, .func (.func 94) #[] #[]] w (RetSrt w g P sp) := by
  have i12 : (n : Int) ≤ 12 := by omega
  have HI := Lib.hid (insSort_any P sp g n c w hB hn h12 h0 hc)
  go_enter Try.func126, Try.ntmps126
  go_upto_region 2 with (fail)
  go_loopw [1, 2] (fun a b wr => a = .int .i64 0 ∧ b = .int .i64 (n : Int) ∧ wr = w) (fun _ _ _ => 0)
  case atStart => exact ⟨rfl, rfl, rfl⟩
  case round =>
    obtain ⟨rfl, rfl, rfl⟩ := hrel
    go_wp2_with (go_at_call 140; refine HI.out.mono ?_; rintro e w1 ⟨rfl, hB1, hW1⟩)
    refine bodyPost_ret (results_none rfl _ _ _) rfl ?_
    exact ⟨rfl, hB1, hW1⟩
set_option maxHeartbeats 4000000 in
set_option maxRecDepth 100000 in
theorem pdq_none (A : Option Addr) (c : Nat) (k : Int) (w : World) : Calls Try.prog 126 #[.slice A 0 c, .int .i64 0, .int .i64 0, .int .i64 k, .func (.func 94) #[] #[]] w (fun e w' => e = .returned (.tuple #[]) ∧ w' = w) := by
  have HI := Lib.hid (insSort_none A c w)
  go_enter Try.func126, Try.ntmps126
  go_upto_region 2 with (fail)
  go_loopw [1, 2] (fun a b wr => a = .int .i64 0 ∧ b = .int .i64 0 ∧ wr = w) (fun _ _ _ => 0)
  case atStart => exact ⟨rfl, rfl, rfl⟩
  case round =>
    obtain ⟨rfl, rfl, rfl⟩ := hrel
    go_wp2_with (go_at_call 140; refine HI.out.mono ?_; rintro e w1 ⟨rfl, rfl⟩)
    refine bodyPost_ret (results_none rfl _ _ _) rfl ?_
    exact ⟨rfl, rfl⟩
set_option maxHeartbeats 4000000 in
set_option maxRecDepth 100000 in
theorem sortF_any (P : List (Int × Int)) (sp : List Value) (g n c : Nat) (w : World) (hB : Bk w g 170 (prs .u64 P ++ sp)) (hn : P.length = n) (h12 : n ≤ 12) (h0 : 0 < n) (hc : n ≤ c) : Calls Try.prog 93 #[.slice (some ⟨g, 0, none⟩) n c, .func (.func 94) #[] #[]] w (RetSrt w g P sp) := by
  have wn : IntKind.u64.wrap (n : Int) = (n : Int) := IntWalk.u64_in _ (by omega)
  have HL := Lib.hid (len_any n w h12)
  have HP := Lib.hid (fun k W (h : Below w.heap.size w W) => pdq_any P sp g n c k W (hB.later h) hn h12 h0 hc)
  go_enter Try.func93, Try.ntmps93
  go_wp2_with (first
    | (go_at_call 127; refine HL.out.mono ?_; rintro e w1 ⟨k, bs1, d1, rfl, rfl⟩)
    | (go_at_call 126; refine (HP.out _ _ (below_plus _ _ _)).mono ?_; rintro e w2 ⟨rfl, hB2, hW2⟩))
  go_end0
  exact ⟨rfl, hB2, (Chg.of_below (below_plus _ _ _)).trans hW2⟩
set_option maxHeartbeats 4000000 in
set_option maxRecDepth 100000 in
theorem sortF_none (A : Option Addr) (c : Nat) (w : World) : Calls Try.prog 93 #[.slice A 0 c, .func (.func 94) #[] #[]] w (fun e w' => e = .returned (.tuple #[]) ∧ Below w.heap.size w w') := by
  have HL := Lib.hid (len_any 0 w (by omega))
  have HP := Lib.hid (fun k W => pdq_none A c k W)
  go_enter Try.func93, Try.ntmps93
  go_wp2_with (first
    | (go_at_call 127; refine HL.out.mono ?_; rintro e w1 ⟨k, bs1, d1, rfl, rfl⟩)
    | (go_at_call 126; refine (HP.out _ _).mono ?_; rintro e w2 ⟨rfl, rfl⟩))
  go_end0
  exact ⟨rfl, below_plus _ _ _⟩
end Go.Proofs.Ytknoenceccpkhaa

/- A slice of structs of two ints that came in. -/
namespace Go.Proofs.Ytknoenceccpkhaa
open Go.RowKit Go.ChangeShapes Go.WideShapes Go.Deep
set_option linter.unusedVariables false
set_option linter.unusedSimpArgs false

/-- the pairs that two families make -/
theorem prs_fn (F : Nat → Int × Int) : ∀ (n i : Nat) (u : Value), (prs .i64 ((List.range n).map F))[i]? = some u → i < n * 2 ∧ (i % 2 = 0 ∧ u = .int .i64 (F (i / 2)).1 ∨ i % 2 = 1 ∧ u = .int .i64 (F (i / 2)).2) := by
  intro n i u hu
  have hi : i < (prs .i64 ((List.range n).map F)).length := (List.getElem?_eq_some_iff.1 hu).1
  rw [prs_length, List.length_map, List.length_range] at hi
  have hk : i / 2 < ((List.range n).map F).length := by rw [List.length_map, List.length_range]; omega
  have h := prs_at .i64 ((List.range n).map F) (i / 2) hk
  simp only [List.getElem_map, List.getElem_range] at h
  refine ⟨hi, ?_⟩
  rcases Nat.mod_two_eq_zero_or_one i with h0 | h0
  · rw [show 2 * (i / 2) = i by omega] at h
    exact .inl ⟨h0, (Option.some.inj (hu.symm.trans h.1))⟩
  · rw [show 2 * (i / 2) + 1 = i by omega] at h
    exact .inr ⟨h0, (Option.some.inj (hu.symm.trans h.2))⟩
theorem open_prs {H : Type} {enc : TypeId × Value → H} {P : Program} {W : World} {base : Nat} {t e : TypeId} {f0 f1 : Field} {v : Value} {d : DataW H} {p : List MemPlace}
    (ht : P.underlying t = some (.slice e)) (he : P.underlying e = some (.struct #[f0, f1])) (ce : P.cellsOf e = 2) (o0 : f0.offset = 0) (o1 : f1.offset = 1) (c0 : P.cellsOf f0.type = 1) (c1 : P.cellsOf f1.type = 1)
    (k0 : P.underlying f0.type = some (.int .i64)) (k1 : P.underlying f1.type = some (.int .i64)) (hv : Value.okWide P W .any base t v)
    (h : DataW.Trod enc P W 0 (fun _ => true) true t v d p) :
    ∃ A c, ∃ L : List (Int × Int), v = .slice A L.length c ∧ L.length ≤ c ∧ c ≤ maxLen ∧ Rd W W.heap.size A (prs .i64 L) ∧ ∀ q ∈ L, (Lit.int .i64 q.1).wf = true ∧ (Lit.int .i64 q.2).wf = true := by
  obtain ⟨a0, len, cap, rfl⟩ := okWide_slice ht hv
  obtain ⟨fuel, hf⟩ := h
  rcases open_slice_pairs ht he ce o0 o1 c0 c1 hf with ⟨hcs, _⟩ | ⟨a, l', c', m, n, V0, V1, D0, D1, P0, P1, hcs, _, hl, hm, hmm, _, hx⟩
  · simp [Value.cells] at hcs
    obtain ⟨rfl, rfl, rfl⟩ := hcs
    exact ⟨none, 0, [], rfl, by simp, by simp, .inl rfl, fun q hq => by simp at hq⟩
  · simp [Value.cells] at hcs
    obtain ⟨rfl, rfl, rfl⟩ := hcs
    have hlm : len ≤ m := by rw [hmm]; split <;> omega
    have each : ∀ i, i < len → ∃ q : Int × Int, W.cell? (a.add (i * 2)) = some (.int .i64 q.1) ∧ W.cell? (a.add (i * 2 + 1)) = some (.int .i64 q.2) ∧ (Lit.int .i64 q.1).wf = true ∧ (Lit.int .i64 q.2).wf = true := by
      intro i hi
      obtain ⟨h0, h1, t0, t1⟩ := hx i (by omega)
      obtain ⟨n0, e0, _, w0⟩ := DataW.trod_int k0 t0
      obtain ⟨n1, e1, _, w1⟩ := DataW.trod_int k1 t1
      injection e0 with e0
      injection e1 with e1
      exact ⟨(n0, n1), by rw [← e0]; exact h0, by rw [← e1]; exact h1, w0, w1⟩
    obtain ⟨F, hF⟩ := choose_lt each
    refine ⟨some a, cap, (List.range len).map F, by simp, by simpa using hl, hm, ?_, ?_⟩
    · rcases Nat.eq_zero_or_pos len with h0 | h0
      · exact .inl (by simp [h0, prs])
      · have hc0 := (hF 0 h0).1
        obtain ⟨b, off, spot⟩ := a
        have hspot : spot = none := by simpa [Addr.add] using World.cell?_spot hc0
        subst hspot
        refine .inr ⟨b, off, rfl, lt_of_cell hc0, fun i u hu => ?_⟩
        obtain ⟨hi, h⟩ := prs_fn F len i u hu
        have hF' := hF (i / 2) (by omega)
        rw [add_plain, add_plain] at hF'
        rcases h with ⟨hm2, rfl⟩ | ⟨hm2, rfl⟩
        · rw [show off + i = off + i / 2 * 2 by omega]; exact hF'.1
        · rw [show off + i = off + (i / 2 * 2 + 1) by omega]; exact hF'.2.1
    · intro q hq
      obtain ⟨i, hi, rfl⟩ := List.mem_map.1 hq
      exact ⟨(hF i (List.mem_range.1 hi)).2.2.1, (hF i (List.mem_range.1 hi)).2.2.2⟩
end Go.Proofs.Ytknoenceccpkhaa

/- The law's light, to (chapter 16). -/
namespace Go.Proofs.Ytknoenceccpkhaa
open Go.RowKit
set_option linter.unusedVariables false
set_option linter.unusedSimpArgs false
attribute [local go_sem ↓] sliced_cut

attribute [local go_sem] cutA_zero

theorem etRm : ET Try.prog 88 98 (.agg #[.int .i64 0, .int .i64 0]) 2 16 := ⟨Try.underlying88, by kernel_rfl, rfl, by decide, by decide⟩
theorem etMb : ET Try.prog 91 96 (.agg #[.int .i64 0, .int .i64 0]) 2 16 := ⟨Try.underlying91, by kernel_rfl, rfl, by decide, by decide⟩
theorem cellPl {b off : Nat} (w : World) (bs : List Obj) (d : Nat) (h : b < w.heap.size) : (plus w bs d).cell? ⟨b, off, none⟩ = w.cell? ⟨b, off, none⟩ := (below_plus w bs d).cell (p := ⟨b, off, none⟩) h
theorem szRm (p : Int × Int) : (Try.prog.info? 98).map (·.size) = some (mbC p).length := by kernel_rfl
theorem rowRm : ∃ d, Try.prog.underlying 98 = some d ∧ d.isRow = true := ⟨_, Try.underlying98, rfl⟩
def RetLi (w : World) (e : Ending) (w' : World) : Prop := ∃ L, L.length ≤ 12 ∧ Light L ∧ RetRs 2 w (prs .i64 L) e w'
set_option maxHeartbeats 4000000 in
set_option maxRecDepth 100000 in
theorem light_any (L : List (Int × Int)) (hL : ∀ q ∈ L, (-9223372036854775808 ≤ q.1 ∧ q.1 ≤ 9223372036854775807) ∧ (-9223372036854775808 ≤ q.2 ∧ q.2 ≤ 9223372036854775807)) (Al : Option Addr) (nl cl : Nat) (w : World) (hl : Rs 2 w Al nl cl (prs .i64 L)) (hml : nl ≤ 9223372036854775807) :
    Calls Try.prog 30 #[.slice Al nl cl] w (RetLi w) := by
  obtain ⟨dm, m1, m2⟩ := rowRm
  have hln : L.length = nl := by have := hl.1; rw [prs_length] at this; omega
  have hcap := hl.2.1
  go_enter Try.func30, Try.ntmps30
  go_upto_region 3 with (fail)
  go_loopw [3, 4] (fun s i wr => ∃ (j : Nat) (A' : Option Addr) (n' c' : Nat) (M : List (Int × Int)), j ≤ nl ∧ j ≤ 12 ∧ i = .int .i64 (j : Int) ∧ s = .slice A' n' c' ∧ n' ≤ j ∧ Light M ∧ Os 98 2 wr w.heap.size A' n' c' (prs .i64 M) ∧ Below w.heap.size w wr) (fun _ i _ => 12 - (intOf i).toNat)
  case atStart => exact ⟨0, none, 0, 0, [], Nat.zero_le _, by omega, rfl, rfl, Nat.zero_le _, fun p hp => by simp at hp, Os.nil_, Below.refl _ _⟩
  case round =>
    obtain ⟨j, A', n', c', M, hj, hj2, rfl, rfl, hnj, hM, hO, hE⟩ := hrel
    have HM := Lib.hid hM
    have hE0 := hE.size
    clear hM
    by_cases hlt : j < nl ∧ j < 12
    · have ij : (j : Int) < (nl : Int) := by omega
      have ij2 : (j : Int) < 12 := by omega
      have hjL : j < L.length := by omega
      obtain ⟨bl, ol, rfl, hbl, -⟩ := hl.at_ (by omega) (by decide)
      obtain ⟨q0, q1⟩ := (hl.later hE).range2 j hjL
      have hp := hL L[j] (List.getElem_mem hjL)
      generalize L[j] = p at *
      obtain ⟨a, b⟩ := p
      simp only [] at q0 q1 hp
      have zq : bl < wr.heap.size := by omega
      obtain ⟨hp1, hp2⟩ := hp
      have hO0 := fun k hk => (hO.blk k hk).2
      go_upto_region 5 with (fail)
      go_wp2
      refine wp_relS 16 57 rfl (by kernel_rfl) (by kernel_rfl) ?_
      apply Steps.one (MP.eq _) 1 rfl
      · intro o ho FA x hO hD K hK
        obtain rfl := Option.some.inj ho.symm
        clear ho
        have e0 := hO 0 (by kernel_rfl)
        simp only [eval_tmp, List.getElem?_toArray, List.getElem?_cons_succ, List.getElem?_cons_zero, Option.getD_some] at e0
        have ev0 := Lib.hid ((eval_tmp FA 0).trans e0)
        clear hO hD
        go_simp
        exact hK.out _ _ (Ex.refl _) rfl
      apply Steps.one (MP.eq _) 2 rfl
      · intro o ho FA x hO hD K hK
        obtain rfl := Option.some.inj ho.symm
        clear ho
        have e4 := hO 4 (by kernel_rfl)
        simp only [eval_tmp, List.getElem?_toArray, List.getElem?_cons_succ, List.getElem?_cons_zero, Option.getD_some] at e4
        have ev4 := Lib.hid ((eval_tmp FA 4).trans e4)
        clear hO hD
        go_simp
        exact hK.out _ _ (Ex.refl _) rfl
      apply Steps.one (MP.eq _) 3 rfl
      · intro o ho FA x hO hD K hK
        obtain rfl := Option.some.inj ho.symm
        clear ho
        have ev18 : FA.eval (.tmp 18) = _ := hD 0 18 (by kernel_rfl)
        have e18 := (eval_tmp FA 18).symm.trans ev18
        replace ev18 := Lib.hid ev18
        have ev19 : FA.eval (.tmp 19) = _ := hD 1 19 (by kernel_rfl)
        have e19 := (eval_tmp FA 19).symm.trans ev19
        replace ev19 := Lib.hid ev19
        clear hO hD
        go_simp
        exact hK.out _ _ (Ex.refl _) rfl
      apply Steps.one (MP.eq _) 4 rfl
      · intro o ho FA x hO hD K hK
        obtain rfl := Option.some.inj ho.symm
        clear ho
        have ev20 : FA.eval (.tmp 20) = _ := hD 2 20 (by kernel_rfl)
        have e20 := (eval_tmp FA 20).symm.trans ev20
        replace ev20 := Lib.hid ev20
        clear hO hD
        go_simp
        exact hK.out _ _ (Ex.refl _) rfl
      apply Steps.one (MP.eq _) 5 rfl
      · intro o ho FA x hO hD K hK
        obtain rfl := Option.some.inj ho.symm
        clear ho
        have ev21 : FA.eval (.tmp 21) = _ := hD 3 21 (by kernel_rfl)
        have e21 := (eval_tmp FA 21).symm.trans ev21
        replace ev21 := Lib.hid ev21
        clear hO hD
        refine wanted_if rfl ?_
        have c0 := (cellPl wr x.bs x.d zq).trans q0
        go_simp
        exact hK.out _ _ (Ex.refl _) rfl
      apply Steps.one (MP.eq _) 6 rfl
      · intro o ho FA x hO hD K hK
        obtain rfl := Option.some.inj ho.symm
        clear ho
        have ev22 : FA.eval (.tmp 22) = _ := hD 4 22 (by kernel_rfl)
        have e22 := (eval_tmp FA 22).symm.trans ev22
        replace ev22 := Lib.hid ev22
        clear hO hD
        go_simp
        exact hK.out _ _ (Ex.refl _) rfl
      apply Steps.one (MP.eq _) 7 rfl
      · intro o ho FA x hO hD K hK
        obtain rfl := Option.some.inj ho.symm
        clear ho
        have ev23 : FA.eval (.tmp 23) = _ := hD 5 23 (by kernel_rfl)
        have e23 := (eval_tmp FA 23).symm.trans ev23
        replace ev23 := Lib.hid ev23
        clear hO hD
        go_simp
        exact hK.out _ _ (Ex.refl _) rfl
      apply Steps.one (MP.eq _) 8 rfl
      · intro o ho FA x hO hD K hK
        obtain rfl := Option.some.inj ho.symm
        clear ho
        have ev24 : FA.eval (.tmp 24) = _ := hD 6 24 (by kernel_rfl)
        have e24 := (eval_tmp FA 24).symm.trans ev24
        replace ev24 := Lib.hid ev24
        clear hO hD
        go_simp
        exact hK.out _ _ (Ex.refl _) rfl
      apply Steps.one (MP.eq _) 9 rfl
      · intro o ho FA x hO hD K hK
        obtain rfl := Option.some.inj ho.symm
        clear ho
        have e0 := hO 0 (by kernel_rfl)
        simp only [eval_tmp, List.getElem?_toArray, List.getElem?_cons_succ, List.getElem?_cons_zero, Option.getD_some] at e0
        have ev0 := Lib.hid ((eval_tmp FA 0).trans e0)
        clear hO hD
        go_simp
        exact hK.out _ _ (Ex.refl _) rfl
      apply Steps.one (MP.eq _) 10 rfl
      · intro o ho FA x hO hD K hK
        obtain rfl := Option.some.inj ho.symm
        clear ho
        have e4 := hO 4 (by kernel_rfl)
        simp only [eval_tmp, List.getElem?_toArray, List.getElem?_cons_succ, List.getElem?_cons_zero, Option.getD_some] at e4
        have ev4 := Lib.hid ((eval_tmp FA 4).trans e4)
        clear hO hD
        go_simp
        exact hK.out _ _ (Ex.refl _) rfl
      apply Steps.one (MP.eq _) 11 rfl
      · intro o ho FA x hO hD K hK
        obtain rfl := Option.some.inj ho.symm
        clear ho
        have ev26 : FA.eval (.tmp 26) = _ := hD 8 26 (by kernel_rfl)
        have e26 := (eval_tmp FA 26).symm.trans ev26
        replace ev26 := Lib.hid ev26
        have ev27 : FA.eval (.tmp 27) = _ := hD 9 27 (by kernel_rfl)
        have e27 := (eval_tmp FA 27).symm.trans ev27
        replace ev27 := Lib.hid ev27
        clear hO hD
        go_simp
        exact hK.out _ _ (Ex.refl _) rfl
      apply Steps.one (MP.eq _) 12 rfl
      · intro o ho FA x hO hD K hK
        obtain rfl := Option.some.inj ho.symm
        clear ho
        have ev28 : FA.eval (.tmp 28) = _ := hD 10 28 (by kernel_rfl)
        have e28 := (eval_tmp FA 28).symm.trans ev28
        replace ev28 := Lib.hid ev28
        clear hO hD
        go_simp
        exact hK.out _ _ (Ex.refl _) rfl
      apply Steps.one (MP.eq _) 13 rfl
      · intro o ho FA x hO hD K hK
        obtain rfl := Option.some.inj ho.symm
        clear ho
        have ev29 : FA.eval (.tmp 29) = _ := hD 11 29 (by kernel_rfl)
        have e29 := (eval_tmp FA 29).symm.trans ev29
        replace ev29 := Lib.hid ev29
        clear hO hD
        refine wanted_if rfl ?_
        have c1 := (cellPl wr x.bs x.d zq).trans q1
        go_simp
        exact hK.out _ _ (Ex.refl _) rfl
      apply Steps.one (MP.eq _) 14 rfl
      · intro o ho FA x hO hD K hK
        obtain rfl := Option.some.inj ho.symm
        clear ho
        have ev30 : FA.eval (.tmp 30) = _ := hD 12 30 (by kernel_rfl)
        have e30 := (eval_tmp FA 30).symm.trans ev30
        replace ev30 := Lib.hid ev30
        clear hO hD
        go_simp
        exact hK.out _ _ (Ex.refl _) rfl
      apply Steps.one (MP.eq _) 15 rfl
      · intro o ho FA x hO hD K hK
        obtain rfl := Option.some.inj ho.symm
        clear ho
        have ev25 : FA.eval (.tmp 25) = _ := hD 7 25 (by kernel_rfl)
        have e25 := (eval_tmp FA 25).symm.trans ev25
        replace ev25 := Lib.hid ev25
        have ev31 : FA.eval (.tmp 31) = _ := hD 13 31 (by kernel_rfl)
        have e31 := (eval_tmp FA 31).symm.trans ev31
        replace ev31 := Lib.hid ev31
        clear hO hD
        go_simp
        exact hK.out _ _ (Ex.refl _) rfl
      apply Steps.one (MP.blk wr.heap.size 98 [.int .i64 0, .int .i64 0]) 16 rfl
      · intro o ho FA x hO hD K hK
        obtain rfl := Option.some.inj ho.symm
        clear ho
        clear hO hD
        go_simp
        exact hK.out _ _ (Ex.alloc _ _) ⟨_, rfl, by omega, Bk.newK _ _ _ (by simp [size_plus]) rfl⟩
      refine Steps.fin_ (fun vs x hp => ?_)
      have p0 : vs 0 = _ := hp 0 (by omega)
      have p1 : vs 1 = _ := hp 1 (by omega)
      have p2 : vs 2 = _ := hp 2 (by omega)
      have p3 : vs 3 = _ := hp 3 (by omega)
      have p4 : vs 4 = _ := hp 4 (by omega)
      have p5 : vs 5 = _ := hp 5 (by omega)
      have p6 : vs 6 = _ := hp 6 (by omega)
      have p7 : vs 7 = _ := hp 7 (by omega)
      have p8 : vs 8 = _ := hp 8 (by omega)
      have p9 : vs 9 = _ := hp 9 (by omega)
      have p10 : vs 10 = _ := hp 10 (by omega)
      have p11 : vs 11 = _ := hp 11 (by omega)
      have p12 : vs 12 = _ := hp 12 (by omega)
      have p13 : vs 13 = _ := hp 13 (by omega)
      have p14 : vs 14 = _ := hp 14 (by omega)
      have p15 := hp 15 (by omega)
      clear hp
      simp only [List.take_succ_cons, List.take_zero, List.drop_succ_cons, List.drop_zero, putAll, Nat.zero_add, Nat.reduceAdd, Act.put, List.setIfInBounds_toArray, List.set_cons_zero, List.set_cons_succ, p0, p1, p2, p3, p4, p5, p6, p7, p8, p9, p10, p11, p12, p13, p14]
      clear p0 p1 p2 p3 p4 p5 p6 p7 p8 p9 p10 p11 p12 p13 p14
      generalize vs 15 = y15 at *
      clear vs
      obtain ⟨g, rfl, hgw, hb⟩ := p15
      have w0 : 0 ≤ IntKind.u64.wrap a := by rw [IntKind.wrap_u64]; omega
      have w1 : IntKind.i64.wrap ((IntKind.u64.wrap a).tmod 64) = (IntKind.u64.wrap a) % 64 := by
        rw [Int.tmod_eq_emod_of_nonneg w0, IntWalk.i64_in _ (by omega)]
      have w2 : b.tmod 8 < 8 := Int.tmod_lt_of_pos _ (by decide)
      rw [w1]
      generalize b.tmod 8 = wt at *
      have w3 : 0 ≤ IntKind.u64.wrap a % 64 ∧ IntKind.u64.wrap a % 64 < 64 := by omega
      generalize IntKind.u64.wrap a % 64 = id at *
      clear w1 w0
      generalize (IntKind.u64.wrap a).tmod 64 = junk1 at *
      generalize IntKind.u64.wrap a = junk2 at *
      replace hO := hO.plus_ x.bs x.d
      replace hE := belowP hE x.bs x.d
      have hgp : wr.heap.size ≤ (plus wr x.bs x.d).heap.size := by simp [size_plus]
      have hgl := hb.lt
      have hbk := hO.blk
      have hgw2 : ∀ k, (Value.slice A' n' c').ownBlock = some k → some g ≠ some k := fun k hk e => by injection e with e; have := hO0 k hk; omega
      clear hbk
      generalize plus wr x.bs x.d = wr2 at *
      go_upto_region 6 with (refine at_op (.store 98 (.tmp 5) (.tmp 32)) rfl ?_; refine wpList_stA (t := 98) 98 (.tmp 5) (.tmp 32) rfl rfl (mbC (id, wt)) [.int .i64 0, .int .i64 0] rfl (mbC_one _) rfl rfl hb (szRm _) ?_; intro w4 hB hg3)
      replace hO := hO.grown hg3 hgw2
      replace hE := below_grown hE hg3 (by omega)
      have hwr := hE0
      clear q0 q1 hb hg3 hgp hgl
      go_upto_region 8 with (fail)
      have hcn := hO.rs.2.1
      have HO2 := Lib.hid hO
      have HB2 := Lib.hid hB
      have HE2 := Lib.hid hE
      have HMl := hO.rs.1
      rw [prs_length] at HMl
      clear hO hB hE hO0 hgw2 hE0 hwr
      go_loopw [7, 6] (fun i s wr => ∃ (k : Nat) (met : Bool), k ≤ n' ∧ i = .int .i64 (k : Int) ∧ s = .bool met ∧ Os 98 2 wr w.heap.size A' n' c' (prs .i64 M) ∧ Bk wr g 98 (mbC (id, wt)) ∧ Below w.heap.size w wr) (fun i _ _ => n' - (intOf i).toNat)
      case atStart => exact ⟨0, false, Nat.zero_le _, rfl, rfl, HO2.out, HB2.out, HE2.out⟩
      case round =>
        clear HO2 HB2 HE2
        obtain ⟨k, met, hk, rfl, rfl, hO, hB, hE⟩ := hrel
        by_cases hkn : k < n'
        · have ik : (k : Int) < (n' : Int) := by omega
          obtain ⟨bo, oo, rfl, zk, -⟩ := hO.rs.at_ (by omega) (by decide)
          obtain ⟨qk, -⟩ := hO.rs.range2 k (by omega)
          generalize (M[k]'(by omega)).1 = y at qk
          cases met with
          | true =>
            go_upto_region 10 with (fail)
            go_wp2
            refine wp_relS 12 57 rfl (by kernel_rfl) (by kernel_rfl) ?_
            apply Steps.one (MP.eq _) 1 rfl
            · intro o ho FA x hO hD K hK
              obtain rfl := Option.some.inj ho.symm
              clear ho
              have e6 := hO 6 (by kernel_rfl)
              simp only [eval_tmp, List.getElem?_toArray, List.getElem?_cons_succ, List.getElem?_cons_zero, Option.getD_some] at e6
              have ev6 := Lib.hid ((eval_tmp FA 6).trans e6)
              clear hO hD
              go_simp
              exact hK.out _ _ (Ex.refl _) rfl
            apply Steps.one (MP.eq _) 2 rfl
            · intro o ho FA x hO hD K hK
              obtain rfl := Option.some.inj ho.symm
              clear ho
              have ev39 : FA.eval (.tmp 39) = _ := hD 0 39 (by kernel_rfl)
              have e39 := (eval_tmp FA 39).symm.trans ev39
              replace ev39 := Lib.hid ev39
              clear hO hD
              go_simp
              exact hK.out _ _ (Ex.refl _) rfl
            apply Steps.one (MP.eq _) 3 rfl
            · intro o ho FA x hO hD K hK
              obtain rfl := Option.some.inj ho.symm
              clear ho
              have e3 := hO 3 (by kernel_rfl)
              simp only [eval_tmp, List.getElem?_toArray, List.getElem?_cons_succ, List.getElem?_cons_zero, Option.getD_some] at e3
              have ev3 := Lib.hid ((eval_tmp FA 3).trans e3)
              have ev40 : FA.eval (.tmp 40) = _ := hD 1 40 (by kernel_rfl)
              have e40 := (eval_tmp FA 40).symm.trans ev40
              replace ev40 := Lib.hid ev40
              first | have ge40 := slot_of e40 | have ge40 := slot_un e40
              clear hO hD
              go_simp
              exact hK.out _ _ (Ex.refl _) rfl
            apply Steps.one (MP.eq _) 4 rfl
            · intro o ho FA x hO hD K hK
              obtain rfl := Option.some.inj ho.symm
              clear ho
              have e7 := hO 7 (by kernel_rfl)
              simp only [eval_tmp, List.getElem?_toArray, List.getElem?_cons_succ, List.getElem?_cons_zero, Option.getD_some] at e7
              have ev7 := Lib.hid ((eval_tmp FA 7).trans e7)
              have ev40 : FA.eval (.tmp 40) = _ := hD 1 40 (by kernel_rfl)
              have e40 := (eval_tmp FA 40).symm.trans ev40
              replace ev40 := Lib.hid ev40
              first | have ge40 := slot_of e40 | have ge40 := slot_un e40
              clear hO hD
              go_simp
              exact hK.out _ _ (Ex.refl _) rfl
            apply Steps.one (MP.eq _) 5 rfl
            · intro o ho FA x hO hD K hK
              obtain rfl := Option.some.inj ho.symm
              clear ho
              have ev41 : FA.eval (.tmp 41) = _ := hD 2 41 (by kernel_rfl)
              have e41 := (eval_tmp FA 41).symm.trans ev41
              replace ev41 := Lib.hid ev41
              have ev42 : FA.eval (.tmp 42) = _ := hD 3 42 (by kernel_rfl)
              have e42 := (eval_tmp FA 42).symm.trans ev42
              replace ev42 := Lib.hid ev42
              have ev40 : FA.eval (.tmp 40) = _ := hD 1 40 (by kernel_rfl)
              have e40 := (eval_tmp FA 40).symm.trans ev40
              replace ev40 := Lib.hid ev40
              first | have ge40 := slot_of e40 | have ge40 := slot_un e40
              clear hO hD
              go_simp
              exact hK.out _ _ (Ex.refl _) rfl
            apply Steps.one (MP.eq _) 6 rfl
            · intro o ho FA x hO hD K hK
              obtain rfl := Option.some.inj ho.symm
              clear ho
              have ev43 : FA.eval (.tmp 43) = _ := hD 4 43 (by kernel_rfl)
              have e43 := (eval_tmp FA 43).symm.trans ev43
              replace ev43 := Lib.hid ev43
              have ev40 : FA.eval (.tmp 40) = _ := hD 1 40 (by kernel_rfl)
              have e40 := (eval_tmp FA 40).symm.trans ev40
              replace ev40 := Lib.hid ev40
              first | have ge40 := slot_of e40 | have ge40 := slot_un e40
              clear hO hD
              go_simp
              exact hK.out _ _ (Ex.refl _) rfl
            apply Steps.one (MP.eq _) 7 rfl
            · intro o ho FA x hO hD K hK
              obtain rfl := Option.some.inj ho.symm
              clear ho
              have ev44 : FA.eval (.tmp 44) = _ := hD 5 44 (by kernel_rfl)
              have e44 := (eval_tmp FA 44).symm.trans ev44
              replace ev44 := Lib.hid ev44
              have ev40 : FA.eval (.tmp 40) = _ := hD 1 40 (by kernel_rfl)
              have e40 := (eval_tmp FA 40).symm.trans ev40
              replace ev40 := Lib.hid ev40
              first | have ge40 := slot_of e40 | have ge40 := slot_un e40
              clear hO hD
              have c0 := (cellPl wr x.bs x.d zk).trans qk
              go_simp
              exact hK.out _ _ (Ex.refl _) rfl
            apply Steps.one (MP.eq _) 8 rfl
            · intro o ho FA x hO hD K hK
              obtain rfl := Option.some.inj ho.symm
              clear ho
              have e5 := hO 5 (by kernel_rfl)
              simp only [eval_tmp, List.getElem?_toArray, List.getElem?_cons_succ, List.getElem?_cons_zero, Option.getD_some] at e5
              have ev5 := Lib.hid ((eval_tmp FA 5).trans e5)
              have ev40 : FA.eval (.tmp 40) = _ := hD 1 40 (by kernel_rfl)
              have e40 := (eval_tmp FA 40).symm.trans ev40
              replace ev40 := Lib.hid ev40
              first | have ge40 := slot_of e40 | have ge40 := slot_un e40
              clear hO hD
              go_simp
              exact hK.out _ _ (Ex.refl _) rfl
            apply Steps.one (MP.eq _) 9 rfl
            · intro o ho FA x hO hD K hK
              obtain rfl := Option.some.inj ho.symm
              clear ho
              have ev46 : FA.eval (.tmp 46) = _ := hD 7 46 (by kernel_rfl)
              have e46 := (eval_tmp FA 46).symm.trans ev46
              replace ev46 := Lib.hid ev46
              have ev40 : FA.eval (.tmp 40) = _ := hD 1 40 (by kernel_rfl)
              have e40 := (eval_tmp FA 40).symm.trans ev40
              replace ev40 := Lib.hid ev40
              first | have ge40 := slot_of e40 | have ge40 := slot_un e40
              clear hO hD
              have c1 : (plus wr x.bs x.d).cell? ⟨g, 0, none⟩ = some (.int .i64 id) := (hB.later (below_plus wr x.bs x.d)).cell 0
              go_simp
              exact hK.out _ _ (Ex.refl _) rfl
            apply Steps.one (MP.eq _) 10 rfl
            · intro o ho FA x hO hD K hK
              obtain rfl := Option.some.inj ho.symm
              clear ho
              have ev45 : FA.eval (.tmp 45) = _ := hD 6 45 (by kernel_rfl)
              have e45 := (eval_tmp FA 45).symm.trans ev45
              replace ev45 := Lib.hid ev45
              have ev47 : FA.eval (.tmp 47) = _ := hD 8 47 (by kernel_rfl)
              have e47 := (eval_tmp FA 47).symm.trans ev47
              replace ev47 := Lib.hid ev47
              have ev40 : FA.eval (.tmp 40) = _ := hD 1 40 (by kernel_rfl)
              have e40 := (eval_tmp FA 40).symm.trans ev40
              replace ev40 := Lib.hid ev40
              first | have ge40 := slot_of e40 | have ge40 := slot_un e40
              clear hO hD
              go_simp
              exact hK.out _ _ (Ex.refl _) rfl
            apply Steps.one (MP.eq _) 11 rfl
            · intro o ho FA x hO hD K hK
              obtain rfl := Option.some.inj ho.symm
              clear ho
              have ev40 : FA.eval (.tmp 40) = _ := hD 1 40 (by kernel_rfl)
              have e40 := (eval_tmp FA 40).symm.trans ev40
              replace ev40 := Lib.hid ev40
              have ev48 : FA.eval (.tmp 48) = _ := hD 9 48 (by kernel_rfl)
              have e48 := (eval_tmp FA 48).symm.trans ev48
              replace ev48 := Lib.hid ev48
              clear hO hD
              go_simp
              exact hK.out _ _ (Ex.refl _) rfl
            apply Steps.one (MP.eq _) 12 rfl
            · intro o ho FA x hO hD K hK
              obtain rfl := Option.some.inj ho.symm
              clear ho
              have ev49 : FA.eval (.tmp 49) = _ := hD 10 49 (by kernel_rfl)
              have e49 := (eval_tmp FA 49).symm.trans ev49
              replace ev49 := Lib.hid ev49
              clear hO hD
              go_simp
              exact hK.out _ _ (Ex.refl _) rfl
            refine Steps.fin_ (fun vs x hp => ?_)
            have p0 : vs 0 = _ := hp 0 (by omega)
            have p1 : vs 1 = _ := hp 1 (by omega)
            have p2 : vs 2 = _ := hp 2 (by omega)
            have p3 : vs 3 = _ := hp 3 (by omega)
            have p4 : vs 4 = _ := hp 4 (by omega)
            have p5 : vs 5 = _ := hp 5 (by omega)
            have p6 : vs 6 = _ := hp 6 (by omega)
            have p7 : vs 7 = _ := hp 7 (by omega)
            have p8 : vs 8 = _ := hp 8 (by omega)
            have p9 : vs 9 = _ := hp 9 (by omega)
            have p10 : vs 10 = _ := hp 10 (by omega)
            have p11 : vs 11 = _ := hp 11 (by omega)
            clear hp
            simp only [List.take_succ_cons, List.take_zero, List.drop_succ_cons, List.drop_zero, putAll, Nat.zero_add, Nat.reduceAdd, Act.put, List.setIfInBounds_toArray, List.set_cons_zero, List.set_cons_succ, p0, p1, p2, p3, p4, p5, p6, p7, p8, p9, p10, p11]
            clear p0 p1 p2 p3 p4 p5 p6 p7 p8 p9 p10 p11
            clear vs
            go_wp2
            exact ⟨⟨k + 1, _, by omega, by go_num, rfl, hO.plus_ _ _, hB.later (below_plus _ _ _), belowP hE _ _⟩, by simp [intOf]; omega⟩
          | false =>
            go_upto_region 10 with (fail)
            go_wp2
            refine wp_relS 12 57 rfl (by kernel_rfl) (by kernel_rfl) ?_
            apply Steps.one (MP.eq _) 1 rfl
            · intro o ho FA x hO hD K hK
              obtain rfl := Option.some.inj ho.symm
              clear ho
              have e6 := hO 6 (by kernel_rfl)
              simp only [eval_tmp, List.getElem?_toArray, List.getElem?_cons_succ, List.getElem?_cons_zero, Option.getD_some] at e6
              have ev6 := Lib.hid ((eval_tmp FA 6).trans e6)
              clear hO hD
              go_simp
              exact hK.out _ _ (Ex.refl _) rfl
            apply Steps.one (MP.eq _) 2 rfl
            · intro o ho FA x hO hD K hK
              obtain rfl := Option.some.inj ho.symm
              clear ho
              have ev39 : FA.eval (.tmp 39) = _ := hD 0 39 (by kernel_rfl)
              have e39 := (eval_tmp FA 39).symm.trans ev39
              replace ev39 := Lib.hid ev39
              clear hO hD
              go_simp
              exact hK.out _ _ (Ex.refl _) rfl
            apply Steps.one (MP.eq _) 3 rfl
            · intro o ho FA x hO hD K hK
              obtain rfl := Option.some.inj ho.symm
              clear ho
              have e3 := hO 3 (by kernel_rfl)
              simp only [eval_tmp, List.getElem?_toArray, List.getElem?_cons_succ, List.getElem?_cons_zero, Option.getD_some] at e3
              have ev3 := Lib.hid ((eval_tmp FA 3).trans e3)
              have ev40 : FA.eval (.tmp 40) = _ := hD 1 40 (by kernel_rfl)
              have e40 := (eval_tmp FA 40).symm.trans ev40
              replace ev40 := Lib.hid ev40
              first | have ge40 := slot_of e40 | have ge40 := slot_un e40
              clear hO hD
              go_simp
              exact hK.out _ _ (Ex.refl _) rfl
            apply Steps.one (MP.eq _) 4 rfl
            · intro o ho FA x hO hD K hK
              obtain rfl := Option.some.inj ho.symm
              clear ho
              have e7 := hO 7 (by kernel_rfl)
              simp only [eval_tmp, List.getElem?_toArray, List.getElem?_cons_succ, List.getElem?_cons_zero, Option.getD_some] at e7
              have ev7 := Lib.hid ((eval_tmp FA 7).trans e7)
              have ev40 : FA.eval (.tmp 40) = _ := hD 1 40 (by kernel_rfl)
              have e40 := (eval_tmp FA 40).symm.trans ev40
              replace ev40 := Lib.hid ev40
              first | have ge40 := slot_of e40 | have ge40 := slot_un e40
              clear hO hD
              go_simp
              exact hK.out _ _ (Ex.refl _) rfl
            apply Steps.one (MP.eq _) 5 rfl
            · intro o ho FA x hO hD K hK
              obtain rfl := Option.some.inj ho.symm
              clear ho
              have ev41 : FA.eval (.tmp 41) = _ := hD 2 41 (by kernel_rfl)
              have e41 := (eval_tmp FA 41).symm.trans ev41
              replace ev41 := Lib.hid ev41
              have ev42 : FA.eval (.tmp 42) = _ := hD 3 42 (by kernel_rfl)
              have e42 := (eval_tmp FA 42).symm.trans ev42
              replace ev42 := Lib.hid ev42
              have ev40 : FA.eval (.tmp 40) = _ := hD 1 40 (by kernel_rfl)
              have e40 := (eval_tmp FA 40).symm.trans ev40
              replace ev40 := Lib.hid ev40
              first | have ge40 := slot_of e40 | have ge40 := slot_un e40
              clear hO hD
              go_simp
              exact hK.out _ _ (Ex.refl _) rfl
            apply Steps.one (MP.eq _) 6 rfl
            · intro o ho FA x hO hD K hK
              obtain rfl := Option.some.inj ho.symm
              clear ho
              have ev43 : FA.eval (.tmp 43) = _ := hD 4 43 (by kernel_rfl)
              have e43 := (eval_tmp FA 43).symm.trans ev43
              replace ev43 := Lib.hid ev43
              have ev40 : FA.eval (.tmp 40) = _ := hD 1 40 (by kernel_rfl)
              have e40 := (eval_tmp FA 40).symm.trans ev40
              replace ev40 := Lib.hid ev40
              first | have ge40 := slot_of e40 | have ge40 := slot_un e40
              clear hO hD
              go_simp
              exact hK.out _ _ (Ex.refl _) rfl
            apply Steps.one (MP.eq _) 7 rfl
            · intro o ho FA x hO hD K hK
              obtain rfl := Option.some.inj ho.symm
              clear ho
              have ev44 : FA.eval (.tmp 44) = _ := hD 5 44 (by kernel_rfl)
              have e44 := (eval_tmp FA 44).symm.trans ev44
              replace ev44 := Lib.hid ev44
              have ev40 : FA.eval (.tmp 40) = _ := hD 1 40 (by kernel_rfl)
              have e40 := (eval_tmp FA 40).symm.trans ev40
              replace ev40 := Lib.hid ev40
              first | have ge40 := slot_of e40 | have ge40 := slot_un e40
              clear hO hD
              have c0 := (cellPl wr x.bs x.d zk).trans qk
              go_simp
              exact hK.out _ _ (Ex.refl _) rfl
            apply Steps.one (MP.eq _) 8 rfl
            · intro o ho FA x hO hD K hK
              obtain rfl := Option.some.inj ho.symm
              clear ho
              have e5 := hO 5 (by kernel_rfl)
              simp only [eval_tmp, List.getElem?_toArray, List.getElem?_cons_succ, List.getElem?_cons_zero, Option.getD_some] at e5
              have ev5 := Lib.hid ((eval_tmp FA 5).trans e5)
              have ev40 : FA.eval (.tmp 40) = _ := hD 1 40 (by kernel_rfl)
              have e40 := (eval_tmp FA 40).symm.trans ev40
              replace ev40 := Lib.hid ev40
              first | have ge40 := slot_of e40 | have ge40 := slot_un e40
              clear hO hD
              go_simp
              exact hK.out _ _ (Ex.refl _) rfl
            apply Steps.one (MP.eq _) 9 rfl
            · intro o ho FA x hO hD K hK
              obtain rfl := Option.some.inj ho.symm
              clear ho
              have ev46 : FA.eval (.tmp 46) = _ := hD 7 46 (by kernel_rfl)
              have e46 := (eval_tmp FA 46).symm.trans ev46
              replace ev46 := Lib.hid ev46
              have ev40 : FA.eval (.tmp 40) = _ := hD 1 40 (by kernel_rfl)
              have e40 := (eval_tmp FA 40).symm.trans ev40
              replace ev40 := Lib.hid ev40
              first | have ge40 := slot_of e40 | have ge40 := slot_un e40
              clear hO hD
              have c1 : (plus wr x.bs x.d).cell? ⟨g, 0, none⟩ = some (.int .i64 id) := (hB.later (below_plus wr x.bs x.d)).cell 0
              go_simp
              exact hK.out _ _ (Ex.refl _) rfl
            apply Steps.one (MP.eq _) 10 rfl
            · intro o ho FA x hO hD K hK
              obtain rfl := Option.some.inj ho.symm
              clear ho
              have ev45 : FA.eval (.tmp 45) = _ := hD 6 45 (by kernel_rfl)
              have e45 := (eval_tmp FA 45).symm.trans ev45
              replace ev45 := Lib.hid ev45
              have ev47 : FA.eval (.tmp 47) = _ := hD 8 47 (by kernel_rfl)
              have e47 := (eval_tmp FA 47).symm.trans ev47
              replace ev47 := Lib.hid ev47
              have ev40 : FA.eval (.tmp 40) = _ := hD 1 40 (by kernel_rfl)
              have e40 := (eval_tmp FA 40).symm.trans ev40
              replace ev40 := Lib.hid ev40
              first | have ge40 := slot_of e40 | have ge40 := slot_un e40
              clear hO hD
              go_simp
              exact hK.out _ _ (Ex.refl _) rfl
            apply Steps.one (MP.eq _) 11 rfl
            · intro o ho FA x hO hD K hK
              obtain rfl := Option.some.inj ho.symm
              clear ho
              have ev40 : FA.eval (.tmp 40) = _ := hD 1 40 (by kernel_rfl)
              have e40 := (eval_tmp FA 40).symm.trans ev40
              replace ev40 := Lib.hid ev40
              have ev48 : FA.eval (.tmp 48) = _ := hD 9 48 (by kernel_rfl)
              have e48 := (eval_tmp FA 48).symm.trans ev48
              replace ev48 := Lib.hid ev48
              clear hO hD
              go_simp
              exact hK.out _ _ (Ex.refl _) rfl
            apply Steps.one (MP.eq _) 12 rfl
            · intro o ho FA x hO hD K hK
              obtain rfl := Option.some.inj ho.symm
              clear ho
              have ev49 : FA.eval (.tmp 49) = _ := hD 10 49 (by kernel_rfl)
              have e49 := (eval_tmp FA 49).symm.trans ev49
              replace ev49 := Lib.hid ev49
              clear hO hD
              go_simp
              exact hK.out _ _ (Ex.refl _) rfl
            refine Steps.fin_ (fun vs x hp => ?_)
            have p0 : vs 0 = _ := hp 0 (by omega)
            have p1 : vs 1 = _ := hp 1 (by omega)
            have p2 : vs 2 = _ := hp 2 (by omega)
            have p3 : vs 3 = _ := hp 3 (by omega)
            have p4 : vs 4 = _ := hp 4 (by omega)
            have p5 : vs 5 = _ := hp 5 (by omega)
            have p6 : vs 6 = _ := hp 6 (by omega)
            have p7 : vs 7 = _ := hp 7 (by omega)
            have p8 : vs 8 = _ := hp 8 (by omega)
            have p9 : vs 9 = _ := hp 9 (by omega)
            have p10 : vs 10 = _ := hp 10 (by omega)
            have p11 : vs 11 = _ := hp 11 (by omega)
            clear hp
            simp only [List.take_succ_cons, List.take_zero, List.drop_succ_cons, List.drop_zero, putAll, Nat.zero_add, Nat.reduceAdd, Act.put, List.setIfInBounds_toArray, List.set_cons_zero, List.set_cons_succ, p0, p1, p2, p3, p4, p5, p6, p7, p8, p9, p10, p11]
            clear p0 p1 p2 p3 p4 p5 p6 p7 p8 p9 p10 p11
            clear vs
            go_wp2
            exact ⟨⟨k + 1, _, by omega, by go_num, rfl, hO.plus_ _ _, hB.later (below_plus _ _ _), belowP hE _ _⟩, by simp [intOf]; omega⟩
        · obtain rfl : k = n' := by omega
          have ik : ¬ (k : Int) < (k : Int) := by omega
          cases met with
          | true =>
            go_wp2
            exact ⟨⟨j + 1, A', _, c', M, by omega, by omega, by go_num, rfl, by omega, HM.out, hO, hE⟩, by simp [intOf]; omega⟩
          | false =>
            go_upto_region 12 with (fail)
            have zb := hE.size
            refine wp_region_lit ?_
            refine wpList_plain rfl (fun K hK => ?_); go_simp; with_reducible refine hK _ _ ?_; clear hK K
            refine wpList_ldA (t := 98) 98 (.tmp 5) rfl rfl ([.int .i64 id, .int .i64 wt]) rfl (hB) (whole_ _) m1 m2 (szRm (id, wt)) ?_
            refine wpList_plain rfl (fun K hK => ?_); go_simp; with_reducible refine hK _ _ ?_; clear hK K
            refine wpList_appS etRm rfl (.tmp 52) (.tmp 54) rfl rfl (hO.later ((Below.refl _ _).alloc (Nat.le_refl _) _)) rfl (Rs.of_bk (n := 1) (c := 1) (Bk.new wr _ _) rfl (Nat.le_refl _)) (mbC_one (id, wt)) (by omega) (by simp; omega) ?_
            intro A2 n2 c2 w5 hn2 hO4 hb4 hg4
            subst hn2
            refine wpList_plain rfl (fun K hK => ?_); go_simp; with_reducible refine hK _ _ ?_; clear hK K
            go_wp2
            exact ⟨⟨j + 1, A2, _, c2, M ++ [(id, wt)], by omega, by omega, by go_num, rfl, by omega, fun p hp => by
              rcases List.mem_append.1 hp with h | h
              · exact HM.out p h
              · simp only [List.mem_cons, List.not_mem_nil, or_false] at h; subst h; exact ⟨w3.1, w3.2, w2⟩, by rw [prs_append]; exact hO4, hE.trans ((((Below.refl _ _).alloc (Nat.le_refl _) _).mono zb).trans hb4)⟩, by simp [intOf]; omega⟩
    · have hM2 := hO.rs.1
      rw [prs_length] at hM2
      have HO := Lib.hid hO
      clear hO
      by_cases h1 : j < nl
      · have ij : (j : Int) < (nl : Int) := by omega
        have ij2 : ¬ (j : Int) < 12 := by omega
        go_wp2
        go_ret
        exact ⟨M, by omega, HM.out, RetRs.mk HO.out.rs hE⟩
      · have ij : ¬ (j : Int) < (nl : Int) := by omega
        go_wp2
        go_ret
        exact ⟨M, by omega, HM.out, RetRs.mk HO.out.rs hE⟩
set_option maxHeartbeats 4000000 in
set_option maxRecDepth 100000 in
theorem to_any (L : List (Int × Int)) (Al : Option Addr) (nl cl : Nat) (w : World) (hl : Rs 2 w Al nl cl (prs .i64 L)) (hml : nl ≤ 1000) :
    Calls Try.prog 32 #[.slice Al nl cl] w (RetRs 2 w (prs .i64 L)) := by
  have hln : L.length = nl := by have := hl.1; rw [prs_length] at this; omega
  have hcap := hl.2.1
  go_enter Try.func32, Try.ntmps32
  go_upto_region 3 with (fail)
  go_loopw [3, 4] (fun s i wr => ∃ (j : Nat) (A' : Option Addr) (n' c' : Nat), j ≤ nl ∧ i = .int .i64 (j : Int) ∧ s = .slice A' n' c' ∧ n' = j ∧ Os 96 2 wr w.heap.size A' n' c' (prs .i64 (L.take j)) ∧ Below w.heap.size w wr) (fun _ i _ => nl - (intOf i).toNat)
  case atStart => exact ⟨0, none, 0, 0, Nat.zero_le _, rfl, rfl, rfl, Os.nil_, Below.refl _ _⟩
  case round =>
    obtain ⟨j, A', n', c', hj, rfl, rfl, rfl, hO, hE⟩ := hrel
    by_cases hlt : n' < nl
    · have ij : (n' : Int) < (nl : Int) := by omega
      have hjL : n' < L.length := by omega
      obtain ⟨bl, ol, rfl, hbl, -⟩ := hl.at_ (by omega) (by decide)
      obtain ⟨q0, q1⟩ := (hl.later hE).range2 n' hjL
      have hsn : L.take (n' + 1) = L.take n' ++ [L[n']] := by simp
      generalize L[n'] = p at *
      obtain ⟨a, b⟩ := p
      have HN := Lib.hid hsn
      have zb := hE.size
      have zq : bl < wr.heap.size := by omega
      simp only [] at q0 q1
      clear hsn
      go_upto_region 5 with (fail)
      go_wp2
      refine wp_relS 13 26 rfl (by kernel_rfl) (by kernel_rfl) ?_
      apply Steps.one (MP.eq _) 1 rfl
      · intro o ho FA x hO hD K hK
        obtain rfl := Option.some.inj ho.symm
        clear ho
        have e3 := hO 3 (by kernel_rfl)
        simp only [eval_tmp, List.getElem?_toArray, List.getElem?_cons_succ, List.getElem?_cons_zero, Option.getD_some] at e3
        have ev3 := Lib.hid ((eval_tmp FA 3).trans e3)
        clear hO hD
        go_simp
        exact hK.out _ _ (Ex.refl _) rfl
      apply Steps.one (MP.eq _) 2 rfl
      · intro o ho FA x hO hD K hK
        obtain rfl := Option.some.inj ho.symm
        clear ho
        have e0 := hO 0 (by kernel_rfl)
        simp only [eval_tmp, List.getElem?_toArray, List.getElem?_cons_succ, List.getElem?_cons_zero, Option.getD_some] at e0
        have ev0 := Lib.hid ((eval_tmp FA 0).trans e0)
        clear hO hD
        go_simp
        exact hK.out _ _ (Ex.refl _) rfl
      apply Steps.one (MP.eq _) 3 rfl
      · intro o ho FA x hO hD K hK
        obtain rfl := Option.some.inj ho.symm
        clear ho
        have e4 := hO 4 (by kernel_rfl)
        simp only [eval_tmp, List.getElem?_toArray, List.getElem?_cons_succ, List.getElem?_cons_zero, Option.getD_some] at e4
        have ev4 := Lib.hid ((eval_tmp FA 4).trans e4)
        clear hO hD
        go_simp
        exact hK.out _ _ (Ex.refl _) rfl
      apply Steps.one (MP.eq _) 4 rfl
      · intro o ho FA x hO hD K hK
        obtain rfl := Option.some.inj ho.symm
        clear ho
        have ev12 : FA.eval (.tmp 12) = _ := hD 1 12 (by kernel_rfl)
        have e12 := (eval_tmp FA 12).symm.trans ev12
        replace ev12 := Lib.hid ev12
        have ev13 : FA.eval (.tmp 13) = _ := hD 2 13 (by kernel_rfl)
        have e13 := (eval_tmp FA 13).symm.trans ev13
        replace ev13 := Lib.hid ev13
        clear hO hD
        go_simp
        exact hK.out _ _ (Ex.refl _) rfl
      apply Steps.one (MP.eq _) 5 rfl
      · intro o ho FA x hO hD K hK
        obtain rfl := Option.some.inj ho.symm
        clear ho
        have ev14 : FA.eval (.tmp 14) = _ := hD 3 14 (by kernel_rfl)
        have e14 := (eval_tmp FA 14).symm.trans ev14
        replace ev14 := Lib.hid ev14
        clear hO hD
        go_simp
        exact hK.out _ _ (Ex.refl _) rfl
      apply Steps.one (MP.eq _) 6 rfl
      · intro o ho FA x hO hD K hK
        obtain rfl := Option.some.inj ho.symm
        clear ho
        have ev15 : FA.eval (.tmp 15) = _ := hD 4 15 (by kernel_rfl)
        have e15 := (eval_tmp FA 15).symm.trans ev15
        replace ev15 := Lib.hid ev15
        clear hO hD
        refine wanted_if rfl ?_
        have c0 := (cellPl wr x.bs x.d zq).trans q0
        go_simp
        exact hK.out _ _ (Ex.refl _) rfl
      apply Steps.one (MP.eq _) 7 rfl
      · intro o ho FA x hO hD K hK
        obtain rfl := Option.some.inj ho.symm
        clear ho
        have e0 := hO 0 (by kernel_rfl)
        simp only [eval_tmp, List.getElem?_toArray, List.getElem?_cons_succ, List.getElem?_cons_zero, Option.getD_some] at e0
        have ev0 := Lib.hid ((eval_tmp FA 0).trans e0)
        clear hO hD
        go_simp
        exact hK.out _ _ (Ex.refl _) rfl
      apply Steps.one (MP.eq _) 8 rfl
      · intro o ho FA x hO hD K hK
        obtain rfl := Option.some.inj ho.symm
        clear ho
        have e4 := hO 4 (by kernel_rfl)
        simp only [eval_tmp, List.getElem?_toArray, List.getElem?_cons_succ, List.getElem?_cons_zero, Option.getD_some] at e4
        have ev4 := Lib.hid ((eval_tmp FA 4).trans e4)
        clear hO hD
        go_simp
        exact hK.out _ _ (Ex.refl _) rfl
      apply Steps.one (MP.eq _) 9 rfl
      · intro o ho FA x hO hD K hK
        obtain rfl := Option.some.inj ho.symm
        clear ho
        have ev17 : FA.eval (.tmp 17) = _ := hD 6 17 (by kernel_rfl)
        have e17 := (eval_tmp FA 17).symm.trans ev17
        replace ev17 := Lib.hid ev17
        have ev18 : FA.eval (.tmp 18) = _ := hD 7 18 (by kernel_rfl)
        have e18 := (eval_tmp FA 18).symm.trans ev18
        replace ev18 := Lib.hid ev18
        clear hO hD
        go_simp
        exact hK.out _ _ (Ex.refl _) rfl
      apply Steps.one (MP.eq _) 10 rfl
      · intro o ho FA x hO hD K hK
        obtain rfl := Option.some.inj ho.symm
        clear ho
        have ev19 : FA.eval (.tmp 19) = _ := hD 8 19 (by kernel_rfl)
        have e19 := (eval_tmp FA 19).symm.trans ev19
        replace ev19 := Lib.hid ev19
        clear hO hD
        go_simp
        exact hK.out _ _ (Ex.refl _) rfl
      apply Steps.one (MP.eq _) 11 rfl
      · intro o ho FA x hO hD K hK
        obtain rfl := Option.some.inj ho.symm
        clear ho
        have ev20 : FA.eval (.tmp 20) = _ := hD 9 20 (by kernel_rfl)
        have e20 := (eval_tmp FA 20).symm.trans ev20
        replace ev20 := Lib.hid ev20
        clear hO hD
        refine wanted_if rfl ?_
        have c0 := (cellPl wr x.bs x.d zq).trans q1
        go_simp
        exact hK.out _ _ (Ex.refl _) rfl
      apply Steps.one (MP.eq _) 12 rfl
      · intro o ho FA x hO hD K hK
        obtain rfl := Option.some.inj ho.symm
        clear ho
        have ev16 : FA.eval (.tmp 16) = _ := hD 5 16 (by kernel_rfl)
        have e16 := (eval_tmp FA 16).symm.trans ev16
        replace ev16 := Lib.hid ev16
        have ev21 : FA.eval (.tmp 21) = _ := hD 10 21 (by kernel_rfl)
        have e21 := (eval_tmp FA 21).symm.trans ev21
        replace ev21 := Lib.hid ev21
        clear hO hD
        go_simp
        exact hK.out _ _ (Ex.refl _) rfl
      apply Steps.one (MP.rs 2 [.int .i64 a, .int .i64 b]) 13 rfl
      · intro o ho FA x hO hD K hK
        obtain rfl := Option.some.inj ho.symm
        clear ho
        have ev22 : FA.eval (.tmp 22) = _ := hD 11 22 (by kernel_rfl)
        have e22 := (eval_tmp FA 22).symm.trans ev22
        replace ev22 := Lib.hid ev22
        clear hO hD
        go_simp
        exact hK.out _ _ (Ex.alloc _ _) ⟨_, _, _, rfl, Rs.of_bk (Bk.newK _ _ _ (by simp [size_plus]) rfl) rfl (Nat.le_refl _)⟩
      refine Steps.fin_ (fun vs x hp => ?_)
      have p0 : vs 0 = _ := hp 0 (by omega)
      have p1 : vs 1 = _ := hp 1 (by omega)
      have p2 : vs 2 = _ := hp 2 (by omega)
      have p3 : vs 3 = _ := hp 3 (by omega)
      have p4 : vs 4 = _ := hp 4 (by omega)
      have p5 : vs 5 = _ := hp 5 (by omega)
      have p6 : vs 6 = _ := hp 6 (by omega)
      have p7 : vs 7 = _ := hp 7 (by omega)
      have p8 : vs 8 = _ := hp 8 (by omega)
      have p9 : vs 9 = _ := hp 9 (by omega)
      have p10 : vs 10 = _ := hp 10 (by omega)
      have p11 : vs 11 = _ := hp 11 (by omega)
      have p12 := hp 12 (by omega)
      clear hp
      simp only [List.take_succ_cons, List.take_zero, List.drop_succ_cons, List.drop_zero, putAll, Nat.zero_add, Nat.reduceAdd, Act.put, List.setIfInBounds_toArray, List.set_cons_zero, List.set_cons_succ, p0, p1, p2, p3, p4, p5, p6, p7, p8, p9, p10, p11]
      clear p0 p1 p2 p3 p4 p5 p6 p7 p8 p9 p10 p11
      generalize vs 12 = y12 at *
      clear vs
      obtain ⟨A8, n8, c8, rfl, h8⟩ := p12
      have hn8 : n8 = 1 := by have := h8.1; simp at this; omega
      subst hn8
      replace hO := hO.plus_ x.bs x.d
      replace hE := belowP hE x.bs x.d
      have zb2 := hE.size
      generalize plus wr x.bs x.d = wr3 at *
      go_wp2_with (at_builtin; refine wpList_appS etMb rfl (.tmp 11) (.tmp 23) rfl rfl hO rfl h8 (by simp [Value.oneCell']) (by omega) zb2 ?_; intro A2 n2 c2 w4 hn2 hO4 hb4 hg4; subst hn2)
      exact ⟨⟨n' + 1, A2, _, c2, by omega, by go_num, rfl, rfl, by rw [HN.out, prs_append]; exact hO4, hE.trans hb4⟩, by simp [intOf]; omega⟩
    · have ij : ¬ (n' : Int) < (nl : Int) := by omega
      have e : L.take n' = L := List.take_of_length_le (by omega)
      have HO := Lib.hid hO
      rw [e] at HO
      clear hO e
      go_wp2
      go_ret
      exact RetRs.mk HO.out.rs hE
end Go.Proofs.Ytknoenceccpkhaa

/- The walk of HrwKeeps (chapter 16). -/
namespace Go.Proofs.Ytknoenceccpkhaa
open Go.RowKit
set_option linter.unusedVariables false
set_option linter.unusedSimpArgs false
attribute [local go_sem ↓] sliced_cut

attribute [local go_sem] cutA_zero

theorem Rb.litF (W : World) (cs : Array Value) (l : List UInt8) (n : Nat) (fz : Nat × Nat) (k : Nat) (hk : k = W.heap.size) (hn : l.length = n) (h : cs.toList = bcs l) : Rb (W.alloc (.cells cs 5 fz)) (some ⟨k, 0, none⟩) n n l := by
  subst hk
  refine ⟨hn, Nat.le_refl _, .inr ⟨W.heap.size, 0, rfl, by simp, fun i u hu => ?_⟩⟩
  have e : (W.alloc (.cells cs 5 fz)).cell? ⟨W.heap.size, 0 + i, none⟩ = cs[i]? := by
    unfold World.cell?
    simp only [heap_alloc_new, Nat.zero_add]
    rfl
  rw [e, ← Array.getElem?_toList, h]
  exact hu
def key1 : List UInt8 := [1, 0, 0, 0, 0, 0, 0, 0, 0, 0, 0, 0, 0, 0, 0, 0]
set_option maxHeartbeats 4000000 in
set_option maxRecDepth 100000 in
theorem awake16 (w : World) : Calls Try.prog 29 #[] w (RetV w (.bool true)) := by
  have HP := Lib.hid (fun (Al : Option Addr) (nl cl : Nat) (A : Option Addr) (n c : Nat) (w : World) (hr : Rb w A n c [120]) (hl : Rs 2 w Al nl cl (prs .i64 [((7 : Int), (1 : Int))])) (hm : n ≤ 1000) (hml : nl ≤ 1000) =>
    show Calls Try.prog 36 #[.agg #[.int .u8 1, .int .u8 0, .int .u8 0, .int .u8 0, .int .u8 0, .int .u8 0, .int .u8 0, .int .u8 0, .int .u8 0, .int .u8 0, .int .u8 0, .int .u8 0, .int .u8 0, .int .u8 0, .int .u8 0, .int .u8 0], .slice Al nl cl, .slice A n c] w (RetV w (.tuple #[.int .i64 7, .bool true])) from
      pick_any key1 rfl [((7 : Int), (1 : Int))] (fun p hp => by simp only [List.mem_cons, List.not_mem_nil, or_false] at hp; subst hp; decide) Al nl cl A n c [120] w hr hl hm hml)
  have kc := Lib.run_convert_bytes_const (P := Try.prog) (w.alloc (.cells #[.int .i64 7, .int .i64 1] 96)) 24 5 #[.int .u8 120] 1 1 Try.underlying24 Try.underlying5
  simp only [World.size_alloc] at kc
  go_enter Try.func29, Try.ntmps29
  go_upto_region 1 with (fail)
  refine wp_region_lit ?_
  iterate 5 (refine wpList_plain rfl (fun K hK => ?_); go_simp; with_reducible refine hK _ _ ?_; clear hK K)
  refine wpList_plain rfl (fun K hK => ?_)
  go_simp
  refine (HP.out _ 1 1 _ 1 1 _ (Rb.litF _ #[.int .u8 120] [120] 1 _ _ (by simp) rfl rfl) (Rs.of_bk ((Bk.new w _ #[.int .i64 7, .int .i64 1]).alloc _) rfl (by decide)) (by decide) (by decide)).mono ?_
  rintro e w1 ⟨bs1, d1, rfl, rfl⟩
  with_reducible refine hK _ _ ?_
  clear hK K
  iterate 5 (refine wpList_plain rfl (fun K hK => ?_); go_simp; with_reducible refine hK _ _ ?_; clear hK K)
  go_wp2
  go_ret
  exact RetV.is_ (by simp) (belowP (Below.allocS (Below.allocS (Below.refl _ _) _) _) _ _)
theorem szK16 (key : List UInt8) (hk : K16 key) : (Try.prog.info? 87).map (·.size) = some (bcs key).length := by rw [bcs_length, show key.length = 16 from hk]; kernel_rfl
theorem rowK16 : ∃ d, Try.prog.underlying 87 = some d ∧ d.isRow = true := ⟨_, Try.underlying87, rfl⟩
end Go.Proofs.Ytknoenceccpkhaa

/- Rows of bytes as one operation of a region that draws its order. -/
namespace Go.Proofs.Ytknoenceccpkhaa
open Go.RowKit
set_option linter.unusedVariables false

/-- rows of bytes -/
def MP.rdl (L : List (List UInt8)) : MP := ⟨fun v w => ∃ A m c, v = .slice A m c ∧ RdL w A m L, fun _ _ _ ⟨A, m, c, h1, cs, h2, h3, h4, h5⟩ h => ⟨A, m, c, h1, cs, h2, h3, (h4.below h.below).more h.below.size, fun i u hu => by
  obtain ⟨A', n, c, e, l, hl, hr⟩ := h5 i u hu
  exact ⟨A', n, c, e, l, hl, hr.later h.below⟩⟩⟩
inductive Rows_ (w : World) : List Value → List (List UInt8) → Prop
  | nil : Rows_ w [] []
  | cons {v : Value} {l : List UInt8} {vs : List Value} {L : List (List UInt8)} (h : ∃ A n c, v = .slice A n c ∧ Rb w A n c l) (r : Rows_ w vs L) : Rows_ w (v :: vs) (l :: L)
theorem Rows_.len {w : World} {vs : List Value} {L : List (List UInt8)} (h : Rows_ w vs L) : vs.length = L.length := by
  induction h with
  | nil => rfl
  | cons _ _ ih => simp [ih]
theorem Rows_.get {w : World} {vs : List Value} {L : List (List UInt8)} (h : Rows_ w vs L) : ∀ (i : Nat) (u : Value), vs[i]? = some u → ∃ (A' : Option Addr) (n c : Nat), u = Value.slice A' n c ∧ ∃ l, L[i]? = some l ∧ Rb w A' n c l := by
  induction h with
  | nil => intro i u hu; simp at hu
  | cons h _ ih =>
    intro i u hu
    cases i with
    | zero =>
      simp only [List.getElem?_cons_zero, Option.some.injEq] at hu
      subst hu
      obtain ⟨A, n, c, h1, h2⟩ := h
      exact ⟨A, n, c, h1, _, rfl, h2⟩
    | succ i => exact ih i u (by simpa using hu)
theorem RdL.litW {w : World} {k m : Nat} {t : TypeId} (cs : List Value) (L : List (List UInt8)) (hk : k = w.heap.size) (h : Rows_ w cs L) (hm : m = cs.length := by rfl) : RdL (w.alloc (.cells cs.toArray t)) (some ⟨k, 0, none⟩) m L := by
  subst hk hm
  refine ⟨cs, rfl, h.len.symm, .inr ⟨w.heap.size, 0, rfl, by simp, fun i u hu => ?_⟩, fun i u hu => ?_⟩
  · have := (Bk.new w t cs.toArray).cell i
    rw [Nat.zero_add, this]
    simpa using hu
  · obtain ⟨A', n, c, e, l, hl, hr⟩ := h.get i u hu
    exact ⟨A', n, c, e, l, hl, hr.alloc _⟩
end Go.Proofs.Ytknoenceccpkhaa

/- hrw.Rank; the reference's Score (chapter 16). -/
namespace Go.Proofs.Ytknoenceccpkhaa
open Go.RowKit
set_option linter.unusedVariables false
set_option linter.unusedSimpArgs false
attribute [local go_sem ↓] sliced_cut

attribute [local go_sem] cutA_zero

/-- the cells of ints, of scores -/
def itH (l : List Int) : List Value := l.map (Value.int .i64)
def usH (l : List Int) : List Value := l.map (Value.int .u64)
theorem itH_len (l : List Int) : (itH l).length = l.length := by simp [itH]
theorem usH_len (l : List Int) : (usH l).length = l.length := by simp [usH]
theorem itH_at (l : List Int) (i : Nat) (h : i < l.length) : (itH l)[i]? = some (.int .i64 l[i]) := by simp [itH, h]
theorem usH_at (l : List Int) (i : Nat) (h : i < l.length) : (usH l)[i]? = some (.int .u64 l[i]) := by simp [usH, h]
theorem itH_one (l : List Int) : ∀ u ∈ itH l, u.oneCell' = true := by intro u hu; simp [itH] at hu; obtain ⟨x, _, rfl⟩ := hu; rfl
theorem usH_one (l : List Int) : ∀ u ∈ usH l, u.oneCell' = true := by intro u hu; simp [usH] at hu; obtain ⟨x, _, rfl⟩ := hu; rfl
theorem itH_append (a b : List Int) : itH (a ++ b) = itH a ++ itH b := by simp [itH]
theorem etIH : ET Try.prog 57 3 (.int .i64 0) 1 8 := ⟨Try.underlying57, by kernel_rfl, rfl, by decide, by decide⟩
theorem etUH : ET Try.prog 172 27 (.int .u64 0) 1 8 := ⟨Try.underlying172, by kernel_rfl, rfl, by decide, by decide⟩
/-- what Rank makes -/
noncomputable def rankL (key b : List UInt8) (L : List (Int × Int)) : List (Int × Int) := srtL (scd (scoreI key b) L)
set_option maxHeartbeats 4000000 in
set_option maxRecDepth 100000 in
theorem rank_any (key : List UInt8) (hk0 : K16 key) (L : List (Int × Int)) (hL : Light L) (h12 : L.length ≤ 12) (Al : Option Addr) (nl cl : Nat) (A : Option Addr) (n c : Nat) (b : List UInt8) (w : World) (hr : Rb w A n c b) (hl : Rs 2 w Al nl cl (prs .i64 L)) (hm : n ≤ 1000) (hml : nl ≤ 1000) :
    Calls Try.prog 31 #[.agg (bcs key).toArray, .slice Al nl cl, .slice A n c] w (RetRs 1 w (itH ((rankL key b L).map (·.1)))) := by
  obtain ⟨dk, u1, u2, u3⟩ := rowKey
  have hsl := scd_len (scoreI key b) L
  have HS := Lib.hid (fun w (h : Rb w A n c b) (h2 : Rs 2 w Al nl cl (prs .i64 L)) => scores_own key hk0 L hL Al nl cl A n c b w h h2 hm hml)
  obtain ⟨P, hP0⟩ : ∃ P, scd (scoreI key b) L = P := ⟨_, rfl⟩
  obtain ⟨S, hS0⟩ : ∃ S, srtL P = S := ⟨_, rfl⟩
  have eR : rankL key b L = S := by unfold rankL; rw [hP0, hS0]
  rw [eR]
  rw [hP0] at HS hsl
  have HSS := Lib.hid hS0
  clear eR hP0 hS0
  have hk : Bk (w.alloc (.cells (bcs key).toArray 165)) w.heap.size 165 (bcs key) := Bk.new w 165 (bcs key).toArray
  have be : Below w.heap.size w (w.alloc (.cells (bcs key).toArray 165)) := Below.allocS (Below.refl _ _) _
  have zV : w.heap.size + 1 ≤ (w.alloc (.cells (bcs key).toArray 165)).heap.size := by simp
  go_enter Try.func31, Try.ntmps31
  go_upto_region 1 with (fail)
  generalize w.alloc (.cells (bcs key).toArray 165) = V at *
  replace hr := hr.later be
  replace hl := hl.later be
  clear hL
  go_upto_region 2 with (first
    | (refine at_op (.load 165 (.tmp 3)) rfl ?_; refine wpList_ldA (t := 165) 165 (.tmp 3) rfl rfl (bcs key) rfl (hk) (whole_ _) u1 u2 (szKey key hk0) ?_)
    | (go_at_call 92; refine (HS.out _ hr hl).mono ?_; rintro e w2 ⟨A2, n2, c2, bs2, d2, rfl, rfl, hO⟩))
  have hg0 := be.size
  have hgb : w.heap.size ≤ V.heap.size := be.size
  replace be := belowP be bs2 d2
  generalize plus V bs2 d2 = w2 at *
  have hn2 := hO.rs.1
  rw [prs_length] at hn2
  have hPn : P.length = n2 := by omega
  clear hk hr hl HS hn2
  by_cases h0 : n2 = 0
  · subst h0
    have hP : P = [] := List.eq_nil_of_length_eq_zero hPn
    subst hP
    obtain rfl : S = [] := HSS.out.symm
    go_upto_region 3 with (go_at_call 93; refine (sortF_none A2 c2 w2).mono ?_; rintro e w3 ⟨rfl, hb3⟩)
    replace be := be.trans (hb3.mono be.size)
    clear hb3 hO
    go_upto_region 5 with (fail)
    have HE := Lib.hid be
    clear be
    go_loopw [19, 8] (fun I R wr => I = .int .i64 0 ∧ R = .slice none 0 0 ∧ Below w.heap.size w wr) (fun _ _ _ => 0)
    case atStart => exact ⟨rfl, rfl, HE.out⟩
    case round =>
      obtain ⟨rfl, rfl, hE⟩ := hrel
      go_wp2
      go_ret
      exact RetRs.mk Rs.nil_ hE
  have hform : ∃ (g : Nat) (sp : List Value), A2 = some ⟨g, 0, none⟩ ∧ V.heap.size ≤ g ∧ Bk w2 g 170 (prs .u64 P ++ sp) ∧ n2 ≤ c2 := by
    have hO2 : w2.ownsRow V.heap.size 170 2 (.slice A2 n2 c2) n2 (prs .u64 P) := hO
    rcases hO2.2 with ⟨_, hz⟩ | ⟨g, cap, cur, hv, hg, hheap, hnc, hmx, hsz, htk⟩
    · exact absurd hz h0
    · injection hv with e1 e2 e3
      subst e1 e3
      refine ⟨g, cur.toList.drop (n2 * 2), rfl, hg, ?_, hnc⟩
      have e : cur.toList = prs .u64 P ++ cur.toList.drop (n2 * 2) := by
        have h9 : cur.toList.take (n2 * 2) = prs .u64 P := by first | exact htk | (have h8 := htk; rw [prs_length, hPn] at h8; exact h8)
        rw [← h9, List.take_append_drop]
      unfold Bk
      rw [← e]
      exact hheap
  obtain ⟨g, sp, rfl, hgV, hB, hc2⟩ := hform
  clear hO
  go_upto_region 3 with (go_at_call 93; refine (sortF_any P sp g n2 c2 w2 hB hPn (by omega) (by omega) hc2).mono ?_; rintro e w3 ⟨rfl, hB3, hW3⟩)
  have hbe3 := be.trans ((hW3.below (B := w.heap.size) (fun b hb => by omega) be.size).mono (Nat.le_refl _))
  have hlS := srtL_len P
  rw [HSS.out] at hB3 hlS
  clear hB hW3 be
  go_upto_region 5 with (fail)
  have HE := Lib.hid hbe3
  have HB := Lib.hid hB3
  clear hbe3 hB3
  go_loopw [19, 8, 10] (fun I R A10 wr => ∃ (j : Nat) (A' : Option Addr) (n' c' : Nat), I = .int .i64 (j : Int) ∧ j ≤ n2 ∧ R = .slice A' n' c' ∧ Os 3 1 wr (g + 1) A' n' c' (itH ((S.take j).map (·.1))) ∧ Bk wr g 170 (prs .u64 S ++ sp) ∧ Below w.heap.size w wr) (fun I _ _ _ => n2 - (intOf I).toNat)
  case atStart => exact ⟨0, none, 0, 0, rfl, Nat.zero_le _, rfl, by simpa [itH] using (Os.nil_ : Os 3 1 w3 (g + 1) none 0 0 []), HB.out, HE.out⟩
  case round =>
    clear HE HB
    obtain ⟨j, A', n', c', rfl, hj, rfl, hO, hB, hE⟩ := hrel
    by_cases hlt : j < n2
    · have ij : (j : Int) < (n2 : Int) := by omega
      have hjS : j < S.length := by omega
      have hrg := prs_range (k := j) hB hjS
      have q0 : wr.cell? ⟨g, j * 2, none⟩ = _ := hrg 0 _ rfl
      have q1 : wr.cell? ⟨g, j * 2 + 1, none⟩ = _ := hrg 1 _ rfl
      have hgd : S.getD j (0, 0) = S[j] := by rw [List.getD_eq_getElem?_getD, List.getElem?_eq_getElem hjS, Option.getD_some]
      have hsn : (S.take (j + 1)).map (·.1) = (S.take j).map (·.1) ++ [(S.getD j (0, 0)).1] := by rw [List.take_succ_eq_append_getElem hjS, List.map_append, hgd]; rfl
      have HSN := Lib.hid hsn
      have hn' : n' ≤ 1000 := by have := hO.rs.1; rw [itH_len] at this; simp at this; omega
      generalize S.getD j (0, 0) = y at *
      obtain ⟨yi, yv⟩ := y
      have hgl := hB.lt
      clear hrg hgd hsn
      go_upto_region 7 with (fail)
      have b1 : Below wr.heap.size wr ((wr.alloc (.cells #[.int .i64 yi, .int .u64 yv] 170)).alloc (.cells #[.int .i64 yi] 3)) := Below.allocS (Below.allocS (Below.refl _ _) _) _
      have h8 : Rs 1 ((wr.alloc (.cells #[.int .i64 yi, .int .u64 yv] 170)).alloc (.cells #[.int .i64 yi] 3)) (some ⟨wr.heap.size + 1, 0, none⟩) 1 1 (itH [yi]) := Rs.of_bk (t := 3) (Bk.newK _ _ _ (by simp) rfl) rfl (Nat.le_refl _)
      have hO2 := hO.later b1
      have hB2 := hB.later b1
      have hE2 := hE.trans (b1.mono hE.size)
      have hgl2 : g + 1 ≤ ((wr.alloc (.cells #[.int .i64 yi, .int .u64 yv] 170)).alloc (.cells #[.int .i64 yi] 3)).heap.size := by simp; omega
      refine wp_region_lit ?_
      iterate 4 (refine wpList_plain rfl (fun K hK => ?_); go_simp; with_reducible refine hK _ _ ?_; clear hK K)
      refine wpList_appS etIH rfl (.tmp 23) (.tmp 26) rfl rfl hO2 rfl h8 (itH_one _) (by omega) hgl2 ?_
      intro A3 n3 c3 w4 hn3 hO4 hb4 hg4
      subst hn3
      simp only [Act.put, List.setIfInBounds_toArray, List.set_cons_zero, List.set_cons_succ]
      have hB4 := hB2.below hb4 (by omega)
      have hE4 := hE2.trans (hb4.mono (by omega))
      rw [← itH_append, ← HSN.out] at hO4
      have HO4 := Lib.hid hO4
      clear hO hO2 hB hB2 hE hE2 b1 h8 q0 q1 hb4 hg4 hO4
      go_wp2
      exact ⟨⟨j + 1, A3, _, c3, by go_num, by omega, rfl, HO4.out, hB4, hE4⟩, by simp [intOf]; omega⟩
    · obtain rfl : n2 = j := by omega
      have ij : ¬ (n2 : Int) < (n2 : Int) := by omega
      rw [List.take_of_length_le (by omega)] at hO
      have HO := Lib.hid hO
      clear hO
      go_wp2
      go_ret
      exact RetRs.mk HO.out.rs hE
end Go.Proofs.Ytknoenceccpkhaa

/- The reference's Score (chapter 16). -/
namespace Go.Proofs.Ytknoenceccpkhaa
open Go.RowKit
set_option linter.unusedVariables false
set_option linter.unusedSimpArgs false
attribute [local go_sem ↓] sliced_cut

attribute [local go_sem] cutA_zero

theorem ofNat_mod8 (n : Nat) : UInt8.ofNat (n % 256) = UInt8.ofNat n := by
  apply UInt8.toNat_inj.1
  simp
theorem msg_flat (id i : Nat) (b : List UInt8) : ([[UInt8.ofNat 5], dig id 4, dig i 2, b] : List (List UInt8)).flatten = msgS id i b := by
  have e : dig i 2 = [UInt8.ofNat (i / 256), UInt8.ofNat i] := by
    show (([] : List UInt8) ++ [UInt8.ofNat (i / 256 % 256)]) ++ [UInt8.ofNat (i % 256)] = _
    rw [ofNat_mod8, ofNat_mod8]
    rfl
  unfold msgS
  rw [e]
  simp
set_option maxHeartbeats 4000000 in
set_option maxRecDepth 100000 in
theorem refScore_any (key : List UInt8) (hk0 : K16 key) (id : Nat) (wt : Int) (A : Option Addr) (n c : Nat) (b : List UInt8) (w : World) (hr : Rb w A n c b) (hm : n ≤ 1000) (hid : id < 4294967296) (hw : wt ≤ 60) :
    Calls Try.prog 35 #[.agg (bcs key).toArray, .agg (mbC ((id : Int), wt)).toArray, .slice A n c] w (RetV w (.int .u64 (scoreI key b ((id : Int), wt)))) := by
  obtain ⟨dk, u1, u2⟩ := rowK16
  obtain ⟨B, hB0⟩ : ∃ B, scoreI key b ((id : Int), wt) = B := ⟨_, rfl⟩
  obtain ⟨m, hm0⟩ : ∃ m, wt.toNat = m := ⟨_, rfl⟩
  have hBm : B = ((bestS key id b m : Nat) : Int) := by rw [← hB0]; unfold scoreI; simp only [Int.toNat_natCast]; rw [hm0, Nat.min_eq_left (by omega)]
  rw [hB0]
  have HBM := Lib.hid hBm
  clear hB0 hBm
  obtain ⟨dm1, m1, m2⟩ := rowRm
  have hk : Bk ((w.alloc (.cells (bcs key).toArray 87)).alloc (.cells (mbC ((id : Int), wt)).toArray 98)) w.heap.size 87 (bcs key) := (Bk.new w 87 (bcs key).toArray).alloc _
  have hM : Bk ((w.alloc (.cells (bcs key).toArray 87)).alloc (.cells (mbC ((id : Int), wt)).toArray 98)) (w.heap.size + 1) 98 (mbC ((id : Int), wt)) := Bk.newK _ _ _ (by simp) rfl
  have be : Below w.heap.size w ((w.alloc (.cells (bcs key).toArray 87)).alloc (.cells (mbC ((id : Int), wt)).toArray 98)) := Below.allocS (Below.allocS (Below.refl _ _) _) _
  replace hr := ((hr.alloc (.cells (bcs key).toArray 87)).alloc (.cells (mbC ((id : Int), wt)).toArray 98))
  have zV : w.heap.size + 2 ≤ ((w.alloc (.cells (bcs key).toArray 87)).alloc (.cells (mbC ((id : Int), wt)).toArray 98)).heap.size := by simp
  go_enter Try.func35, Try.ntmps35
  go_upto_region 1 with (fail)
  generalize (w.alloc (.cells (bcs key).toArray 87)).alloc (.cells (mbC ((id : Int), wt)).toArray 98) = V at *
  have q1 : V.cell? ⟨w.heap.size + 1, 1, none⟩ = some (.int .i64 wt) := hM.cell 1
  go_upto_region 3 with (fail)
  have HE := Lib.hid be
  have HK := Lib.hid hk
  have HM := Lib.hid hM
  clear q1 be hk hM
  go_loopw [7, 8, 9] (fun X I A9 wr => ∃ i : Nat, I = .int .i64 (i : Int) ∧ i ≤ m ∧ X = .int .u64 ((bestS key id b i : Nat) : Int) ∧ Bk wr w.heap.size 87 (bcs key) ∧ Bk wr (w.heap.size + 1) 98 (mbC ((id : Int), wt)) ∧ Below w.heap.size w wr ∧ Below V.heap.size V wr) (fun _ I _ _ => m - (intOf I).toNat)
  case atStart => exact ⟨0, rfl, Nat.zero_le _, rfl, HK.out, HM.out, HE.out, Below.refl _ _⟩
  case round =>
    clear HE HK HM
    obtain ⟨i, rfl, hi, rfl, hk2, hM2, hE, hV⟩ := hrel
    have q1 : wr.cell? ⟨w.heap.size + 1, 1, none⟩ = some (.int .i64 wt) := hM2.cell 1
    by_cases hlt : i < m
    · have ii : (i : Int) < wt := by omega
      have HB := Lib.hid (fun (W : World) (h : Below wr.heap.size wr W) => ((hr.later hV).later h : Rb W A n c b))
      have HC := Lib.hid (fun (W : World) (h : Below wr.heap.size wr W) => show W.cell? ⟨w.heap.size + 1, 0, none⟩ = some (.int .i64 (id : Int)) from (hM2.later h).cell 0)
      have wf0 : IntKind.u64.wrap (id : Int) = (id : Int) := IntWalk.u64_in _ (by omega)
      have wf1 : IntKind.u64.wrap (i : Int) = (i : Int) := IntWalk.u64_in _ (by omega)
      have HT : Hid (([[UInt8.ofNat (5)], (dig (id) 4), (dig (i) 2), b] : List (List UInt8)).flatten.length ≤ 549755813888) := Lib.hid (by have := hr.1; simp [dig_length]; omega)
      have hmax : bestS key id b (i + 1) = max (bestS key id b i) (sip key (msgS id i b)).toNat := rfl
      have HSU := Lib.hid (fun A1 n1 c1 W (h : Rb W A1 n1 c1 ([[UInt8.ofNat (5)], (dig (id) 4), (dig (i) 2), b] : List (List UInt8)).flatten) => (refSum_any key hk0 A1 n1 c1 (msgS id i b) W (by rw [← msg_flat]; exact h) (by have h1 := h.1; have h2 := HT.out; omega)))
      have hY := UInt64.toNat_lt (sip key (msgS id i b))
      generalize sip key (msgS id i b) = Y at *
      generalize Y.toNat = X at *
      have hb1 := bestS_lt key id b i
      have HMX := Lib.hid hmax
      clear hmax
      generalize bestS key id b i = z at *
      have hz9 := hE.size
      go_upto_region 5 with (fail)
      go_wp2
      refine wp_relS 14 34 rfl (by kernel_rfl) (by kernel_rfl) ?_
      apply Steps.one (MP.eq (.agg (bcs key).toArray)) 1 rfl
      · intro o ho FA x hO hD K hK
        obtain rfl := Option.some.inj ho.symm
        clear ho
        have e3 := hO 3 (by kernel_rfl)
        simp only [eval_tmp, List.getElem?_toArray, List.getElem?_cons_succ, List.getElem?_cons_zero, Option.getD_some] at e3
        have ev3 := Lib.hid ((eval_tmp FA 3).trans e3)
        clear hO hD
        refine wanted_if rfl ?_
        refine wp_ldA 87 (.tmp 3) rfl (bcs key) ev3.out (hk2.later (below_plus _ _ _)) (whole_ _) u1 u2 (szK16 key hk0) ?_
        exact hK.out _ _ (Ex.refl _) rfl
      apply Steps.one (MP.rb [UInt8.ofNat (5)]) 2 rfl
      · intro o ho FA x hO hD K hK
        obtain rfl := Option.some.inj ho.symm
        clear ho
        clear hO hD
        go_simp
        refine hK.out _ _ (Ex.alloc _ _) ⟨_, _, _, rfl, ?_⟩
        refine Rb.litW _ [UInt8.ofNat (5)] ?_ rfl (by decide) ?_
        · simp [size_plus]
        · simp [bcs]; try omega
      apply Steps.one (MP.eq (.pointer (some ⟨w.heap.size + 1, 0, none⟩))) 3 rfl
      · intro o ho FA x hO hD K hK
        obtain rfl := Option.some.inj ho.symm
        clear ho
        have e4 := hO 4 (by kernel_rfl)
        simp only [eval_tmp, List.getElem?_toArray, List.getElem?_cons_succ, List.getElem?_cons_zero, Option.getD_some] at e4
        have ev4 := Lib.hid ((eval_tmp FA 4).trans e4)
        clear hO hD
        go_simp
        exact hK.out _ _ (Ex.refl _) rfl
      apply Steps.one (MP.eq (.int .i64 (id : Int))) 4 rfl
      · intro o ho FA x hO hD K hK
        obtain rfl := Option.some.inj ho.symm
        clear ho
        have ev18 : FA.eval (.tmp 18) = _ := hD 2 18 (by kernel_rfl)
        have e18 := (eval_tmp FA 18).symm.trans ev18
        replace ev18 := Lib.hid ev18
        clear hO hD
        have q9 := HC.out (plus wr x.bs x.d) (below_plus _ _ _)
        go_simp
        exact hK.out _ _ (Ex.refl _) rfl
      apply Steps.one (MP.eq _) 5 rfl
      · intro o ho FA x hO hD K hK
        obtain rfl := Option.some.inj ho.symm
        clear ho
        have ev19 : FA.eval (.tmp 19) = _ := hD 3 19 (by kernel_rfl)
        have e19 := (eval_tmp FA 19).symm.trans ev19
        replace ev19 := Lib.hid ev19
        clear hO hD
        go_simp
        exact hK.out _ _ (Ex.refl _) rfl
      apply Steps.one (MP.rb (dig (id) 4)) 6 rfl
      · intro o ho FA x hO hD K hK
        obtain rfl := Option.some.inj ho.symm
        clear ho
        have ev20 : FA.eval (.tmp 20) = _ := hD 4 20 (by kernel_rfl)
        have e20 := (eval_tmp FA 20).symm.trans ev20
        replace ev20 := Lib.hid ev20
        clear hO hD
        go_simp
        refine (refBytes_any (id) 4 _ (by omega) (by omega)).mono ?_
        rintro e w1 ⟨A2, n2, c2, bs2, d2, rfl, rfl, ho2⟩
        exact hK.out _ _ (Ex.plus_ _ _ _) ⟨_, _, _, rfl, ho2.rb⟩
      apply Steps.one (MP.eq _) 7 rfl
      · intro o ho FA x hO hD K hK
        obtain rfl := Option.some.inj ho.symm
        clear ho
        have e8 := hO 8 (by kernel_rfl)
        simp only [eval_tmp, List.getElem?_toArray, List.getElem?_cons_succ, List.getElem?_cons_zero, Option.getD_some] at e8
        have ev8 := Lib.hid ((eval_tmp FA 8).trans e8)
        clear hO hD
        go_simp
        exact hK.out _ _ (Ex.refl _) rfl
      apply Steps.one (MP.eq _) 8 rfl
      · intro o ho FA x hO hD K hK
        obtain rfl := Option.some.inj ho.symm
        clear ho
        have ev22 : FA.eval (.tmp 22) = _ := hD 6 22 (by kernel_rfl)
        have e22 := (eval_tmp FA 22).symm.trans ev22
        replace ev22 := Lib.hid ev22
        clear hO hD
        go_simp
        exact hK.out _ _ (Ex.refl _) rfl
      apply Steps.one (MP.rb (dig (i) 2)) 9 rfl
      · intro o ho FA x hO hD K hK
        obtain rfl := Option.some.inj ho.symm
        clear ho
        have ev23 : FA.eval (.tmp 23) = _ := hD 7 23 (by kernel_rfl)
        have e23 := (eval_tmp FA 23).symm.trans ev23
        replace ev23 := Lib.hid ev23
        clear hO hD
        go_simp
        refine (refBytes_any (i) 2 _ (by omega) (by omega)).mono ?_
        rintro e w1 ⟨A2, n2, c2, bs2, d2, rfl, rfl, ho2⟩
        exact hK.out _ _ (Ex.plus_ _ _ _) ⟨_, _, _, rfl, ho2.rb⟩
      apply Steps.one (MP.eq _) 10 rfl
      · intro o ho FA x hO hD K hK
        obtain rfl := Option.some.inj ho.symm
        clear ho
        have e2 := hO 2 (by kernel_rfl)
        simp only [eval_tmp, List.getElem?_toArray, List.getElem?_cons_succ, List.getElem?_cons_zero, Option.getD_some] at e2
        have ev2 := Lib.hid ((eval_tmp FA 2).trans e2)
        clear hO hD
        go_simp
        exact hK.out _ _ (Ex.refl _) rfl
      apply Steps.one (MP.rdl [[UInt8.ofNat (5)], (dig (id) 4), (dig (i) 2), b]) 11 rfl
      · intro o ho FA x hO hD K hK
        obtain rfl := Option.some.inj ho.symm
        clear ho
        have f17 := hD 1 17 (by kernel_rfl)
        generalize eu17 : FA.eval (.tmp 17) = u17 at f17
        have e17 := (eval_tmp FA 17).symm.trans eu17
        have ev17 := Lib.hid eu17
        clear eu17
        have f21 := hD 5 21 (by kernel_rfl)
        generalize eu21 : FA.eval (.tmp 21) = u21 at f21
        have e21 := (eval_tmp FA 21).symm.trans eu21
        have ev21 := Lib.hid eu21
        clear eu21
        have f24 := hD 8 24 (by kernel_rfl)
        generalize eu24 : FA.eval (.tmp 24) = u24 at f24
        have e24 := (eval_tmp FA 24).symm.trans eu24
        have ev24 := Lib.hid eu24
        clear eu24
        have ev25 : FA.eval (.tmp 25) = _ := hD 9 25 (by kernel_rfl)
        have e25 := (eval_tmp FA 25).symm.trans ev25
        replace ev25 := Lib.hid ev25
        clear hO hD
        obtain ⟨A17, n17, c17, rfl, h17⟩ := f17
        obtain ⟨A21, n21, c21, rfl, h21⟩ := f21
        obtain ⟨A24, n24, c24, rfl, h24⟩ := f24
        go_simp
        refine hK.out _ _ (Ex.alloc _ _) ⟨_, _, _, rfl, ?_⟩
        refine RdL.litW _ _ ?_ ?_
        · simp [size_plus]
        · exact .cons ⟨_, _, _, rfl, h17⟩ (.cons ⟨_, _, _, rfl, h21⟩ (.cons ⟨_, _, _, rfl, h24⟩ (.cons ⟨_, _, _, rfl, HB.out _ (below_plus _ _ _)⟩ (.nil))))
      apply Steps.one (MP.ob w.heap.size ([[UInt8.ofNat (5)], (dig (id) 4), (dig (i) 2), b]).flatten) 12 rfl
      · intro o ho FA x hO hD K hK
        obtain rfl := Option.some.inj ho.symm
        clear ho
        have f26 := hD 10 26 (by kernel_rfl)
        generalize eu26 : FA.eval (.tmp 26) = u26 at f26
        have e26 := (eval_tmp FA 26).symm.trans eu26
        have ev26 := Lib.hid eu26
        clear eu26
        clear hO hD
        obtain ⟨A1, m1, c1, rfl, hl1⟩ := f26
        have hm1 : m1 ≤ 100 := by obtain ⟨_, _, h2, _⟩ := hl1; simp only [List.length_cons, List.length_nil] at h2; omega
        go_simp
        refine (refJoin_any A1 m1 c1 _ _ hl1 (by omega) HT.out).mono ?_
        rintro e w1 ⟨A2, n2, c2, bs2, d2, rfl, rfl, ho2⟩
        exact hK.out _ _ (Ex.plus_ _ _ _) ⟨_, _, _, rfl, ho2.mono (by simp [size_plus]; omega)⟩
      apply Steps.one (MP.eq (.int .u64 (X : Int))) 13 rfl
      · intro o ho FA x hO hD K hK
        obtain rfl := Option.some.inj ho.symm
        clear ho
        have ev16 : FA.eval (.tmp 16) = _ := hD 0 16 (by kernel_rfl)
        have e16 := (eval_tmp FA 16).symm.trans ev16
        replace ev16 := Lib.hid ev16
        have f27 := hD 11 27 (by kernel_rfl)
        generalize eu27 : FA.eval (.tmp 27) = u27 at f27
        have e27 := (eval_tmp FA 27).symm.trans eu27
        have ev27 := Lib.hid eu27
        clear eu27
        clear hO hD
        obtain ⟨A1, n1, c1, rfl, ho1⟩ := f27
        go_simp
        refine (HSU.out A1 n1 c1 _ ho1.rb).mono ?_
        rintro e w1 ⟨bs2, d2, rfl, rfl⟩
        exact hK.out _ _ (Ex.plus_ _ _ _) rfl
      apply Steps.one (MP.eq _) 14 rfl
      · intro o ho FA x hO hD K hK
        obtain rfl := Option.some.inj ho.symm
        clear ho
        have ev28 : FA.eval (.tmp 28) = _ := hD 12 28 (by kernel_rfl)
        have e28 := (eval_tmp FA 28).symm.trans ev28
        replace ev28 := Lib.hid ev28
        clear hO hD
        go_simp
        exact hK.out _ _ (Ex.refl _) rfl
      refine Steps.fin_ (fun vs x hp => ?_)
      have p0 : vs 0 = _ := hp 0 (by omega)
      have p1 := hp 1 (by omega)
      have p2 : vs 2 = _ := hp 2 (by omega)
      have p3 : vs 3 = _ := hp 3 (by omega)
      have p4 : vs 4 = _ := hp 4 (by omega)
      have p5 := hp 5 (by omega)
      have p6 : vs 6 = _ := hp 6 (by omega)
      have p7 : vs 7 = _ := hp 7 (by omega)
      have p8 := hp 8 (by omega)
      have p9 : vs 9 = _ := hp 9 (by omega)
      have p10 := hp 10 (by omega)
      have p11 := hp 11 (by omega)
      have p12 : vs 12 = _ := hp 12 (by omega)
      have p13 : vs 13 = _ := hp 13 (by omega)
      clear hp
      simp only [List.take_succ_cons, List.take_zero, List.drop_succ_cons, List.drop_zero, putAll, Nat.zero_add, Nat.reduceAdd, Act.put, List.setIfInBounds_toArray, List.set_cons_zero, List.set_cons_succ, p0, p2, p3, p4, p6, p7, p9, p12, p13]
      clear p0 p2 p3 p4 p6 p7 p9 p12 p13
      generalize vs 1 = y1 at *
      generalize vs 5 = y5 at *
      generalize vs 8 = y8 at *
      generalize vs 10 = y10 at *
      generalize vs 11 = y11 at *
      clear vs
      have hk3 := hk2.later (below_plus wr x.bs x.d)
      have hM3 := hM2.later (below_plus wr x.bs x.d)
      have hE3 := belowP hE x.bs x.d
      have hV3 := belowP hV x.bs x.d
      have HN : Hid (([[UInt8.ofNat (5)], (dig (id) 4), (dig (i) 2), b] : List (List UInt8)).flatten.length = ([[UInt8.ofNat (5)], (dig (id) 4), (dig (i) 2), b] : List (List UInt8)).flatten.length) := Lib.hid rfl
      clear hk2 hM2 hE hV q1 HN
      by_cases hg : z < X
      · have ig : (z : Int) < (X : Int) := by omega
        have e : max z X = X := by omega
        have HX := HMX.out
        rw [e] at HX
        have HX2 := Lib.hid HX
        clear HX e
        go_wp2
        exact ⟨⟨i + 1, by go_num, by omega, by rw [HX2.out], hk3, hM3, hE3, hV3⟩, by simp [intOf]; omega⟩
      · have ig : ¬ (z : Int) < (X : Int) := by omega
        have e : max z X = z := by omega
        have HX := HMX.out
        rw [e] at HX
        have HX2 := Lib.hid HX
        clear HX e
        go_wp2
        exact ⟨⟨i + 1, by go_num, by omega, by rw [HX2.out], hk3, hM3, hE3, hV3⟩, by simp [intOf]; omega⟩
    · have ii : ¬ (i : Int) < wt := by omega
      obtain rfl : m = i := by omega
      go_wp2
      go_ret
      exact RetV.is_ (by rw [HBM.out]; rfl) hE
end Go.Proofs.Ytknoenceccpkhaa

