/- hrw.Score (chapter 16): a plain number of key, member and bytes. -/
import Derived.Test.YtfmkndemkpecpaaHrwA
import Derived.Test.YtfmkndemkpecpaaRing
import Derived.Test.YtfmkndemkpecpaaOctet
namespace Go.Proofs.Ytfmkndemkpecpaa
open Go.RowKit
set_option linter.unusedVariables false
set_option linter.unusedSimpArgs false
attribute [local go_sem ↓] sliced_cut
attribute [local go_sem] cutA_zero

/-- a member's cells -/
def mbC (p : Int × Int) : List Value := [.int .i64 p.1, .int .i64 p.2]
theorem mbC_one (p : Int × Int) : ∀ u ∈ mbC p, u.oneCell' = true := by simp [mbC, Value.oneCell']
theorem szMb (p : Int × Int) : (Try.prog.info? 82).map (·.size) = some (mbC p).length := by kernel_rfl
theorem rowMb : ∃ d, Try.prog.underlying 82 = some d ∧ d.isRow = true := ⟨_, Try.underlying82, rfl⟩
/-- what is summed for a member's i-th sum -/
def msgS (id i : Nat) (b : List UInt8) : List UInt8 := [5] ++ dig id 4 ++ [UInt8.ofNat (i / 256), UInt8.ofNat i] ++ b
noncomputable def bestS (key : List UInt8) (id : Nat) (b : List UInt8) : Nat → Nat
  | 0 => 0
  | i + 1 => max (bestS key id b i) (sip key (msgS id i b)).toNat
noncomputable def scoreI (key b : List UInt8) (p : Int × Int) : Int := (bestS key p.1.toNat b (min p.2.toNat 65536) : Nat)
theorem bestS_lt (key : List UInt8) (id : Nat) (b : List UInt8) : ∀ i, bestS key id b i < 18446744073709551616
  | 0 => by simp [bestS]
  | i + 1 => Nat.max_lt.2 ⟨bestS_lt key id b i, (sip key (msgS id i b)).toNat_lt⟩
/-- a byte of a row of the call's own is set -/
theorem Ob.set_ {w : World} {base g n c i : Nat} {l : List UInt8} (h : Ob w base (some ⟨g, 0, none⟩) n c l) (hi : i < n) (v : UInt8) : Ob (w.setCell ⟨g, i, none⟩ (.int .u8 (v.toNat : Int))) base (some ⟨g, 0, none⟩) n c (l.set i v) := by
  obtain ⟨h1, h2, h3⟩ := h
  refine ⟨by simpa using h1, by simpa [bcs] using h2, ?_⟩
  rcases h3 with ⟨hv, _⟩ | ⟨g', cap, cur, hv, hb, hg, hn, hm, hs, ht⟩
  · cases hv
  · injection hv with e1 e2 e3
    injection e1 with e1
    injection e1 with e1
    subst e1 e3
    refine .inr ⟨g, c, cur.set! i (.int .u8 (v.toNat : Int)), rfl, hb, ?_, hn, hm, by simpa using hs, ?_⟩
    · simp [World.setCell, Array.getElem?_modify, hg]
    · simp only [Array.set!_eq_setIfInBounds, Array.toList_setIfInBounds, List.take_set]
      rw [ht]
      simp [bcs, List.map_set]
theorem Ob.cellF {w : World} {base g n c i : Nat} {l : List UInt8} (h : Ob w base (some ⟨g, 0, none⟩) n c l) (hi : i < n) : (∃ v, w.cell? ⟨g, i, none⟩ = some (.int .u8 v)) ∧ w.frozen? ⟨g, i, none⟩ = false := by
  obtain ⟨h1, h2, h3⟩ := h
  rcases h3 with ⟨hv, _⟩ | ⟨g', cap, cur, hv, hb, hg, hn, hm, hs, ht⟩
  · cases hv
  · injection hv with e1 e2 e3
    injection e1 with e1
    injection e1 with e1
    subst e1 e3
    constructor
    · have hc : (bcs l)[i]? = some (.int .u8 (l[i].toNat : Int)) := bcs_get l i (by omega)
      rw [← ht, List.getElem?_take] at hc
      split at hc
      · exact ⟨_, by simp [World.cell?, hg]; simpa using hc⟩
      · cases hc
    · simp [World.frozen?, hg]
theorem belowB {B B' : Nat} {a w w' : World} (h : Below B a w) (h' : Below B' w w') (hb : B ≤ B') : Below B a w' := h.trans (h'.mono hb)
theorem shr8 (i : Nat) (h : i < 65536) : ((UInt8.ofNat (i / 256)).toNat : Int) = (i : Int) / 256 := by simp; omega
theorem low8 (i : Nat) : ((UInt8.ofNat i).toNat : Int) = (i : Int) % 256 := by simp
theorem set2 (id : Nat) (b : List UInt8) (x y u v : UInt8) : (([5] ++ dig id 4 ++ [x, y] ++ b).set 5 u).set 6 v = [5] ++ dig id 4 ++ [u, v] ++ b := by
  have h : (dig id 4).length = 4 := dig_length _ _
  match dig id 4, h with
  | [a, e, f, g], _ => rfl
set_option maxHeartbeats 4000000 in
set_option maxRecDepth 100000 in
theorem score_any (key : List UInt8) (hk0 : K16 key) (id : Nat) (wt : Int) (A : Option Addr) (n c : Nat) (b : List UInt8) (w : World) (hr : Rb w A n c b) (hm : n ≤ 1000) (hid : id < 4294967296) (hw : wt ≤ 60000) :
    Calls Try.prog 134 #[.agg (bcs key).toArray, .agg (mbC ((id : Int), wt)).toArray, .slice A n c] w (RetV w (.int .u64 (scoreI key b ((id : Int), wt)))) := by
  obtain ⟨dk, u1, u2, u3⟩ := rowKey
  have hr0 := hr
  obtain ⟨dm1, m1, m2⟩ := rowMb
  have hk : Bk ((w.alloc (.cells (bcs key).toArray 192)).alloc (.cells (mbC ((id : Int), wt)).toArray 82)) w.heap.size 192 (bcs key) := (Bk.new w 192 (bcs key).toArray).alloc _
  have hM : Bk ((w.alloc (.cells (bcs key).toArray 192)).alloc (.cells (mbC ((id : Int), wt)).toArray 82)) (w.heap.size + 1) 82 (mbC ((id : Int), wt)) := Bk.newK _ _ _ (by simp) rfl
  have be : Below w.heap.size w ((w.alloc (.cells (bcs key).toArray 192)).alloc (.cells (mbC ((id : Int), wt)).toArray 82)) := Below.allocS (Below.allocS (Below.refl _ _) _) _
  have zV : w.heap.size + 2 ≤ ((w.alloc (.cells (bcs key).toArray 192)).alloc (.cells (mbC ((id : Int), wt)).toArray 82)).heap.size := by simp
  go_enter Try.func134, Try.ntmps134
  go_upto_region 1 with (fail)
  generalize (w.alloc (.cells (bcs key).toArray 192)).alloc (.cells (mbC ((id : Int), wt)).toArray 82) = V at *
  have q1 : V.cell? ⟨w.heap.size + 1, 1, none⟩ = some (.int .i64 wt) := hM.cell 1
  have q0 : V.cell? ⟨w.heap.size + 1, 0, none⟩ = some (.int .i64 (id : Int)) := hM.cell 0
  by_cases h0 : wt ≤ 0
  · have d0 : decide (wt ≤ 0) = true := by simp only [decide_eq_true_eq]; omega
    have e : scoreI key b ((id : Int), wt) = 0 := by
      have : wt.toNat = 0 := by omega
      simp [scoreI, this, bestS]
    have HE := Lib.hid e
    clear e
    go_wp2
    go_ret
    exact RetV.is_ (by rw [HE.out]; rfl) be
  obtain ⟨m, rfl⟩ := Int.eq_ofNat_of_zero_le (show 0 ≤ wt by omega)
  have d0 : decide ((m : Int) ≤ 0) = false := by simp only [decide_eq_false_iff_not]; omega
  have wi : IntKind.u64.wrap (id : Int) = (id : Int) := IntWalk.u64_in _ (by omega)
  have q2 : (V.alloc (.cells #[.int .u8 5] 5)).cell? ⟨w.heap.size + 1, 0, none⟩ = some (.int .i64 (id : Int)) := (hM.alloc _).cell 0
  go_upto_region 3 with (fail)
  refine wp_region_lit ?_
  iterate 4 (refine wpList_plain rfl (fun K hK => ?_); go_simp; with_reducible refine hK _ _ ?_; clear hK K)
  refine wpList_plain rfl (fun K hK => ?_)
  go_simp
  refine (put_full _ _ _ [5] id 4 _ (Rb.litW #[.int .u8 5] _ rfl rfl (by decide) rfl) (by decide) (by omega) (by decide) (by decide)).mono ?_
  rintro e w1 ⟨A1, n1, bs1, d1, rfl, rfl, ho1⟩
  with_reducible refine hK _ _ ?_
  clear hK K
  refine wpList_plain rfl (fun K hK => ?_); go_simp; with_reducible refine hK _ _ ?_; clear hK K
  have hn1 : n1 = 5 := by rw [← ho1.1]; simp [dig_length]
  subst hn1
  replace hk := (hk.alloc (.cells #[.int .u8 5] 5)).later (below_plus _ bs1 d1)
  replace hM := (hM.alloc (.cells #[.int .u8 5] 5)).later (below_plus _ bs1 d1)
  replace be := toPlus (Below.allocS be (.cells #[.int .u8 5] 5)) (by simp; omega) bs1 d1
  have HO := ho1.mono (base' := w.heap.size + 2) (by simp; omega)
  clear ho1 q0 q1 q2
  generalize plus (V.alloc (.cells #[.int .u8 5] 5)) bs1 d1 = W1 at *
  have zW := hM.lt
  have be2 : Below w.heap.size w (W1.alloc (.cells #[.int .u8 0, .int .u8 0] 5)) := Below.allocS be _
  go_upto_region 4 with (fail)
  refine wp_region_lit ?_
  iterate 2 (refine wpList_plain rfl (fun K hK => ?_); go_simp; with_reducible refine hK _ _ ?_; clear hK K)
  refine wpList_app bt rfl (.tmp 18) (.tmp 19) rfl rfl (HO.alloc _) rfl (Rb.litW _ [0, 0] rfl rfl (by decide) rfl) (by decide) (by simp; omega) ?_
  intro A2 n2 c2 w2 ho2 hb2 hg2
  refine wpList_plain rfl (fun K hK => ?_); go_simp; with_reducible refine hK _ _ ?_; clear hK K
  refine wpList_app bt rfl (.tmp 20) (.tmp 21) rfl rfl ho2 rfl (hr0.later (belowB be2 hb2 (by omega))) (by have := ho2.len; simp [dig_length] at this; omega) (by have := hb2.size; simp at this; omega) ?_
  intro A3 n3 c3 w3 ho3 hb3 hg3
  refine wpList_plain rfl (fun K hK => ?_); go_simp; with_reducible refine hK _ _ ?_; clear hK K
  have hk3 := ((hk.alloc (.cells #[.int .u8 0, .int .u8 0] 5)).below hb2 (by omega)).below hb3 (by omega)
  have hM3 := ((hM.alloc (.cells #[.int .u8 0, .int .u8 0] 5)).below hb2 (by omega)).below hb3 (by omega)
  have be3 := belowB (belowB be2 hb2 (by omega)) hb3 (by omega)
  have hs3 : w.heap.size + 2 ≤ w3.heap.size := by have := hM3.lt; omega
  clear hk hM be be2 hb2 hb3 hg2 hg3 ho2 HO hr
  have q1 : w3.cell? ⟨w.heap.size + 1, 1, none⟩ = some (.int .i64 (m : Int)) := hM3.cell 1
  go_upto_region 7 with (fail)
  have hA3 : ∃ g, A3 = some ⟨g, 0, none⟩ ∧ w.heap.size + 2 ≤ g := by
    rcases ho3.2.2 with ⟨_, h0⟩ | ⟨g, cap, cur, hv, hg, _⟩
    · have := ho3.1; simp [dig_length] at this; omega
    · injection hv with e1; exact ⟨g, e1, hg⟩
  obtain ⟨g, rfl, hg2⟩ := hA3
  have hn3 : n3 = 7 + n := by have := ho3.1; have := hr0.1; simp [dig_length] at *; omega
  have hn7 : 7 ≤ n3 := by omega
  have hn8 : n3 ≤ 2000 := by omega
  clear hn3
  have hc3 := ho3.rb.cap
  have HB3 := Lib.hid (show ∃ x y, Ob w3 (w.heap.size + 2) (some ⟨g, 0, none⟩) n3 c3 ([5] ++ dig id 4 ++ [x, y] ++ b) from ⟨0, 0, ho3⟩)
  have HK := Lib.hid hk3
  have HE := Lib.hid be3
  clear ho3 hk3 hM3 be3 q1
  go_loopw [26, 8] (fun i s wr => ∃ j : Nat, j ≤ m ∧ i = .int .i64 (j : Int) ∧ s = .int .u64 (bestS key id b j : Nat) ∧ (∃ x y, Ob wr (w.heap.size + 2) (some ⟨g, 0, none⟩) n3 c3 ([5] ++ dig id 4 ++ [x, y] ++ b)) ∧ Bk wr w.heap.size 192 (bcs key) ∧ Below w.heap.size w wr) (fun i _ _ => m - (intOf i).toNat)
  case atStart => exact ⟨0, Nat.zero_le _, rfl, rfl, HB3.out, HK.out, HE.out⟩
  case round =>
    clear HB3 HK HE
    obtain ⟨j, hj, rfl, rfl, ⟨x, y, hO⟩, hK, hE⟩ := hrel
    by_cases hlt : j < m
    · have ij : (j : Int) < (m : Int) := by omega
      have i5 : (5 : Int) < (n3 : Int) := by omega
      have i6 : (6 : Int) < (n3 : Int) := by omega
      obtain ⟨⟨v5, q5⟩, f5⟩ := hO.cellF (i := 5) (by omega)
      obtain ⟨⟨v6, q6⟩, f6⟩ := hO.cellF (i := 6) (by omega)
      have hbl := bestS_lt key id b j
      have hbs : bestS key id b (j + 1) = max (bestS key id b j) (sip key (msgS id j b)).toNat := rfl
      have HS := Lib.hid hbs
      clear hbs
      generalize bestS key id b j = B at *
      go_upto_region 10 with (fail)
      have hO2 := (hO.set_ (i := 5) (by omega) (UInt8.ofNat (j / 256))).set_ (i := 6) (by omega) (UInt8.ofNat j)
      rw [set2, shr8 j (by omega), low8] at hO2
      replace hK := (hK.far (p := ⟨g, 5, none⟩) (by simp; omega) (.int .u8 ((j : Int) / 256))).far (p := ⟨g, 6, none⟩) (by simp; omega) (.int .u8 ((j : Int) % 256))
      replace hE := (hE.setCell (p := ⟨g, 5, none⟩) (by simp; omega) (.int .u8 ((j : Int) / 256))).setCell (p := ⟨g, 6, none⟩) (by simp; omega) (.int .u8 ((j : Int) % 256))
      generalize (wr.setCell ⟨g, 5, none⟩ (.int .u8 ((j : Int) / 256))).setCell ⟨g, 6, none⟩ (.int .u8 ((j : Int) % 256)) = w5 at *
      have HO2 := Lib.hid hO2
      have HM := Lib.hid (fun w (h : Rb w (some ⟨g, 0, none⟩) n3 c3 (msgS id j b)) => sum_any key hk0 _ _ _ _ w h (by omega))
      have hsl := (sip key (msgS id j b)).toNat_lt
      clear hO hO2 q5 q6 f5 f6
      obtain ⟨S, hS⟩ : ∃ S, S = (sip key (msgS id j b)).toNat := ⟨_, rfl⟩
      rw [← hS] at HM hsl HS
      clear hS
      go_wp2_with (first
        | (refine at_op (.load 192 (.tmp 3)) rfl ?_; refine wpList_ldA (t := 192) 192 (.tmp 3) rfl rfl (bcs key) rfl (hK) (bcs_whole key) u1 u2 (szKey key hk0) ?_)
        | (go_at_call 172; refine (HM.out _ HO2.out.rb).mono ?_; rintro e w6 ⟨bs6, d6, rfl, rfl⟩))
      have e : (if B < S then (S : Int) else (B : Int)) = ((max B S : Nat) : Int) := by split <;> omega
      exact ⟨⟨j + 1, by omega, by go_num, by rw [HS.out, e], ⟨_, _, HO2.out.plus_ _ _⟩, hK.later (below_plus _ _ _), belowP hE _ _⟩, by simp [intOf]; omega⟩
    · obtain rfl : j = m := by omega
      have ij : ¬ (j : Int) < (j : Int) := by omega
      have e : scoreI key b ((id : Int), (j : Int)) = ((bestS key id b j : Nat) : Int) := by
        simp only [scoreI, Int.toNat_natCast]
        rw [Nat.min_eq_left (by omega)]
      have HE := Lib.hid e
      clear e
      generalize bestS key id b j = B at *
      go_wp2
      go_ret
      exact RetV.is_ (by rw [HE.out]; rfl) hE
end Go.Proofs.Ytfmkndemkpecpaa
