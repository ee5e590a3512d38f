/- The law CidReads (chapter 13). -/
import Derived.Test.YticlohlpccollaaCidR
import Derived.Test.YticlohlpccollaaLea
namespace Go.Proofs.Yticlohlpccollaa
open Go.RowKit
set_option linter.unusedVariables false
set_option linter.unusedSimpArgs false
attribute [local go_sem ↓] sliced_cut
attribute [local go_sem] cutA_zero

set_option maxHeartbeats 2000000 in
set_option maxRecDepth 100000 in
theorem cidReads_of (w : World) (key : List UInt8) (hk : K16 key) (n : Nat) (A : Option Addr) (m c : Nat) (l : List UInt8) (h : Rb w A m c l) (hm : m ≤ 100) (V S O : Nat) (E : Int)
    (HP : ∀ w, Rb w A m c l → Calls Try.prog 92 #[.agg (ringC key n).toArray, .slice A m c] w (RetV w (.tuple #[.agg (plC V S).toArray, .int .u64 O, .int .i64 E])))
    (HR : ∀ w, Rb w A m c l → Calls Try.prog 93 #[.agg (ringC key n).toArray, .slice A m c] w (RetV w (.tuple #[.int .i64 V, .int .i64 S, .int .u64 O, .int .i64 E]))) :
    Calls Try.prog 14 #[.agg (ringC key n).toArray, .slice A m c] w fun e w' => e = .returned (.bool true) ∧ Below w.heap.size w w' := by
  replace HP := Lib.hid HP
  replace HR := Lib.hid HR
  have q := ringC_16 key hk n
  obtain ⟨da, a1, a2, a3⟩ := row16
  obtain ⟨dr, v1, v2, v3⟩ : ∃ d, Try.prog.underlying 52 = some d ∧ d.isRow = true ∧ (Try.prog.info? 52).map (·.size) = some 17 := ⟨_, Try.underlying52, rfl, by kernel_rfl⟩
  have v4 : (Try.prog.info? 52).map (·.size) = some (ringC key n).length := by rw [ringC_length key hk n]; exact v3
  have b0 : Bk (w.alloc (.cells (ringC key n).toArray 52)) w.heap.size 52 (ringC key n) := Bk.new w 52 (ringC key n).toArray
  have be : Below w.heap.size w (w.alloc (.cells (ringC key n).toArray 52)) := Below.allocS (Below.refl _ _) _
  replace h := h.alloc (.cells (ringC key n).toArray 52)
  go_enter Try.func14, Try.ntmps14
  go_upto_region 3 with (fail)
  generalize w.alloc (.cells (ringC key n).toArray 52) = W at *
  have q2 : W.cell? ⟨w.heap.size, 16, none⟩ = some (.int .u64 (n : Int)) := by rw [b0.cell]; exact q
  go_upto_region 4 with (first
    | (refine at_op (.load 49 (.tmp 17)) rfl ?_; refine wpList_ldA (t := 52) 49 (.tmp 17) rfl rfl (bcs key) rfl b0 (ringC_key key n) a1 a2 (szArr key hk) ?_)
    | (go_at_call 33; refine (ringNew_any key hk n _).mono ?_; rintro e w1 ⟨bs1, d1, rfl, rfl⟩)
    | (go_at_call 92; refine (HP.out _ (h.plus_ _ _)).mono ?_; rintro e w1 ⟨bs2, d2, rfl, rfl⟩)
    | (refine at_op (.store 82 (.tmp 5) (.tmp 24)) rfl ?_; refine wpList_stA (t := 82) 82 (.tmp 5) (.tmp 24) rfl rfl (plC V S) (plC 0 0) rfl (plC_one _ _) rfl rfl ?_ (szPl _ _) ?_; (· refine Bk.newK _ _ _ ?_ rfl; simp [size_plus]); intro W3 hP hgr))
  have zb := be.size
  have z0 := b0.lt
  replace b0 := (((b0.later (below_plus _ bs1 d1)).later (below_plus _ bs2 d2)).alloc _).grown hgr (by simp; omega)
  replace h : Rb W3 A m c l := h.later (below_grown (Below.allocS (belowP (below_plus _ bs1 d1) bs2 d2) _) hgr (by omega))
  replace be := below_grown (Below.allocS (belowP (belowP be bs1 d1) bs2 d2) _) hgr (by omega)
  have hgp : w.heap.size ≤ W.heap.size + bs1.length + bs2.length := by omega
  generalize W.heap.size + bs1.length + bs2.length = gp at *
  have zp := hP.lt
  have c0 : W3.cell? ⟨gp, 0, none⟩ = some (.int .i64 (V : Int)) := hP.cell 0
  have c1 : W3.cell? ⟨gp, 1, none⟩ = some (.int .i64 (S : Int)) := hP.cell 1
  clear hgr zb z0 q2 hP
  go_wp2_with (first
    | (refine at_op (.load 52 (.tmp 2)) rfl ?_; refine wpList_ldA (t := 52) 52 (.tmp 2) rfl rfl (ringC key n) rfl b0 (ringC_whole key n) v1 v2 v4 ?_)
    | (go_at_call 93; refine (HR.out _ h).mono ?_; rintro e w1 ⟨bs5, d5, rfl, rfl⟩)
    | (go_at_call 62; refine (cidAwake _).mono ?_; rintro e w1 ⟨bs6, d6, rfl, rfl⟩))
  go_ret
  exact ⟨rfl, belowP (belowP be _ _) _ _⟩
theorem sip_tag (kk l : List UInt8) (h : l.length = 12) : ctagB kk (num ((l.drop 0).take 5)) (num ((l.drop 5).take 2)) = dig (sip kk (4 :: l.take 7)).toNat 5 := by
  unfold ctagB
  rw [digNum 5 _ (by simp; omega), digNum 2 _ (by simp; omega), List.drop_zero, show l.take 7 = l.take 5 ++ (l.drop 5).take 2 from by rw [← List.take_add]]
  simp
theorem sip_msk (kk l : List UInt8) (h : l.length = 12) : cmskN kk (num ((l.drop 0).take 5)) = (sip kk (3 :: l.take 5)).toNat % 32768 := by
  unfold cmskN
  rw [digNum 5 _ (by simp; omega), List.drop_zero]
  simp
theorem at_cases (key : List UInt8) (n : Nat) (b : Int) : (∃ kk, atR key n b = some kk ∧ K16 kk) ∨ atR key n b = none := by
  have := K16_at key n b
  cases h : atR key n b with
  | none => exact .inr rfl
  | some kk => rw [h] at this; exact .inl ⟨kk, rfl, this⟩
set_option maxHeartbeats 2000000 in
theorem cidReads_walk (w : World) (key : List UInt8) (hk : K16 key) (n : Nat) (hn : n < 18446744073709551616) (A : Option Addr) (c : Nat) (l : List UInt8) (hl : l.length ≤ c) (hc : c ≤ maxLen) (hr : Rd w w.heap.size A (bcs l)) :
    Calls Try.prog 14 #[.agg (ringC key n).toArray, .slice A l.length c] w fun e w' => e = .returned (.bool true) ∧ Below w.heap.size w w' := by
  by_cases hbig : 100 < l.length
  · simp only [maxLen] at hc
    go_enter Try.func14, Try.ntmps14
    go_wp2_with (go_at_call 62; refine (cidAwake _).mono ?_; rintro e w1 ⟨bs1, d1, rfl, rfl⟩)
    go_ret
    exact ⟨rfl, belowP (Below.allocS (Below.refl _ _) _) _ _⟩
  · obtain ⟨m, hm⟩ : ∃ m, l.length = m := ⟨_, rfl⟩
    have hrb : Rb w A m c l := ⟨hm, by omega, hr⟩
    rw [hm]
    by_cases h12 : m = 12
    · subst h12
      have hlt1 : num ((l.drop 5).take 2) < 65536 := num_small _ 2 _ (by decide)
      have hb : -9223372036854775808 ≤ ((num ((l.drop 5).take 2) : Int) / 32768) ∧ ((num ((l.drop 5).take 2) : Int) / 32768) ≤ 9223372036854775807 := by omega
      have HA := fun w => ringAt_any key hk n _ w hn hb
      have HB := fun w => refAt_any key hk n _ w hn hb
      rcases at_cases key n ((num ((l.drop 5).take 2) : Int) / 32768) with ⟨kk, he, hkk⟩ | he
      · rw [he] at HA HB
        by_cases ht : l.drop 7 = ctagB kk (num ((l.drop 0).take 5)) (num ((l.drop 5).take 2))
        · have hx : (num ((l.drop 5).take 2) ^^^ cmskN kk (num ((l.drop 0).take 5))) % 32768 = num ((l.drop 5).take 2) % 32768 ^^^ (sip kk (3 :: l.take 5)).toNat % 32768 := by
            rw [sip_msk kk l hm, show (32768 : Nat) = 2 ^ 15 from rfl, Nat.xor_mod_two_pow, Nat.mod_mod]
          refine cidReads_of w key hk n A 12 c l hrb (by omega) _ _ _ 0 (fun w h => cidRead_ok key hk n A c l kk hkk w h ht HA) (fun w h => ?_)
          have := refCid_ok key hk n A c l kk hkk w h (by rw [← sip_tag kk l hm]; exact ht) HB
          rw [hx]
          exact this
        · exact cidReads_of w key hk n A 12 c l hrb (by omega) 0 0 0 26 (fun w h => cidRead_bad key hk n A c l kk hkk w h ht HA) (fun w h => refCid_bad key hk n A c l kk hkk w h (by rw [← sip_tag kk l hm]; exact ht) HB)
      · rw [he] at HA HB
        exact cidReads_of w key hk n A 12 c l hrb (by omega) 0 0 0 26 (fun w h => cidRead_none key hk n A c l key0 K16_0 w h HA) (fun w h => refCid_none key hk n A c l key0 K16_0 w h HB)
    · exact cidReads_of w key hk n A m c l hrb (by omega) 0 0 0 20 (fun w h => cidRead_short key hk n A m c w h12 (by omega)) (fun w h => refCid_short key hk n A m c w h12 (by omega))
end Go.Proofs.Yticlohlpccollaa
