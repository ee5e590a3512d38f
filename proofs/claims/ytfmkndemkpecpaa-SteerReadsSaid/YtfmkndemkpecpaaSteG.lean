/- The beginning of a packet (chapter 29): what both sides tell, for any bytes. -/
import Derived.Test.YtfmkndemkpecpaaSteF
import Derived.Test.YtfmkndemkpecpaaSteD
import Derived.Test.YtfmkndemkpecpaaTcpQ
import Derived.Test.YtfmkndemkpecpaaIp6Q
namespace Go.Proofs.Ytfmkndemkpecpaa
open Go.RowKit
set_option linter.unusedVariables false
set_option linter.unusedSimpArgs false
attribute [local go_sem ↓] sliced_cut
attribute [local go_sem] cutA_zero

set_option maxHeartbeats 4000000 in
set_option maxRecDepth 100000 in
theorem refRead_0 (A : Option Addr) (n c : Nat) (six : Bool) (w : World) (hn : n < 20) : Calls Try.prog 14 #[.slice A n c, .bool six] w (RetV w (.tuple #[.agg (qC false 0 0 false 0 0 0 0 0 0 false).toArray, .bool false])) := by
  obtain ⟨dq, r1, r2⟩ := rowRQ
  have tai : decide ((n : Int) < 20) = true := by simp only [decide_eq_true_eq]; omega
  have tan : decide (n < 20) = true := by simp only [decide_eq_true_eq]; omega
  have b4 : Bk (w.alloc (.cells #[.bool false, .int .u64 0, .int .u64 0, .bool false, .int .u64 0, .int .u64 0, .int .u16 0, .int .u16 0, .int .u8 0, .int .u32 0, .bool false] 35)) w.heap.size 35 (qC false 0 0 false 0 0 0 0 0 0 false) := Bk.new w 35 #[.bool false, .int .u64 0, .int .u64 0, .bool false, .int .u64 0, .int .u64 0, .int .u16 0, .int .u16 0, .int .u8 0, .int .u32 0, .bool false]
  have be : Below w.heap.size w (w.alloc (.cells #[.bool false, .int .u64 0, .int .u64 0, .bool false, .int .u64 0, .int .u64 0, .int .u16 0, .int .u16 0, .int .u8 0, .int .u32 0, .bool false] 35)) := Below.allocS (Below.refl _ _) _
  clear hn
  go_enter Try.func14, Try.ntmps14
  go_upto_region 1 with (fail)
  generalize w.alloc (.cells #[.bool false, .int .u64 0, .int .u64 0, .bool false, .int .u64 0, .int .u64 0, .int .u16 0, .int .u16 0, .int .u8 0, .int .u32 0, .bool false] 35) = V at *
  go_wp2_with (refine at_op (.store 35 (.tmp 4) (.tmp 18)) rfl ?_; refine wpList_stA (t := 35) 35 (.tmp 4) (.tmp 18) rfl rfl (qC false 0 0 false 0 0 0 0 0 0 false) (qC false 0 0 false 0 0 0 0 0 0 false) rfl (qC_one _ _ _ _ _ _ _ _ _ _ _) rfl rfl b4 (szRQ _ _ _ _ _ _ _ _ _ _ _) ?_; intro W9 h9 g9)
  refine bodyPost_agg2 Try.results14 rfl rfl h9.range r1 r2 (szRQ _ _ _ _ _ _ _ _ _ _ _) rfl (RetV.mk ?_)
  exact below_grown be g9 (by omega)

/-- what a segment's own time stamp is, on both sides -/
theorem telT (L : List UInt8) (h8 : 8 ≤ L.length) (hm : L.length ≤ 1000000) : ∃ (x0 x1 x2 x3 x4 x5 x6 x7 : Nat) (o1 o2 : List UInt8) (E : Int) (v : Nat) (has : Bool),
    (∀ w A n c, Rb w A n c L → Calls Try.prog 53 #[.slice A n c] w (RetV w (.tuple #[.int .u32 (v : Int), .bool has]))) ∧
    (∀ w A n c, Rb w A n c L → Calls Try.prog 56 #[.slice A n c] w (RetSeg w x0 x1 x2 x3 x4 x5 x6 x7 o1 o2 (.int .i64 E))) ∧ o1.length ≤ 1000000 ∧
    (((E == 0) = false ∧ v = 0 ∧ has = false) ∨ (E = 0 ∧ stampsAt o1 = none ∧ v = 0 ∧ has = false) ∨ (∃ at_, E = 0 ∧ stampsAt o1 = some at_ ∧ num ((o1.drop at_).take 4) = v ∧ has = true)) := by
  by_cases g0 : L.length ≤ 12
  · exact ⟨0, 0, 0, 0, 0, 0, 0, 0, [], [], 20, 0, false, fun w A n c h => stamp_0 A n c L w h (by rw [← h.1]; exact hm) (by rw [← h.1]; exact g0), fun w A n c h => refTcpParse_short A n c L w h (by have := h.1; omega), by simp, .inl ⟨rfl, rfl, rfl⟩⟩
  have g0' : 12 < L.length := by omega
  by_cases g1 : L.length < 20
  · refine ⟨0, 0, 0, 0, 0, 0, 0, 0, [], [], 20, 0, false, ?_, fun w A n c h => refTcpParse_short A n c L w h (by have := h.1; omega), by simp, .inl ⟨rfl, rfl, rfl⟩⟩
    intro w A n c h
    have hl := h.1
    by_cases g2 : num ((L.drop 12).take 1) % 16 = 0
    · exact stamp_2 A n c L w h (by omega) _ rfl (by omega) g2 (by omega)
    · exact stamp_1 A n c L w h (by omega) _ rfl (by omega) g2
  have g1' : 20 ≤ L.length := by omega
  by_cases g3 : num ((L.drop 12).take 1) / 16 < 5
  · refine ⟨0, 0, 0, 0, 0, 0, 0, 0, [], [], 21, 0, false, ?_, fun w A n c h => refTcpParse_form1 A n c L w h (by have := h.1; omega) (by have := h.1; omega) _ _ _ _ _ _ _ _ _ rfl rfl rfl rfl rfl rfl rfl rfl rfl g3, by simp, .inl ⟨rfl, rfl, rfl⟩⟩
    intro w A n c h
    have hl := h.1
    by_cases g2 : num ((L.drop 12).take 1) % 16 = 0
    · exact stamp_2 A n c L w h (by omega) _ rfl (by omega) g2 (.inl g3)
    · exact stamp_1 A n c L w h (by omega) _ rfl (by omega) g2
  by_cases g2 : num ((L.drop 12).take 1) % 16 = 0
  case neg => exact ⟨0, 0, 0, 0, 0, 0, 0, 0, [], [], 21, 0, false, fun w A n c h => stamp_1 A n c L w h (by have := h.1; omega) _ rfl (by have := h.1; omega) g2, fun w A n c h => refTcpParse_form2 A n c L w h (by have := h.1; omega) (by have := h.1; omega) _ _ _ _ _ _ _ _ _ rfl rfl rfl rfl rfl rfl rfl rfl rfl (by omega) g2, by simp, .inl ⟨rfl, rfl, rfl⟩⟩
  by_cases g4 : L.length < 4 * (num ((L.drop 12).take 1) / 16)
  · exact ⟨0, 0, 0, 0, 0, 0, 0, 0, [], [], 20, 0, false, fun w A n c h => stamp_2 A n c L w h (by have := h.1; omega) _ rfl (by have := h.1; omega) g2 (.inr (by have := h.1; omega)), fun w A n c h => refTcpParse_short2 A n c L w h (by have := h.1; omega) (by have := h.1; omega) _ _ _ _ _ _ _ _ _ rfl rfl rfl rfl rfl rfl rfl rfl rfl (by omega) g2 (by have := h.1; omega), by simp, .inl ⟨rfl, rfl, rfl⟩⟩
  have ho : ((L.drop 20).take (4 * (num ((L.drop 12).take 1) / 16) - 20)).length ≤ 1000000 := by rw [List.length_take, List.length_drop]; omega
  cases hS : stampsAt ((L.drop 20).take (4 * (num ((L.drop 12).take 1) / 16) - 20)) with
  | none => exact ⟨_, _, _, _, _, _, _, _, _, _, 0, 0, false, fun w A n c h => stamp_3 A n c L w h (by have := h.1; omega) _ rfl (by have := h.1; omega) g2 (by omega) (by have := h.1; omega) hS, fun w A n c h => refTcpParse_ok A n c L w h (by have := h.1; omega) (by have := h.1; omega) _ _ _ _ _ _ _ _ _ rfl rfl rfl rfl rfl rfl rfl rfl rfl (by omega) g2 _ rfl (by have := h.1; omega), ho, .inr (.inl ⟨rfl, hS, rfl, rfl⟩)⟩
  | some at_ => exact ⟨_, _, _, _, _, _, _, _, _, _, 0, _, true, fun w A n c h => stamp_4 A n c L w h (by have := h.1; omega) _ at_ _ rfl (by have := h.1; omega) g2 (by omega) (by have := h.1; omega) hS rfl, fun w A n c h => refTcpParse_ok A n c L w h (by have := h.1; omega) (by have := h.1; omega) _ _ _ _ _ _ _ _ _ rfl rfl rfl rfl rfl rfl rfl rfl rfl (by omega) g2 _ rfl (by have := h.1; omega), ho, .inr (.inr ⟨at_, rfl, hS, rfl, rfl⟩)⟩

/-- what both sides tell, as one word -/
def Tells (A : Option Addr) (n c : Nat) (six : Bool) (w : World) : Prop :=
  ∃ (s1 : Bool) (h1 l1 : Nat) (s2 : Bool) (h2 l2 sp dp p st : Nat) (has ok : Bool),
    (∀ w', Below w.heap.size w w' → Calls Try.prog 13 #[.slice A n c, .bool six] w' (RetV w' (.tuple #[.agg (qC s1 h1 l1 s2 h2 l2 sp dp p st has).toArray, .bool ok]))) ∧
    (∀ w', Below w.heap.size w w' → Calls Try.prog 14 #[.slice A n c, .bool six] w' (RetV w' (.tuple #[.agg (qC s1 h1 l1 s2 h2 l2 sp dp p st has).toArray, .bool ok])))

theorem Tells.bad {A : Option Addr} {n c : Nat} {six : Bool} {w : World}
    (H1 : ∀ w', Below w.heap.size w w' → Calls Try.prog 13 #[.slice A n c, .bool six] w' (RetV w' (.tuple #[.agg (qC false 0 0 false 0 0 0 0 0 0 false).toArray, .bool false])))
    (H2 : ∀ w', Below w.heap.size w w' → Calls Try.prog 14 #[.slice A n c, .bool six] w' (RetV w' (.tuple #[.agg (qC false 0 0 false 0 0 0 0 0 0 false).toArray, .bool false]))) : Tells A n c six w :=
  ⟨false, 0, 0, false, 0, 0, 0, 0, 0, 0, false, false, H1, H2⟩

theorem drop_sub (l : List UInt8) (z k : Nat) (s : Nat) : ((l.drop z).drop k).take s = (l.drop (z + k)).take s := by rw [List.drop_drop]

theorem tells4 (A : Option Addr) (n c : Nat) (l : List UInt8) (w : World) (h : Rb w A n c l) (hm : n ≤ 1000000) : Tells A n c false w := by
  have hl := h.1
  have up : ∀ w1, Below w.heap.size w w1 → ∀ w2, Below w1.heap.size w1 w2 → Rb w2 A n c l := fun w1 h1 w2 h2 => (h.later h1).later h2
  by_cases g0 : n < 20
  · exact .bad (fun w' hb => steRead4_bad A n c w' (fun w2 hb2 => open4_0 A n c l w2 (up _ hb _ hb2) hm g0)) (fun w' hb => refRead_0 A n c false w' g0)
  have hn : 20 ≤ n := by omega
  by_cases g1 : num ((l.drop 0).take 1) / 16 = 4
  case neg => exact .bad (fun w' hb => steRead4_bad A n c w' (fun w2 hb2 => open4_1 A n c l w2 (up _ hb _ hb2) hm _ rfl hn g1)) (fun w' hb => refRead4_v A n c l w' (h.later hb) hm _ _ _ _ rfl rfl rfl rfl hn g1)
  by_cases g2 : 4 * (num ((l.drop 0).take 1) % 16) < 20
  · exact .bad (fun w' hb => steRead4_bad A n c w' (fun w2 hb2 => open4_2 A n c l w2 (up _ hb _ hb2) hm _ rfl hn g1 (.inl g2))) (fun w' hb => refRead4_s A n c l w' (h.later hb) hm _ _ _ _ rfl rfl rfl rfl hn g1 g2)
  by_cases g3 : n < 4 * (num ((l.drop 0).take 1) % 16) + 8
  · exact .bad (fun w' hb => steRead4_bad A n c w' (fun w2 hb2 => open4_2 A n c l w2 (up _ hb _ hb2) hm _ rfl hn g1 (.inr g3))) (fun w' hb => refRead4_l A n c l w' (h.later hb) hm _ _ _ _ rfl rfl rfl rfl hn g1 (by omega) g3)
  by_cases g4 : num ((l.drop 6).take 2) % 16384 = 0
  case neg => exact .bad (fun w' hb => steRead4_bad A n c w' (fun w2 hb2 => open4_3 A n c l w2 (up _ hb _ hb2) hm _ _ rfl rfl hn g1 (by omega) (by omega) g4)) (fun w' hb => refRead4_f A n c l w' (h.later hb) hm _ _ _ _ rfl rfl rfl rfl hn g1 (by omega) (by omega) g4)
  have HO : ∀ w1, Below w.heap.size w w1 → ∀ w2, Below w1.heap.size w1 w2 → Calls Try.prog 49 #[.slice A n c] w2 (RetOp w2 false 0 (num ((l.drop 12).take 4)) false 0 (num ((l.drop 16).take 4)) (num ((l.drop 9).take 1)) (l.drop (4 * (num ((l.drop 0).take 1) % 16)))) := fun w1 hb w2 hb2 => open4_ok A n c l w2 (up _ hb _ hb2) hm _ _ _ _ _ rfl rfl rfl rfl rfl hn g1 (by omega) (by omega) g4
  have h8L : 8 ≤ (l.drop (4 * (num ((l.drop 0).take 1) % 16))).length := by rw [List.length_drop]; omega
  have hmL : (l.drop (4 * (num ((l.drop 0).take 1) % 16))).length ≤ 1000000 := by rw [List.length_drop]; omega
  have H1 : ∀ w1, Below w.heap.size w w1 → ∀ w', Below w1.heap.size w1 w' → Calls Try.prog 55 #[.slice (cutA A c 12 1) 4 (c - 12)] w' (RetV w' (.tuple #[.agg (adC false 0 (num ((l.drop 12).take 4))).toArray, .bool true])) := fun w1 hb w2 hb2 => refOf4 _ _ _ _ w2 (((up _ hb _ hb2).cut (k := 12) (by omega)).take (k := 4) (by omega)) rfl
  have H2 : ∀ w1, Below w.heap.size w w1 → ∀ w', Below w1.heap.size w1 w' → Calls Try.prog 55 #[.slice (cutA A c 16 1) 4 (c - 16)] w' (RetV w' (.tuple #[.agg (adC false 0 (num ((l.drop 16).take 4))).toArray, .bool true])) := fun w1 hb w2 hb2 => refOf4 _ _ _ _ w2 (((up _ hb _ hb2).cut (k := 16) (by omega)).take (k := 4) (by omega)) rfl
  obtain ⟨x0, x1, x2, x3, x4, x5, x6, x7, o1, o2, E, v, has, HST, HP, hol, hE⟩ := telT _ h8L hmL
  have HPA : ∀ w1, Below w.heap.size w w1 → ∀ w', Below w1.heap.size w1 w' → Calls Try.prog 56 #[.slice (cutA A c (4 * (num ((l.drop 0).take 1) % 16)) 1) (n - 4 * (num ((l.drop 0).take 1) % 16)) (c - 4 * (num ((l.drop 0).take 1) % 16))] w' (RetSeg w' x0 x1 x2 x3 x4 x5 x6 x7 o1 o2 (.int .i64 E)) := fun w1 hb w2 hb2 => HP w2 _ _ _ ((up _ hb _ hb2).cut (by omega))
  by_cases p17 : num ((l.drop 9).take 1) = 17
  · rw [p17] at HO
    exact ⟨_, _, _, _, _, _, _, _, 17, 0, false, true, fun w' hb => steRead4_17 A n c _ _ _ _ _ _ _ _ _ w' h8L rfl rfl (HO w' hb), fun w' hb => (by
      have := refRead4_17 A n c l w' (h.later hb) hm _ _ _ _ rfl rfl rfl rfl hn g1 (by omega) (by omega) g4 p17 false 0 _ false 0 _ _ _ x0 x1 x2 x3 x4 x5 x6 x7 o1 o2 E rfl rfl hol (H1 w' hb) (H2 w' hb) (HPA w' hb)
      rw [p17] at this; rwa [drop_sub, drop_sub])⟩
  by_cases p6 : num ((l.drop 9).take 1) = 6
  · rw [p6] at HO
    refine ⟨_, _, _, _, _, _, _, _, 6, v, has, true, fun w' hb => steRead4_6 A n c _ _ _ _ _ _ _ _ _ w' h8L rfl rfl v has (fun w A n c h => HST w A n c h) (HO w' hb), fun w' hb => ?_⟩
    rw [drop_sub, drop_sub]
    rcases hE with ⟨hE, rfl, rfl⟩ | ⟨hE, hS, rfl, rfl⟩ | ⟨at_, hE, hS, hv, rfl⟩
    · have := refRead4_6e A n c l w' (h.later hb) hm _ _ _ _ rfl rfl rfl rfl hn g1 (by omega) (by omega) g4 p6 false 0 _ false 0 _ _ _ x0 x1 x2 x3 x4 x5 x6 x7 o1 o2 E hE rfl rfl hol (H1 w' hb) (H2 w' hb) (HPA w' hb)
      rwa [p6] at this
    · have := refRead4_6z A n c l w' (h.later hb) hm _ _ _ _ rfl rfl rfl rfl hn g1 (by omega) (by omega) g4 p6 false 0 _ false 0 _ _ _ x0 x1 x2 x3 x4 x5 x6 x7 o1 o2 E hE hS rfl rfl hol (H1 w' hb) (H2 w' hb) (HPA w' hb)
      rwa [p6] at this
    · have := refRead4_6s A n c l w' (h.later hb) hm _ _ _ _ rfl rfl rfl rfl hn g1 (by omega) (by omega) g4 p6 false 0 _ false 0 _ _ _ x0 x1 x2 x3 x4 x5 x6 x7 o1 o2 E at_ v hE hS hv rfl rfl hol (H1 w' hb) (H2 w' hb) (HPA w' hb)
      rwa [p6] at this
  exact .bad (fun w' hb => steRead4_np A n c _ _ _ _ _ _ _ _ w' p6 p17 (HO w' hb)) (fun w' hb => refRead4_p A n c l w' (h.later hb) hm _ _ _ _ rfl rfl rfl rfl hn g1 (by omega) (by omega) g4 p6 p17)

theorem dig16 (l : List UInt8) (h : l.length = 16) : l = dig (num (l.take 8)) 8 ++ dig (num (l.drop 8)) 8 := by
  rw [digNum 8 _ (by rw [List.length_take]; omega), digNum 8 _ (by rw [List.length_drop]; omega), List.take_append_drop]
theorem num8_lt (l : List UInt8) (h : l.length = 8) : num l < 18446744073709551616 := num_lt 8 l (by omega)

theorem tells6 (A : Option Addr) (n c : Nat) (l : List UInt8) (w : World) (h : Rb w A n c l) (hm : n ≤ 1000000) : Tells A n c true w := by
  have hl := h.1
  have up : ∀ w1, Below w.heap.size w w1 → ∀ w2, Below w1.heap.size w1 w2 → Rb w2 A n c l := fun w1 h1 w2 h2 => (h.later h1).later h2
  by_cases g0 : n < 20
  · exact .bad (fun w' hb => steRead6_bad A n c w' (fun w2 hb2 => open6_0 A n c l w2 (up _ hb _ hb2) hm (by omega))) (fun w' hb => refRead_0 A n c true w' g0)
  have hn : 20 ≤ n := by omega
  by_cases g3 : n < 48
  · refine .bad (fun w' hb => steRead6_bad A n c w' (fun w2 hb2 => open6_0 A n c l w2 (up _ hb _ hb2) hm g3)) ?_
    by_cases g1 : num ((l.drop 0).take 1) / 16 = 6
    · exact fun w' hb => refRead6_l A n c l w' (h.later hb) hm _ _ _ _ rfl rfl rfl rfl hn g1 g3
    · exact fun w' hb => refRead6_v A n c l w' (h.later hb) hm _ _ _ _ rfl rfl rfl rfl hn g1
  have hn8 : 48 ≤ n := by omega
  by_cases g1 : num ((l.drop 0).take 1) / 16 = 6
  case neg => exact .bad (fun w' hb => steRead6_bad A n c w' (fun w2 hb2 => open6_1 A n c l w2 (up _ hb _ hb2) hm _ rfl hn8 g1)) (fun w' hb => refRead6_v A n c l w' (h.later hb) hm _ _ _ _ rfl rfl rfl rfl hn g1)
  have l8 : ((l.drop 8).take 16).length = 16 := by rw [List.length_take, List.length_drop]; omega
  have l24 : ((l.drop 24).take 16).length = 16 := by rw [List.length_take, List.length_drop]; omega
  have z0 := dig16 _ l8
  have z1 := dig16 _ l24
  have k1 := num8_lt (((l.drop 8).take 16).take 8) (by rw [List.length_take]; omega)
  have k2 := num8_lt (((l.drop 8).take 16).drop 8) (by rw [List.length_drop]; omega)
  have k3 := num8_lt (((l.drop 24).take 16).take 8) (by rw [List.length_take]; omega)
  have k4 := num8_lt (((l.drop 24).take 16).drop 8) (by rw [List.length_drop]; omega)
  generalize num (((l.drop 8).take 16).take 8) = sh at *
  generalize num (((l.drop 8).take 16).drop 8) = sl at *
  generalize num (((l.drop 24).take 16).take 8) = dh at *
  generalize num (((l.drop 24).take 16).drop 8) = dl at *
  have HO : ∀ w1, Below w.heap.size w w1 → ∀ w2, Below w1.heap.size w1 w2 → Calls Try.prog 50 #[.slice A n c] w2 (RetOp w2 true sh sl true dh dl (num ((l.drop 6).take 1)) (l.drop 40)) := fun w1 hb w2 hb2 => open6_ok A n c l w2 (up _ hb _ hb2) hm _ _ _ _ _ _ rfl rfl z0 z1 k1 k2 k3 k4 hn8 g1
  have h8L : 8 ≤ (l.drop 40).length := by rw [List.length_drop]; omega
  have hmL : (l.drop 40).length ≤ 1000000 := by rw [List.length_drop]; omega
  have H1 : ∀ w1, Below w.heap.size w w1 → ∀ w', Below w1.heap.size w1 w' → Calls Try.prog 55 #[.slice (cutA A c 8 1) 16 (c - 8)] w' (RetV w' (.tuple #[.agg (adC true sh sl).toArray, .bool true])) := fun w1 hb w2 hb2 => refOf16 _ _ _ _ w2 k1 k2 (z0 ▸ (((up _ hb _ hb2).cut (k := 8) (by omega)).take (k := 16) (by omega)))
  have H2 : ∀ w1, Below w.heap.size w w1 → ∀ w', Below w1.heap.size w1 w' → Calls Try.prog 55 #[.slice (cutA A c 24 1) 16 (c - 24)] w' (RetV w' (.tuple #[.agg (adC true dh dl).toArray, .bool true])) := fun w1 hb w2 hb2 => refOf16 _ _ _ _ w2 k3 k4 (z1 ▸ (((up _ hb _ hb2).cut (k := 24) (by omega)).take (k := 16) (by omega)))
  obtain ⟨x0, x1, x2, x3, x4, x5, x6, x7, o1, o2, E, v, has, HST, HP, hol, hE⟩ := telT _ h8L hmL
  have HPA : ∀ w1, Below w.heap.size w w1 → ∀ w', Below w1.heap.size w1 w' → Calls Try.prog 56 #[.slice (cutA A c 40 1) (n - 40) (c - 40)] w' (RetSeg w' x0 x1 x2 x3 x4 x5 x6 x7 o1 o2 (.int .i64 E)) := fun w1 hb w2 hb2 => HP w2 _ _ _ ((up _ hb _ hb2).cut (by omega))
  by_cases p17 : num ((l.drop 6).take 1) = 17
  · rw [p17] at HO
    exact ⟨_, _, _, _, _, _, _, _, 17, 0, false, true, fun w' hb => steRead6_17 A n c _ _ _ _ _ _ _ _ _ w' h8L rfl rfl (HO w' hb), fun w' hb => (by
      have := refRead6_17 A n c l w' (h.later hb) hm _ _ _ _ rfl rfl rfl rfl hn g1 hn8 p17 true sh sl true dh dl _ _ x0 x1 x2 x3 x4 x5 x6 x7 o1 o2 E rfl rfl hol (H1 w' hb) (H2 w' hb) (HPA w' hb)
      rw [p17] at this; rwa [drop_sub, drop_sub])⟩
  by_cases p6 : num ((l.drop 6).take 1) = 6
  · rw [p6] at HO
    refine ⟨_, _, _, _, _, _, _, _, 6, v, has, true, fun w' hb => steRead6_6 A n c _ _ _ _ _ _ _ _ _ w' h8L rfl rfl v has (fun w A n c h => HST w A n c h) (HO w' hb), fun w' hb => ?_⟩
    rw [drop_sub, drop_sub]
    rcases hE with ⟨hE, rfl, rfl⟩ | ⟨hE, hS, rfl, rfl⟩ | ⟨at_, hE, hS, hv, rfl⟩
    · have := refRead6_6e A n c l w' (h.later hb) hm _ _ _ _ rfl rfl rfl rfl hn g1 hn8 p6 true sh sl true dh dl _ _ x0 x1 x2 x3 x4 x5 x6 x7 o1 o2 E hE rfl rfl hol (H1 w' hb) (H2 w' hb) (HPA w' hb)
      rwa [p6] at this
    · have := refRead6_6z A n c l w' (h.later hb) hm _ _ _ _ rfl rfl rfl rfl hn g1 hn8 p6 true sh sl true dh dl _ _ x0 x1 x2 x3 x4 x5 x6 x7 o1 o2 E hE hS rfl rfl hol (H1 w' hb) (H2 w' hb) (HPA w' hb)
      rwa [p6] at this
    · have := refRead6_6s A n c l w' (h.later hb) hm _ _ _ _ rfl rfl rfl rfl hn g1 hn8 p6 true sh sl true dh dl _ _ x0 x1 x2 x3 x4 x5 x6 x7 o1 o2 E at_ v hE hS hv rfl rfl hol (H1 w' hb) (H2 w' hb) (HPA w' hb)
      rwa [p6] at this
  exact .bad (fun w' hb => steRead6_np A n c _ _ _ _ _ _ _ _ w' p6 p17 (HO w' hb)) (fun w' hb => refRead6_p A n c l w' (h.later hb) hm _ _ _ _ rfl rfl rfl rfl hn g1 hn8 p6 p17)
end Go.Proofs.Ytfmkndemkpecpaa
