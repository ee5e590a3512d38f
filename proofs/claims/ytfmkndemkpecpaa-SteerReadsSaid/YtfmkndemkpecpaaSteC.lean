/- steer.Read (chapter 29). -/
import Derived.Test.YtfmkndemkpecpaaSteB
namespace Go.Proofs.Ytfmkndemkpecpaa
open Go.RowKit
set_option linter.unusedVariables false
set_option linter.unusedSimpArgs false
attribute [local go_sem ↓] sliced_cut
attribute [local go_sem] cutA_zero

def qC (s1 : Bool) (h1 l1 : Nat) (s2 : Bool) (h2 l2 sp dp p st : Nat) (has : Bool) : List Value := [.bool s1, .int .u64 (h1 : Int), .int .u64 (l1 : Int), .bool s2, .int .u64 (h2 : Int), .int .u64 (l2 : Int), .int .u16 (sp : Int), .int .u16 (dp : Int), .int .u8 (p : Int), .int .u32 (st : Int), .bool has]
theorem qC_one (s1 : Bool) (h1 l1 : Nat) (s2 : Bool) (h2 l2 sp dp p st : Nat) (has : Bool) : ∀ u ∈ qC s1 h1 l1 s2 h2 l2 sp dp p st has, u.oneCell' = true := by
  intro u hu
  simp only [qC, List.mem_cons, List.not_mem_nil, or_false] at hu
  rcases hu with rfl | rfl | rfl | rfl | rfl | rfl | rfl | rfl | rfl | rfl | rfl <;> rfl
theorem szQ (s1 : Bool) (h1 l1 : Nat) (s2 : Bool) (h2 l2 sp dp p st : Nat) (has : Bool) : (Try.prog.info? 32).map (·.size) = some (qC s1 h1 l1 s2 h2 l2 sp dp p st has).length := by kernel_rfl
theorem rowQ : ∃ d, Try.prog.underlying 32 = some d ∧ d.isRow = true := ⟨_, Try.underlying32, rfl⟩
set_option maxHeartbeats 4000000 in
set_option maxRecDepth 100000 in
theorem steRead4_bad (A : Option Addr) (n c : Nat) (w : World) (HO : ∀ w', Below w.heap.size w w' → Calls Try.prog 49 #[.slice A n c] w' (RetV w' (.tuple #[.agg (flC false 0 0 false 0 0 0 0 0).toArray, .slice none 0 0, .bool false]))) : Calls Try.prog 13 #[.slice A n c, .bool false] w (RetV w (.tuple #[.agg (qC false 0 0 false 0 0 0 0 0 0 false).toArray, .bool false])) := by
  obtain ⟨du, u1, u2⟩ := rowFl
  obtain ⟨dq, q1, q2⟩ := rowQ
  have b4 : Bk (w.alloc (.cells #[.bool false, .int .u64 0, .int .u64 0, .bool false, .int .u64 0, .int .u64 0, .int .u16 0, .int .u16 0, .int .u8 0, .int .u32 0, .bool false] 32)) w.heap.size 32 (qC false 0 0 false 0 0 0 0 0 0 false) := Bk.new w 32 #[.bool false, .int .u64 0, .int .u64 0, .bool false, .int .u64 0, .int .u64 0, .int .u16 0, .int .u16 0, .int .u8 0, .int .u32 0, .bool false]
  have be : Below w.heap.size w (w.alloc (.cells #[.bool false, .int .u64 0, .int .u64 0, .bool false, .int .u64 0, .int .u64 0, .int .u16 0, .int .u16 0, .int .u8 0, .int .u32 0, .bool false] 32)) := Below.allocS (Below.refl _ _) _
  replace HO := Lib.hid HO
  go_enter Try.func13, Try.ntmps13
  go_upto_region 1 with (fail)
  generalize w.alloc (.cells #[.bool false, .int .u64 0, .int .u64 0, .bool false, .int .u64 0, .int .u64 0, .int .u16 0, .int .u16 0, .int .u8 0, .int .u32 0, .bool false] 32) = V at *
  go_wp2_with fail
  refine (HO.out _ be).mono ?_
  rintro e w1 ⟨bs1, d1, rfl, rfl⟩
  go_upto_region 5 with (refine at_op (.store 29 (.tmp 7) (.tmp 17)) rfl ?_; refine wpList_stA (t := 29) 29 (.tmp 7) (.tmp 17) rfl rfl (flC false 0 0 false 0 0 0 0 0) (flC false 0 0 false 0 0 0 0 0) rfl (flC_one _ _ _ _ _ _ _ _ _) rfl rfl ?_ (szFl _ _ _ _ _ _ _ _ _) ?_; (· refine Bk.newK _ _ _ ?_ rfl; simp [size_plus]); intro W7 hF gr7)
  have zV := be.size
  have z4 := b4.lt
  have b7 := below_grown (Below.allocS (below_plus V bs1 d1) _) gr7 (by omega)
  replace be := be.trans (b7.mono zV)
  replace b4 := b4.later b7
  go_wp2_with (refine at_op (.store 32 (.tmp 4) (.tmp 32)) rfl ?_; refine wpList_stA (t := 32) 32 (.tmp 4) (.tmp 32) rfl rfl (qC false 0 0 false 0 0 0 0 0 0 false) (qC false 0 0 false 0 0 0 0 0 0 false) rfl (qC_one _ _ _ _ _ _ _ _ _ _ _) rfl rfl b4 (szQ _ _ _ _ _ _ _ _ _ _ _) ?_; intro W9 h9 g9)
  refine bodyPost_agg2 Try.results13 rfl rfl h9.range q1 q2 (szQ _ _ _ _ _ _ _ _ _ _ _) rfl (RetV.mk ?_)
  exact below_grown be g9 (by omega)
set_option maxHeartbeats 4000000 in
set_option maxRecDepth 100000 in
theorem steRead4_np (A : Option Addr) (n c : Nat) (s1 : Bool) (h1 l1 : Nat) (s2 : Bool) (h2 l2 p : Nat) (L : List UInt8) (w : World) (hp6 : p ≠ 6) (hp17 : p ≠ 17) (HO : ∀ w', Below w.heap.size w w' → Calls Try.prog 49 #[.slice A n c] w' (RetOp w' s1 h1 l1 s2 h2 l2 p L)) : Calls Try.prog 13 #[.slice A n c, .bool false] w (RetV w (.tuple #[.agg (qC false 0 0 false 0 0 0 0 0 0 false).toArray, .bool false])) := by
  have n6 : ((p : Int) != 6) = true := by rw [bne_iff_ne]; omega
  have n17 : ((p : Int) != 17) = true := by rw [bne_iff_ne]; omega
  clear hp6 hp17
  obtain ⟨du, u1, u2⟩ := rowFl
  obtain ⟨dq, q1, q2⟩ := rowQ
  have b4 : Bk (w.alloc (.cells #[.bool false, .int .u64 0, .int .u64 0, .bool false, .int .u64 0, .int .u64 0, .int .u16 0, .int .u16 0, .int .u8 0, .int .u32 0, .bool false] 32)) w.heap.size 32 (qC false 0 0 false 0 0 0 0 0 0 false) := Bk.new w 32 #[.bool false, .int .u64 0, .int .u64 0, .bool false, .int .u64 0, .int .u64 0, .int .u16 0, .int .u16 0, .int .u8 0, .int .u32 0, .bool false]
  have be : Below w.heap.size w (w.alloc (.cells #[.bool false, .int .u64 0, .int .u64 0, .bool false, .int .u64 0, .int .u64 0, .int .u16 0, .int .u16 0, .int .u8 0, .int .u32 0, .bool false] 32)) := Below.allocS (Below.refl _ _) _
  replace HO := Lib.hid HO
  go_enter Try.func13, Try.ntmps13
  go_upto_region 1 with (fail)
  generalize w.alloc (.cells #[.bool false, .int .u64 0, .int .u64 0, .bool false, .int .u64 0, .int .u64 0, .int .u16 0, .int .u16 0, .int .u8 0, .int .u32 0, .bool false] 32) = V at *
  go_wp2_with fail
  refine (HO.out _ be).mono ?_
  rintro e w1 ⟨A1, m1, k1, bs1, d1, rfl, rfl, -⟩
  go_upto_region 5 with (refine at_op (.store 29 (.tmp 7) (.tmp 17)) rfl ?_; refine wpList_stA (t := 29) 29 (.tmp 7) (.tmp 17) rfl rfl (flC s1 h1 l1 s2 h2 l2 0 0 p) (flC false 0 0 false 0 0 0 0 0) rfl (flC_one _ _ _ _ _ _ _ _ _) rfl rfl ?_ (szFl _ _ _ _ _ _ _ _ _) ?_; (· refine Bk.newK _ _ _ ?_ rfl; simp [size_plus]); intro W7 hF gr7)
  have zV := be.size
  have z4 := b4.lt
  have b7 := below_grown (Below.allocS (below_plus V bs1 d1) _) gr7 (by omega)
  replace be := be.trans (b7.mono zV)
  replace b4 := b4.later b7
  have yp : W7.cell? ⟨V.heap.size + bs1.length, 8, none⟩ = some (.int .u8 (p : Int)) := hF.cell 8
  have zF := hF.lt
  go_wp2_with (refine at_op (.store 32 (.tmp 4) (.tmp 32)) rfl ?_; refine wpList_stA (t := 32) 32 (.tmp 4) (.tmp 32) rfl rfl (qC false 0 0 false 0 0 0 0 0 0 false) (qC false 0 0 false 0 0 0 0 0 0 false) rfl (qC_one _ _ _ _ _ _ _ _ _ _ _) rfl rfl b4 (szQ _ _ _ _ _ _ _ _ _ _ _) ?_; intro W9 h9 g9)
  refine bodyPost_agg2 Try.results13 rfl rfl h9.range q1 q2 (szQ _ _ _ _ _ _ _ _ _ _ _) rfl (RetV.mk ?_)
  exact below_grown be g9 (by omega)
/- the rest: see the next text -/
set_option maxHeartbeats 4000000 in
set_option maxRecDepth 100000 in
theorem steRead6_bad (A : Option Addr) (n c : Nat) (w : World) (HO : ∀ w', Below w.heap.size w w' → Calls Try.prog 50 #[.slice A n c] w' (RetV w' (.tuple #[.agg (flC false 0 0 false 0 0 0 0 0).toArray, .slice none 0 0, .bool false]))) : Calls Try.prog 13 #[.slice A n c, .bool true] w (RetV w (.tuple #[.agg (qC false 0 0 false 0 0 0 0 0 0 false).toArray, .bool false])) := by
  obtain ⟨du, u1, u2⟩ := rowFl
  obtain ⟨dq, q1, q2⟩ := rowQ
  have b4 : Bk (w.alloc (.cells #[.bool false, .int .u64 0, .int .u64 0, .bool false, .int .u64 0, .int .u64 0, .int .u16 0, .int .u16 0, .int .u8 0, .int .u32 0, .bool false] 32)) w.heap.size 32 (qC false 0 0 false 0 0 0 0 0 0 false) := Bk.new w 32 #[.bool false, .int .u64 0, .int .u64 0, .bool false, .int .u64 0, .int .u64 0, .int .u16 0, .int .u16 0, .int .u8 0, .int .u32 0, .bool false]
  have be : Below w.heap.size w (w.alloc (.cells #[.bool false, .int .u64 0, .int .u64 0, .bool false, .int .u64 0, .int .u64 0, .int .u16 0, .int .u16 0, .int .u8 0, .int .u32 0, .bool false] 32)) := Below.allocS (Below.refl _ _) _
  replace HO := Lib.hid HO
  go_enter Try.func13, Try.ntmps13
  go_upto_region 1 with (fail)
  generalize w.alloc (.cells #[.bool false, .int .u64 0, .int .u64 0, .bool false, .int .u64 0, .int .u64 0, .int .u16 0, .int .u16 0, .int .u8 0, .int .u32 0, .bool false] 32) = V at *
  go_wp2_with fail
  refine (HO.out _ be).mono ?_
  rintro e w1 ⟨bs1, d1, rfl, rfl⟩
  go_upto_region 5 with (refine at_op (.store 29 (.tmp 7) (.tmp 17)) rfl ?_; refine wpList_stA (t := 29) 29 (.tmp 7) (.tmp 17) rfl rfl (flC false 0 0 false 0 0 0 0 0) (flC false 0 0 false 0 0 0 0 0) rfl (flC_one _ _ _ _ _ _ _ _ _) rfl rfl ?_ (szFl _ _ _ _ _ _ _ _ _) ?_; (· refine Bk.newK _ _ _ ?_ rfl; simp [size_plus]); intro W7 hF gr7)
  have zV := be.size
  have z4 := b4.lt
  have b7 := below_grown (Below.allocS (below_plus V bs1 d1) _) gr7 (by omega)
  replace be := be.trans (b7.mono zV)
  replace b4 := b4.later b7
  go_wp2_with (refine at_op (.store 32 (.tmp 4) (.tmp 32)) rfl ?_; refine wpList_stA (t := 32) 32 (.tmp 4) (.tmp 32) rfl rfl (qC false 0 0 false 0 0 0 0 0 0 false) (qC false 0 0 false 0 0 0 0 0 0 false) rfl (qC_one _ _ _ _ _ _ _ _ _ _ _) rfl rfl b4 (szQ _ _ _ _ _ _ _ _ _ _ _) ?_; intro W9 h9 g9)
  refine bodyPost_agg2 Try.results13 rfl rfl h9.range q1 q2 (szQ _ _ _ _ _ _ _ _ _ _ _) rfl (RetV.mk ?_)
  exact below_grown be g9 (by omega)
set_option maxHeartbeats 4000000 in
set_option maxRecDepth 100000 in
theorem steRead6_np (A : Option Addr) (n c : Nat) (s1 : Bool) (h1 l1 : Nat) (s2 : Bool) (h2 l2 p : Nat) (L : List UInt8) (w : World) (hp6 : p ≠ 6) (hp17 : p ≠ 17) (HO : ∀ w', Below w.heap.size w w' → Calls Try.prog 50 #[.slice A n c] w' (RetOp w' s1 h1 l1 s2 h2 l2 p L)) : Calls Try.prog 13 #[.slice A n c, .bool true] w (RetV w (.tuple #[.agg (qC false 0 0 false 0 0 0 0 0 0 false).toArray, .bool false])) := by
  have n6 : ((p : Int) != 6) = true := by rw [bne_iff_ne]; omega
  have n17 : ((p : Int) != 17) = true := by rw [bne_iff_ne]; omega
  clear hp6 hp17
  obtain ⟨du, u1, u2⟩ := rowFl
  obtain ⟨dq, q1, q2⟩ := rowQ
  have b4 : Bk (w.alloc (.cells #[.bool false, .int .u64 0, .int .u64 0, .bool false, .int .u64 0, .int .u64 0, .int .u16 0, .int .u16 0, .int .u8 0, .int .u32 0, .bool false] 32)) w.heap.size 32 (qC false 0 0 false 0 0 0 0 0 0 false) := Bk.new w 32 #[.bool false, .int .u64 0, .int .u64 0, .bool false, .int .u64 0, .int .u64 0, .int .u16 0, .int .u16 0, .int .u8 0, .int .u32 0, .bool false]
  have be : Below w.heap.size w (w.alloc (.cells #[.bool false, .int .u64 0, .int .u64 0, .bool false, .int .u64 0, .int .u64 0, .int .u16 0, .int .u16 0, .int .u8 0, .int .u32 0, .bool false] 32)) := Below.allocS (Below.refl _ _) _
  replace HO := Lib.hid HO
  go_enter Try.func13, Try.ntmps13
  go_upto_region 1 with (fail)
  generalize w.alloc (.cells #[.bool false, .int .u64 0, .int .u64 0, .bool false, .int .u64 0, .int .u64 0, .int .u16 0, .int .u16 0, .int .u8 0, .int .u32 0, .bool false] 32) = V at *
  go_wp2_with fail
  refine (HO.out _ be).mono ?_
  rintro e w1 ⟨A1, m1, k1, bs1, d1, rfl, rfl, -⟩
  go_upto_region 5 with (refine at_op (.store 29 (.tmp 7) (.tmp 17)) rfl ?_; refine wpList_stA (t := 29) 29 (.tmp 7) (.tmp 17) rfl rfl (flC s1 h1 l1 s2 h2 l2 0 0 p) (flC false 0 0 false 0 0 0 0 0) rfl (flC_one _ _ _ _ _ _ _ _ _) rfl rfl ?_ (szFl _ _ _ _ _ _ _ _ _) ?_; (· refine Bk.newK _ _ _ ?_ rfl; simp [size_plus]); intro W7 hF gr7)
  have zV := be.size
  have z4 := b4.lt
  have b7 := below_grown (Below.allocS (below_plus V bs1 d1) _) gr7 (by omega)
  replace be := be.trans (b7.mono zV)
  replace b4 := b4.later b7
  have yp : W7.cell? ⟨V.heap.size + bs1.length, 8, none⟩ = some (.int .u8 (p : Int)) := hF.cell 8
  have zF := hF.lt
  go_wp2_with (refine at_op (.store 32 (.tmp 4) (.tmp 32)) rfl ?_; refine wpList_stA (t := 32) 32 (.tmp 4) (.tmp 32) rfl rfl (qC false 0 0 false 0 0 0 0 0 0 false) (qC false 0 0 false 0 0 0 0 0 0 false) rfl (qC_one _ _ _ _ _ _ _ _ _ _ _) rfl rfl b4 (szQ _ _ _ _ _ _ _ _ _ _ _) ?_; intro W9 h9 g9)
  refine bodyPost_agg2 Try.results13 rfl rfl h9.range q1 q2 (szQ _ _ _ _ _ _ _ _ _ _ _) rfl (RetV.mk ?_)
  exact below_grown be g9 (by omega)
/- the rest: see the next text -/
end Go.Proofs.Ytfmkndemkpecpaa
