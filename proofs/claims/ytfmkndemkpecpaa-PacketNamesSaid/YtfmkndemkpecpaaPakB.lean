/- packet.Read of nothing; awake; the law PacketNames (chapter 28). -/
import Derived.Test.YtfmkndemkpecpaaPakA
namespace Go.Proofs.Ytfmkndemkpecpaa
open Go.RowKit
set_option linter.unusedVariables false
set_option linter.unusedSimpArgs false
attribute [local go_sem ↓] sliced_cut
attribute [local go_sem] cutA_zero

def hdZ : List Value := [.bool false, .bool false, .int .u8 0, .bool false, .int .u64 0, .int .u64 0, .bool false, .int .u64 0, .int .u64 0, .int .u16 0, .int .u16 0, .int .u8 0, .int .u16 0, .int .u16 0, .int .u32 0, .int .u32 0, .int .u8 0, .int .u16 0, .int .u16 0, .int .u16 0, .slice none 0 0, .slice none 0 0, .int .u16 0, .int .u16 0, .int .u16 0, .slice none 0 0, .int .u8 0, .int .u8 0, .int .u16 0, .int .u32 0, .slice none 0 0, .bool false, .slice none 0 0]
def inZ : List Value := [.bool false, .bool false, .int .u8 0, .bool false, .int .u64 0, .int .u64 0, .bool false, .int .u64 0, .int .u64 0, .int .u16 0, .int .u16 0, .int .u8 0, .int .u16 0, .int .u16 0, .int .u32 0, .int .u32 0, .int .u8 0, .int .u16 0, .int .u16 0, .int .u16 0, .slice none 0 0, .slice none 0 0, .int .u16 0, .int .u16 0, .int .u16 0, .slice none 0 0, .int .u8 0, .int .u8 0, .int .u16 0, .int .u32 0, .slice none 0 0]
theorem hdZ_one : ∀ u ∈ hdZ, u.oneCell' = true := by decide
theorem inZ_one : ∀ u ∈ inZ, u.oneCell' = true := by decide
theorem szHd : (Try.prog.info? 225).map (·.size) = some hdZ.length := by kernel_rfl
theorem szIn : (Try.prog.info? 53).map (·.size) = some inZ.length := by kernel_rfl
theorem rowHd : ∃ d, Try.prog.underlying 225 = some d ∧ d.isRow = true := ⟨_, Try.underlying225, rfl⟩
theorem rowIn : ∃ d, Try.prog.underlying 53 = some d ∧ d.isRow = true := ⟨_, Try.underlying53, rfl⟩
theorem sixNil (w : World) : Calls Try.prog 68 #[.slice none 0 0] w fun e w' => e = .returned (.tuple #[.bool false, .int .i64 20]) ∧ w = w' := by
  go_enter Try.func68, Try.ntmps68
  go_wp2
  go_ret2
  exact ⟨rfl, rfl⟩
set_option maxHeartbeats 4000000 in
set_option maxRecDepth 100000 in
theorem openNil (w : World) : Calls Try.prog 114 #[.slice none 0 0] w (RetV w (.tuple #[.agg hdZ.toArray, .int .i64 20])) := by
  obtain ⟨du, u1, u2⟩ := rowHd
  have b2 : Bk (w.alloc (.cells #[.bool false, .bool false, .int .u8 0, .bool false, .int .u64 0, .int .u64 0, .bool false, .int .u64 0, .int .u64 0, .int .u16 0, .int .u16 0, .int .u8 0, .int .u16 0, .int .u16 0, .int .u32 0, .int .u32 0, .int .u8 0, .int .u16 0, .int .u16 0, .int .u16 0, .slice none 0 0, .slice none 0 0, .int .u16 0, .int .u16 0, .int .u16 0, .slice none 0 0, .int .u8 0, .int .u8 0, .int .u16 0, .int .u32 0, .slice none 0 0, .bool false, .slice none 0 0] 225)) w.heap.size 225 hdZ := Bk.new w 225 #[.bool false, .bool false, .int .u8 0, .bool false, .int .u64 0, .int .u64 0, .bool false, .int .u64 0, .int .u64 0, .int .u16 0, .int .u16 0, .int .u8 0, .int .u16 0, .int .u16 0, .int .u32 0, .int .u32 0, .int .u8 0, .int .u16 0, .int .u16 0, .int .u16 0, .slice none 0 0, .slice none 0 0, .int .u16 0, .int .u16 0, .int .u16 0, .slice none 0 0, .int .u8 0, .int .u8 0, .int .u16 0, .int .u32 0, .slice none 0 0, .bool false, .slice none 0 0]
  have be : Below w.heap.size w (w.alloc (.cells #[.bool false, .bool false, .int .u8 0, .bool false, .int .u64 0, .int .u64 0, .bool false, .int .u64 0, .int .u64 0, .int .u16 0, .int .u16 0, .int .u8 0, .int .u16 0, .int .u16 0, .int .u32 0, .int .u32 0, .int .u8 0, .int .u16 0, .int .u16 0, .int .u16 0, .slice none 0 0, .slice none 0 0, .int .u16 0, .int .u16 0, .int .u16 0, .slice none 0 0, .int .u8 0, .int .u8 0, .int .u16 0, .int .u32 0, .slice none 0 0, .bool false, .slice none 0 0] 225)) := Below.allocS (Below.refl _ _) _
  go_enter Try.func114, Try.ntmps114
  go_upto_region 1 with (fail)
  generalize w.alloc (.cells #[.bool false, .bool false, .int .u8 0, .bool false, .int .u64 0, .int .u64 0, .bool false, .int .u64 0, .int .u64 0, .int .u16 0, .int .u16 0, .int .u8 0, .int .u16 0, .int .u16 0, .int .u32 0, .int .u32 0, .int .u8 0, .int .u16 0, .int .u16 0, .int .u16 0, .slice none 0 0, .slice none 0 0, .int .u16 0, .int .u16 0, .int .u16 0, .slice none 0 0, .int .u8 0, .int .u8 0, .int .u16 0, .int .u32 0, .slice none 0 0, .bool false, .slice none 0 0] 225) = V at *
  go_wp2_with fail
  refine (sixNil _).mono ?_
  rintro e w1 ⟨rfl, rfl⟩
  go_wp2_with (refine at_op (.store 225 (.tmp 2) (.tmp 19)) rfl ?_; refine wpList_stA (t := 225) 225 (.tmp 2) (.tmp 19) rfl rfl hdZ hdZ rfl hdZ_one rfl rfl b2 szHd ?_; intro W9 h9 g9)
  refine bodyPost_agg2 Try.results114 rfl rfl h9.range u1 u2 szHd rfl (RetV.mk ?_)
  exact below_grown be g9 (by omega)
set_option maxHeartbeats 4000000 in
set_option maxRecDepth 100000 in
theorem lookNil (w : World) : Calls Try.prog 58 #[.slice none 0 0, .int .i64 1] w (RetV w (.tuple #[.agg inZ.toArray, .int .i64 1])) := by
  obtain ⟨du, u1, u2⟩ := rowIn
  have b2 : Bk (w.alloc (.cells #[.bool false, .bool false, .int .u8 0, .bool false, .int .u64 0, .int .u64 0, .bool false, .int .u64 0, .int .u64 0, .int .u16 0, .int .u16 0, .int .u8 0, .int .u16 0, .int .u16 0, .int .u32 0, .int .u32 0, .int .u8 0, .int .u16 0, .int .u16 0, .int .u16 0, .slice none 0 0, .slice none 0 0, .int .u16 0, .int .u16 0, .int .u16 0, .slice none 0 0, .int .u8 0, .int .u8 0, .int .u16 0, .int .u32 0, .slice none 0 0] 53)) w.heap.size 53 inZ := Bk.new w 53 #[.bool false, .bool false, .int .u8 0, .bool false, .int .u64 0, .int .u64 0, .bool false, .int .u64 0, .int .u64 0, .int .u16 0, .int .u16 0, .int .u8 0, .int .u16 0, .int .u16 0, .int .u32 0, .int .u32 0, .int .u8 0, .int .u16 0, .int .u16 0, .int .u16 0, .slice none 0 0, .slice none 0 0, .int .u16 0, .int .u16 0, .int .u16 0, .slice none 0 0, .int .u8 0, .int .u8 0, .int .u16 0, .int .u32 0, .slice none 0 0]
  have be : Below w.heap.size w (w.alloc (.cells #[.bool false, .bool false, .int .u8 0, .bool false, .int .u64 0, .int .u64 0, .bool false, .int .u64 0, .int .u64 0, .int .u16 0, .int .u16 0, .int .u8 0, .int .u16 0, .int .u16 0, .int .u32 0, .int .u32 0, .int .u8 0, .int .u16 0, .int .u16 0, .int .u16 0, .slice none 0 0, .slice none 0 0, .int .u16 0, .int .u16 0, .int .u16 0, .slice none 0 0, .int .u8 0, .int .u8 0, .int .u16 0, .int .u32 0, .slice none 0 0] 53)) := Below.allocS (Below.refl _ _) _
  go_enter Try.func58, Try.ntmps58
  go_upto_region 1 with (fail)
  generalize w.alloc (.cells #[.bool false, .bool false, .int .u8 0, .bool false, .int .u64 0, .int .u64 0, .bool false, .int .u64 0, .int .u64 0, .int .u16 0, .int .u16 0, .int .u8 0, .int .u16 0, .int .u16 0, .int .u32 0, .int .u32 0, .int .u8 0, .int .u16 0, .int .u16 0, .int .u16 0, .slice none 0 0, .slice none 0 0, .int .u16 0, .int .u16 0, .int .u16 0, .slice none 0 0, .int .u8 0, .int .u8 0, .int .u16 0, .int .u32 0, .slice none 0 0] 53) = V at *
  go_wp2_with fail
  refine (openNil _).mono ?_
  rintro e w1 ⟨bs1, d1, rfl, rfl⟩
  go_upto_region 2 with (refine at_op (.store 225 (.tmp 6) (.tmp 13)) rfl ?_; refine wpList_stA (t := 225) 225 (.tmp 6) (.tmp 13) rfl rfl hdZ hdZ rfl hdZ_one rfl rfl ?_ szHd ?_; (· refine Bk.newK _ _ _ ?_ rfl; simp [size_plus]); intro W3 h3 g3)
  have zb := be.size
  have z2 := b2.lt
  replace b2 := ((b2.later (below_plus _ bs1 d1)).alloc _).grown g3 (by simp; omega)
  replace be := below_grown (Below.allocS (belowP be bs1 d1) _) g3 (by omega)
  clear g3 h3 zb z2
  go_wp2_with (first
    | (go_at_call 17; refine (ofP 20 _).mono ?_; rintro e w1 ⟨rfl, rfl⟩)
    | (refine at_op (.store 53 (.tmp 4) (.tmp 17)) rfl ?_; refine wpList_stA (t := 53) 53 (.tmp 4) (.tmp 17) rfl rfl inZ inZ rfl inZ_one rfl rfl b2 szIn ?_; intro W9 h9 g9))
  refine bodyPost_agg2 Try.results58 rfl rfl h9.range u1 u2 szIn rfl (RetV.mk ?_)
  exact below_grown be g9 (by omega)
set_option maxHeartbeats 4000000 in
set_option maxRecDepth 100000 in
theorem readNil (w : World) : Calls Try.prog 20 #[.slice none 0 0] w (RetV w (.tuple #[.agg inZ.toArray, .int .i64 1])) := by
  obtain ⟨du, u1, u2⟩ := rowIn
  have b2 : Bk (w.alloc (.cells #[.bool false, .bool false, .int .u8 0, .bool false, .int .u64 0, .int .u64 0, .bool false, .int .u64 0, .int .u64 0, .int .u16 0, .int .u16 0, .int .u8 0, .int .u16 0, .int .u16 0, .int .u32 0, .int .u32 0, .int .u8 0, .int .u16 0, .int .u16 0, .int .u16 0, .slice none 0 0, .slice none 0 0, .int .u16 0, .int .u16 0, .int .u16 0, .slice none 0 0, .int .u8 0, .int .u8 0, .int .u16 0, .int .u32 0, .slice none 0 0] 53)) w.heap.size 53 inZ := Bk.new w 53 #[.bool false, .bool false, .int .u8 0, .bool false, .int .u64 0, .int .u64 0, .bool false, .int .u64 0, .int .u64 0, .int .u16 0, .int .u16 0, .int .u8 0, .int .u16 0, .int .u16 0, .int .u32 0, .int .u32 0, .int .u8 0, .int .u16 0, .int .u16 0, .int .u16 0, .slice none 0 0, .slice none 0 0, .int .u16 0, .int .u16 0, .int .u16 0, .slice none 0 0, .int .u8 0, .int .u8 0, .int .u16 0, .int .u32 0, .slice none 0 0]
  have be : Below w.heap.size w (w.alloc (.cells #[.bool false, .bool false, .int .u8 0, .bool false, .int .u64 0, .int .u64 0, .bool false, .int .u64 0, .int .u64 0, .int .u16 0, .int .u16 0, .int .u8 0, .int .u16 0, .int .u16 0, .int .u32 0, .int .u32 0, .int .u8 0, .int .u16 0, .int .u16 0, .int .u16 0, .slice none 0 0, .slice none 0 0, .int .u16 0, .int .u16 0, .int .u16 0, .slice none 0 0, .int .u8 0, .int .u8 0, .int .u16 0, .int .u32 0, .slice none 0 0] 53)) := Below.allocS (Below.refl _ _) _
  go_enter Try.func20, Try.ntmps20
  go_upto_region 1 with (fail)
  generalize w.alloc (.cells #[.bool false, .bool false, .int .u8 0, .bool false, .int .u64 0, .int .u64 0, .bool false, .int .u64 0, .int .u64 0, .int .u16 0, .int .u16 0, .int .u8 0, .int .u16 0, .int .u16 0, .int .u32 0, .int .u32 0, .int .u8 0, .int .u16 0, .int .u16 0, .int .u16 0, .slice none 0 0, .slice none 0 0, .int .u16 0, .int .u16 0, .int .u16 0, .slice none 0 0, .int .u8 0, .int .u8 0, .int .u16 0, .int .u32 0, .slice none 0 0] 53) = V at *
  go_wp2_with fail
  refine (lookNil _).mono ?_
  rintro e w1 ⟨bs1, d1, rfl, rfl⟩
  have zb := be.size
  replace b2 := b2.later (below_plus _ bs1 d1)
  replace be := belowP be bs1 d1
  go_wp2_with (refine at_op (.store 53 (.tmp 2) (.tmp 6)) rfl ?_; refine wpList_stA (t := 53) 53 (.tmp 2) (.tmp 6) rfl rfl inZ inZ rfl inZ_one rfl rfl b2 szIn ?_; intro W9 h9 g9)
  refine bodyPost_agg2 Try.results20 rfl rfl h9.range u1 u2 szIn rfl (RetV.mk ?_)
  exact below_grown be g9 (by omega)
set_option maxHeartbeats 4000000 in
set_option maxRecDepth 100000 in
theorem nameShort (w : World) : Calls Try.prog 15 #[.int .i64 1] w (RetV w (.string ⟨#[115, 104, 111, 114, 116]⟩)) := by
  have szN : (Try.prog.info? 154).map (·.size) = some nmC.length := by kernel_rfl
  go_enter Try.func15, Try.ntmps15
  go_upto_region 4 with (refine at_op (.store 154 (.tmp 3) (.tmp 10)) rfl ?_; refine wpList_stA (t := 154) 154 (.tmp 3) (.tmp 10) rfl rfl nmC (List.replicate 16 (.string ⟨#[]⟩)) rfl nmC_one rfl rfl ?_ szN ?_; (· refine Bk.newK _ _ _ ?_ rfl; simp [size_plus]); intro W hX gr)
  have y : W.cell? ⟨w.heap.size, 1, none⟩ = some (.string ⟨#[115, 104, 111, 114, 116]⟩) := hX.cell 1
  have be := below_grown (Below.allocS (Below.refl _ _) _) gr (Nat.le_refl _)
  clear gr hX
  go_wp2
  go_ret
  exact RetV.is_ rfl be
set_option maxHeartbeats 4000000 in
set_option maxRecDepth 100000 in
theorem awake28 (w : World) : Calls Try.prog 19 #[] w (RetV w (.bool true)) := by
  go_enter Try.func19, Try.ntmps19
  go_wp2_with fail
  refine (readNil _).mono ?_
  rintro e w1 ⟨bs1, d1, rfl, rfl⟩
  go_upto_region 2 with (refine at_op (.store 53 (.tmp 1) (.tmp 5)) rfl ?_; refine wpList_stA (t := 53) 53 (.tmp 1) (.tmp 5) rfl rfl inZ inZ rfl inZ_one rfl rfl ?_ szIn ?_; (· refine Bk.newK _ _ _ ?_ rfl; simp [size_plus]); intro W3 h3 g3)
  have be := below_grown (Below.allocS (below_plus w bs1 d1) _) g3 (by omega)
  clear g3 h3
  go_wp2_with (go_at_call 15; refine (nameShort _).mono ?_; rintro e w1 ⟨bs2, d2, rfl, rfl⟩)
  go_ret
  exact RetV.is_ rfl (belowP be _ _)
set_option maxHeartbeats 4000000 in
set_option maxRecDepth 100000 in
theorem packetNames_walk (w : World) (r : Int) (hr : -9223372036854775808 ≤ r ∧ r ≤ 9223372036854775807) (e : Int) (he : -9223372036854775808 ≤ e ∧ e ≤ 9223372036854775807) : Calls Try.prog 4 #[.int .i64 r, .int .i64 e] w fun x w' => x = .returned (.bool true) ∧ Below w.heap.size w w' := by
  obtain ⟨x, h1, h2⟩ := names r hr
  have HA := Lib.hid awake28
  have HP := Lib.hid (ofP e)
  have HR := Lib.hid (ofR e)
  replace h1 := Lib.hid h1
  replace h2 := Lib.hid h2
  generalize ofN e = q at *
  clear hr he
  go_enter Try.func4, Try.ntmps4
  go_wp2_with (first
    | (go_at_call 15; (with_reducible refine (h1.out _).mono ?_); rintro e w1 ⟨bs1, d1, rfl, rfl⟩)
    | (go_at_call 16; (with_reducible refine (h2.out _).mono ?_); rintro e w1 ⟨bs2, d2, rfl, rfl⟩)
    | (go_at_call 17; (with_reducible refine (HP.out _).mono ?_); rintro e w1 ⟨rfl, rfl⟩)
    | (go_at_call 18; (with_reducible refine (HR.out _).mono ?_); rintro e w1 ⟨rfl, rfl⟩)
    | (go_at_call 19; (with_reducible refine (HA.out _).mono ?_); rintro e w1 ⟨bs3, d3, rfl, rfl⟩))
  go_ret
  exact ⟨rfl, belowP (belowP (below_plus _ _ _) _ _) _ _⟩
end Go.Proofs.Ytfmkndemkpecpaa
