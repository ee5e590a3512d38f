/- Texts of the law PacketReads, part 3. -/
import Derived.Test.YtfmkndemkpecpaaZPacketReads2
/- Contracts of the reference's Parse of TCP segments. -/
namespace Go.Proofs.Ytfmkndemkpecpaa
open Go.RowKit
set_option linter.unusedVariables false
set_option linter.unusedSimpArgs false
attribute [local go_sem ↓] sliced_cut

attribute [local go_sem] cutA_zero

theorem refGetV (A : Option Addr) (n c : Nat) (l : List UInt8) (k s : Int) (k' s' x : Nat) (w : World) (h : Rb w A n c l) (hk : k = k') (hs : s = s') (hx : num ((l.drop k').take s') = x) (hm : n ≤ 1099511627776) (hn : k' + s' ≤ n) (h8 : s' ≤ 8) :
    Calls Try.prog 54 #[.slice A n c, .int .i64 k, .int .i64 s] w fun e w' => e = .returned (.int .u64 (x : Nat)) ∧ w = w' := by
  subst hk hs hx
  exact refGet_any A n c l k' s' w h hm hn h8
theorem szSegR (cs : List Value) (h : cs.length = 10) : (Try.prog.info? 56).map (·.size) = some cs.length := by rw [h]; kernel_rfl
set_option maxRecDepth 100000 in
theorem run_buildSegR0 (w : World) : (Instr.build 56 #[]).run Try.prog w = .ok (.agg #[.int .u16 0, .int .u16 0, .int .u32 0, .int .u32 0, .int .u8 0, .int .u16 0, .int .u16 0, .int .u16 0, .slice none 0 0, .slice none 0 0]) w := by kernel_rfl

theorem refTcpParse_short (A : Option Addr) (n c : Nat) (l : List UInt8) (w : World) (hr : Rb w A n c l) (hn : n < 20) : Calls Try.prog 56 #[.slice A n c] w (RetSeg w 0 0 0 0 0 0 0 0 [] [] (.int .i64 20)) := by
  have hZ : Bk (w.alloc (.cells #[.int .u16 0, .int .u16 0, .int .u32 0, .int .u32 0, .int .u8 0, .int .u16 0, .int .u16 0, .int .u16 0, .slice none 0 0, .slice none 0 0] 56)) w.heap.size 56 [.int .u16 0, .int .u16 0, .int .u32 0, .int .u32 0, .int .u8 0, .int .u16 0, .int .u16 0, .int .u16 0, .slice none 0 0, .slice none 0 0] := Bk.new w 56 #[.int .u16 0, .int .u16 0, .int .u32 0, .int .u32 0, .int .u8 0, .int .u16 0, .int .u16 0, .int .u16 0, .slice none 0 0, .slice none 0 0]
  go_enter Try.func56, Try.ntmps56
  go_wp2_with (first
    | (refine at_op (.build 56 #[]) rfl ?_; refine wpList_build 56 [] rfl rfl (.agg #[.int .u16 0, .int .u16 0, .int .u32 0, .int .u32 0, .int .u8 0, .int .u16 0, .int .u16 0, .int .u16 0, .slice none 0 0, .slice none 0 0]) ?_ ?_; exact run_buildSegR0 _)
    | (refine at_op (.store 56 (.tmp 2) (.tmp 9)) rfl ?_; refine wpList_stA (t := 56) 56 (.tmp 2) (.tmp 9) rfl rfl [.int .u16 0, .int .u16 0, .int .u32 0, .int .u32 0, .int .u8 0, .int .u16 0, .int .u16 0, .int .u16 0, .slice none 0 0, .slice none 0 0] [.int .u16 0, .int .u16 0, .int .u32 0, .int .u32 0, .int .u8 0, .int .u16 0, .int .u16 0, .int .u16 0, .slice none 0 0, .slice none 0 0] rfl (by simp [Value.oneCell']) rfl rfl hZ (szSegR _ rfl) ?_; intro w2 hb2 hg2))
  refine bodyPost_agg2 Try.results56 rfl rfl hb2.range Try.underlying56 rfl (szSegR _ rfl) rfl (RetSeg.zero ?_)
  exact below_grown ((Below.refl _ _).alloc (Nat.le_refl _) _) hg2 (Nat.le_refl _)

set_option maxHeartbeats 4000000 in
theorem refTcpParse_form1 (A : Option Addr) (n c : Nat) (l : List UInt8) (w : World) (hr : Rb w A n c l) (h20 : 20 ≤ n) (hn : n ≤ 1000000) (x0 : Nat) (x1 : Nat) (x2 : Nat) (x3 : Nat) (xf : Nat) (x4 : Nat) (x5 : Nat) (x6 : Nat) (x7 : Nat) (hx0 : num ((l.drop 0).take 2) = x0) (hx1 : num ((l.drop 2).take 2) = x1) (hx2 : num ((l.drop 4).take 4) = x2) (hx3 : num ((l.drop 8).take 4) = x3) (hxf : num ((l.drop 12).take 1) = xf) (hx4 : num ((l.drop 13).take 1) = x4) (hx5 : num ((l.drop 14).take 2) = x5) (hx6 : num ((l.drop 16).take 2) = x6) (hx7 : num ((l.drop 18).take 2) = x7) (hs : xf / 16 < 5) :
    Calls Try.prog 56 #[.slice A n c] w (RetSeg w 0 0 0 0 0 0 0 0 [] [] (.int .i64 21)) := by
  have hc := hr.cap
  have h20i : (20 : Int) ≤ (n : Int) := by omega
  have hf : xf < 256 := by rw [← hxf]; exact num_lt' l 12 1 256 (by decide)
  obtain ⟨b, off, rfl, hlt, hcell⟩ := hr.2.2.at_ (by rw [bcs_length, hr.1]; omega)
  have q12 := num_cell hcell 12 (by rw [hr.1]; omega)
  have q13 := num_cell hcell 13 (by rw [hr.1]; omega)
  rw [hxf] at q12
  rw [hx4] at q13
  have i12 : (12 : Int) < (n : Int) := by omega
  have i13 : (13 : Int) < (n : Int) := by omega
  have Hx0 := Lib.hid hx0
  have Hx1 := Lib.hid hx1
  have Hx2 := Lib.hid hx2
  have Hx3 := Lib.hid hx3
  have Hxf := Lib.hid hxf
  have Hx4 := Lib.hid hx4
  have Hx5 := Lib.hid hx5
  have Hx6 := Lib.hid hx6
  have Hx7 := Lib.hid hx7
  clear hx0 hx1 hx2 hx3 hxf hx4 hx5 hx6 hx7 hcell
  have t1 : decide (((xf : Int) / 16) * 4 < 20) = true := by simp; omega
  have hZ : Bk (w.alloc (.cells #[.int .u16 0, .int .u16 0, .int .u32 0, .int .u32 0, .int .u8 0, .int .u16 0, .int .u16 0, .int .u16 0, .slice none 0 0, .slice none 0 0] 56)) w.heap.size 56 [.int .u16 0, .int .u16 0, .int .u32 0, .int .u32 0, .int .u8 0, .int .u16 0, .int .u16 0, .int .u16 0, .slice none 0 0, .slice none 0 0] := Bk.new w 56 #[.int .u16 0, .int .u16 0, .int .u32 0, .int .u32 0, .int .u8 0, .int .u16 0, .int .u16 0, .int .u16 0, .slice none 0 0, .slice none 0 0]
  go_enter Try.func56, Try.ntmps56
  go_wp2_with (first
    | (refine at_op (.build 56 #[]) rfl ?_; refine wpList_build 56 [] rfl rfl (.agg #[.int .u16 0, .int .u16 0, .int .u32 0, .int .u32 0, .int .u8 0, .int .u16 0, .int .u16 0, .int .u16 0, .slice none 0 0, .slice none 0 0]) ?_ ?_; exact run_buildSegR0 _)
    | (refine at_op (.store 56 (.tmp 2) (.tmp 25)) rfl ?_; refine wpList_stA (t := 56) 56 (.tmp 2) (.tmp 25) rfl rfl [.int .u16 0, .int .u16 0, .int .u32 0, .int .u32 0, .int .u8 0, .int .u16 0, .int .u16 0, .int .u16 0, .slice none 0 0, .slice none 0 0] [.int .u16 0, .int .u16 0, .int .u32 0, .int .u32 0, .int .u8 0, .int .u16 0, .int .u16 0, .int .u16 0, .slice none 0 0, .slice none 0 0] rfl (by simp [Value.oneCell']) rfl rfl hZ (szSegR _ rfl) ?_; intro w2 hb2 hg2))
  refine bodyPost_agg2 Try.results56 rfl rfl hb2.range Try.underlying56 rfl (szSegR _ rfl) rfl (RetSeg.zero ?_)
  exact below_grown ((Below.refl _ _).alloc (Nat.le_refl _) _) hg2 (Nat.le_refl _)

set_option maxHeartbeats 4000000 in
theorem refTcpParse_form2 (A : Option Addr) (n c : Nat) (l : List UInt8) (w : World) (hr : Rb w A n c l) (h20 : 20 ≤ n) (hn : n ≤ 1000000) (x0 : Nat) (x1 : Nat) (x2 : Nat) (x3 : Nat) (xf : Nat) (x4 : Nat) (x5 : Nat) (x6 : Nat) (x7 : Nat) (hx0 : num ((l.drop 0).take 2) = x0) (hx1 : num ((l.drop 2).take 2) = x1) (hx2 : num ((l.drop 4).take 4) = x2) (hx3 : num ((l.drop 8).take 4) = x3) (hxf : num ((l.drop 12).take 1) = xf) (hx4 : num ((l.drop 13).take 1) = x4) (hx5 : num ((l.drop 14).take 2) = x5) (hx6 : num ((l.drop 16).take 2) = x6) (hx7 : num ((l.drop 18).take 2) = x7) (hs : 5 ≤ xf / 16) (hm : xf % 16 ≠ 0) :
    Calls Try.prog 56 #[.slice A n c] w (RetSeg w 0 0 0 0 0 0 0 0 [] [] (.int .i64 21)) := by
  have hc := hr.cap
  have h20i : (20 : Int) ≤ (n : Int) := by omega
  have hf : xf < 256 := by rw [← hxf]; exact num_lt' l 12 1 256 (by decide)
  obtain ⟨b, off, rfl, hlt, hcell⟩ := hr.2.2.at_ (by rw [bcs_length, hr.1]; omega)
  have q12 := num_cell hcell 12 (by rw [hr.1]; omega)
  have q13 := num_cell hcell 13 (by rw [hr.1]; omega)
  rw [hxf] at q12
  rw [hx4] at q13
  have i12 : (12 : Int) < (n : Int) := by omega
  have i13 : (13 : Int) < (n : Int) := by omega
  have Hx0 := Lib.hid hx0
  have Hx1 := Lib.hid hx1
  have Hx2 := Lib.hid hx2
  have Hx3 := Lib.hid hx3
  have Hxf := Lib.hid hxf
  have Hx4 := Lib.hid hx4
  have Hx5 := Lib.hid hx5
  have Hx6 := Lib.hid hx6
  have Hx7 := Lib.hid hx7
  clear hx0 hx1 hx2 hx3 hxf hx4 hx5 hx6 hx7 hcell
  have t1 : decide (((xf : Int) / 16) * 4 < 20) = false := by simp; omega
  have t2 : (((xf : Int) % 16) != 0) = true := by rw [bne_iff_ne]; omega
  have hZ : Bk (w.alloc (.cells #[.int .u16 0, .int .u16 0, .int .u32 0, .int .u32 0, .int .u8 0, .int .u16 0, .int .u16 0, .int .u16 0, .slice none 0 0, .slice none 0 0] 56)) w.heap.size 56 [.int .u16 0, .int .u16 0, .int .u32 0, .int .u32 0, .int .u8 0, .int .u16 0, .int .u16 0, .int .u16 0, .slice none 0 0, .slice none 0 0] := Bk.new w 56 #[.int .u16 0, .int .u16 0, .int .u32 0, .int .u32 0, .int .u8 0, .int .u16 0, .int .u16 0, .int .u16 0, .slice none 0 0, .slice none 0 0]
  go_enter Try.func56, Try.ntmps56
  go_wp2_with (first
    | (refine at_op (.build 56 #[]) rfl ?_; refine wpList_build 56 [] rfl rfl (.agg #[.int .u16 0, .int .u16 0, .int .u32 0, .int .u32 0, .int .u8 0, .int .u16 0, .int .u16 0, .int .u16 0, .slice none 0 0, .slice none 0 0]) ?_ ?_; exact run_buildSegR0 _)
    | (refine at_op (.store 56 (.tmp 2) (.tmp 25)) rfl ?_; refine wpList_stA (t := 56) 56 (.tmp 2) (.tmp 25) rfl rfl [.int .u16 0, .int .u16 0, .int .u32 0, .int .u32 0, .int .u8 0, .int .u16 0, .int .u16 0, .int .u16 0, .slice none 0 0, .slice none 0 0] [.int .u16 0, .int .u16 0, .int .u32 0, .int .u32 0, .int .u8 0, .int .u16 0, .int .u16 0, .int .u16 0, .slice none 0 0, .slice none 0 0] rfl (by simp [Value.oneCell']) rfl rfl hZ (szSegR _ rfl) ?_; intro w2 hb2 hg2))
  refine bodyPost_agg2 Try.results56 rfl rfl hb2.range Try.underlying56 rfl (szSegR _ rfl) rfl (RetSeg.zero ?_)
  exact below_grown ((Below.refl _ _).alloc (Nat.le_refl _) _) hg2 (Nat.le_refl _)

set_option maxHeartbeats 4000000 in
theorem refTcpParse_short2 (A : Option Addr) (n c : Nat) (l : List UInt8) (w : World) (hr : Rb w A n c l) (h20 : 20 ≤ n) (hn : n ≤ 1000000) (x0 : Nat) (x1 : Nat) (x2 : Nat) (x3 : Nat) (xf : Nat) (x4 : Nat) (x5 : Nat) (x6 : Nat) (x7 : Nat) (hx0 : num ((l.drop 0).take 2) = x0) (hx1 : num ((l.drop 2).take 2) = x1) (hx2 : num ((l.drop 4).take 4) = x2) (hx3 : num ((l.drop 8).take 4) = x3) (hxf : num ((l.drop 12).take 1) = xf) (hx4 : num ((l.drop 13).take 1) = x4) (hx5 : num ((l.drop 14).take 2) = x5) (hx6 : num ((l.drop 16).take 2) = x6) (hx7 : num ((l.drop 18).take 2) = x7) (hs : 5 ≤ xf / 16) (hm : xf % 16 = 0) (hz : n < 4 * (xf / 16)) :
    Calls Try.prog 56 #[.slice A n c] w (RetSeg w 0 0 0 0 0 0 0 0 [] [] (.int .i64 20)) := by
  have hc := hr.cap
  have h20i : (20 : Int) ≤ (n : Int) := by omega
  have hf : xf < 256 := by rw [← hxf]; exact num_lt' l 12 1 256 (by decide)
  obtain ⟨b, off, rfl, hlt, hcell⟩ := hr.2.2.at_ (by rw [bcs_length, hr.1]; omega)
  have q12 := num_cell hcell 12 (by rw [hr.1]; omega)
  have q13 := num_cell hcell 13 (by rw [hr.1]; omega)
  rw [hxf] at q12
  rw [hx4] at q13
  have i12 : (12 : Int) < (n : Int) := by omega
  have i13 : (13 : Int) < (n : Int) := by omega
  have Hx0 := Lib.hid hx0
  have Hx1 := Lib.hid hx1
  have Hx2 := Lib.hid hx2
  have Hx3 := Lib.hid hx3
  have Hxf := Lib.hid hxf
  have Hx4 := Lib.hid hx4
  have Hx5 := Lib.hid hx5
  have Hx6 := Lib.hid hx6
  have Hx7 := Lib.hid hx7
  clear hx0 hx1 hx2 hx3 hxf hx4 hx5 hx6 hx7 hcell
  have t1 : decide (((xf : Int) / 16) * 4 < 20) = false := by simp; omega
  have t2 : (((xf : Int) % 16) != 0) = false := by rw [bne_eq_false_iff_eq]; omega
  have t3 : decide ((n : Int) < ((xf : Int) / 16) * 4) = true := by simp; omega
  have hZ : Bk (w.alloc (.cells #[.int .u16 0, .int .u16 0, .int .u32 0, .int .u32 0, .int .u8 0, .int .u16 0, .int .u16 0, .int .u16 0, .slice none 0 0, .slice none 0 0] 56)) w.heap.size 56 [.int .u16 0, .int .u16 0, .int .u32 0, .int .u32 0, .int .u8 0, .int .u16 0, .int .u16 0, .int .u16 0, .slice none 0 0, .slice none 0 0] := Bk.new w 56 #[.int .u16 0, .int .u16 0, .int .u32 0, .int .u32 0, .int .u8 0, .int .u16 0, .int .u16 0, .int .u16 0, .slice none 0 0, .slice none 0 0]
  go_enter Try.func56, Try.ntmps56
  go_wp2_with (first
    | (refine at_op (.build 56 #[]) rfl ?_; refine wpList_build 56 [] rfl rfl (.agg #[.int .u16 0, .int .u16 0, .int .u32 0, .int .u32 0, .int .u8 0, .int .u16 0, .int .u16 0, .int .u16 0, .slice none 0 0, .slice none 0 0]) ?_ ?_; exact run_buildSegR0 _)
    | (refine at_op (.store 56 (.tmp 2) (.tmp 30)) rfl ?_; refine wpList_stA (t := 56) 56 (.tmp 2) (.tmp 30) rfl rfl [.int .u16 0, .int .u16 0, .int .u32 0, .int .u32 0, .int .u8 0, .int .u16 0, .int .u16 0, .int .u16 0, .slice none 0 0, .slice none 0 0] [.int .u16 0, .int .u16 0, .int .u32 0, .int .u32 0, .int .u8 0, .int .u16 0, .int .u16 0, .int .u16 0, .slice none 0 0, .slice none 0 0] rfl (by simp [Value.oneCell']) rfl rfl hZ (szSegR _ rfl) ?_; intro w2 hb2 hg2))
  refine bodyPost_agg2 Try.results56 rfl rfl hb2.range Try.underlying56 rfl (szSegR _ rfl) rfl (RetSeg.zero ?_)
  exact below_grown ((Below.refl _ _).alloc (Nat.le_refl _) _) hg2 (Nat.le_refl _)

set_option maxHeartbeats 4000000 in
theorem refTcpParse_okF (A : Option Addr) (n c : Nat) (l : List UInt8) (w : World) (hr : Rb w A n c l) (h20 : 20 ≤ n) (hn : n ≤ 1000000) (x0 : Nat) (x1 : Nat) (x2 : Nat) (x3 : Nat) (xf : Nat) (x4 : Nat) (x5 : Nat) (x6 : Nat) (x7 : Nat) (hx0 : num ((l.drop 0).take 2) = x0) (hx1 : num ((l.drop 2).take 2) = x1) (hx2 : num ((l.drop 4).take 4) = x2) (hx3 : num ((l.drop 8).take 4) = x3) (hxf : num ((l.drop 12).take 1) = xf) (hx4 : num ((l.drop 13).take 1) = x4) (hx5 : num ((l.drop 14).take 2) = x5) (hx6 : num ((l.drop 16).take 2) = x6) (hx7 : num ((l.drop 18).take 2) = x7) (hs : 5 ≤ xf / 16) (hm : xf % 16 = 0) (sz : Nat) (hsz : sz = 4 * (xf / 16)) (hz : sz ≤ n) :
    Calls Try.prog 56 #[.slice A n c] w (RetSegF w x0 x1 x2 x3 x4 x5 x6 x7 ((l.drop 20).take (sz - 20)) (l.drop sz) (.int .i64 0)) := by
  have hc := hr.cap
  have h20i : (20 : Int) ≤ (n : Int) := by omega
  have hf : xf < 256 := by rw [← hxf]; exact num_lt' l 12 1 256 (by decide)
  obtain ⟨b, off, rfl, hlt, hcell⟩ := hr.2.2.at_ (by rw [bcs_length, hr.1]; omega)
  have q12 := num_cell hcell 12 (by rw [hr.1]; omega)
  have q13 := num_cell hcell 13 (by rw [hr.1]; omega)
  rw [hxf] at q12
  rw [hx4] at q13
  have i12 : (12 : Int) < (n : Int) := by omega
  have i13 : (13 : Int) < (n : Int) := by omega
  have Hx0 := Lib.hid hx0
  have Hx1 := Lib.hid hx1
  have Hx2 := Lib.hid hx2
  have Hx3 := Lib.hid hx3
  have Hxf := Lib.hid hxf
  have Hx4 := Lib.hid hx4
  have Hx5 := Lib.hid hx5
  have Hx6 := Lib.hid hx6
  have Hx7 := Lib.hid hx7
  clear hx0 hx1 hx2 hx3 hxf hx4 hx5 hx6 hx7 hcell
  have kx0 : x0 < 65536 := by rw [← Hx0.out]; exact num_lt' l 0 2 65536 (by decide)
  have cx0 : IntKind.u16.wrap (x0 : Int) = (x0 : Int) := by rw [IntKind.wrap_u16]; omega
  have kx1 : x1 < 65536 := by rw [← Hx1.out]; exact num_lt' l 2 2 65536 (by decide)
  have cx1 : IntKind.u16.wrap (x1 : Int) = (x1 : Int) := by rw [IntKind.wrap_u16]; omega
  have kx2 : x2 < 4294967296 := by rw [← Hx2.out]; exact num_lt' l 4 4 4294967296 (by decide)
  have cx2 : IntKind.u32.wrap (x2 : Int) = (x2 : Int) := by rw [IntKind.wrap_u32']; omega
  have kx3 : x3 < 4294967296 := by rw [← Hx3.out]; exact num_lt' l 8 4 4294967296 (by decide)
  have cx3 : IntKind.u32.wrap (x3 : Int) = (x3 : Int) := by rw [IntKind.wrap_u32']; omega
  have kx5 : x5 < 65536 := by rw [← Hx5.out]; exact num_lt' l 14 2 65536 (by decide)
  have cx5 : IntKind.u16.wrap (x5 : Int) = (x5 : Int) := by rw [IntKind.wrap_u16]; omega
  have kx6 : x6 < 65536 := by rw [← Hx6.out]; exact num_lt' l 16 2 65536 (by decide)
  have cx6 : IntKind.u16.wrap (x6 : Int) = (x6 : Int) := by rw [IntKind.wrap_u16]; omega
  have kx7 : x7 < 65536 := by rw [← Hx7.out]; exact num_lt' l 18 2 65536 (by decide)
  have cx7 : IntKind.u16.wrap (x7 : Int) = (x7 : Int) := by rw [IntKind.wrap_u16]; omega
  have esz : ((xf : Int) / 16) * 4 = (sz : Int) := by omega
  have hs2 : 20 ≤ sz := by omega
  have t2 : (((xf : Int) % 16) != 0) = false := by rw [bne_eq_false_iff_eq]; omega
  have HSZ := Lib.hid hsz
  clear hsz hm
  have t1 : decide ((sz : Int) < 20) = false := by simp; omega
  have hZ : Bk (w.alloc (.cells #[.int .u16 0, .int .u16 0, .int .u32 0, .int .u32 0, .int .u8 0, .int .u16 0, .int .u16 0, .int .u16 0, .slice none 0 0, .slice none 0 0] 56)) w.heap.size 56 [.int .u16 0, .int .u16 0, .int .u32 0, .int .u32 0, .int .u8 0, .int .u16 0, .int .u16 0, .int .u16 0, .slice none 0 0, .slice none 0 0] := Bk.new w 56 #[.int .u16 0, .int .u16 0, .int .u32 0, .int .u32 0, .int .u8 0, .int .u16 0, .int .u16 0, .int .u16 0, .slice none 0 0, .slice none 0 0]
  go_enter Try.func56, Try.ntmps56
  go_wp2
  refine wp_relE 26 69 [0, 2, 3, 5, 6, 8, 9, 11, 12, 15, 17, 18, 20, 21, 23] rfl (by kernel_rfl) (by kernel_rfl) (fun i => match i with | 0 => MP.eq (.slice (some ⟨b, off, none⟩) n c) | 1 => MP.eq (.int .u64 (x0 : Nat)) | 2 => MP.eq (.int .u16 (x0 : Nat)) | 3 => MP.eq (.slice (some ⟨b, off, none⟩) n c) | 4 => MP.eq (.int .u64 (x1 : Nat)) | 5 => MP.eq (.int .u16 (x1 : Nat)) | 6 => MP.eq (.slice (some ⟨b, off, none⟩) n c) | 7 => MP.eq (.int .u64 (x2 : Nat)) | 8 => MP.eq (.int .u32 (x2 : Nat)) | 9 => MP.eq (.slice (some ⟨b, off, none⟩) n c) | 10 => MP.eq (.int .u64 (x3 : Nat)) | 11 => MP.eq (.int .u32 (x3 : Nat)) | 12 => MP.eq (.slice (some ⟨b, off, none⟩) n c) | 13 => MP.eq (.pointer (some ⟨b, off + 13, none⟩)) | 14 => MP.eq (.int .u8 (x4 : Nat)) | 15 => MP.eq (.slice (some ⟨b, off, none⟩) n c) | 16 => MP.eq (.int .u64 (x5 : Nat)) | 17 => MP.eq (.int .u16 (x5 : Nat)) | 18 => MP.eq (.slice (some ⟨b, off, none⟩) n c) | 19 => MP.eq (.int .u64 (x6 : Nat)) | 20 => MP.eq (.int .u16 (x6 : Nat)) | 21 => MP.eq (.slice (some ⟨b, off, none⟩) n c) | 22 => MP.eq (.int .u64 (x7 : Nat)) | 23 => MP.eq (.int .u16 (x7 : Nat)) | 24 => MP.eq (.agg #[.int .u16 (x0 : Nat), .int .u16 (x1 : Nat), .int .u32 (x2 : Nat), .int .u32 (x3 : Nat), .int .u8 (x4 : Nat), .int .u16 (x5 : Nat), .int .u16 (x6 : Nat), .int .u16 (x7 : Nat), .slice none 0 0, .slice none 0 0]) | 25 => MP.blk (w.heap.size + 1) 56 [.int .u16 0, .int .u16 0, .int .u32 0, .int .u32 0, .int .u8 0, .int .u16 0, .int .u16 0, .int .u16 0, .slice none 0 0, .slice none 0 0] | _ => MP.any) ?_ ?_
  · intro i hi o ho FA x hO hD
    match i, hi, ho, hO, hD with
    | 0, _, ho, hO, hD => 
      obtain rfl := Option.some.inj ho.symm
      clear ho
      have ev0 : FA.eval (.tmp 0) = .slice (some ⟨b, off, none⟩) n c := hO 0 (by kernel_rfl)
      have e0 : FA.tmps[0]?.getD undef = .slice (some ⟨b, off, none⟩) n c := by simpa [Act.eval] using ev0
      replace ev0 := Lib.hid ev0
      clear hO hD
      rw [if_pos (by decide)]
      refine ⟨.slice (some ⟨b, off, none⟩) n c, .inl ⟨by simp [Region.wanted], fun w => ?_⟩, rfl⟩
      go_simp
    | 1, _, ho, hO, hD => 
      obtain rfl := Option.some.inj ho.symm
      clear ho
      have ev31 : FA.eval (.tmp 31) = .slice (some ⟨b, off, none⟩) n c := hD 0 31 (by kernel_rfl)
      have e31 : FA.tmps[31]?.getD undef = .slice (some ⟨b, off, none⟩) n c := by simpa [Act.eval] using ev31
      replace ev31 := Lib.hid ev31
      clear hO hD
      rw [if_neg (by decide)]
      intro K hK
      go_simp
      refine (refGetV _ n c l _ _ 0 2 x0 _ ((hr.alloc _).plus_ _ _) rfl rfl Hx0.out (by omega) (by omega) (by omega)).mono ?_
      rintro e w1 ⟨rfl, rfl⟩
      exact hK.out _ _ (Ex.refl _) rfl
    | 2, _, ho, hO, hD => 
      obtain rfl := Option.some.inj ho.symm
      clear ho
      have ev32 : FA.eval (.tmp 32) = .int .u64 (x0 : Nat) := hD 1 32 (by kernel_rfl)
      have e32 : FA.tmps[32]?.getD undef = .int .u64 (x0 : Nat) := by simpa [Act.eval] using ev32
      replace ev32 := Lib.hid ev32
      clear hO hD
      rw [if_pos (by decide)]
      refine ⟨.int .u16 (x0 : Nat), .inl ⟨by simp [Region.wanted], fun w => ?_⟩, rfl⟩
      go_simp
    | 3, _, ho, hO, hD => 
      obtain rfl := Option.some.inj ho.symm
      clear ho
      have ev0 : FA.eval (.tmp 0) = .slice (some ⟨b, off, none⟩) n c := hO 0 (by kernel_rfl)
      have e0 : FA.tmps[0]?.getD undef = .slice (some ⟨b, off, none⟩) n c := by simpa [Act.eval] using ev0
      replace ev0 := Lib.hid ev0
      clear hO hD
      rw [if_pos (by decide)]
      refine ⟨.slice (some ⟨b, off, none⟩) n c, .inl ⟨by simp [Region.wanted], fun w => ?_⟩, rfl⟩
      go_simp
    | 4, _, ho, hO, hD => 
      obtain rfl := Option.some.inj ho.symm
      clear ho
      have ev34 : FA.eval (.tmp 34) = .slice (some ⟨b, off, none⟩) n c := hD 3 34 (by kernel_rfl)
      have e34 : FA.tmps[34]?.getD undef = .slice (some ⟨b, off, none⟩) n c := by simpa [Act.eval] using ev34
      replace ev34 := Lib.hid ev34
      clear hO hD
      rw [if_neg (by decide)]
      intro K hK
      go_simp
      refine (refGetV _ n c l _ _ 2 2 x1 _ ((hr.alloc _).plus_ _ _) rfl rfl Hx1.out (by omega) (by omega) (by omega)).mono ?_
      rintro e w1 ⟨rfl, rfl⟩
      exact hK.out _ _ (Ex.refl _) rfl
    | 5, _, ho, hO, hD => 
      obtain rfl := Option.some.inj ho.symm
      clear ho
      have ev35 : FA.eval (.tmp 35) = .int .u64 (x1 : Nat) := hD 4 35 (by kernel_rfl)
      have e35 : FA.tmps[35]?.getD undef = .int .u64 (x1 : Nat) := by simpa [Act.eval] using ev35
      replace ev35 := Lib.hid ev35
      clear hO hD
      rw [if_pos (by decide)]
      refine ⟨.int .u16 (x1 : Nat), .inl ⟨by simp [Region.wanted], fun w => ?_⟩, rfl⟩
      go_simp
    | 6, _, ho, hO, hD => 
      obtain rfl := Option.some.inj ho.symm
      clear ho
      have ev0 : FA.eval (.tmp 0) = .slice (some ⟨b, off, none⟩) n c := hO 0 (by kernel_rfl)
      have e0 : FA.tmps[0]?.getD undef = .slice (some ⟨b, off, none⟩) n c := by simpa [Act.eval] using ev0
      replace ev0 := Lib.hid ev0
      clear hO hD
      rw [if_pos (by decide)]
      refine ⟨.slice (some ⟨b, off, none⟩) n c, .inl ⟨by simp [Region.wanted], fun w => ?_⟩, rfl⟩
      go_simp
    | 7, _, ho, hO, hD => 
      obtain rfl := Option.some.inj ho.symm
      clear ho
      have ev37 : FA.eval (.tmp 37) = .slice (some ⟨b, off, none⟩) n c := hD 6 37 (by kernel_rfl)
      have e37 : FA.tmps[37]?.getD undef = .slice (some ⟨b, off, none⟩) n c := by simpa [Act.eval] using ev37
      replace ev37 := Lib.hid ev37
      clear hO hD
      rw [if_neg (by decide)]
      intro K hK
      go_simp
      refine (refGetV _ n c l _ _ 4 4 x2 _ ((hr.alloc _).plus_ _ _) rfl rfl Hx2.out (by omega) (by omega) (by omega)).mono ?_
      rintro e w1 ⟨rfl, rfl⟩
      exact hK.out _ _ (Ex.refl _) rfl
    | 8, _, ho, hO, hD => 
      obtain rfl := Option.some.inj ho.symm
      clear ho
      have ev38 : FA.eval (.tmp 38) = .int .u64 (x2 : Nat) := hD 7 38 (by kernel_rfl)
      have e38 : FA.tmps[38]?.getD undef = .int .u64 (x2 : Nat) := by simpa [Act.eval] using ev38
      replace ev38 := Lib.hid ev38
      clear hO hD
      rw [if_pos (by decide)]
      refine ⟨.int .u32 (x2 : Nat), .inl ⟨by simp [Region.wanted], fun w => ?_⟩, rfl⟩
      go_simp
    | 9, _, ho, hO, hD => 
      obtain rfl := Option.some.inj ho.symm
      clear ho
      have ev0 : FA.eval (.tmp 0) = .slice (some ⟨b, off, none⟩) n c := hO 0 (by kernel_rfl)
      have e0 : FA.tmps[0]?.getD undef = .slice (some ⟨b, off, none⟩) n c := by simpa [Act.eval] using ev0
      replace ev0 := Lib.hid ev0
      clear hO hD
      rw [if_pos (by decide)]
      refine ⟨.slice (some ⟨b, off, none⟩) n c, .inl ⟨by simp [Region.wanted], fun w => ?_⟩, rfl⟩
      go_simp
    | 10, _, ho, hO, hD => 
      obtain rfl := Option.some.inj ho.symm
      clear ho
      have ev40 : FA.eval (.tmp 40) = .slice (some ⟨b, off, none⟩) n c := hD 9 40 (by kernel_rfl)
      have e40 : FA.tmps[40]?.getD undef = .slice (some ⟨b, off, none⟩) n c := by simpa [Act.eval] using ev40
      replace ev40 := Lib.hid ev40
      clear hO hD
      rw [if_neg (by decide)]
      intro K hK
      go_simp
      refine (refGetV _ n c l _ _ 8 4 x3 _ ((hr.alloc _).plus_ _ _) rfl rfl Hx3.out (by omega) (by omega) (by omega)).mono ?_
      rintro e w1 ⟨rfl, rfl⟩
      exact hK.out _ _ (Ex.refl _) rfl
    | 11, _, ho, hO, hD => 
      obtain rfl := Option.some.inj ho.symm
      clear ho
      have ev41 : FA.eval (.tmp 41) = .int .u64 (x3 : Nat) := hD 10 41 (by kernel_rfl)
      have e41 : FA.tmps[41]?.getD undef = .int .u64 (x3 : Nat) := by simpa [Act.eval] using ev41
      replace ev41 := Lib.hid ev41
      clear hO hD
      rw [if_pos (by decide)]
      refine ⟨.int .u32 (x3 : Nat), .inl ⟨by simp [Region.wanted], fun w => ?_⟩, rfl⟩
      go_simp
    | 12, _, ho, hO, hD => 
      obtain rfl := Option.some.inj ho.symm
      clear ho
      have ev0 : FA.eval (.tmp 0) = .slice (some ⟨b, off, none⟩) n c := hO 0 (by kernel_rfl)
      have e0 : FA.tmps[0]?.getD undef = .slice (some ⟨b, off, none⟩) n c := by simpa [Act.eval] using ev0
      replace ev0 := Lib.hid ev0
      clear hO hD
      rw [if_pos (by decide)]
      refine ⟨.slice (some ⟨b, off, none⟩) n c, .inl ⟨by simp [Region.wanted], fun w => ?_⟩, rfl⟩
      go_simp
    | 13, _, ho, hO, hD => 
      obtain rfl := Option.some.inj ho.symm
      clear ho
      have ev43 : FA.eval (.tmp 43) = .slice (some ⟨b, off, none⟩) n c := hD 12 43 (by kernel_rfl)
      have e43 : FA.tmps[43]?.getD undef = .slice (some ⟨b, off, none⟩) n c := by simpa [Act.eval] using ev43
      replace ev43 := Lib.hid ev43
      clear hO hD
      rw [if_neg (by decide)]
      intro K hK
      go_simp
      exact hK.out _ _ (Ex.refl _) rfl
    | 14, _, ho, hO, hD => 
      obtain rfl := Option.some.inj ho.symm
      clear ho
      have ev44 : FA.eval (.tmp 44) = .pointer (some ⟨b, off + 13, none⟩) := hD 13 44 (by kernel_rfl)
      have e44 : FA.tmps[44]?.getD undef = .pointer (some ⟨b, off + 13, none⟩) := by simpa [Act.eval] using ev44
      replace ev44 := Lib.hid ev44
      clear hO hD
      rw [if_neg (by decide)]
      intro K hK
      go_simp
      exact hK.out _ _ (Ex.refl _) rfl
    | 15, _, ho, hO, hD => 
      obtain rfl := Option.some.inj ho.symm
      clear ho
      have ev0 : FA.eval (.tmp 0) = .slice (some ⟨b, off, none⟩) n c := hO 0 (by kernel_rfl)
      have e0 : FA.tmps[0]?.getD undef = .slice (some ⟨b, off, none⟩) n c := by simpa [Act.eval] using ev0
      replace ev0 := Lib.hid ev0
      clear hO hD
      rw [if_pos (by decide)]
      refine ⟨.slice (some ⟨b, off, none⟩) n c, .inl ⟨by simp [Region.wanted], fun w => ?_⟩, rfl⟩
      go_simp
    | 16, _, ho, hO, hD => 
      obtain rfl := Option.some.inj ho.symm
      clear ho
      have ev46 : FA.eval (.tmp 46) = .slice (some ⟨b, off, none⟩) n c := hD 15 46 (by kernel_rfl)
      have e46 : FA.tmps[46]?.getD undef = .slice (some ⟨b, off, none⟩) n c := by simpa [Act.eval] using ev46
      replace ev46 := Lib.hid ev46
      clear hO hD
      rw [if_neg (by decide)]
      intro K hK
      go_simp
      refine (refGetV _ n c l _ _ 14 2 x5 _ ((hr.alloc _).plus_ _ _) rfl rfl Hx5.out (by omega) (by omega) (by omega)).mono ?_
      rintro e w1 ⟨rfl, rfl⟩
      exact hK.out _ _ (Ex.refl _) rfl
    | 17, _, ho, hO, hD => 
      obtain rfl := Option.some.inj ho.symm
      clear ho
      have ev47 : FA.eval (.tmp 47) = .int .u64 (x5 : Nat) := hD 16 47 (by kernel_rfl)
      have e47 : FA.tmps[47]?.getD undef = .int .u64 (x5 : Nat) := by simpa [Act.eval] using ev47
      replace ev47 := Lib.hid ev47
      clear hO hD
      rw [if_pos (by decide)]
      refine ⟨.int .u16 (x5 : Nat), .inl ⟨by simp [Region.wanted], fun w => ?_⟩, rfl⟩
      go_simp
    | 18, _, ho, hO, hD => 
      obtain rfl := Option.some.inj ho.symm
      clear ho
      have ev0 : FA.eval (.tmp 0) = .slice (some ⟨b, off, none⟩) n c := hO 0 (by kernel_rfl)
      have e0 : FA.tmps[0]?.getD undef = .slice (some ⟨b, off, none⟩) n c := by simpa [Act.eval] using ev0
      replace ev0 := Lib.hid ev0
      clear hO hD
      rw [if_pos (by decide)]
      refine ⟨.slice (some ⟨b, off, none⟩) n c, .inl ⟨by simp [Region.wanted], fun w => ?_⟩, rfl⟩
      go_simp
    | 19, _, ho, hO, hD => 
      obtain rfl := Option.some.inj ho.symm
      clear ho
      have ev49 : FA.eval (.tmp 49) = .slice (some ⟨b, off, none⟩) n c := hD 18 49 (by kernel_rfl)
      have e49 : FA.tmps[49]?.getD undef = .slice (some ⟨b, off, none⟩) n c := by simpa [Act.eval] using ev49
      replace ev49 := Lib.hid ev49
      clear hO hD
      rw [if_neg (by decide)]
      intro K hK
      go_simp
      refine (refGetV _ n c l _ _ 16 2 x6 _ ((hr.alloc _).plus_ _ _) rfl rfl Hx6.out (by omega) (by omega) (by omega)).mono ?_
      rintro e w1 ⟨rfl, rfl⟩
      exact hK.out _ _ (Ex.refl _) rfl
    | 20, _, ho, hO, hD => 
      obtain rfl := Option.some.inj ho.symm
      clear ho
      have ev50 : FA.eval (.tmp 50) = .int .u64 (x6 : Nat) := hD 19 50 (by kernel_rfl)
      have e50 : FA.tmps[50]?.getD undef = .int .u64 (x6 : Nat) := by simpa [Act.eval] using ev50
      replace ev50 := Lib.hid ev50
      clear hO hD
      rw [if_pos (by decide)]
      refine ⟨.int .u16 (x6 : Nat), .inl ⟨by simp [Region.wanted], fun w => ?_⟩, rfl⟩
      go_simp
    | 21, _, ho, hO, hD => 
      obtain rfl := Option.some.inj ho.symm
      clear ho
      have ev0 : FA.eval (.tmp 0) = .slice (some ⟨b, off, none⟩) n c := hO 0 (by kernel_rfl)
      have e0 : FA.tmps[0]?.getD undef = .slice (some ⟨b, off, none⟩) n c := by simpa [Act.eval] using ev0
      replace ev0 := Lib.hid ev0
      clear hO hD
      rw [if_pos (by decide)]
      refine ⟨.slice (some ⟨b, off, none⟩) n c, .inl ⟨by simp [Region.wanted], fun w => ?_⟩, rfl⟩
      go_simp
    | 22, _, ho, hO, hD => 
      obtain rfl := Option.some.inj ho.symm
      clear ho
      have ev52 : FA.eval (.tmp 52) = .slice (some ⟨b, off, none⟩) n c := hD 21 52 (by kernel_rfl)
      have e52 : FA.tmps[52]?.getD undef = .slice (some ⟨b, off, none⟩) n c := by simpa [Act.eval] using ev52
      replace ev52 := Lib.hid ev52
      clear hO hD
      rw [if_neg (by decide)]
      intro K hK
      go_simp
      refine (refGetV _ n c l _ _ 18 2 x7 _ ((hr.alloc _).plus_ _ _) rfl rfl Hx7.out (by omega) (by omega) (by omega)).mono ?_
      rintro e w1 ⟨rfl, rfl⟩
      exact hK.out _ _ (Ex.refl _) rfl
    | 23, _, ho, hO, hD => 
      obtain rfl := Option.some.inj ho.symm
      clear ho
      have ev53 : FA.eval (.tmp 53) = .int .u64 (x7 : Nat) := hD 22 53 (by kernel_rfl)
      have e53 : FA.tmps[53]?.getD undef = .int .u64 (x7 : Nat) := by simpa [Act.eval] using ev53
      replace ev53 := Lib.hid ev53
      clear hO hD
      rw [if_pos (by decide)]
      refine ⟨.int .u16 (x7 : Nat), .inl ⟨by simp [Region.wanted], fun w => ?_⟩, rfl⟩
      go_simp
    | 24, _, ho, hO, hD => 
      obtain rfl := Option.some.inj ho.symm
      clear ho
      have ev33 : FA.eval (.tmp 33) = .int .u16 (x0 : Nat) := hD 2 33 (by kernel_rfl)
      have e33 : FA.tmps[33]?.getD undef = .int .u16 (x0 : Nat) := by simpa [Act.eval] using ev33
      replace ev33 := Lib.hid ev33
      have ev36 : FA.eval (.tmp 36) = .int .u16 (x1 : Nat) := hD 5 36 (by kernel_rfl)
      have e36 : FA.tmps[36]?.getD undef = .int .u16 (x1 : Nat) := by simpa [Act.eval] using ev36
      replace ev36 := Lib.hid ev36
      have ev39 : FA.eval (.tmp 39) = .int .u32 (x2 : Nat) := hD 8 39 (by kernel_rfl)
      have e39 : FA.tmps[39]?.getD undef = .int .u32 (x2 : Nat) := by simpa [Act.eval] using ev39
      replace ev39 := Lib.hid ev39
      have ev42 : FA.eval (.tmp 42) = .int .u32 (x3 : Nat) := hD 11 42 (by kernel_rfl)
      have e42 : FA.tmps[42]?.getD undef = .int .u32 (x3 : Nat) := by simpa [Act.eval] using ev42
      replace ev42 := Lib.hid ev42
      have ev45 : FA.eval (.tmp 45) = .int .u8 (x4 : Nat) := hD 14 45 (by kernel_rfl)
      have e45 : FA.tmps[45]?.getD undef = .int .u8 (x4 : Nat) := by simpa [Act.eval] using ev45
      replace ev45 := Lib.hid ev45
      have ev48 : FA.eval (.tmp 48) = .int .u16 (x5 : Nat) := hD 17 48 (by kernel_rfl)
      have e48 : FA.tmps[48]?.getD undef = .int .u16 (x5 : Nat) := by simpa [Act.eval] using ev48
      replace ev48 := Lib.hid ev48
      have ev51 : FA.eval (.tmp 51) = .int .u16 (x6 : Nat) := hD 20 51 (by kernel_rfl)
      have e51 : FA.tmps[51]?.getD undef = .int .u16 (x6 : Nat) := by simpa [Act.eval] using ev51
      replace ev51 := Lib.hid ev51
      have ev54 : FA.eval (.tmp 54) = .int .u16 (x7 : Nat) := hD 23 54 (by kernel_rfl)
      have e54 : FA.tmps[54]?.getD undef = .int .u16 (x7 : Nat) := by simpa [Act.eval] using ev54
      replace ev54 := Lib.hid ev54
      clear hO hD
      rw [if_neg (by decide)]
      intro K hK
      go_simp
      exact hK.out _ _ (Ex.refl _) rfl
    | 25, _, ho, hO, hD => 
      obtain rfl := Option.some.inj ho.symm
      clear ho
      clear hO hD
      rw [if_neg (by decide)]
      intro K hK
      go_simp
      refine hK.out _ _ (Ex.alloc _ _) ⟨_, rfl, ?_, ?_⟩
      · simp [size_plus]
      · refine Bk.newK _ _ _ ?_ rfl
        simp [size_plus]
    | (k + 26), hi, _, _, _ => exact absurd hi (by omega)
  intro vs x hp
  have p0 : vs 0 = .slice (some ⟨b, off, none⟩) n c := hp 0 (by omega)
  have p1 : vs 1 = .int .u64 (x0 : Nat) := hp 1 (by omega)
  have p2 : vs 2 = .int .u16 (x0 : Nat) := hp 2 (by omega)
  have p3 : vs 3 = .slice (some ⟨b, off, none⟩) n c := hp 3 (by omega)
  have p4 : vs 4 = .int .u64 (x1 : Nat) := hp 4 (by omega)
  have p5 : vs 5 = .int .u16 (x1 : Nat) := hp 5 (by omega)
  have p6 : vs 6 = .slice (some ⟨b, off, none⟩) n c := hp 6 (by omega)
  have p7 : vs 7 = .int .u64 (x2 : Nat) := hp 7 (by omega)
  have p8 : vs 8 = .int .u32 (x2 : Nat) := hp 8 (by omega)
  have p9 : vs 9 = .slice (some ⟨b, off, none⟩) n c := hp 9 (by omega)
  have p10 : vs 10 = .int .u64 (x3 : Nat) := hp 10 (by omega)
  have p11 : vs 11 = .int .u32 (x3 : Nat) := hp 11 (by omega)
  have p12 : vs 12 = .slice (some ⟨b, off, none⟩) n c := hp 12 (by omega)
  have p13 : vs 13 = .pointer (some ⟨b, off + 13, none⟩) := hp 13 (by omega)
  have p14 : vs 14 = .int .u8 (x4 : Nat) := hp 14 (by omega)
  have p15 : vs 15 = .slice (some ⟨b, off, none⟩) n c := hp 15 (by omega)
  have p16 : vs 16 = .int .u64 (x5 : Nat) := hp 16 (by omega)
  have p17 : vs 17 = .int .u16 (x5 : Nat) := hp 17 (by omega)
  have p18 : vs 18 = .slice (some ⟨b, off, none⟩) n c := hp 18 (by omega)
  have p19 : vs 19 = .int .u64 (x6 : Nat) := hp 19 (by omega)
  have p20 : vs 20 = .int .u16 (x6 : Nat) := hp 20 (by omega)
  have p21 : vs 21 = .slice (some ⟨b, off, none⟩) n c := hp 21 (by omega)
  have p22 : vs 22 = .int .u64 (x7 : Nat) := hp 22 (by omega)
  have p23 : vs 23 = .int .u16 (x7 : Nat) := hp 23 (by omega)
  have p24 : vs 24 = .agg #[.int .u16 (x0 : Nat), .int .u16 (x1 : Nat), .int .u32 (x2 : Nat), .int .u32 (x3 : Nat), .int .u8 (x4 : Nat), .int .u16 (x5 : Nat), .int .u16 (x6 : Nat), .int .u16 (x7 : Nat), .slice none 0 0, .slice none 0 0] := hp 24 (by omega)
  have p25 := hp 25 (by omega)
  clear hp
  simp only [List.take_succ_cons, List.take_zero, List.drop_succ_cons, List.drop_zero, putAll, Nat.zero_add, Nat.reduceAdd, Act.put, List.setIfInBounds_toArray, List.set_cons_zero, List.set_cons_succ, p0, p1, p2, p3, p4, p5, p6, p7, p8, p9, p10, p11, p12, p13, p14, p15, p16, p17, p18, p19, p20, p21, p22, p23, p24]
  clear p0 p1 p2 p3 p4 p5 p6 p7 p8 p9 p10 p11 p12 p13 p14 p15 p16 p17 p18 p19 p20 p21 p22 p23 p24
  generalize vs 25 = y25 at *
  clear vs
  obtain ⟨g, rfl, hgw, hb⟩ := p25
  go_upto_region 9 with (refine at_op (.store 56 (.tmp 5) (.tmp 55)) rfl ?_; refine wpList_stA (t := 56) 56 (.tmp 5) (.tmp 55) rfl rfl [.int .u16 (x0 : Nat), .int .u16 (x1 : Nat), .int .u32 (x2 : Nat), .int .u32 (x3 : Nat), .int .u8 (x4 : Nat), .int .u16 (x5 : Nat), .int .u16 (x6 : Nat), .int .u16 (x7 : Nat), .slice none 0 0, .slice none 0 0] [.int .u16 0, .int .u16 0, .int .u32 0, .int .u32 0, .int .u8 0, .int .u16 0, .int .u16 0, .int .u16 0, .slice none 0 0, .slice none 0 0] rfl (by simp [Value.oneCell']) rfl rfl hb (szSegR _ rfl) ?_; intro w3 hX hg3)
  refine NoPanic.normal ?_
  have hZ3 := (hZ.later (below_plus _ x.bs x.d)).grown hg3 (by simp; omega)
  have hB := below_grown (belowP ((Below.refl w.heap.size w).alloc (Nat.le_refl _) _) x.bs x.d) hg3 (by omega)
  clear hZ hg3 hb
  have q : w3.cell? ⟨g, 8, none⟩ = some (.slice none 0 0) := hX.cell 8
  have f := hX.frozen 8
  have hgl0 := hX.lt
  go_upto_region 10 with (at_builtin; refine wpList_app0 (l2 := ((l.drop 20).take (sz - 20))) bt rfl (.tmp 56) (.tmp 59) rfl rfl rfl rfl (((hr.cut (k := 20) (by omega)).take (k := sz - 20) (by omega)).later hB) (by omega) ?_; intro A1 n1 c1 bsA1 dA1 ho0)
  clear q f
  replace ho0 := ho0.swap (W' := w3.setCell ⟨g, 8, none⟩ (.slice A1 n1 c1)) (d' := dA1) (Nat.le_refl _) (by simp)
  obtain ⟨B0, hB0⟩ : ∃ B0, B0 = w3.heap.size := ⟨_, rfl⟩
  rw [← hB0] at ho0 hgl0
  have hwB : w.heap.size < B0 := by omega
  clear hB0
  replace hX := (hX.set_ 8 (.slice A1 n1 c1)).later (below_plus _ bsA1 dA1)
  simp only [List.set_cons_zero, List.set_cons_succ] at hX
  replace hZ3 := (hZ3.far (p := ⟨g, 8, none⟩) (by simp; omega) (.slice A1 n1 c1)).later (below_plus _ bsA1 dA1)
  replace hB := belowP (hB.setCell (p := ⟨g, 8, none⟩) (by simp; omega) (.slice A1 n1 c1)) bsA1 dA1
  generalize plus (w3.setCell ⟨g, 8, none⟩ (.slice A1 n1 c1)) bsA1 dA1 = w4 at hX hZ3 hB ho0 ⊢
  have q : w4.cell? ⟨g, 9, none⟩ = some (.slice none 0 0) := hX.cell 9
  have f := hX.frozen 9
  have hgl1 := hX.lt
  go_upto_region 11 with (at_builtin; refine wpList_app0 (l2 := (l.drop sz)) bt rfl (.tmp 62) (.tmp 65) rfl rfl rfl rfl ((hr.cut (k := sz) (by omega)).later hB) (by omega) ?_; intro A2 n2 c2 bsA2 dA2 ho1)
  clear q f
  replace ho1 := (ho1.swap (W' := w4.setCell ⟨g, 9, none⟩ (.slice A2 n2 c2)) (d' := dA2) (Nat.le_refl _) (by simp)).mono (show w.heap.size + 1 ≤ w4.heap.size by omega)
  replace ho0 := (ho0.setCell (p := ⟨g, 9, none⟩) hgl0 (.slice A2 n2 c2)).plus_ bsA2 dA2
  replace hX := (hX.set_ 9 (.slice A2 n2 c2)).later (below_plus _ bsA2 dA2)
  simp only [List.set_cons_zero, List.set_cons_succ] at hX
  replace hZ3 := (hZ3.far (p := ⟨g, 9, none⟩) (by simp; omega) (.slice A2 n2 c2)).later (below_plus _ bsA2 dA2)
  replace hB := belowP (hB.setCell (p := ⟨g, 9, none⟩) (by simp; omega) (.slice A2 n2 c2)) bsA2 dA2
  generalize plus (w4.setCell ⟨g, 9, none⟩ (.slice A2 n2 c2)) bsA2 dA2 = w5 at hX hZ3 hB ho0 ho1 ⊢
  go_wp2_with (first
    | (refine at_op (.load 56 (.tmp 5)) rfl ?_; refine wpList_ldA (t := 56) 56 (.tmp 5) rfl rfl [.int .u16 (x0 : Nat), .int .u16 (x1 : Nat), .int .u32 (x2 : Nat), .int .u32 (x3 : Nat), .int .u8 (x4 : Nat), .int .u16 (x5 : Nat), .int .u16 (x6 : Nat), .int .u16 (x7 : Nat), .slice A1 n1 c1, .slice A2 n2 c2] rfl hX rfl Try.underlying56 rfl (szSegR _ rfl) ?_)
    | (refine at_op (.store 56 (.tmp 2) (.tmp 68)) rfl ?_; refine wpList_stA (t := 56) 56 (.tmp 2) (.tmp 68) rfl rfl [.int .u16 (x0 : Nat), .int .u16 (x1 : Nat), .int .u32 (x2 : Nat), .int .u32 (x3 : Nat), .int .u8 (x4 : Nat), .int .u16 (x5 : Nat), .int .u16 (x6 : Nat), .int .u16 (x7 : Nat), .slice A1 n1 c1, .slice A2 n2 c2] [.int .u16 0, .int .u16 0, .int .u32 0, .int .u32 0, .int .u8 0, .int .u16 0, .int .u16 0, .int .u16 0, .slice none 0 0, .slice none 0 0] rfl (by simp [Value.oneCell']) rfl rfl hZ3 (szSegR _ rfl) ?_; intro w9 hb9 hg9))
  refine bodyPost_agg2 Try.results56 rfl rfl hb9.range Try.underlying56 rfl (szSegR _ rfl) rfl (RetSegF.mk (ho0.grown hg9 (fun k hk => by have := (ho0.blk k hk).1; simp; omega)) (ho1.grown hg9 (fun k hk => by have := (ho1.blk k hk).1; simp; omega)) (below_grown hB hg9 (Nat.le_refl _)) (by omega) (by omega))
end Go.Proofs.Ytfmkndemkpecpaa

/- Parse of any bytes as a message of ICMP, both sides (chapter 8). -/
namespace Go.Proofs.Ytfmkndemkpecpaa
open Go.RowKit
set_option linter.unusedVariables false
set_option linter.unusedSimpArgs false
attribute [local go_sem ↓] sliced_cut

attribute [local go_sem] cutA_zero

/-- a message, its row in a new block, and a second result -/
def RetMg (w : World) (x0 x1 x2 x3 : Nat) (l : List UInt8) (v : Value) (e : Ending) (w' : World) : Prop := ∃ A1 n1 c1 bs d, e = .returned (.tuple #[.agg (msgC x0 x1 x2 x3 A1 n1 c1).toArray, v]) ∧ w' = plus w bs d ∧ Rb (plus w bs d) A1 n1 c1 l ∧ ∀ a, A1 = some a → w.heap.size ≤ a.block
theorem RetMg.mk {w w' : World} {x0 x1 x2 x3 : Nat} {l : List UInt8} {v : Value} {A1 : Option Addr} {n1 c1 : Nat} (h : Rb w' A1 n1 c1 l) (hf : ∀ a, A1 = some a → w.heap.size ≤ a.block) (hb : Below w.heap.size w w') : RetMg w x0 x1 x2 x3 l v (.returned (.tuple #[.agg (msgC x0 x1 x2 x3 A1 n1 c1).toArray, v])) w' := by
  obtain ⟨bs, d, rfl⟩ := plus_of hb
  exact ⟨A1, n1, c1, bs, d, rfl, rfl, h, hf⟩
theorem Ob.freshM {w : World} {w0 base : Nat} {A : Option Addr} {n c : Nat} {l : List UInt8} (h : Ob w base A n c l) (hb : w0 ≤ base) : ∀ a, A = some a → w0 ≤ a.block := fun a ha => by
  subst ha
  rcases h.2.2 with ⟨hv, h0⟩ | ⟨g, cap, cur, hv, hg, hr⟩
  · injection hv with h1; cases h1
  · injection hv with h1; injection h1 with h1; subst h1; exact Nat.le_trans hb hg
theorem RetMg.mkO {w w' : World} {x0 x1 x2 x3 : Nat} {l : List UInt8} {v : Value} {A1 : Option Addr} {n1 c1 : Nat} (h : Ob w' w.heap.size A1 n1 c1 l) (hb : Below w.heap.size w w') : RetMg w x0 x1 x2 x3 l v (.returned (.tuple #[.agg (msgC x0 x1 x2 x3 A1 n1 c1).toArray, v])) w' := RetMg.mk h.rb (h.freshM (Nat.le_refl _)) hb
theorem icmpParseS (A : Option Addr) (n c : Nat) (l : List UInt8) (w : World) (hr : Rb w A n c l) (hn : n < 8) : Calls Try.prog 161 #[.slice A n c] w (RetMg w 0 0 0 0 [] (.int .i64 20)) := by
  go_enter Try.func161, Try.ntmps161
  go_wp2
  exact bodyPost_ret (v := .tuple #[.agg #[.int .u8 0, .int .u8 0, .int .u16 0, .int .u32 0, .slice none 0 0], .int .i64 20]) (by simp [results, Try.results161, go_sem]) rfl (RetMg.mk Rb.nil_ (fun a h => by cases h) ((Below.refl _ _).alloc (Nat.le_refl _) _))
set_option maxHeartbeats 2000000 in
theorem icmpParseX (A : Option Addr) (n c : Nat) (l : List UInt8) (w : World) (hr : Rb w A n c l) (h8 : 8 ≤ n) (hn : n ≤ 1000000) (x0 x1 x2 x3 : Nat) (hx0 : num ((l.drop 0).take 1) = x0) (hx1 : num ((l.drop 1).take 1) = x1) (hx2 : num ((l.drop 2).take 2) = x2) (hx3 : num ((l.drop 4).take 4) = x3) :
    Calls Try.prog 161 #[.slice A n c] w (RetMg w x0 x1 x2 x3 (l.drop 8) (.int .i64 0)) := by
  rw [List.drop_zero] at hx0
  have hc := hr.cap
  have h8i : (8 : Int) ≤ (n : Int) := by omega
  go_enter Try.func161, Try.ntmps161
  go_wp2_with fail
  refine (read_any _ _ _ (l.take 8) _ ((hr.take h8).alloc _) (by omega)).mono ?_
  rintro e w1 ⟨r, bs1, d1, rfl, rfl, hr1, hR1⟩
  have hl8 : (l.take 8).length = 8 := by rw [List.length_take, hr.1]; omega
  have HL := Lib.hid hl8
  clear hl8
  go_wp2_with fail
  refine (byteP _ _ _ r _ false hR1 hr1 (by rw [HL.out]; omega) (by rw [HL.out]; omega)).mono ?_
  rintro e w1 ⟨bs2, d2, rfl, rfl, hR2, -⟩
  go_wp2_with fail
  refine (byteP _ _ _ r _ false hR2 hr1 (by rw [List.length_drop, HL.out]; omega) (by rw [List.length_drop, HL.out]; omega)).mono ?_
  rintro e w1 ⟨bs3, d3, rfl, rfl, hR3, -⟩
  go_wp2_with fail
  refine (wordP _ _ _ r _ false hR3 hr1 (by simp only [List.length_drop, HL.out]; omega) (by simp only [List.length_drop, HL.out]; omega)).mono ?_
  rintro e w1 ⟨bs4, d4, rfl, rfl, hR4, -⟩
  go_wp2_with fail
  refine (longP _ _ _ r _ false hR4 hr1 (by simp only [List.length_drop, HL.out]; omega) (by simp only [List.length_drop, HL.out]; omega)).mono ?_
  rintro e w1 ⟨bs5, d5, rfl, rfl, -, -⟩
  go_wp2_with fail
  refine (clone_any _ _ _ (l.drop 8) _ (((hr.cut h8).alloc _).plus_ _ _ |>.alloc _) (by omega)).mono ?_
  rintro e w1 ⟨A1, n1, c1, bs6, d6, rfl, rfl, ho6⟩
  go_wp2
  refine bodyPost_ret (v := .tuple #[.agg (msgC (num (l.take 1)) (num ((l.drop 1).take 1)) (num ((l.drop 2).take 2)) (num ((l.drop 4).take 4)) A1 n1 c1).toArray, .int .i64 0])
    (by simp [msgC, results, Try.results161, go_sem, List.drop_take, List.take_take, ← List.drop_one]) rfl ?_
  rw [hx0, hx1, hx2, hx3]
  refine RetMg.mkO ?_ ?_
  · exact (ho6.swap (Nat.le_refl _) (by simp [size_plus])).mono (by simp [size_plus]; omega)
  · exact toPlus ((toPlus ((Below.refl _ _).alloc (Nat.le_refl _) _) (by simp) _ _).alloc (by simp [size_plus]; omega) _) (by simp [size_plus]; omega) _ _
def MP.ms (x0 x1 x2 x3 base : Nat) (l : List UInt8) : MP := ⟨fun v w => ∃ A1 n1 c1, v = .agg (msgC x0 x1 x2 x3 A1 n1 c1).toArray ∧ Rb w A1 n1 c1 l ∧ ∀ a, A1 = some a → base ≤ a.block, fun _ _ _ ⟨A, n, c, h1, h2, h3⟩ h => ⟨A, n, c, h1, h2.later h.below, h3⟩⟩
theorem refIcmpS (A : Option Addr) (n c : Nat) (l : List UInt8) (w : World) (hr : Rb w A n c l) (hn : n < 8) : Calls Try.prog 63 #[.slice A n c] w (RetMg w 0 0 0 0 [] (.bool false)) := by
  go_enter Try.func63, Try.ntmps63
  go_wp2
  exact bodyPost_ret (v := .tuple #[.agg #[.int .u8 0, .int .u8 0, .int .u16 0, .int .u32 0, .slice none 0 0], .bool false]) (by simp [results, Try.results63, go_sem]) rfl (RetMg.mk Rb.nil_ (fun a h => by cases h) ((Below.refl _ _).alloc (Nat.le_refl _) _))
set_option maxHeartbeats 4000000 in
set_option maxRecDepth 100000 in
theorem refIcmpX (A : Option Addr) (n c : Nat) (l : List UInt8) (w : World) (hr : Rb w A n c l) (h8 : 8 ≤ n) (hn : n ≤ 1000000) (x0 x1 x2 x3 : Nat) (hx0 : num ((l.drop 0).take 1) = x0) (hx1 : num ((l.drop 1).take 1) = x1) (hx2 : num ((l.drop 2).take 2) = x2) (hx3 : num ((l.drop 4).take 4) = x3) :
    Calls Try.prog 63 #[.slice A n c] w (RetMg w x0 x1 x2 x3 (l.drop 8) (.bool true)) := by
  have hc := hr.cap
  obtain ⟨b, off, rfl, hlt, hcell⟩ := hr.2.2.at_ (by rw [bcs_length, hr.1]; omega)
  have hl := hr.1
  have q0 : w.cell? ⟨b, off, none⟩ = some (.int .u8 (x0 : Nat)) := by
    rw [← Nat.add_zero off, hcell 0 _ (bcs_get _ _ (by omega)), ← hx0, List.drop_zero]
    rw [num_take_succ l 0 (by omega)]; simp [num]
  have q1 : w.cell? ⟨b, off + 1, none⟩ = some (.int .u8 (x1 : Nat)) := by
    rw [hcell 1 _ (bcs_get _ _ (by omega)), ← hx1]
    rw [num_take_succ (l.drop 1) 0 (by rw [List.length_drop]; omega)]; simp [num]
  have k2 : x2 < 65536 := by rw [← hx2]; exact num_lt' l 2 2 65536 (by decide)
  have k3 : x3 < 4294967296 := by rw [← hx3]; exact num_lt' l 4 4 4294967296 (by decide)
  have Hx2 := Lib.hid hx2
  have Hx3 := Lib.hid hx3
  clear hl hcell hx0 hx1 hx2 hx3
  have u2 : IntKind.u16.wrap (x2 : Int) = (x2 : Int) := by rw [IntKind.wrap_u16]; omega
  have u4 : IntKind.u32.wrap (x3 : Int) = (x3 : Int) := by rw [IntKind.wrap_u32']; omega
  have Hr8 := Lib.hid (hr.cut (k := 8) h8)
  have i0 : (0 : Int) < (n : Int) := by omega
  have j0 : 0 < n := by omega
  have i1 : (1 : Int) < (n : Int) := by omega
  have i8 : (8 : Int) ≤ (n : Int) := by omega
  have b0 : Bk (w.alloc (.cells (msgC 0 0 0 0 none 0 0).toArray 58)) w.heap.size 58 (msgC 0 0 0 0 none 0 0) := Bk.new w 58 (msgC 0 0 0 0 none 0 0).toArray
  have be : Below w.heap.size w (w.alloc (.cells (msgC 0 0 0 0 none 0 0).toArray 58)) := Below.allocS (Below.refl _ _) _
  obtain ⟨dr, r1, r2⟩ := rowMr
  go_enter Try.func63, Try.ntmps63
  go_upto_region 3 with (fail)
  go_wp2
  refine wp_relS 17 25 rfl (by kernel_rfl) (by kernel_rfl) ?_
  apply Steps.one (MP.eq _) 1 rfl
  · intro o ho FA x hO hD K hK
    obtain rfl := Option.some.inj ho.symm
    clear ho
    have e0 := hO 0 (by kernel_rfl)
    simp only [eval_tmp, List.getElem?_toArray, List.getElem?_cons_succ, List.getElem?_cons_zero, Option.getD_some] at e0
    have ev0 := Lib.hid ((eval_tmp FA 0).trans e0)
    clear hO hD
    go_simp
    exact hK.out _ _ (Ex.refl _) rfl
  apply Steps.one (MP.eq _) 2 rfl
  · intro o ho FA x hO hD K hK
    obtain rfl := Option.some.inj ho.symm
    clear ho
    have ev8 : FA.eval (.tmp 8) = _ := hD 0 8 (by kernel_rfl)
    have e8 := (eval_tmp FA 8).symm.trans ev8
    replace ev8 := Lib.hid ev8
    clear hO hD
    go_simp
    exact hK.out _ _ (Ex.refl _) rfl
  apply Steps.one (MP.eq _) 3 rfl
  · intro o ho FA x hO hD K hK
    obtain rfl := Option.some.inj ho.symm
    clear ho
    have ev9 : FA.eval (.tmp 9) = _ := hD 1 9 (by kernel_rfl)
    have e9 := (eval_tmp FA 9).symm.trans ev9
    replace ev9 := Lib.hid ev9
    clear hO hD
    go_simp
    exact hK.out _ _ (Ex.refl _) rfl
  apply Steps.one (MP.eq _) 4 rfl
  · intro o ho FA x hO hD K hK
    obtain rfl := Option.some.inj ho.symm
    clear ho
    have e0 := hO 0 (by kernel_rfl)
    simp only [eval_tmp, List.getElem?_toArray, List.getElem?_cons_succ, List.getElem?_cons_zero, Option.getD_some] at e0
    have ev0 := Lib.hid ((eval_tmp FA 0).trans e0)
    clear hO hD
    go_simp
    exact hK.out _ _ (Ex.refl _) rfl
  apply Steps.one (MP.eq _) 5 rfl
  · intro o ho FA x hO hD K hK
    obtain rfl := Option.some.inj ho.symm
    clear ho
    have ev11 : FA.eval (.tmp 11) = _ := hD 3 11 (by kernel_rfl)
    have e11 := (eval_tmp FA 11).symm.trans ev11
    replace ev11 := Lib.hid ev11
    clear hO hD
    go_simp
    exact hK.out _ _ (Ex.refl _) rfl
  apply Steps.one (MP.eq _) 6 rfl
  · intro o ho FA x hO hD K hK
    obtain rfl := Option.some.inj ho.symm
    clear ho
    have ev12 : FA.eval (.tmp 12) = _ := hD 4 12 (by kernel_rfl)
    have e12 := (eval_tmp FA 12).symm.trans ev12
    replace ev12 := Lib.hid ev12
    clear hO hD
    go_simp
    exact hK.out _ _ (Ex.refl _) rfl
  apply Steps.one (MP.eq _) 7 rfl
  · intro o ho FA x hO hD K hK
    obtain rfl := Option.some.inj ho.symm
    clear ho
    have e0 := hO 0 (by kernel_rfl)
    simp only [eval_tmp, List.getElem?_toArray, List.getElem?_cons_succ, List.getElem?_cons_zero, Option.getD_some] at e0
    have ev0 := Lib.hid ((eval_tmp FA 0).trans e0)
    clear hO hD
    go_simp
    exact hK.out _ _ (Ex.refl _) rfl
  apply Steps.one (MP.eq (.int .u64 (x2 : Nat))) 8 rfl
  · intro o ho FA x hO hD K hK
    obtain rfl := Option.some.inj ho.symm
    clear ho
    have ev14 : FA.eval (.tmp 14) = _ := hD 6 14 (by kernel_rfl)
    have e14 := (eval_tmp FA 14).symm.trans ev14
    replace ev14 := Lib.hid ev14
    clear hO hD
    go_simp
    refine (refGet_int _ n c l _ _ _ ((hr.alloc _).plus_ _ _) (by omega) (by omega) (by omega) (by omega) (by omega)).mono ?_
    rintro e w1 ⟨rfl, rfl⟩
    exact hK.out _ _ (Ex.refl _) (by rw [show ((l.drop ((2 : Int).toNat)).take ((2 : Int).toNat)) = (l.drop 2).take 2 from rfl, Hx2.out]; rfl)
  apply Steps.one (MP.eq (.int .u16 (x2 : Nat))) 9 rfl
  · intro o ho FA x hO hD K hK
    obtain rfl := Option.some.inj ho.symm
    clear ho
    have ev15 : FA.eval (.tmp 15) = _ := hD 7 15 (by kernel_rfl)
    have e15 := (eval_tmp FA 15).symm.trans ev15
    replace ev15 := Lib.hid ev15
    clear hO hD
    go_simp
    exact hK.out _ _ (Ex.refl _) rfl
  apply Steps.one (MP.eq _) 10 rfl
  · intro o ho FA x hO hD K hK
    obtain rfl := Option.some.inj ho.symm
    clear ho
    have e0 := hO 0 (by kernel_rfl)
    simp only [eval_tmp, List.getElem?_toArray, List.getElem?_cons_succ, List.getElem?_cons_zero, Option.getD_some] at e0
    have ev0 := Lib.hid ((eval_tmp FA 0).trans e0)
    clear hO hD
    go_simp
    exact hK.out _ _ (Ex.refl _) rfl
  apply Steps.one (MP.eq (.int .u64 (x3 : Nat))) 11 rfl
  · intro o ho FA x hO hD K hK
    obtain rfl := Option.some.inj ho.symm
    clear ho
    have ev17 : FA.eval (.tmp 17) = _ := hD 9 17 (by kernel_rfl)
    have e17 := (eval_tmp FA 17).symm.trans ev17
    replace ev17 := Lib.hid ev17
    clear hO hD
    go_simp
    refine (refGet_int _ n c l _ _ _ ((hr.alloc _).plus_ _ _) (by omega) (by omega) (by omega) (by omega) (by omega)).mono ?_
    rintro e w1 ⟨rfl, rfl⟩
    exact hK.out _ _ (Ex.refl _) (by rw [show ((l.drop ((4 : Int).toNat)).take ((4 : Int).toNat)) = (l.drop 4).take 4 from rfl, Hx3.out]; rfl)
  apply Steps.one (MP.eq (.int .u32 (x3 : Nat))) 12 rfl
  · intro o ho FA x hO hD K hK
    obtain rfl := Option.some.inj ho.symm
    clear ho
    have ev18 : FA.eval (.tmp 18) = _ := hD 10 18 (by kernel_rfl)
    have e18 := (eval_tmp FA 18).symm.trans ev18
    replace ev18 := Lib.hid ev18
    clear hO hD
    go_simp
    exact hK.out _ _ (Ex.refl _) rfl
  apply Steps.one (MP.fullN (w.heap.size + 1) []) 13 rfl
  · intro o ho FA x hO hD K hK
    obtain rfl := Option.some.inj ho.symm
    clear ho
    clear hO hD
    go_simp
    refine hK.out _ _ (Ex.alloc _ _) ⟨_, _, rfl, ?_, ?_⟩
    · refine Rb.litW _ [] ?_ rfl (by decide) rfl
      simp [size_plus]
    · intro a ha
      injection ha with ha
      subst ha
      simp
  apply Steps.one (MP.eq _) 14 rfl
  · intro o ho FA x hO hD K hK
    obtain rfl := Option.some.inj ho.symm
    clear ho
    have e0 := hO 0 (by kernel_rfl)
    simp only [eval_tmp, List.getElem?_toArray, List.getElem?_cons_succ, List.getElem?_cons_zero, Option.getD_some] at e0
    have ev0 := Lib.hid ((eval_tmp FA 0).trans e0)
    clear hO hD
    go_simp
    exact hK.out _ _ (Ex.refl _) rfl
  apply Steps.one (MP.eq (.slice (cutA (some ⟨b, off, none⟩) c 8 1) (n - 8) (c - 8))) 15 rfl
  · intro o ho FA x hO hD K hK
    obtain rfl := Option.some.inj ho.symm
    clear ho
    have ev21 : FA.eval (.tmp 21) = _ := hD 13 21 (by kernel_rfl)
    have e21 := (eval_tmp FA 21).symm.trans ev21
    replace ev21 := Lib.hid ev21
    clear hO hD
    go_simp
    exact hK.out _ _ (Ex.refl _) rfl
  apply Steps.one (MP.rbN (w.heap.size + 1) (l.drop 8)) 16 rfl
  · intro o ho FA x hO hD K hK
    obtain rfl := Option.some.inj ho.symm
    clear ho
    have f20 := hD 12 20 (by kernel_rfl)
    generalize eu20 : FA.eval (.tmp 20) = u20 at f20
    have e20 := (eval_tmp FA 20).symm.trans eu20
    have ev20 := Lib.hid eu20
    clear eu20
    have ev22 : FA.eval (.tmp 22) = _ := hD 14 22 (by kernel_rfl)
    have e22 := (eval_tmp FA 22).symm.trans ev22
    replace ev22 := Lib.hid ev22
    clear hO hD
    obtain ⟨A1, n1, rfl, hr1, hA1⟩ := f20
    obtain rfl : n1 = 0 := hr1.1.symm
    refine wanted_if rfl ?_
    refine rel_appN bt (.tmp 20) (.tmp 22) (w.heap.size + 1) rfl (by simpa [Act.eval] using e20) hr1 hA1 (by simp [size_plus]) ev22.out ((Hr8.out.alloc _).plus_ _ _) (by omega) ?_
    intro A2 n2 c2 w2 hex hr2 hA2
    exact hK.out _ _ hex ⟨_, _, _, rfl, hr2, hA2⟩
  apply Steps.one (MP.ms x0 x1 x2 x3 (w.heap.size + 1) (l.drop 8)) 17 rfl
  · intro o ho FA x hO hD K hK
    obtain rfl := Option.some.inj ho.symm
    clear ho
    have ev10 : FA.eval (.tmp 10) = _ := hD 2 10 (by kernel_rfl)
    have e10 := (eval_tmp FA 10).symm.trans ev10
    replace ev10 := Lib.hid ev10
    have ev13 : FA.eval (.tmp 13) = _ := hD 5 13 (by kernel_rfl)
    have e13 := (eval_tmp FA 13).symm.trans ev13
    replace ev13 := Lib.hid ev13
    have ev16 : FA.eval (.tmp 16) = _ := hD 8 16 (by kernel_rfl)
    have e16 := (eval_tmp FA 16).symm.trans ev16
    replace ev16 := Lib.hid ev16
    have ev19 : FA.eval (.tmp 19) = _ := hD 11 19 (by kernel_rfl)
    have e19 := (eval_tmp FA 19).symm.trans ev19
    replace ev19 := Lib.hid ev19
    have f23 := hD 15 23 (by kernel_rfl)
    generalize eu23 : FA.eval (.tmp 23) = u23 at f23
    have e23 := (eval_tmp FA 23).symm.trans eu23
    have ev23 := Lib.hid eu23
    clear eu23
    clear hO hD
    obtain ⟨A1, n1, c1, rfl, hr1, hA1⟩ := f23
    go_simp
    exact hK.out _ _ (Ex.refl _) ⟨_, _, _, rfl, hr1, hA1⟩
  refine Steps.fin_ (fun vs x hp => ?_)
  have p0 : vs 0 = _ := hp 0 (by omega)
  have p1 : vs 1 = _ := hp 1 (by omega)
  have p2 : vs 2 = _ := hp 2 (by omega)
  have p3 : vs 3 = _ := hp 3 (by omega)
  have p4 : vs 4 = _ := hp 4 (by omega)
  have p5 : vs 5 = _ := hp 5 (by omega)
  have p6 : vs 6 = _ := hp 6 (by omega)
  have p7 : vs 7 = _ := hp 7 (by omega)
  have p8 : vs 8 = _ := hp 8 (by omega)
  have p9 : vs 9 = _ := hp 9 (by omega)
  have p10 : vs 10 = _ := hp 10 (by omega)
  have p11 : vs 11 = _ := hp 11 (by omega)
  have p12 := hp 12 (by omega)
  have p13 : vs 13 = _ := hp 13 (by omega)
  have p14 : vs 14 = _ := hp 14 (by omega)
  have p15 := hp 15 (by omega)
  have p16 := hp 16 (by omega)
  clear hp
  simp only [List.take_succ_cons, List.take_zero, List.drop_succ_cons, List.drop_zero, putAll, Nat.zero_add, Nat.reduceAdd, Act.put, List.setIfInBounds_toArray, List.set_cons_zero, List.set_cons_succ, p0, p1, p2, p3, p4, p5, p6, p7, p8, p9, p10, p11, p13, p14]
  clear p0 p1 p2 p3 p4 p5 p6 p7 p8 p9 p10 p11 p13 p14
  generalize vs 12 = y12 at *
  generalize vs 15 = y15 at *
  generalize vs 16 = y16 at *
  clear vs
  obtain ⟨A1, n1, c1, rfl, hr1, hA1⟩ := p16
  go_wp2_with (refine at_op (.store 58 (.tmp 2) (.tmp 24)) rfl ?_; refine wpList_stA (t := 58) 58 (.tmp 2) (.tmp 24) rfl rfl (msgC x0 x1 x2 x3 A1 n1 c1) (msgC 0 0 0 0 none 0 0) rfl (msgC_one _ _ _ _ _ _ _) rfl rfl (b0.later (below_plus _ _ _)) (szMr _ _ _ _ _ _ _) ?_; intro w2 hb2 hg2)
  go_wp2
  refine bodyPost_agg2 Try.results63 rfl rfl hb2.range r1 r2 (szMr _ _ _ _ _ _ _) rfl (RetMg.mk ?_ ?_ (below_grown (belowP be _ _) hg2 (Nat.le_refl _)))
  · exact hr1.grownN hA1 hg2 (by omega)
  · intro a ha; have := hA1 a ha; omega
end Go.Proofs.Ytfmkndemkpecpaa

/- What calls return. -/
namespace Go.Proofs.Ytfmkndemkpecpaa
open Go.RowKit
/-- bytes and an error -/
def RetBE (w : World) (l : List UInt8) (E : Int) (e : Ending) (w' : World) : Prop := ∃ A n c bs d, e = .returned (.tuple #[.slice A n c, .int .i64 E]) ∧ w' = plus w bs d ∧ Rb (plus w bs d) A n c l
theorem RetBE.mk {w w' : World} {l : List UInt8} {E : Int} {A : Option Addr} {n c : Nat} (h : Rb w' A n c l) (hb : Below w.heap.size w w') : RetBE w l E (.returned (.tuple #[.slice A n c, .int .i64 E])) w' := by
  obtain ⟨bs, d, rfl⟩ := plus_of hb
  exact ⟨A, n, c, bs, d, rfl, rfl, h⟩
end Go.Proofs.Ytfmkndemkpecpaa

/- octet.Set, ref01.Set; addr.Right; headers of IPv4: Size, Right. -/
namespace Go.Proofs.Ytfmkndemkpecpaa
open Go.RowKit
set_option linter.unusedVariables false
set_option linter.unusedSimpArgs false
attribute [local go_sem ↓] sliced_cut

attribute [local go_sem] cutA_zero

/-- bytes r written over l from k on -/
def setB (l : List UInt8) (k : Nat) (r : List UInt8) : List UInt8 := l.take k ++ r ++ l.drop (k + r.length)
/-- own bytes, and an error -/
def RetOE (w : World) (l : List UInt8) (E : Int) (e : Ending) (w' : World) : Prop := ∃ A n c bs d, e = .returned (.tuple #[.slice A n c, .int .i64 E]) ∧ w' = plus w bs d ∧ Ob (plus w bs d) w.heap.size A n c l
theorem RetOE.mk {w w' : World} {l : List UInt8} {E : Int} {A : Option Addr} {n c : Nat} (h : Ob w' w.heap.size A n c l) (hb : Below w.heap.size w w') : RetOE w l E (.returned (.tuple #[.slice A n c, .int .i64 E])) w' := by
  obtain ⟨bs, d, rfl⟩ := plus_of hb
  exact ⟨A, n, c, bs, d, rfl, rfl, h⟩
end Go.Proofs.Ytfmkndemkpecpaa

/- addr.Right; headers of IPv4: Size, Right. -/
namespace Go.Proofs.Ytfmkndemkpecpaa
open Go.RowKit
set_option linter.unusedVariables false
set_option linter.unusedSimpArgs false
attribute [local go_sem ↓] sliced_cut

attribute [local go_sem] cutA_zero

def h4C (ts : Nat) (ln : Int) (id : Nat) (st mo : Bool) (fo : Int) (tl pr sm : Nat) (s6 : Bool) (sh sl : Nat) (d6 : Bool) (dh dl : Nat) (A : Option Addr) (n k : Nat) : List Value := [.int .u8 (ts : Int), .int .i64 ln, .int .u16 (id : Int), .bool st, .bool mo, .int .i64 fo, .int .u8 (tl : Int), .int .u8 (pr : Int), .int .u16 (sm : Int), .bool s6, .int .u64 (sh : Int), .int .u64 (sl : Int), .bool d6, .int .u64 (dh : Int), .int .u64 (dl : Int), .slice A n k]
theorem h4C_one (ts : Nat) (ln : Int) (id : Nat) (st mo : Bool) (fo : Int) (tl pr sm : Nat) (s6 : Bool) (sh sl : Nat) (d6 : Bool) (dh dl : Nat) (A : Option Addr) (n k : Nat) : ∀ u ∈ h4C ts ln id st mo fo tl pr sm s6 sh sl d6 dh dl A n k, u.oneCell' = true := by
  intro u hu
  simp only [h4C, List.mem_cons, List.not_mem_nil, or_false] at hu
  rcases hu with rfl | rfl | rfl | rfl | rfl | rfl | rfl | rfl | rfl | rfl | rfl | rfl | rfl | rfl | rfl | rfl <;> rfl
theorem szH4 (ts : Nat) (ln : Int) (id : Nat) (st mo : Bool) (fo : Int) (tl pr sm : Nat) (s6 : Bool) (sh sl : Nat) (d6 : Bool) (dh dl : Nat) (A : Option Addr) (n k : Nat) : (Try.prog.info? 140).map (·.size) = some (h4C ts ln id st mo fo tl pr sm s6 sh sl d6 dh dl A n k).length := by kernel_rfl
theorem rowH4 : ∃ d, Try.prog.underlying 140 = some d ∧ d.isRow = true := ⟨_, Try.underlying140, rfl⟩
theorem szR4 (ts : Nat) (ln : Int) (id : Nat) (st mo : Bool) (fo : Int) (tl pr sm : Nat) (s6 : Bool) (sh sl : Nat) (d6 : Bool) (dh dl : Nat) (A : Option Addr) (n k : Nat) : (Try.prog.info? 184).map (·.size) = some (h4C ts ln id st mo fo tl pr sm s6 sh sl d6 dh dl A n k).length := by kernel_rfl
theorem rowR4 : ∃ d, Try.prog.underlying 184 = some d ∧ d.isRow = true := ⟨_, Try.underlying184, rfl⟩
/-- may an address of version 4 be? -/
def ad4 (six : Bool) (h l : Nat) : Bool := !six && (decide (h = 0) && decide (l < 4294967296))
def r4 (n : Nat) (ln fo : Int) (s6 : Bool) (sh sl : Nat) (d6 : Bool) (dh dl : Nat) : Bool := decide (n ≤ 40) && (decide (n % 4 = 0) && (decide (20 + (n : Int) ≤ ln) && (decide (ln ≤ 65535) && (decide (0 ≤ fo) && (decide (fo ≤ 8191) && (ad4 s6 sh sl && ad4 d6 dh dl))))))
end Go.Proofs.Ytfmkndemkpecpaa

/- ip4.header of any bytes. -/
namespace Go.Proofs.Ytfmkndemkpecpaa
open Go.RowKit
set_option linter.unusedVariables false
set_option linter.unusedSimpArgs false
attribute [local go_sem ↓] sliced_cut

attribute [local go_sem] cutA_zero

set_option maxHeartbeats 4000000 in
set_option maxRecDepth 100000 in
theorem hdr4_short (A : Option Addr) (n c : Nat) (l : List UInt8) (w : World) (h : Rb w A n c l) (hm9 : n ≤ 1000000) (hn : n < 20) : Calls Try.prog 128 #[.slice A n c] w (RetV w (.tuple #[.agg (h4C 0 0 0 false false 0 0 0 0 false 0 0 false 0 0 none 0 0).toArray, .int .i64 0, .int .i64 20])) := by
  obtain ⟨du, u1, u2⟩ := rowH4
  have d20 : decide ((n : Int) < 20) = true := by simp only [decide_eq_true_eq]; omega
  have b2 : Bk (w.alloc (.cells #[.int .u8 0, .int .i64 0, .int .u16 0, .bool false, .bool false, .int .i64 0, .int .u8 0, .int .u8 0, .int .u16 0, .bool false, .int .u64 0, .int .u64 0, .bool false, .int .u64 0, .int .u64 0, .slice none 0 0] 140)) w.heap.size 140 (h4C 0 0 0 false false 0 0 0 0 false 0 0 false 0 0 none 0 0) := Bk.new w 140 #[.int .u8 0, .int .i64 0, .int .u16 0, .bool false, .bool false, .int .i64 0, .int .u8 0, .int .u8 0, .int .u16 0, .bool false, .int .u64 0, .int .u64 0, .bool false, .int .u64 0, .int .u64 0, .slice none 0 0]
  have be : Below w.heap.size w (w.alloc (.cells #[.int .u8 0, .int .i64 0, .int .u16 0, .bool false, .bool false, .int .i64 0, .int .u8 0, .int .u8 0, .int .u16 0, .bool false, .int .u64 0, .int .u64 0, .bool false, .int .u64 0, .int .u64 0, .slice none 0 0] 140)) := Below.allocS (Below.refl _ _) _
  go_enter Try.func128, Try.ntmps128
  go_wp2_with (refine at_op (.store 140 (.tmp 2) (.tmp 13)) rfl ?_; refine wpList_stA (t := 140) 140 (.tmp 2) (.tmp 13) rfl rfl (h4C 0 0 0 false false 0 0 0 0 false 0 0 false 0 0 none 0 0) (h4C 0 0 0 false false 0 0 0 0 false 0 0 false 0 0 none 0 0) rfl (h4C_one _ _ _ _ _ _ _ _ _ _ _ _ _ _ _ _ _ _) rfl rfl b2 (szH4 _ _ _ _ _ _ _ _ _ _ _ _ _ _ _ _ _ _) ?_; intro W9 h9 g9)
  refine bodyPost_agg3 Try.results128 rfl rfl rfl h9.range u1 u2 (szH4 _ _ _ _ _ _ _ _ _ _ _ _ _ _ _ _ _ _) rfl (RetV.mk ?_)
  exact below_grown be g9 (by omega)

theorem and_bit (x i : Nat) : x &&& 2 ^ i = x / 2 ^ i % 2 * 2 ^ i := by
  have hb : x.testBit i = decide (x / 2 ^ i % 2 = 1) := Nat.testBit_eq_decide_div_mod_eq
  apply Nat.eq_of_testBit_eq
  intro j
  rw [Nat.testBit_and, Nat.testBit_two_pow]
  by_cases h1 : x / 2 ^ i % 2 = 1
  · rw [h1, Nat.one_mul, Nat.testBit_two_pow]
    by_cases hj : i = j
    · subst hj
      rw [hb]
      simp [h1]
    · simp [hj]
  · have h0 : x / 2 ^ i % 2 = 0 := by omega
    rw [h0, Nat.zero_mul, Nat.zero_testBit]
    by_cases hj : i = j
    · subst hj
      rw [hb]
      simp [h0]
    · simp [hj]
theorem and_2k (x i : Nat) (h : x < 65536) (hi : i < 16) : bits .and .u16 (x : Int) ((2 ^ i : Nat) : Int) = (((x / 2 ^ i % 2) * 2 ^ i : Nat) : Int) := by
  rw [u16_and_nat x (2 ^ i) h (Nat.lt_of_lt_of_le (Nat.pow_lt_pow_right (by decide) hi) (by decide)), and_bit]
theorem and15 (x : Nat) (h : x < 65536) : bits .and .u16 (x : Int) 32768 = ((x / 32768 % 2 * 32768 : Nat) : Int) := and_2k x 15 h (by decide)
theorem and14 (x : Nat) (h : x < 65536) : bits .and .u16 (x : Int) 16384 = ((x / 16384 % 2 * 16384 : Nat) : Int) := and_2k x 14 h (by decide)
theorem and13 (x : Nat) (h : x < 65536) : bits .and .u16 (x : Int) 8192 = ((x / 8192 % 2 * 8192 : Nat) : Int) := and_2k x 13 h (by decide)
theorem and8191 (x : Nat) (h : x < 65536) : bits .and .u16 (x : Int) 8191 = ((x % 8192 : Nat) : Int) := by
  have := u16_and_nat x 8191 h (by decide)
  rw [show (8191 : Nat) = 2 ^ 13 - 1 from rfl, Nat.and_two_pow_sub_one_eq_mod] at this
  exact this
set_option maxHeartbeats 4000000 in
set_option maxRecDepth 100000 in
theorem hdr4_f1 (A : Option Addr) (n c : Nat) (l : List UInt8) (w : World) (h : Rb w A n c l) (hm9 : n ≤ 1000000) (f ts ln id pl : Nat) (x0 : num ((l.drop 0).take 1) = f) (x1 : num ((l.drop 1).take 1) = ts) (x2 : num ((l.drop 2).take 2) = ln) (x3 : num ((l.drop 4).take 2) = id) (x4 : num ((l.drop 6).take 2) = pl) (hn : 20 ≤ n) (hb : f / 16 ≠ 4) : Calls Try.prog 128 #[.slice A n c] w (RetV w (.tuple #[.agg (h4C 0 0 0 false false 0 0 0 0 false 0 0 false 0 0 none 0 0).toArray, .int .i64 0, .int .i64 21])) := by
  obtain ⟨du, u1, u2⟩ := rowH4
  have hc := h.2.1
  have hl := h.1
  have h20n : (20 : Int) ≤ (n : Int) := by omega
  have h20c : (20 : Int) ≤ (c : Int) := by omega
  have d20 : decide ((n : Int) < 20) = false := by simp only [decide_eq_false_iff_not]; omega
  have ht20 : Rb w A 20 c (l.take 20) := h.take (by omega)
  have hf8 : f < 256 := by rw [← x0]; exact num_lt' l 0 1 256 (by decide)
  have hpl : pl < 65536 := by rw [← x4]; exact num_lt' l 6 2 65536 (by decide)
  have hln : ln < 65536 := by rw [← x2]; exact num_lt' l 2 2 65536 (by decide)
  replace x0 : Hid (num (((l.take 20).drop 0).take 1) = f) := Lib.hid (by rw [num_in l 20 0 1 (by decide)]; exact x0)
  replace x1 : Hid (num (((l.take 20).drop 1).take 1) = ts) := Lib.hid (by rw [num_in l 20 1 1 (by decide)]; exact x1)
  replace x2 : Hid (num (((l.take 20).drop 2).take 2) = ln) := Lib.hid (by rw [num_in l 20 2 2 (by decide)]; exact x2)
  replace x3 : Hid (num (((l.take 20).drop 4).take 2) = id) := Lib.hid (by rw [num_in l 20 4 2 (by decide)]; exact x3)
  replace x4 : Hid (num (((l.take 20).drop 6).take 2) = pl) := Lib.hid (by rw [num_in l 20 6 2 (by decide)]; exact x4)
  have hB : (l.take 20).length = 20 := by rw [List.length_take]; omega
  have HR := Lib.hid (fun W (h : Rb W A 20 c (l.take 20)) => readK A 20 c (l.take 20) W h (by decide))
  generalize l.take 20 = B at *
  have hB1 : B.length ≤ 20 := by omega
  have hB2 : 20 ≤ B.length := by omega
  clear hB
  obtain ⟨m, hm⟩ : ∃ m : Nat, m = f % 16 := ⟨_, rfl⟩
  have e1 := u8_and15 f hf8
  rw [← hm] at e1
  obtain ⟨sz, hsz⟩ : ∃ s : Nat, s = 4 * m := ⟨_, rfl⟩
  have e2 : IntKind.i64.wrap (4 * (m : Int)) = (sz : Int) := by rw [IntWalk.i64_in _ (by omega)]; omega
  have e3 : IntKind.i64.wrap (m : Int) = (m : Int) := IntWalk.i64_in _ (by omega)
  have e4 : IntKind.i64.wrap (ln : Int) = (ln : Int) := IntWalk.i64_in _ (by omega)
  have hb1n : ((f : Int) / 16 != 4) = true := by rw [bne_iff_ne]; omega
  clear hm hsz
  have b2 : Bk (w.alloc (.cells #[.int .u8 0, .int .i64 0, .int .u16 0, .bool false, .bool false, .int .i64 0, .int .u8 0, .int .u8 0, .int .u16 0, .bool false, .int .u64 0, .int .u64 0, .bool false, .int .u64 0, .int .u64 0, .slice none 0 0] 140)) w.heap.size 140 (h4C 0 0 0 false false 0 0 0 0 false 0 0 false 0 0 none 0 0) := Bk.new w 140 #[.int .u8 0, .int .i64 0, .int .u16 0, .bool false, .bool false, .int .i64 0, .int .u8 0, .int .u8 0, .int .u16 0, .bool false, .int .u64 0, .int .u64 0, .bool false, .int .u64 0, .int .u64 0, .slice none 0 0]
  have be : Below w.heap.size w (w.alloc (.cells #[.int .u8 0, .int .i64 0, .int .u16 0, .bool false, .bool false, .int .i64 0, .int .u8 0, .int .u8 0, .int .u16 0, .bool false, .int .u64 0, .int .u64 0, .bool false, .int .u64 0, .int .u64 0, .slice none 0 0] 140)) := Below.allocS (Below.refl _ _) _
  go_enter Try.func128, Try.ntmps128
  go_wp2_with fail
  refine (HR.out _ (ht20.alloc _)).mono ?_
  rintro e w1 ⟨r, bs1, d1, rfl, rfl, hr1, hR⟩
  replace b2 := b2.later (below_plus _ bs1 d1)
  replace be := belowP be bs1 d1
  have hr2 : w.heap.size < r := by simp at hr1; omega
  generalize plus (w.alloc (.cells #[.int .u8 0, .int .i64 0, .int .u16 0, .bool false, .bool false, .int .i64 0, .int .u8 0, .int .u8 0, .int .u16 0, .bool false, .int .u64 0, .int .u64 0, .bool false, .int .u64 0, .int .u64 0, .slice none 0 0] 140)) bs1 d1 = W0 at *
  clear hr1
  go_wp2_with fail
  refine (byteG W0 r B 0 f hR (by omega) (by omega) x0.out).mono ?_
  clear x0
  rintro e W1 ⟨rfl, hR1, hg⟩
  replace b2 := b2.grown hg (by simp; omega)
  replace be := below_grown be hg (by omega)
  clear hR hg
  have hR := hR1
  clear hR1
  go_wp2_with fail
  refine (byteG W1 r B 1 ts hR (by omega) (by omega) x1.out).mono ?_
  clear x1
  rintro e W2 ⟨rfl, hR1, hg⟩
  replace b2 := b2.grown hg (by simp; omega)
  replace be := below_grown be hg (by omega)
  clear hR hg
  have hR := hR1
  clear hR1
  go_wp2_with fail
  refine (wordG W2 r B 2 ln hR (by omega) (by omega) x2.out).mono ?_
  clear x2
  rintro e W3 ⟨rfl, hR1, hg⟩
  replace b2 := b2.grown hg (by simp; omega)
  replace be := below_grown be hg (by omega)
  clear hR hg
  have hR := hR1
  clear hR1
  go_wp2_with fail
  refine (wordG W3 r B 4 id hR (by omega) (by omega) x3.out).mono ?_
  clear x3
  rintro e W4 ⟨rfl, hR1, hg⟩
  replace b2 := b2.grown hg (by simp; omega)
  replace be := below_grown be hg (by omega)
  clear hR hg
  have hR := hR1
  clear hR1
  have zr := hR.lt
  go_wp2_with fail
  have b8 : Bk (W4.alloc (.cells #[.int .u8 (ts : Int), .int .i64 (ln : Int), .int .u16 (id : Int), .bool false, .bool false, .int .i64 0, .int .u8 0, .int .u8 0, .int .u16 0, .bool false, .int .u64 0, .int .u64 0, .bool false, .int .u64 0, .int .u64 0, .slice none 0 0] 140)) W4.heap.size 140 [.int .u8 (ts : Int), .int .i64 (ln : Int), .int .u16 (id : Int), .bool false, .bool false, .int .i64 0, .int .u8 0, .int .u8 0, .int .u16 0, .bool false, .int .u64 0, .int .u64 0, .bool false, .int .u64 0, .int .u64 0, .slice none 0 0] := Bk.new W4 140 #[.int .u8 (ts : Int), .int .i64 (ln : Int), .int .u16 (id : Int), .bool false, .bool false, .int .i64 0, .int .u8 0, .int .u8 0, .int .u16 0, .bool false, .int .u64 0, .int .u64 0, .bool false, .int .u64 0, .int .u64 0, .slice none 0 0]
  replace b2 := b2.alloc (.cells #[.int .u8 (ts : Int), .int .i64 (ln : Int), .int .u16 (id : Int), .bool false, .bool false, .int .i64 0, .int .u8 0, .int .u8 0, .int .u16 0, .bool false, .int .u64 0, .int .u64 0, .bool false, .int .u64 0, .int .u64 0, .slice none 0 0] 140)
  replace be := Below.allocS be (.cells #[.int .u8 (ts : Int), .int .i64 (ln : Int), .int .u16 (id : Int), .bool false, .bool false, .int .i64 0, .int .u8 0, .int .u8 0, .int .u16 0, .bool false, .int .u64 0, .int .u64 0, .bool false, .int .u64 0, .int .u64 0, .slice none 0 0] 140)
  replace hR := hR.later ((Below.refl _ _).alloc (Nat.le_refl _) (.cells #[.int .u8 (ts : Int), .int .i64 (ln : Int), .int .u16 (id : Int), .bool false, .bool false, .int .i64 0, .int .u8 0, .int .u8 0, .int .u16 0, .bool false, .int .u64 0, .int .u64 0, .bool false, .int .u64 0, .int .u64 0, .slice none 0 0] 140))
  have zb := be.size
  generalize W4.alloc (.cells #[.int .u8 (ts : Int), .int .i64 (ln : Int), .int .u16 (id : Int), .bool false, .bool false, .int .i64 0, .int .u8 0, .int .u8 0, .int .u16 0, .bool false, .int .u64 0, .int .u64 0, .bool false, .int .u64 0, .int .u64 0, .slice none 0 0] 140) = V0 at *
  have zg : w.heap.size < W4.heap.size := by omega
  generalize W4.heap.size = g8 at *
  refine (wordG V0 r B 6 pl hR (by omega) (by omega) x4.out).mono ?_
  clear x4
  rintro e W5 ⟨rfl, hR1, hg⟩
  replace b2 := b2.grown hg (by simp; omega)
  replace b8 := b8.grown hg (by simp; omega)
  replace be := below_grown be hg (by omega)
  clear hR hg
  have hR := hR1
  clear hR1
  have y1 : W5.cell? ⟨g8, 1, none⟩ = some (.int .i64 (ln : Int)) := b8.cell 1
  have z8 := b8.lt
  clear zb
  go_wp2_with (refine at_op (.store 140 (.tmp 2) (.tmp 51)) rfl ?_; refine wpList_stA (t := 140) 140 (.tmp 2) (.tmp 51) rfl rfl (h4C 0 0 0 false false 0 0 0 0 false 0 0 false 0 0 none 0 0) (h4C 0 0 0 false false 0 0 0 0 false 0 0 false 0 0 none 0 0) rfl (h4C_one _ _ _ _ _ _ _ _ _ _ _ _ _ _ _ _ _ _) rfl rfl b2 (szH4 _ _ _ _ _ _ _ _ _ _ _ _ _ _ _ _ _ _) ?_; intro W9 h9 g9)
  refine bodyPost_agg3 Try.results128 rfl rfl rfl h9.range u1 u2 (szH4 _ _ _ _ _ _ _ _ _ _ _ _ _ _ _ _ _ _) rfl (RetV.mk ?_)
  exact below_grown be g9 (by omega)
set_option maxHeartbeats 4000000 in
set_option maxRecDepth 100000 in
theorem hdr4_f2 (A : Option Addr) (n c : Nat) (l : List UInt8) (w : World) (h : Rb w A n c l) (hm9 : n ≤ 1000000) (f ts ln id pl : Nat) (x0 : num ((l.drop 0).take 1) = f) (x1 : num ((l.drop 1).take 1) = ts) (x2 : num ((l.drop 2).take 2) = ln) (x3 : num ((l.drop 4).take 2) = id) (x4 : num ((l.drop 6).take 2) = pl) (hn : 20 ≤ n) (hb : f / 16 = 4) (hs : 4 * (f % 16) < 20) : Calls Try.prog 128 #[.slice A n c] w (RetV w (.tuple #[.agg (h4C 0 0 0 false false 0 0 0 0 false 0 0 false 0 0 none 0 0).toArray, .int .i64 0, .int .i64 21])) := by
  obtain ⟨du, u1, u2⟩ := rowH4
  have hc := h.2.1
  have hl := h.1
  have h20n : (20 : Int) ≤ (n : Int) := by omega
  have h20c : (20 : Int) ≤ (c : Int) := by omega
  have d20 : decide ((n : Int) < 20) = false := by simp only [decide_eq_false_iff_not]; omega
  have ht20 : Rb w A 20 c (l.take 20) := h.take (by omega)
  have hf8 : f < 256 := by rw [← x0]; exact num_lt' l 0 1 256 (by decide)
  have hpl : pl < 65536 := by rw [← x4]; exact num_lt' l 6 2 65536 (by decide)
  have hln : ln < 65536 := by rw [← x2]; exact num_lt' l 2 2 65536 (by decide)
  replace x0 : Hid (num (((l.take 20).drop 0).take 1) = f) := Lib.hid (by rw [num_in l 20 0 1 (by decide)]; exact x0)
  replace x1 : Hid (num (((l.take 20).drop 1).take 1) = ts) := Lib.hid (by rw [num_in l 20 1 1 (by decide)]; exact x1)
  replace x2 : Hid (num (((l.take 20).drop 2).take 2) = ln) := Lib.hid (by rw [num_in l 20 2 2 (by decide)]; exact x2)
  replace x3 : Hid (num (((l.take 20).drop 4).take 2) = id) := Lib.hid (by rw [num_in l 20 4 2 (by decide)]; exact x3)
  replace x4 : Hid (num (((l.take 20).drop 6).take 2) = pl) := Lib.hid (by rw [num_in l 20 6 2 (by decide)]; exact x4)
  have hB : (l.take 20).length = 20 := by rw [List.length_take]; omega
  have HR := Lib.hid (fun W (h : Rb W A 20 c (l.take 20)) => readK A 20 c (l.take 20) W h (by decide))
  generalize l.take 20 = B at *
  have hB1 : B.length ≤ 20 := by omega
  have hB2 : 20 ≤ B.length := by omega
  clear hB
  obtain ⟨m, hm⟩ : ∃ m : Nat, m = f % 16 := ⟨_, rfl⟩
  have e1 := u8_and15 f hf8
  rw [← hm] at e1
  obtain ⟨sz, hsz⟩ : ∃ s : Nat, s = 4 * m := ⟨_, rfl⟩
  have e2 : IntKind.i64.wrap (4 * (m : Int)) = (sz : Int) := by rw [IntWalk.i64_in _ (by omega)]; omega
  have e3 : IntKind.i64.wrap (m : Int) = (m : Int) := IntWalk.i64_in _ (by omega)
  have e4 : IntKind.i64.wrap (ln : Int) = (ln : Int) := IntWalk.i64_in _ (by omega)
  have hb1 : (f : Int) / 16 = 4 := by omega
  have hb1n : ((f : Int) / 16 != 4) = false := by rw [hb1]; rfl
  have qd0 : decide ((sz : Int) < 20) = true := by simp only [decide_eq_true_eq]; omega
  have qd1 : decide (sz < 20) = true := by simp only [decide_eq_true_eq]; omega
  clear hb1
  clear hm hsz
  have b2 : Bk (w.alloc (.cells #[.int .u8 0, .int .i64 0, .int .u16 0, .bool false, .bool false, .int .i64 0, .int .u8 0, .int .u8 0, .int .u16 0, .bool false, .int .u64 0, .int .u64 0, .bool false, .int .u64 0, .int .u64 0, .slice none 0 0] 140)) w.heap.size 140 (h4C 0 0 0 false false 0 0 0 0 false 0 0 false 0 0 none 0 0) := Bk.new w 140 #[.int .u8 0, .int .i64 0, .int .u16 0, .bool false, .bool false, .int .i64 0, .int .u8 0, .int .u8 0, .int .u16 0, .bool false, .int .u64 0, .int .u64 0, .bool false, .int .u64 0, .int .u64 0, .slice none 0 0]
  have be : Below w.heap.size w (w.alloc (.cells #[.int .u8 0, .int .i64 0, .int .u16 0, .bool false, .bool false, .int .i64 0, .int .u8 0, .int .u8 0, .int .u16 0, .bool false, .int .u64 0, .int .u64 0, .bool false, .int .u64 0, .int .u64 0, .slice none 0 0] 140)) := Below.allocS (Below.refl _ _) _
  go_enter Try.func128, Try.ntmps128
  go_wp2_with fail
  refine (HR.out _ (ht20.alloc _)).mono ?_
  rintro e w1 ⟨r, bs1, d1, rfl, rfl, hr1, hR⟩
  replace b2 := b2.later (below_plus _ bs1 d1)
  replace be := belowP be bs1 d1
  have hr2 : w.heap.size < r := by simp at hr1; omega
  generalize plus (w.alloc (.cells #[.int .u8 0, .int .i64 0, .int .u16 0, .bool false, .bool false, .int .i64 0, .int .u8 0, .int .u8 0, .int .u16 0, .bool false, .int .u64 0, .int .u64 0, .bool false, .int .u64 0, .int .u64 0, .slice none 0 0] 140)) bs1 d1 = W0 at *
  clear hr1
  go_wp2_with fail
  refine (byteG W0 r B 0 f hR (by omega) (by omega) x0.out).mono ?_
  clear x0
  rintro e W1 ⟨rfl, hR1, hg⟩
  replace b2 := b2.grown hg (by simp; omega)
  replace be := below_grown be hg (by omega)
  clear hR hg
  have hR := hR1
  clear hR1
  go_wp2_with fail
  refine (byteG W1 r B 1 ts hR (by omega) (by omega) x1.out).mono ?_
  clear x1
  rintro e W2 ⟨rfl, hR1, hg⟩
  replace b2 := b2.grown hg (by simp; omega)
  replace be := below_grown be hg (by omega)
  clear hR hg
  have hR := hR1
  clear hR1
  go_wp2_with fail
  refine (wordG W2 r B 2 ln hR (by omega) (by omega) x2.out).mono ?_
  clear x2
  rintro e W3 ⟨rfl, hR1, hg⟩
  replace b2 := b2.grown hg (by simp; omega)
  replace be := below_grown be hg (by omega)
  clear hR hg
  have hR := hR1
  clear hR1
  go_wp2_with fail
  refine (wordG W3 r B 4 id hR (by omega) (by omega) x3.out).mono ?_
  clear x3
  rintro e W4 ⟨rfl, hR1, hg⟩
  replace b2 := b2.grown hg (by simp; omega)
  replace be := below_grown be hg (by omega)
  clear hR hg
  have hR := hR1
  clear hR1
  have zr := hR.lt
  go_wp2_with fail
  have b8 : Bk (W4.alloc (.cells #[.int .u8 (ts : Int), .int .i64 (ln : Int), .int .u16 (id : Int), .bool false, .bool false, .int .i64 0, .int .u8 0, .int .u8 0, .int .u16 0, .bool false, .int .u64 0, .int .u64 0, .bool false, .int .u64 0, .int .u64 0, .slice none 0 0] 140)) W4.heap.size 140 [.int .u8 (ts : Int), .int .i64 (ln : Int), .int .u16 (id : Int), .bool false, .bool false, .int .i64 0, .int .u8 0, .int .u8 0, .int .u16 0, .bool false, .int .u64 0, .int .u64 0, .bool false, .int .u64 0, .int .u64 0, .slice none 0 0] := Bk.new W4 140 #[.int .u8 (ts : Int), .int .i64 (ln : Int), .int .u16 (id : Int), .bool false, .bool false, .int .i64 0, .int .u8 0, .int .u8 0, .int .u16 0, .bool false, .int .u64 0, .int .u64 0, .bool false, .int .u64 0, .int .u64 0, .slice none 0 0]
  replace b2 := b2.alloc (.cells #[.int .u8 (ts : Int), .int .i64 (ln : Int), .int .u16 (id : Int), .bool false, .bool false, .int .i64 0, .int .u8 0, .int .u8 0, .int .u16 0, .bool false, .int .u64 0, .int .u64 0, .bool false, .int .u64 0, .int .u64 0, .slice none 0 0] 140)
  replace be := Below.allocS be (.cells #[.int .u8 (ts : Int), .int .i64 (ln : Int), .int .u16 (id : Int), .bool false, .bool false, .int .i64 0, .int .u8 0, .int .u8 0, .int .u16 0, .bool false, .int .u64 0, .int .u64 0, .bool false, .int .u64 0, .int .u64 0, .slice none 0 0] 140)
  replace hR := hR.later ((Below.refl _ _).alloc (Nat.le_refl _) (.cells #[.int .u8 (ts : Int), .int .i64 (ln : Int), .int .u16 (id : Int), .bool false, .bool false, .int .i64 0, .int .u8 0, .int .u8 0, .int .u16 0, .bool false, .int .u64 0, .int .u64 0, .bool false, .int .u64 0, .int .u64 0, .slice none 0 0] 140))
  have zb := be.size
  generalize W4.alloc (.cells #[.int .u8 (ts : Int), .int .i64 (ln : Int), .int .u16 (id : Int), .bool false, .bool false, .int .i64 0, .int .u8 0, .int .u8 0, .int .u16 0, .bool false, .int .u64 0, .int .u64 0, .bool false, .int .u64 0, .int .u64 0, .slice none 0 0] 140) = V0 at *
  have zg : w.heap.size < W4.heap.size := by omega
  generalize W4.heap.size = g8 at *
  refine (wordG V0 r B 6 pl hR (by omega) (by omega) x4.out).mono ?_
  clear x4
  rintro e W5 ⟨rfl, hR1, hg⟩
  replace b2 := b2.grown hg (by simp; omega)
  replace b8 := b8.grown hg (by simp; omega)
  replace be := below_grown be hg (by omega)
  clear hR hg
  have hR := hR1
  clear hR1
  have y1 : W5.cell? ⟨g8, 1, none⟩ = some (.int .i64 (ln : Int)) := b8.cell 1
  have z8 := b8.lt
  clear zb
  go_wp2_with (refine at_op (.store 140 (.tmp 2) (.tmp 51)) rfl ?_; refine wpList_stA (t := 140) 140 (.tmp 2) (.tmp 51) rfl rfl (h4C 0 0 0 false false 0 0 0 0 false 0 0 false 0 0 none 0 0) (h4C 0 0 0 false false 0 0 0 0 false 0 0 false 0 0 none 0 0) rfl (h4C_one _ _ _ _ _ _ _ _ _ _ _ _ _ _ _ _ _ _) rfl rfl b2 (szH4 _ _ _ _ _ _ _ _ _ _ _ _ _ _ _ _ _ _) ?_; intro W9 h9 g9)
  refine bodyPost_agg3 Try.results128 rfl rfl rfl h9.range u1 u2 (szH4 _ _ _ _ _ _ _ _ _ _ _ _ _ _ _ _ _ _) rfl (RetV.mk ?_)
  exact below_grown be g9 (by omega)
set_option maxHeartbeats 4000000 in
set_option maxRecDepth 100000 in
theorem hdr4_f3 (A : Option Addr) (n c : Nat) (l : List UInt8) (w : World) (h : Rb w A n c l) (hm9 : n ≤ 1000000) (f ts ln id pl : Nat) (x0 : num ((l.drop 0).take 1) = f) (x1 : num ((l.drop 1).take 1) = ts) (x2 : num ((l.drop 2).take 2) = ln) (x3 : num ((l.drop 4).take 2) = id) (x4 : num ((l.drop 6).take 2) = pl) (hn : 20 ≤ n) (hb : f / 16 = 4) (hs : 20 ≤ 4 * (f % 16)) (hp9 : 32768 ≤ pl) : Calls Try.prog 128 #[.slice A n c] w (RetV w (.tuple #[.agg (h4C 0 0 0 false false 0 0 0 0 false 0 0 false 0 0 none 0 0).toArray, .int .i64 0, .int .i64 21])) := by
  obtain ⟨du, u1, u2⟩ := rowH4
  have hc := h.2.1
  have hl := h.1
  have h20n : (20 : Int) ≤ (n : Int) := by omega
  have h20c : (20 : Int) ≤ (c : Int) := by omega
  have d20 : decide ((n : Int) < 20) = false := by simp only [decide_eq_false_iff_not]; omega
  have ht20 : Rb w A 20 c (l.take 20) := h.take (by omega)
  have hf8 : f < 256 := by rw [← x0]; exact num_lt' l 0 1 256 (by decide)
  have hpl : pl < 65536 := by rw [← x4]; exact num_lt' l 6 2 65536 (by decide)
  have hln : ln < 65536 := by rw [← x2]; exact num_lt' l 2 2 65536 (by decide)
  replace x0 : Hid (num (((l.take 20).drop 0).take 1) = f) := Lib.hid (by rw [num_in l 20 0 1 (by decide)]; exact x0)
  replace x1 : Hid (num (((l.take 20).drop 1).take 1) = ts) := Lib.hid (by rw [num_in l 20 1 1 (by decide)]; exact x1)
  replace x2 : Hid (num (((l.take 20).drop 2).take 2) = ln) := Lib.hid (by rw [num_in l 20 2 2 (by decide)]; exact x2)
  replace x3 : Hid (num (((l.take 20).drop 4).take 2) = id) := Lib.hid (by rw [num_in l 20 4 2 (by decide)]; exact x3)
  replace x4 : Hid (num (((l.take 20).drop 6).take 2) = pl) := Lib.hid (by rw [num_in l 20 6 2 (by decide)]; exact x4)
  have hB : (l.take 20).length = 20 := by rw [List.length_take]; omega
  have HR := Lib.hid (fun W (h : Rb W A 20 c (l.take 20)) => readK A 20 c (l.take 20) W h (by decide))
  generalize l.take 20 = B at *
  have hB1 : B.length ≤ 20 := by omega
  have hB2 : 20 ≤ B.length := by omega
  clear hB
  obtain ⟨m, hm⟩ : ∃ m : Nat, m = f % 16 := ⟨_, rfl⟩
  have e1 := u8_and15 f hf8
  rw [← hm] at e1
  obtain ⟨sz, hsz⟩ : ∃ s : Nat, s = 4 * m := ⟨_, rfl⟩
  have e2 : IntKind.i64.wrap (4 * (m : Int)) = (sz : Int) := by rw [IntWalk.i64_in _ (by omega)]; omega
  have e3 : IntKind.i64.wrap (m : Int) = (m : Int) := IntWalk.i64_in _ (by omega)
  have e4 : IntKind.i64.wrap (ln : Int) = (ln : Int) := IntWalk.i64_in _ (by omega)
  have hb1 : (f : Int) / 16 = 4 := by omega
  have hb1n : ((f : Int) / 16 != 4) = false := by rw [hb1]; rfl
  have qd2 : decide ((sz : Int) < 20) = false := by simp only [decide_eq_false_iff_not]; omega
  have qd3 : decide (sz < 20) = false := by simp only [decide_eq_false_iff_not]; omega
  have hp0 : pl / 32768 % 2 = 1 := by omega
  have hp : bits .and .u16 (pl : Int) 32768 = 32768 := by rw [and15 pl hpl, hp0]; rfl
  clear hp0
  clear hb1
  clear hm hsz
  have b2 : Bk (w.alloc (.cells #[.int .u8 0, .int .i64 0, .int .u16 0, .bool false, .bool false, .int .i64 0, .int .u8 0, .int .u8 0, .int .u16 0, .bool false, .int .u64 0, .int .u64 0, .bool false, .int .u64 0, .int .u64 0, .slice none 0 0] 140)) w.heap.size 140 (h4C 0 0 0 false false 0 0 0 0 false 0 0 false 0 0 none 0 0) := Bk.new w 140 #[.int .u8 0, .int .i64 0, .int .u16 0, .bool false, .bool false, .int .i64 0, .int .u8 0, .int .u8 0, .int .u16 0, .bool false, .int .u64 0, .int .u64 0, .bool false, .int .u64 0, .int .u64 0, .slice none 0 0]
  have be : Below w.heap.size w (w.alloc (.cells #[.int .u8 0, .int .i64 0, .int .u16 0, .bool false, .bool false, .int .i64 0, .int .u8 0, .int .u8 0, .int .u16 0, .bool false, .int .u64 0, .int .u64 0, .bool false, .int .u64 0, .int .u64 0, .slice none 0 0] 140)) := Below.allocS (Below.refl _ _) _
  go_enter Try.func128, Try.ntmps128
  go_wp2_with fail
  refine (HR.out _ (ht20.alloc _)).mono ?_
  rintro e w1 ⟨r, bs1, d1, rfl, rfl, hr1, hR⟩
  replace b2 := b2.later (below_plus _ bs1 d1)
  replace be := belowP be bs1 d1
  have hr2 : w.heap.size < r := by simp at hr1; omega
  generalize plus (w.alloc (.cells #[.int .u8 0, .int .i64 0, .int .u16 0, .bool false, .bool false, .int .i64 0, .int .u8 0, .int .u8 0, .int .u16 0, .bool false, .int .u64 0, .int .u64 0, .bool false, .int .u64 0, .int .u64 0, .slice none 0 0] 140)) bs1 d1 = W0 at *
  clear hr1
  go_wp2_with fail
  refine (byteG W0 r B 0 f hR (by omega) (by omega) x0.out).mono ?_
  clear x0
  rintro e W1 ⟨rfl, hR1, hg⟩
  replace b2 := b2.grown hg (by simp; omega)
  replace be := below_grown be hg (by omega)
  clear hR hg
  have hR := hR1
  clear hR1
  go_wp2_with fail
  refine (byteG W1 r B 1 ts hR (by omega) (by omega) x1.out).mono ?_
  clear x1
  rintro e W2 ⟨rfl, hR1, hg⟩
  replace b2 := b2.grown hg (by simp; omega)
  replace be := below_grown be hg (by omega)
  clear hR hg
  have hR := hR1
  clear hR1
  go_wp2_with fail
  refine (wordG W2 r B 2 ln hR (by omega) (by omega) x2.out).mono ?_
  clear x2
  rintro e W3 ⟨rfl, hR1, hg⟩
  replace b2 := b2.grown hg (by simp; omega)
  replace be := below_grown be hg (by omega)
  clear hR hg
  have hR := hR1
  clear hR1
  go_wp2_with fail
  refine (wordG W3 r B 4 id hR (by omega) (by omega) x3.out).mono ?_
  clear x3
  rintro e W4 ⟨rfl, hR1, hg⟩
  replace b2 := b2.grown hg (by simp; omega)
  replace be := below_grown be hg (by omega)
  clear hR hg
  have hR := hR1
  clear hR1
  have zr := hR.lt
  go_wp2_with fail
  have b8 : Bk (W4.alloc (.cells #[.int .u8 (ts : Int), .int .i64 (ln : Int), .int .u16 (id : Int), .bool false, .bool false, .int .i64 0, .int .u8 0, .int .u8 0, .int .u16 0, .bool false, .int .u64 0, .int .u64 0, .bool false, .int .u64 0, .int .u64 0, .slice none 0 0] 140)) W4.heap.size 140 [.int .u8 (ts : Int), .int .i64 (ln : Int), .int .u16 (id : Int), .bool false, .bool false, .int .i64 0, .int .u8 0, .int .u8 0, .int .u16 0, .bool false, .int .u64 0, .int .u64 0, .bool false, .int .u64 0, .int .u64 0, .slice none 0 0] := Bk.new W4 140 #[.int .u8 (ts : Int), .int .i64 (ln : Int), .int .u16 (id : Int), .bool false, .bool false, .int .i64 0, .int .u8 0, .int .u8 0, .int .u16 0, .bool false, .int .u64 0, .int .u64 0, .bool false, .int .u64 0, .int .u64 0, .slice none 0 0]
  replace b2 := b2.alloc (.cells #[.int .u8 (ts : Int), .int .i64 (ln : Int), .int .u16 (id : Int), .bool false, .bool false, .int .i64 0, .int .u8 0, .int .u8 0, .int .u16 0, .bool false, .int .u64 0, .int .u64 0, .bool false, .int .u64 0, .int .u64 0, .slice none 0 0] 140)
  replace be := Below.allocS be (.cells #[.int .u8 (ts : Int), .int .i64 (ln : Int), .int .u16 (id : Int), .bool false, .bool false, .int .i64 0, .int .u8 0, .int .u8 0, .int .u16 0, .bool false, .int .u64 0, .int .u64 0, .bool false, .int .u64 0, .int .u64 0, .slice none 0 0] 140)
  replace hR := hR.later ((Below.refl _ _).alloc (Nat.le_refl _) (.cells #[.int .u8 (ts : Int), .int .i64 (ln : Int), .int .u16 (id : Int), .bool false, .bool false, .int .i64 0, .int .u8 0, .int .u8 0, .int .u16 0, .bool false, .int .u64 0, .int .u64 0, .bool false, .int .u64 0, .int .u64 0, .slice none 0 0] 140))
  have zb := be.size
  generalize W4.alloc (.cells #[.int .u8 (ts : Int), .int .i64 (ln : Int), .int .u16 (id : Int), .bool false, .bool false, .int .i64 0, .int .u8 0, .int .u8 0, .int .u16 0, .bool false, .int .u64 0, .int .u64 0, .bool false, .int .u64 0, .int .u64 0, .slice none 0 0] 140) = V0 at *
  have zg : w.heap.size < W4.heap.size := by omega
  generalize W4.heap.size = g8 at *
  refine (wordG V0 r B 6 pl hR (by omega) (by omega) x4.out).mono ?_
  clear x4
  rintro e W5 ⟨rfl, hR1, hg⟩
  replace b2 := b2.grown hg (by simp; omega)
  replace b8 := b8.grown hg (by simp; omega)
  replace be := below_grown be hg (by omega)
  clear hR hg
  have hR := hR1
  clear hR1
  have y1 : W5.cell? ⟨g8, 1, none⟩ = some (.int .i64 (ln : Int)) := b8.cell 1
  have z8 := b8.lt
  clear zb
  go_wp2_with (refine at_op (.store 140 (.tmp 2) (.tmp 51)) rfl ?_; refine wpList_stA (t := 140) 140 (.tmp 2) (.tmp 51) rfl rfl (h4C 0 0 0 false false 0 0 0 0 false 0 0 false 0 0 none 0 0) (h4C 0 0 0 false false 0 0 0 0 false 0 0 false 0 0 none 0 0) rfl (h4C_one _ _ _ _ _ _ _ _ _ _ _ _ _ _ _ _ _ _) rfl rfl b2 (szH4 _ _ _ _ _ _ _ _ _ _ _ _ _ _ _ _ _ _) ?_; intro W9 h9 g9)
  refine bodyPost_agg3 Try.results128 rfl rfl rfl h9.range u1 u2 (szH4 _ _ _ _ _ _ _ _ _ _ _ _ _ _ _ _ _ _) rfl (RetV.mk ?_)
  exact below_grown be g9 (by omega)
set_option maxHeartbeats 4000000 in
set_option maxRecDepth 100000 in
theorem hdr4_f4 (A : Option Addr) (n c : Nat) (l : List UInt8) (w : World) (h : Rb w A n c l) (hm9 : n ≤ 1000000) (f ts ln id pl : Nat) (x0 : num ((l.drop 0).take 1) = f) (x1 : num ((l.drop 1).take 1) = ts) (x2 : num ((l.drop 2).take 2) = ln) (x3 : num ((l.drop 4).take 2) = id) (x4 : num ((l.drop 6).take 2) = pl) (hn : 20 ≤ n) (hb : f / 16 = 4) (hs : 20 ≤ 4 * (f % 16)) (hp9 : pl < 32768) (hl9 : ln < 4 * (f % 16)) : Calls Try.prog 128 #[.slice A n c] w (RetV w (.tuple #[.agg (h4C 0 0 0 false false 0 0 0 0 false 0 0 false 0 0 none 0 0).toArray, .int .i64 0, .int .i64 21])) := by
  obtain ⟨du, u1, u2⟩ := rowH4
  have hc := h.2.1
  have hl := h.1
  have h20n : (20 : Int) ≤ (n : Int) := by omega
  have h20c : (20 : Int) ≤ (c : Int) := by omega
  have d20 : decide ((n : Int) < 20) = false := by simp only [decide_eq_false_iff_not]; omega
  have ht20 : Rb w A 20 c (l.take 20) := h.take (by omega)
  have hf8 : f < 256 := by rw [← x0]; exact num_lt' l 0 1 256 (by decide)
  have hpl : pl < 65536 := by rw [← x4]; exact num_lt' l 6 2 65536 (by decide)
  have hln : ln < 65536 := by rw [← x2]; exact num_lt' l 2 2 65536 (by decide)
  replace x0 : Hid (num (((l.take 20).drop 0).take 1) = f) := Lib.hid (by rw [num_in l 20 0 1 (by decide)]; exact x0)
  replace x1 : Hid (num (((l.take 20).drop 1).take 1) = ts) := Lib.hid (by rw [num_in l 20 1 1 (by decide)]; exact x1)
  replace x2 : Hid (num (((l.take 20).drop 2).take 2) = ln) := Lib.hid (by rw [num_in l 20 2 2 (by decide)]; exact x2)
  replace x3 : Hid (num (((l.take 20).drop 4).take 2) = id) := Lib.hid (by rw [num_in l 20 4 2 (by decide)]; exact x3)
  replace x4 : Hid (num (((l.take 20).drop 6).take 2) = pl) := Lib.hid (by rw [num_in l 20 6 2 (by decide)]; exact x4)
  have hB : (l.take 20).length = 20 := by rw [List.length_take]; omega
  have HR := Lib.hid (fun W (h : Rb W A 20 c (l.take 20)) => readK A 20 c (l.take 20) W h (by decide))
  generalize l.take 20 = B at *
  have hB1 : B.length ≤ 20 := by omega
  have hB2 : 20 ≤ B.length := by omega
  clear hB
  obtain ⟨m, hm⟩ : ∃ m : Nat, m = f % 16 := ⟨_, rfl⟩
  have e1 := u8_and15 f hf8
  rw [← hm] at e1
  obtain ⟨sz, hsz⟩ : ∃ s : Nat, s = 4 * m := ⟨_, rfl⟩
  have e2 : IntKind.i64.wrap (4 * (m : Int)) = (sz : Int) := by rw [IntWalk.i64_in _ (by omega)]; omega
  have e3 : IntKind.i64.wrap (m : Int) = (m : Int) := IntWalk.i64_in _ (by omega)
  have e4 : IntKind.i64.wrap (ln : Int) = (ln : Int) := IntWalk.i64_in _ (by omega)
  have hb1 : (f : Int) / 16 = 4 := by omega
  have hb1n : ((f : Int) / 16 != 4) = false := by rw [hb1]; rfl
  have qd4 : decide ((sz : Int) < 20) = false := by simp only [decide_eq_false_iff_not]; omega
  have qd5 : decide (sz < 20) = false := by simp only [decide_eq_false_iff_not]; omega
  have hp0 : pl / 32768 % 2 = 0 := by omega
  have hp : bits .and .u16 (pl : Int) 32768 = 0 := by rw [and15 pl hpl, hp0]; rfl
  clear hp0
  have qd6 : decide ((ln : Int) < (sz : Int)) = true := by simp only [decide_eq_true_eq]; omega
  have qd7 : decide (ln < sz) = true := by simp only [decide_eq_true_eq]; omega
  clear hb1
  clear hm hsz
  have b2 : Bk (w.alloc (.cells #[.int .u8 0, .int .i64 0, .int .u16 0, .bool false, .bool false, .int .i64 0, .int .u8 0, .int .u8 0, .int .u16 0, .bool false, .int .u64 0, .int .u64 0, .bool false, .int .u64 0, .int .u64 0, .slice none 0 0] 140)) w.heap.size 140 (h4C 0 0 0 false false 0 0 0 0 false 0 0 false 0 0 none 0 0) := Bk.new w 140 #[.int .u8 0, .int .i64 0, .int .u16 0, .bool false, .bool false, .int .i64 0, .int .u8 0, .int .u8 0, .int .u16 0, .bool false, .int .u64 0, .int .u64 0, .bool false, .int .u64 0, .int .u64 0, .slice none 0 0]
  have be : Below w.heap.size w (w.alloc (.cells #[.int .u8 0, .int .i64 0, .int .u16 0, .bool false, .bool false, .int .i64 0, .int .u8 0, .int .u8 0, .int .u16 0, .bool false, .int .u64 0, .int .u64 0, .bool false, .int .u64 0, .int .u64 0, .slice none 0 0] 140)) := Below.allocS (Below.refl _ _) _
  go_enter Try.func128, Try.ntmps128
  go_wp2_with fail
  refine (HR.out _ (ht20.alloc _)).mono ?_
  rintro e w1 ⟨r, bs1, d1, rfl, rfl, hr1, hR⟩
  replace b2 := b2.later (below_plus _ bs1 d1)
  replace be := belowP be bs1 d1
  have hr2 : w.heap.size < r := by simp at hr1; omega
  generalize plus (w.alloc (.cells #[.int .u8 0, .int .i64 0, .int .u16 0, .bool false, .bool false, .int .i64 0, .int .u8 0, .int .u8 0, .int .u16 0, .bool false, .int .u64 0, .int .u64 0, .bool false, .int .u64 0, .int .u64 0, .slice none 0 0] 140)) bs1 d1 = W0 at *
  clear hr1
  go_wp2_with fail
  refine (byteG W0 r B 0 f hR (by omega) (by omega) x0.out).mono ?_
  clear x0
  rintro e W1 ⟨rfl, hR1, hg⟩
  replace b2 := b2.grown hg (by simp; omega)
  replace be := below_grown be hg (by omega)
  clear hR hg
  have hR := hR1
  clear hR1
  go_wp2_with fail
  refine (byteG W1 r B 1 ts hR (by omega) (by omega) x1.out).mono ?_
  clear x1
  rintro e W2 ⟨rfl, hR1, hg⟩
  replace b2 := b2.grown hg (by simp; omega)
  replace be := below_grown be hg (by omega)
  clear hR hg
  have hR := hR1
  clear hR1
  go_wp2_with fail
  refine (wordG W2 r B 2 ln hR (by omega) (by omega) x2.out).mono ?_
  clear x2
  rintro e W3 ⟨rfl, hR1, hg⟩
  replace b2 := b2.grown hg (by simp; omega)
  replace be := below_grown be hg (by omega)
  clear hR hg
  have hR := hR1
  clear hR1
  go_wp2_with fail
  refine (wordG W3 r B 4 id hR (by omega) (by omega) x3.out).mono ?_
  clear x3
  rintro e W4 ⟨rfl, hR1, hg⟩
  replace b2 := b2.grown hg (by simp; omega)
  replace be := below_grown be hg (by omega)
  clear hR hg
  have hR := hR1
  clear hR1
  have zr := hR.lt
  go_wp2_with fail
  have b8 : Bk (W4.alloc (.cells #[.int .u8 (ts : Int), .int .i64 (ln : Int), .int .u16 (id : Int), .bool false, .bool false, .int .i64 0, .int .u8 0, .int .u8 0, .int .u16 0, .bool false, .int .u64 0, .int .u64 0, .bool false, .int .u64 0, .int .u64 0, .slice none 0 0] 140)) W4.heap.size 140 [.int .u8 (ts : Int), .int .i64 (ln : Int), .int .u16 (id : Int), .bool false, .bool false, .int .i64 0, .int .u8 0, .int .u8 0, .int .u16 0, .bool false, .int .u64 0, .int .u64 0, .bool false, .int .u64 0, .int .u64 0, .slice none 0 0] := Bk.new W4 140 #[.int .u8 (ts : Int), .int .i64 (ln : Int), .int .u16 (id : Int), .bool false, .bool false, .int .i64 0, .int .u8 0, .int .u8 0, .int .u16 0, .bool false, .int .u64 0, .int .u64 0, .bool false, .int .u64 0, .int .u64 0, .slice none 0 0]
  replace b2 := b2.alloc (.cells #[.int .u8 (ts : Int), .int .i64 (ln : Int), .int .u16 (id : Int), .bool false, .bool false, .int .i64 0, .int .u8 0, .int .u8 0, .int .u16 0, .bool false, .int .u64 0, .int .u64 0, .bool false, .int .u64 0, .int .u64 0, .slice none 0 0] 140)
  replace be := Below.allocS be (.cells #[.int .u8 (ts : Int), .int .i64 (ln : Int), .int .u16 (id : Int), .bool false, .bool false, .int .i64 0, .int .u8 0, .int .u8 0, .int .u16 0, .bool false, .int .u64 0, .int .u64 0, .bool false, .int .u64 0, .int .u64 0, .slice none 0 0] 140)
  replace hR := hR.later ((Below.refl _ _).alloc (Nat.le_refl _) (.cells #[.int .u8 (ts : Int), .int .i64 (ln : Int), .int .u16 (id : Int), .bool false, .bool false, .int .i64 0, .int .u8 0, .int .u8 0, .int .u16 0, .bool false, .int .u64 0, .int .u64 0, .bool false, .int .u64 0, .int .u64 0, .slice none 0 0] 140))
  have zb := be.size
  generalize W4.alloc (.cells #[.int .u8 (ts : Int), .int .i64 (ln : Int), .int .u16 (id : Int), .bool false, .bool false, .int .i64 0, .int .u8 0, .int .u8 0, .int .u16 0, .bool false, .int .u64 0, .int .u64 0, .bool false, .int .u64 0, .int .u64 0, .slice none 0 0] 140) = V0 at *
  have zg : w.heap.size < W4.heap.size := by omega
  generalize W4.heap.size = g8 at *
  refine (wordG V0 r B 6 pl hR (by omega) (by omega) x4.out).mono ?_
  clear x4
  rintro e W5 ⟨rfl, hR1, hg⟩
  replace b2 := b2.grown hg (by simp; omega)
  replace b8 := b8.grown hg (by simp; omega)
  replace be := below_grown be hg (by omega)
  clear hR hg
  have hR := hR1
  clear hR1
  have y1 : W5.cell? ⟨g8, 1, none⟩ = some (.int .i64 (ln : Int)) := b8.cell 1
  have z8 := b8.lt
  clear zb
  go_wp2_with (refine at_op (.store 140 (.tmp 2) (.tmp 51)) rfl ?_; refine wpList_stA (t := 140) 140 (.tmp 2) (.tmp 51) rfl rfl (h4C 0 0 0 false false 0 0 0 0 false 0 0 false 0 0 none 0 0) (h4C 0 0 0 false false 0 0 0 0 false 0 0 false 0 0 none 0 0) rfl (h4C_one _ _ _ _ _ _ _ _ _ _ _ _ _ _ _ _ _ _) rfl rfl b2 (szH4 _ _ _ _ _ _ _ _ _ _ _ _ _ _ _ _ _ _) ?_; intro W9 h9 g9)
  refine bodyPost_agg3 Try.results128 rfl rfl rfl h9.range u1 u2 (szH4 _ _ _ _ _ _ _ _ _ _ _ _ _ _ _ _ _ _) rfl (RetV.mk ?_)
  exact below_grown be g9 (by omega)
end Go.Proofs.Ytfmkndemkpecpaa

/- ip4.header of well-formed bytes. -/
namespace Go.Proofs.Ytfmkndemkpecpaa
open Go.RowKit
set_option linter.unusedVariables false
set_option linter.unusedSimpArgs false
attribute [local go_sem ↓] sliced_cut

attribute [local go_sem] cutA_zero

set_option maxHeartbeats 4000000 in
set_option maxRecDepth 100000 in
theorem hdr4_l1 (A : Option Addr) (n c : Nat) (l : List UInt8) (w : World) (h : Rb w A n c l) (hm9 : n ≤ 1000000) (f ts ln id pl : Nat) (x0 : num ((l.drop 0).take 1) = f) (x1 : num ((l.drop 1).take 1) = ts) (x2 : num ((l.drop 2).take 2) = ln) (x3 : num ((l.drop 4).take 2) = id) (x4 : num ((l.drop 6).take 2) = pl) (hn : 20 ≤ n) (hb : f / 16 = 4) (hs : 20 ≤ 4 * (f % 16)) (hp9 : pl < 32768) (hl9 : 4 * (f % 16) ≤ ln) (hq : n < 4 * (f % 16)) : Calls Try.prog 128 #[.slice A n c] w (RetV w (.tuple #[.agg (h4C 0 0 0 false false 0 0 0 0 false 0 0 false 0 0 none 0 0).toArray, .int .i64 0, .int .i64 20])) := by
  obtain ⟨du, u1, u2⟩ := rowH4
  have hc := h.2.1
  have hl := h.1
  have h20n : (20 : Int) ≤ (n : Int) := by omega
  have h20c : (20 : Int) ≤ (c : Int) := by omega
  have d20 : decide ((n : Int) < 20) = false := by simp only [decide_eq_false_iff_not]; omega
  have ht20 : Rb w A 20 c (l.take 20) := h.take (by omega)
  have hf8 : f < 256 := by rw [← x0]; exact num_lt' l 0 1 256 (by decide)
  have hpl : pl < 65536 := by rw [← x4]; exact num_lt' l 6 2 65536 (by decide)
  have hln : ln < 65536 := by rw [← x2]; exact num_lt' l 2 2 65536 (by decide)
  replace x0 : Hid (num (((l.take 20).drop 0).take 1) = f) := Lib.hid (by rw [num_in l 20 0 1 (by decide)]; exact x0)
  replace x1 : Hid (num (((l.take 20).drop 1).take 1) = ts) := Lib.hid (by rw [num_in l 20 1 1 (by decide)]; exact x1)
  replace x2 : Hid (num (((l.take 20).drop 2).take 2) = ln) := Lib.hid (by rw [num_in l 20 2 2 (by decide)]; exact x2)
  replace x3 : Hid (num (((l.take 20).drop 4).take 2) = id) := Lib.hid (by rw [num_in l 20 4 2 (by decide)]; exact x3)
  replace x4 : Hid (num (((l.take 20).drop 6).take 2) = pl) := Lib.hid (by rw [num_in l 20 6 2 (by decide)]; exact x4)
  have hB : (l.take 20).length = 20 := by rw [List.length_take]; omega
  have HR := Lib.hid (fun W (h : Rb W A 20 c (l.take 20)) => readK A 20 c (l.take 20) W h (by decide))
  generalize l.take 20 = B at *
  have hB1 : B.length ≤ 20 := by omega
  have hB2 : 20 ≤ B.length := by omega
  clear hB
  obtain ⟨m, hm⟩ : ∃ m : Nat, m = f % 16 := ⟨_, rfl⟩
  have e1 := u8_and15 f hf8
  rw [← hm] at e1
  obtain ⟨sz, hsz⟩ : ∃ s : Nat, s = 4 * m := ⟨_, rfl⟩
  have e2 : IntKind.i64.wrap (4 * (m : Int)) = (sz : Int) := by rw [IntWalk.i64_in _ (by omega)]; omega
  have e3 : IntKind.i64.wrap (m : Int) = (m : Int) := IntWalk.i64_in _ (by omega)
  have e4 : IntKind.i64.wrap (ln : Int) = (ln : Int) := IntWalk.i64_in _ (by omega)
  have hb1 : (f : Int) / 16 = 4 := by omega
  have hb1n : ((f : Int) / 16 != 4) = false := by rw [hb1]; rfl
  have qd8 : decide ((sz : Int) < 20) = false := by simp only [decide_eq_false_iff_not]; omega
  have qd9 : decide (sz < 20) = false := by simp only [decide_eq_false_iff_not]; omega
  have hp0 : pl / 32768 % 2 = 0 := by omega
  have hp : bits .and .u16 (pl : Int) 32768 = 0 := by rw [and15 pl hpl, hp0]; rfl
  clear hp0
  have qd10 : decide ((ln : Int) < (sz : Int)) = false := by simp only [decide_eq_false_iff_not]; omega
  have qd11 : decide (ln < sz) = false := by simp only [decide_eq_false_iff_not]; omega
  have qd12 : decide ((n : Int) < (sz : Int)) = true := by simp only [decide_eq_true_eq]; omega
  have qd13 : decide (n < sz) = true := by simp only [decide_eq_true_eq]; omega
  clear hm hsz hb1
  have b2 : Bk (w.alloc (.cells #[.int .u8 0, .int .i64 0, .int .u16 0, .bool false, .bool false, .int .i64 0, .int .u8 0, .int .u8 0, .int .u16 0, .bool false, .int .u64 0, .int .u64 0, .bool false, .int .u64 0, .int .u64 0, .slice none 0 0] 140)) w.heap.size 140 (h4C 0 0 0 false false 0 0 0 0 false 0 0 false 0 0 none 0 0) := Bk.new w 140 #[.int .u8 0, .int .i64 0, .int .u16 0, .bool false, .bool false, .int .i64 0, .int .u8 0, .int .u8 0, .int .u16 0, .bool false, .int .u64 0, .int .u64 0, .bool false, .int .u64 0, .int .u64 0, .slice none 0 0]
  have be : Below w.heap.size w (w.alloc (.cells #[.int .u8 0, .int .i64 0, .int .u16 0, .bool false, .bool false, .int .i64 0, .int .u8 0, .int .u8 0, .int .u16 0, .bool false, .int .u64 0, .int .u64 0, .bool false, .int .u64 0, .int .u64 0, .slice none 0 0] 140)) := Below.allocS (Below.refl _ _) _
  go_enter Try.func128, Try.ntmps128
  go_wp2_with fail
  refine (HR.out _ (ht20.alloc _)).mono ?_
  rintro e w1 ⟨r, bs1, d1, rfl, rfl, hr1, hR⟩
  replace b2 := b2.later (below_plus _ bs1 d1)
  replace be := belowP be bs1 d1
  have hr2 : w.heap.size < r := by simp at hr1; omega
  generalize plus (w.alloc (.cells #[.int .u8 0, .int .i64 0, .int .u16 0, .bool false, .bool false, .int .i64 0, .int .u8 0, .int .u8 0, .int .u16 0, .bool false, .int .u64 0, .int .u64 0, .bool false, .int .u64 0, .int .u64 0, .slice none 0 0] 140)) bs1 d1 = W0 at *
  clear hr1
  go_wp2_with fail
  refine (byteG W0 r B 0 f hR (by omega) (by omega) x0.out).mono ?_
  clear x0
  rintro e W1 ⟨rfl, hR1, hg⟩
  replace b2 := b2.grown hg (by simp; omega)
  replace be := below_grown be hg (by omega)
  clear hR hg
  have hR := hR1
  clear hR1
  go_wp2_with fail
  refine (byteG W1 r B 1 ts hR (by omega) (by omega) x1.out).mono ?_
  clear x1
  rintro e W2 ⟨rfl, hR1, hg⟩
  replace b2 := b2.grown hg (by simp; omega)
  replace be := below_grown be hg (by omega)
  clear hR hg
  have hR := hR1
  clear hR1
  go_wp2_with fail
  refine (wordG W2 r B 2 ln hR (by omega) (by omega) x2.out).mono ?_
  clear x2
  rintro e W3 ⟨rfl, hR1, hg⟩
  replace b2 := b2.grown hg (by simp; omega)
  replace be := below_grown be hg (by omega)
  clear hR hg
  have hR := hR1
  clear hR1
  go_wp2_with fail
  refine (wordG W3 r B 4 id hR (by omega) (by omega) x3.out).mono ?_
  clear x3
  rintro e W4 ⟨rfl, hR1, hg⟩
  replace b2 := b2.grown hg (by simp; omega)
  replace be := below_grown be hg (by omega)
  clear hR hg
  have hR := hR1
  clear hR1
  have zr := hR.lt
  go_wp2_with fail
  have b8 : Bk (W4.alloc (.cells #[.int .u8 (ts : Int), .int .i64 (ln : Int), .int .u16 (id : Int), .bool false, .bool false, .int .i64 0, .int .u8 0, .int .u8 0, .int .u16 0, .bool false, .int .u64 0, .int .u64 0, .bool false, .int .u64 0, .int .u64 0, .slice none 0 0] 140)) W4.heap.size 140 [.int .u8 (ts : Int), .int .i64 (ln : Int), .int .u16 (id : Int), .bool false, .bool false, .int .i64 0, .int .u8 0, .int .u8 0, .int .u16 0, .bool false, .int .u64 0, .int .u64 0, .bool false, .int .u64 0, .int .u64 0, .slice none 0 0] := Bk.new W4 140 #[.int .u8 (ts : Int), .int .i64 (ln : Int), .int .u16 (id : Int), .bool false, .bool false, .int .i64 0, .int .u8 0, .int .u8 0, .int .u16 0, .bool false, .int .u64 0, .int .u64 0, .bool false, .int .u64 0, .int .u64 0, .slice none 0 0]
  replace b2 := b2.alloc (.cells #[.int .u8 (ts : Int), .int .i64 (ln : Int), .int .u16 (id : Int), .bool false, .bool false, .int .i64 0, .int .u8 0, .int .u8 0, .int .u16 0, .bool false, .int .u64 0, .int .u64 0, .bool false, .int .u64 0, .int .u64 0, .slice none 0 0] 140)
  replace be := Below.allocS be (.cells #[.int .u8 (ts : Int), .int .i64 (ln : Int), .int .u16 (id : Int), .bool false, .bool false, .int .i64 0, .int .u8 0, .int .u8 0, .int .u16 0, .bool false, .int .u64 0, .int .u64 0, .bool false, .int .u64 0, .int .u64 0, .slice none 0 0] 140)
  replace hR := hR.later ((Below.refl _ _).alloc (Nat.le_refl _) (.cells #[.int .u8 (ts : Int), .int .i64 (ln : Int), .int .u16 (id : Int), .bool false, .bool false, .int .i64 0, .int .u8 0, .int .u8 0, .int .u16 0, .bool false, .int .u64 0, .int .u64 0, .bool false, .int .u64 0, .int .u64 0, .slice none 0 0] 140))
  have zb := be.size
  generalize W4.alloc (.cells #[.int .u8 (ts : Int), .int .i64 (ln : Int), .int .u16 (id : Int), .bool false, .bool false, .int .i64 0, .int .u8 0, .int .u8 0, .int .u16 0, .bool false, .int .u64 0, .int .u64 0, .bool false, .int .u64 0, .int .u64 0, .slice none 0 0] 140) = V0 at *
  have zg : w.heap.size < W4.heap.size := by omega
  generalize W4.heap.size = g8 at *
  refine (wordG V0 r B 6 pl hR (by omega) (by omega) x4.out).mono ?_
  clear x4
  rintro e W5 ⟨rfl, hR1, hg⟩
  replace b2 := b2.grown hg (by simp; omega)
  replace b8 := b8.grown hg (by simp; omega)
  replace be := below_grown be hg (by omega)
  clear hR hg
  have hR := hR1
  clear hR1
  have y1 : W5.cell? ⟨g8, 1, none⟩ = some (.int .i64 (ln : Int)) := b8.cell 1
  have z8 := b8.lt
  clear zb
  go_wp2_with (refine at_op (.store 140 (.tmp 2) (.tmp 63)) rfl ?_; refine wpList_stA (t := 140) 140 (.tmp 2) (.tmp 63) rfl rfl (h4C 0 0 0 false false 0 0 0 0 false 0 0 false 0 0 none 0 0) (h4C 0 0 0 false false 0 0 0 0 false 0 0 false 0 0 none 0 0) rfl (h4C_one _ _ _ _ _ _ _ _ _ _ _ _ _ _ _ _ _ _) rfl rfl b2 (szH4 _ _ _ _ _ _ _ _ _ _ _ _ _ _ _ _ _ _) ?_; intro W9 h9 g9)
  refine bodyPost_agg3 Try.results128 rfl rfl rfl h9.range u1 u2 (szH4 _ _ _ _ _ _ _ _ _ _ _ _ _ _ _ _ _ _) rfl (RetV.mk ?_)
  exact below_grown be g9 (by omega)
set_option maxHeartbeats 4000000 in
set_option maxRecDepth 100000 in
theorem hdr4_l2 (A : Option Addr) (n c : Nat) (l : List UInt8) (w : World) (h : Rb w A n c l) (hm9 : n ≤ 1000000) (f ts ln id pl : Nat) (x0 : num ((l.drop 0).take 1) = f) (x1 : num ((l.drop 1).take 1) = ts) (x2 : num ((l.drop 2).take 2) = ln) (x3 : num ((l.drop 4).take 2) = id) (x4 : num ((l.drop 6).take 2) = pl) (hn : 20 ≤ n) (hb : f / 16 = 4) (hs : 20 ≤ 4 * (f % 16)) (hp9 : pl < 32768) (hl9 : 4 * (f % 16) ≤ ln) (hq0 : 4 * (f % 16) ≤ n) (hq : n < ln) : Calls Try.prog 128 #[.slice A n c] w (RetV w (.tuple #[.agg (h4C 0 0 0 false false 0 0 0 0 false 0 0 false 0 0 none 0 0).toArray, .int .i64 0, .int .i64 20])) := by
  obtain ⟨du, u1, u2⟩ := rowH4
  have hc := h.2.1
  have hl := h.1
  have h20n : (20 : Int) ≤ (n : Int) := by omega
  have h20c : (20 : Int) ≤ (c : Int) := by omega
  have d20 : decide ((n : Int) < 20) = false := by simp only [decide_eq_false_iff_not]; omega
  have ht20 : Rb w A 20 c (l.take 20) := h.take (by omega)
  have hf8 : f < 256 := by rw [← x0]; exact num_lt' l 0 1 256 (by decide)
  have hpl : pl < 65536 := by rw [← x4]; exact num_lt' l 6 2 65536 (by decide)
  have hln : ln < 65536 := by rw [← x2]; exact num_lt' l 2 2 65536 (by decide)
  replace x0 : Hid (num (((l.take 20).drop 0).take 1) = f) := Lib.hid (by rw [num_in l 20 0 1 (by decide)]; exact x0)
  replace x1 : Hid (num (((l.take 20).drop 1).take 1) = ts) := Lib.hid (by rw [num_in l 20 1 1 (by decide)]; exact x1)
  replace x2 : Hid (num (((l.take 20).drop 2).take 2) = ln) := Lib.hid (by rw [num_in l 20 2 2 (by decide)]; exact x2)
  replace x3 : Hid (num (((l.take 20).drop 4).take 2) = id) := Lib.hid (by rw [num_in l 20 4 2 (by decide)]; exact x3)
  replace x4 : Hid (num (((l.take 20).drop 6).take 2) = pl) := Lib.hid (by rw [num_in l 20 6 2 (by decide)]; exact x4)
  have hB : (l.take 20).length = 20 := by rw [List.length_take]; omega
  have HR := Lib.hid (fun W (h : Rb W A 20 c (l.take 20)) => readK A 20 c (l.take 20) W h (by decide))
  generalize l.take 20 = B at *
  have hB1 : B.length ≤ 20 := by omega
  have hB2 : 20 ≤ B.length := by omega
  clear hB
  obtain ⟨m, hm⟩ : ∃ m : Nat, m = f % 16 := ⟨_, rfl⟩
  have e1 := u8_and15 f hf8
  rw [← hm] at e1
  obtain ⟨sz, hsz⟩ : ∃ s : Nat, s = 4 * m := ⟨_, rfl⟩
  have e2 : IntKind.i64.wrap (4 * (m : Int)) = (sz : Int) := by rw [IntWalk.i64_in _ (by omega)]; omega
  have e3 : IntKind.i64.wrap (m : Int) = (m : Int) := IntWalk.i64_in _ (by omega)
  have e4 : IntKind.i64.wrap (ln : Int) = (ln : Int) := IntWalk.i64_in _ (by omega)
  have hb1 : (f : Int) / 16 = 4 := by omega
  have hb1n : ((f : Int) / 16 != 4) = false := by rw [hb1]; rfl
  have qd8 : decide ((sz : Int) < 20) = false := by simp only [decide_eq_false_iff_not]; omega
  have qd9 : decide (sz < 20) = false := by simp only [decide_eq_false_iff_not]; omega
  have hp0 : pl / 32768 % 2 = 0 := by omega
  have hp : bits .and .u16 (pl : Int) 32768 = 0 := by rw [and15 pl hpl, hp0]; rfl
  clear hp0
  have qd10 : decide ((ln : Int) < (sz : Int)) = false := by simp only [decide_eq_false_iff_not]; omega
  have qd11 : decide (ln < sz) = false := by simp only [decide_eq_false_iff_not]; omega
  have qd14 : decide ((n : Int) < (sz : Int)) = false := by simp only [decide_eq_false_iff_not]; omega
  have qd15 : decide (n < sz) = false := by simp only [decide_eq_false_iff_not]; omega
  have qd16 : decide ((n : Int) < (ln : Int)) = true := by simp only [decide_eq_true_eq]; omega
  have qd17 : decide (n < ln) = true := by simp only [decide_eq_true_eq]; omega
  clear hm hsz hb1
  have b2 : Bk (w.alloc (.cells #[.int .u8 0, .int .i64 0, .int .u16 0, .bool false, .bool false, .int .i64 0, .int .u8 0, .int .u8 0, .int .u16 0, .bool false, .int .u64 0, .int .u64 0, .bool false, .int .u64 0, .int .u64 0, .slice none 0 0] 140)) w.heap.size 140 (h4C 0 0 0 false false 0 0 0 0 false 0 0 false 0 0 none 0 0) := Bk.new w 140 #[.int .u8 0, .int .i64 0, .int .u16 0, .bool false, .bool false, .int .i64 0, .int .u8 0, .int .u8 0, .int .u16 0, .bool false, .int .u64 0, .int .u64 0, .bool false, .int .u64 0, .int .u64 0, .slice none 0 0]
  have be : Below w.heap.size w (w.alloc (.cells #[.int .u8 0, .int .i64 0, .int .u16 0, .bool false, .bool false, .int .i64 0, .int .u8 0, .int .u8 0, .int .u16 0, .bool false, .int .u64 0, .int .u64 0, .bool false, .int .u64 0, .int .u64 0, .slice none 0 0] 140)) := Below.allocS (Below.refl _ _) _
  go_enter Try.func128, Try.ntmps128
  go_wp2_with fail
  refine (HR.out _ (ht20.alloc _)).mono ?_
  rintro e w1 ⟨r, bs1, d1, rfl, rfl, hr1, hR⟩
  replace b2 := b2.later (below_plus _ bs1 d1)
  replace be := belowP be bs1 d1
  have hr2 : w.heap.size < r := by simp at hr1; omega
  generalize plus (w.alloc (.cells #[.int .u8 0, .int .i64 0, .int .u16 0, .bool false, .bool false, .int .i64 0, .int .u8 0, .int .u8 0, .int .u16 0, .bool false, .int .u64 0, .int .u64 0, .bool false, .int .u64 0, .int .u64 0, .slice none 0 0] 140)) bs1 d1 = W0 at *
  clear hr1
  go_wp2_with fail
  refine (byteG W0 r B 0 f hR (by omega) (by omega) x0.out).mono ?_
  clear x0
  rintro e W1 ⟨rfl, hR1, hg⟩
  replace b2 := b2.grown hg (by simp; omega)
  replace be := below_grown be hg (by omega)
  clear hR hg
  have hR := hR1
  clear hR1
  go_wp2_with fail
  refine (byteG W1 r B 1 ts hR (by omega) (by omega) x1.out).mono ?_
  clear x1
  rintro e W2 ⟨rfl, hR1, hg⟩
  replace b2 := b2.grown hg (by simp; omega)
  replace be := below_grown be hg (by omega)
  clear hR hg
  have hR := hR1
  clear hR1
  go_wp2_with fail
  refine (wordG W2 r B 2 ln hR (by omega) (by omega) x2.out).mono ?_
  clear x2
  rintro e W3 ⟨rfl, hR1, hg⟩
  replace b2 := b2.grown hg (by simp; omega)
  replace be := below_grown be hg (by omega)
  clear hR hg
  have hR := hR1
  clear hR1
  go_wp2_with fail
  refine (wordG W3 r B 4 id hR (by omega) (by omega) x3.out).mono ?_
  clear x3
  rintro e W4 ⟨rfl, hR1, hg⟩
  replace b2 := b2.grown hg (by simp; omega)
  replace be := below_grown be hg (by omega)
  clear hR hg
  have hR := hR1
  clear hR1
  have zr := hR.lt
  go_wp2_with fail
  have b8 : Bk (W4.alloc (.cells #[.int .u8 (ts : Int), .int .i64 (ln : Int), .int .u16 (id : Int), .bool false, .bool false, .int .i64 0, .int .u8 0, .int .u8 0, .int .u16 0, .bool false, .int .u64 0, .int .u64 0, .bool false, .int .u64 0, .int .u64 0, .slice none 0 0] 140)) W4.heap.size 140 [.int .u8 (ts : Int), .int .i64 (ln : Int), .int .u16 (id : Int), .bool false, .bool false, .int .i64 0, .int .u8 0, .int .u8 0, .int .u16 0, .bool false, .int .u64 0, .int .u64 0, .bool false, .int .u64 0, .int .u64 0, .slice none 0 0] := Bk.new W4 140 #[.int .u8 (ts : Int), .int .i64 (ln : Int), .int .u16 (id : Int), .bool false, .bool false, .int .i64 0, .int .u8 0, .int .u8 0, .int .u16 0, .bool false, .int .u64 0, .int .u64 0, .bool false, .int .u64 0, .int .u64 0, .slice none 0 0]
  replace b2 := b2.alloc (.cells #[.int .u8 (ts : Int), .int .i64 (ln : Int), .int .u16 (id : Int), .bool false, .bool false, .int .i64 0, .int .u8 0, .int .u8 0, .int .u16 0, .bool false, .int .u64 0, .int .u64 0, .bool false, .int .u64 0, .int .u64 0, .slice none 0 0] 140)
  replace be := Below.allocS be (.cells #[.int .u8 (ts : Int), .int .i64 (ln : Int), .int .u16 (id : Int), .bool false, .bool false, .int .i64 0, .int .u8 0, .int .u8 0, .int .u16 0, .bool false, .int .u64 0, .int .u64 0, .bool false, .int .u64 0, .int .u64 0, .slice none 0 0] 140)
  replace hR := hR.later ((Below.refl _ _).alloc (Nat.le_refl _) (.cells #[.int .u8 (ts : Int), .int .i64 (ln : Int), .int .u16 (id : Int), .bool false, .bool false, .int .i64 0, .int .u8 0, .int .u8 0, .int .u16 0, .bool false, .int .u64 0, .int .u64 0, .bool false, .int .u64 0, .int .u64 0, .slice none 0 0] 140))
  have zb := be.size
  generalize W4.alloc (.cells #[.int .u8 (ts : Int), .int .i64 (ln : Int), .int .u16 (id : Int), .bool false, .bool false, .int .i64 0, .int .u8 0, .int .u8 0, .int .u16 0, .bool false, .int .u64 0, .int .u64 0, .bool false, .int .u64 0, .int .u64 0, .slice none 0 0] 140) = V0 at *
  have zg : w.heap.size < W4.heap.size := by omega
  generalize W4.heap.size = g8 at *
  refine (wordG V0 r B 6 pl hR (by omega) (by omega) x4.out).mono ?_
  clear x4
  rintro e W5 ⟨rfl, hR1, hg⟩
  replace b2 := b2.grown hg (by simp; omega)
  replace b8 := b8.grown hg (by simp; omega)
  replace be := below_grown be hg (by omega)
  clear hR hg
  have hR := hR1
  clear hR1
  have y1 : W5.cell? ⟨g8, 1, none⟩ = some (.int .i64 (ln : Int)) := b8.cell 1
  have z8 := b8.lt
  clear zb
  go_wp2_with (refine at_op (.store 140 (.tmp 2) (.tmp 63)) rfl ?_; refine wpList_stA (t := 140) 140 (.tmp 2) (.tmp 63) rfl rfl (h4C 0 0 0 false false 0 0 0 0 false 0 0 false 0 0 none 0 0) (h4C 0 0 0 false false 0 0 0 0 false 0 0 false 0 0 none 0 0) rfl (h4C_one _ _ _ _ _ _ _ _ _ _ _ _ _ _ _ _ _ _) rfl rfl b2 (szH4 _ _ _ _ _ _ _ _ _ _ _ _ _ _ _ _ _ _) ?_; intro W9 h9 g9)
  refine bodyPost_agg3 Try.results128 rfl rfl rfl h9.range u1 u2 (szH4 _ _ _ _ _ _ _ _ _ _ _ _ _ _ _ _ _ _) rfl (RetV.mk ?_)
  exact below_grown be g9 (by omega)
set_option maxHeartbeats 4000000 in
set_option maxRecDepth 100000 in
theorem hdr4_sum (A : Option Addr) (n c : Nat) (l : List UInt8) (w : World) (h : Rb w A n c l) (hm9 : n ≤ 1000000) (f ts ln id pl : Nat) (x0 : num ((l.drop 0).take 1) = f) (x1 : num ((l.drop 1).take 1) = ts) (x2 : num ((l.drop 2).take 2) = ln) (x3 : num ((l.drop 4).take 2) = id) (x4 : num ((l.drop 6).take 2) = pl) (hn : 20 ≤ n) (hb : f / 16 = 4) (hs : 20 ≤ 4 * (f % 16)) (hp9 : pl < 32768) (hl9 : 4 * (f % 16) ≤ ln) (hq0 : 4 * (f % 16) ≤ n) (hq1 : ln ≤ n) (hck : 65535 - fd (tot false (l.take (4 * (f % 16)))) ≠ 0) : Calls Try.prog 128 #[.slice A n c] w (RetV w (.tuple #[.agg (h4C 0 0 0 false false 0 0 0 0 false 0 0 false 0 0 none 0 0).toArray, .int .i64 0, .int .i64 22])) := by
  obtain ⟨du, u1, u2⟩ := rowH4
  have hc := h.2.1
  have hl := h.1
  have h20n : (20 : Int) ≤ (n : Int) := by omega
  have h20c : (20 : Int) ≤ (c : Int) := by omega
  have d20 : decide ((n : Int) < 20) = false := by simp only [decide_eq_false_iff_not]; omega
  have ht20 : Rb w A 20 c (l.take 20) := h.take (by omega)
  have hf8 : f < 256 := by rw [← x0]; exact num_lt' l 0 1 256 (by decide)
  have hpl : pl < 65536 := by rw [← x4]; exact num_lt' l 6 2 65536 (by decide)
  have hln : ln < 65536 := by rw [← x2]; exact num_lt' l 2 2 65536 (by decide)
  replace x0 : Hid (num (((l.take 20).drop 0).take 1) = f) := Lib.hid (by rw [num_in l 20 0 1 (by decide)]; exact x0)
  replace x1 : Hid (num (((l.take 20).drop 1).take 1) = ts) := Lib.hid (by rw [num_in l 20 1 1 (by decide)]; exact x1)
  replace x2 : Hid (num (((l.take 20).drop 2).take 2) = ln) := Lib.hid (by rw [num_in l 20 2 2 (by decide)]; exact x2)
  replace x3 : Hid (num (((l.take 20).drop 4).take 2) = id) := Lib.hid (by rw [num_in l 20 4 2 (by decide)]; exact x3)
  replace x4 : Hid (num (((l.take 20).drop 6).take 2) = pl) := Lib.hid (by rw [num_in l 20 6 2 (by decide)]; exact x4)
  have hB : (l.take 20).length = 20 := by rw [List.length_take]; omega
  have HR := Lib.hid (fun W (h : Rb W A 20 c (l.take 20)) => readK A 20 c (l.take 20) W h (by decide))
  generalize hBB : l.take 20 = B at *
  clear hBB
  have hB1 : B.length ≤ 20 := by omega
  have hB2 : 20 ≤ B.length := by omega
  clear hB
  obtain ⟨m, hm⟩ : ∃ m : Nat, m = f % 16 := ⟨_, rfl⟩
  have e1 := u8_and15 f hf8
  rw [← hm] at e1
  obtain ⟨sz, hsz⟩ : ∃ s : Nat, s = 4 * m := ⟨_, rfl⟩
  have e2 : IntKind.i64.wrap (4 * (m : Int)) = (sz : Int) := by rw [IntWalk.i64_in _ (by omega)]; omega
  have e3 : IntKind.i64.wrap (m : Int) = (m : Int) := IntWalk.i64_in _ (by omega)
  have e4 : IntKind.i64.wrap (ln : Int) = (ln : Int) := IntWalk.i64_in _ (by omega)
  have hb1 : (f : Int) / 16 = 4 := by omega
  have hb1n : ((f : Int) / 16 != 4) = false := by rw [hb1]; rfl
  have qd8 : decide ((sz : Int) < 20) = false := by simp only [decide_eq_false_iff_not]; omega
  have qd9 : decide (sz < 20) = false := by simp only [decide_eq_false_iff_not]; omega
  have hp0 : pl / 32768 % 2 = 0 := by omega
  have hp : bits .and .u16 (pl : Int) 32768 = 0 := by rw [and15 pl hpl, hp0]; rfl
  clear hp0
  have qd10 : decide ((ln : Int) < (sz : Int)) = false := by simp only [decide_eq_false_iff_not]; omega
  have qd11 : decide (ln < sz) = false := by simp only [decide_eq_false_iff_not]; omega
  have qd18 : decide ((n : Int) < (sz : Int)) = false := by simp only [decide_eq_false_iff_not]; omega
  have qd19 : decide (n < sz) = false := by simp only [decide_eq_false_iff_not]; omega
  have qd20 : decide ((n : Int) < (ln : Int)) = false := by simp only [decide_eq_false_iff_not]; omega
  have qd21 : decide (n < ln) = false := by simp only [decide_eq_false_iff_not]; omega
  have hszn : sz ≤ n := by omega
  have hln9 : ln ≤ n := by omega
  have hszc : ((sz : Nat) : Int) ≤ (c : Int) := by omega
  have hsz0 : (0 : Int) ≤ (sz : Int) := by omega
  have hts : Rb w A sz c (l.take sz) := h.take hszn
  have hs4 : 4 * (f % 16) = sz := by omega
  have HO := Lib.hid (fun w A1 c1 (h : RdL w A1 1 [l.take sz]) => sumRight A1 1 c1 _ w h (by omega) (by simp; omega))
  have hfl : ([l.take sz] : List (List UInt8)).flatten = l.take sz := by simp
  rw [hfl] at HO
  rw [hs4] at hck
  have hck2 : (65535 - fd (tot false (l.take sz)) == 0) = false := by rw [beq_eq_false_iff_ne]; exact hck
  rw [hck2] at HO
  clear hm hsz hb1 hs4 hck hck2 hfl
  have b2 : Bk (w.alloc (.cells #[.int .u8 0, .int .i64 0, .int .u16 0, .bool false, .bool false, .int .i64 0, .int .u8 0, .int .u8 0, .int .u16 0, .bool false, .int .u64 0, .int .u64 0, .bool false, .int .u64 0, .int .u64 0, .slice none 0 0] 140)) w.heap.size 140 (h4C 0 0 0 false false 0 0 0 0 false 0 0 false 0 0 none 0 0) := Bk.new w 140 #[.int .u8 0, .int .i64 0, .int .u16 0, .bool false, .bool false, .int .i64 0, .int .u8 0, .int .u8 0, .int .u16 0, .bool false, .int .u64 0, .int .u64 0, .bool false, .int .u64 0, .int .u64 0, .slice none 0 0]
  have be : Below w.heap.size w (w.alloc (.cells #[.int .u8 0, .int .i64 0, .int .u16 0, .bool false, .bool false, .int .i64 0, .int .u8 0, .int .u8 0, .int .u16 0, .bool false, .int .u64 0, .int .u64 0, .bool false, .int .u64 0, .int .u64 0, .slice none 0 0] 140)) := Below.allocS (Below.refl _ _) _
  go_enter Try.func128, Try.ntmps128
  go_wp2_with fail
  refine (HR.out _ (ht20.alloc _)).mono ?_
  rintro e w1 ⟨r, bs1, d1, rfl, rfl, hr1, hR⟩
  replace b2 := b2.later (below_plus _ bs1 d1)
  replace be := belowP be bs1 d1
  have hr2 : w.heap.size < r := by simp at hr1; omega
  generalize plus (w.alloc (.cells #[.int .u8 0, .int .i64 0, .int .u16 0, .bool false, .bool false, .int .i64 0, .int .u8 0, .int .u8 0, .int .u16 0, .bool false, .int .u64 0, .int .u64 0, .bool false, .int .u64 0, .int .u64 0, .slice none 0 0] 140)) bs1 d1 = W0 at *
  clear hr1
  go_wp2_with fail
  refine (byteG W0 r B 0 f hR (by omega) (by omega) x0.out).mono ?_
  clear x0
  rintro e W1 ⟨rfl, hR1, hg⟩
  replace b2 := b2.grown hg (by simp; omega)
  replace be := below_grown be hg (by omega)
  clear hR hg
  have hR := hR1
  clear hR1
  go_wp2_with fail
  refine (byteG W1 r B 1 ts hR (by omega) (by omega) x1.out).mono ?_
  clear x1
  rintro e W2 ⟨rfl, hR1, hg⟩
  replace b2 := b2.grown hg (by simp; omega)
  replace be := below_grown be hg (by omega)
  clear hR hg
  have hR := hR1
  clear hR1
  go_wp2_with fail
  refine (wordG W2 r B 2 ln hR (by omega) (by omega) x2.out).mono ?_
  clear x2
  rintro e W3 ⟨rfl, hR1, hg⟩
  replace b2 := b2.grown hg (by simp; omega)
  replace be := below_grown be hg (by omega)
  clear hR hg
  have hR := hR1
  clear hR1
  go_wp2_with fail
  refine (wordG W3 r B 4 id hR (by omega) (by omega) x3.out).mono ?_
  clear x3
  rintro e W4 ⟨rfl, hR1, hg⟩
  replace b2 := b2.grown hg (by simp; omega)
  replace be := below_grown be hg (by omega)
  clear hR hg
  have hR := hR1
  clear hR1
  have zr := hR.lt
  go_wp2_with fail
  have b8 : Bk (W4.alloc (.cells #[.int .u8 (ts : Int), .int .i64 (ln : Int), .int .u16 (id : Int), .bool false, .bool false, .int .i64 0, .int .u8 0, .int .u8 0, .int .u16 0, .bool false, .int .u64 0, .int .u64 0, .bool false, .int .u64 0, .int .u64 0, .slice none 0 0] 140)) W4.heap.size 140 [.int .u8 (ts : Int), .int .i64 (ln : Int), .int .u16 (id : Int), .bool false, .bool false, .int .i64 0, .int .u8 0, .int .u8 0, .int .u16 0, .bool false, .int .u64 0, .int .u64 0, .bool false, .int .u64 0, .int .u64 0, .slice none 0 0] := Bk.new W4 140 #[.int .u8 (ts : Int), .int .i64 (ln : Int), .int .u16 (id : Int), .bool false, .bool false, .int .i64 0, .int .u8 0, .int .u8 0, .int .u16 0, .bool false, .int .u64 0, .int .u64 0, .bool false, .int .u64 0, .int .u64 0, .slice none 0 0]
  replace b2 := b2.alloc (.cells #[.int .u8 (ts : Int), .int .i64 (ln : Int), .int .u16 (id : Int), .bool false, .bool false, .int .i64 0, .int .u8 0, .int .u8 0, .int .u16 0, .bool false, .int .u64 0, .int .u64 0, .bool false, .int .u64 0, .int .u64 0, .slice none 0 0] 140)
  replace be := Below.allocS be (.cells #[.int .u8 (ts : Int), .int .i64 (ln : Int), .int .u16 (id : Int), .bool false, .bool false, .int .i64 0, .int .u8 0, .int .u8 0, .int .u16 0, .bool false, .int .u64 0, .int .u64 0, .bool false, .int .u64 0, .int .u64 0, .slice none 0 0] 140)
  replace hR := hR.later ((Below.refl _ _).alloc (Nat.le_refl _) (.cells #[.int .u8 (ts : Int), .int .i64 (ln : Int), .int .u16 (id : Int), .bool false, .bool false, .int .i64 0, .int .u8 0, .int .u8 0, .int .u16 0, .bool false, .int .u64 0, .int .u64 0, .bool false, .int .u64 0, .int .u64 0, .slice none 0 0] 140))
  have zb := be.size
  generalize W4.alloc (.cells #[.int .u8 (ts : Int), .int .i64 (ln : Int), .int .u16 (id : Int), .bool false, .bool false, .int .i64 0, .int .u8 0, .int .u8 0, .int .u16 0, .bool false, .int .u64 0, .int .u64 0, .bool false, .int .u64 0, .int .u64 0, .slice none 0 0] 140) = V0 at *
  have zg : w.heap.size < W4.heap.size := by omega
  generalize W4.heap.size = g8 at *
  refine (wordG V0 r B 6 pl hR (by omega) (by omega) x4.out).mono ?_
  clear x4
  rintro e W5 ⟨rfl, hR1, hg⟩
  replace b2 := b2.grown hg (by simp; omega)
  replace b8 := b8.grown hg (by simp; omega)
  replace be := below_grown be hg (by omega)
  clear hR hg
  have hR := hR1
  clear hR1
  have y1 : W5.cell? ⟨g8, 1, none⟩ = some (.int .i64 (ln : Int)) := b8.cell 1
  have z8 := b8.lt
  clear zb
  go_wp2_with fail
  refine (HO.out _ _ _ (RdL.litW [.slice A sz c] [l.take sz] (by simp) (.cons ⟨_, _, _, rfl, hts.later be⟩ .nil))).mono ?_
  rintro e w1 ⟨rfl, rfl⟩
  replace b2 := b2.alloc (.cells #[.slice A sz c] 22)
  replace be := Below.allocS be (.cells #[.slice A sz c] 22)
  go_wp2_with (refine at_op (.store 140 (.tmp 2) (.tmp 70)) rfl ?_; refine wpList_stA (t := 140) 140 (.tmp 2) (.tmp 70) rfl rfl (h4C 0 0 0 false false 0 0 0 0 false 0 0 false 0 0 none 0 0) (h4C 0 0 0 false false 0 0 0 0 false 0 0 false 0 0 none 0 0) rfl (h4C_one _ _ _ _ _ _ _ _ _ _ _ _ _ _ _ _ _ _) rfl rfl b2 (szH4 _ _ _ _ _ _ _ _ _ _ _ _ _ _ _ _ _ _) ?_; intro W9 h9 g9)
  refine bodyPost_agg3 Try.results128 rfl rfl rfl h9.range u1 u2 (szH4 _ _ _ _ _ _ _ _ _ _ _ _ _ _ _ _ _ _) rfl (RetV.mk ?_)
  exact below_grown be g9 (by omega)
/-- a header with its options, and its size -/
def RetHd (w : World) (ts ln id : Nat) (st mo : Bool) (fo tl pr sm sa da sz : Nat) (o : List UInt8) (e : Ending) (w' : World) : Prop := ∃ A n k bs d, e = .returned (.tuple #[.agg (h4C ts (ln : Int) id st mo (fo : Int) tl pr sm false 0 sa false 0 da A n k).toArray, .int .i64 (sz : Int), .int .i64 0]) ∧ w' = plus w bs d ∧ Ob (plus w bs d) w.heap.size A n k o
theorem RetHd.mk {w w' : World} {ts ln id : Nat} {st mo : Bool} {fo tl pr sm sa da sz : Nat} {o : List UInt8} {A : Option Addr} {n k : Nat} (h : Ob w' w.heap.size A n k o) (hb : Below w.heap.size w w') : RetHd w ts ln id st mo fo tl pr sm sa da sz o (.returned (.tuple #[.agg (h4C ts (ln : Int) id st mo (fo : Int) tl pr sm false 0 sa false 0 da A n k).toArray, .int .i64 (sz : Int), .int .i64 0])) w' := by
  obtain ⟨bs, d, rfl⟩ := plus_of hb
  exact ⟨A, n, k, bs, d, rfl, rfl, h⟩
set_option maxHeartbeats 4000000 in
set_option maxRecDepth 100000 in
theorem hdr4_ok (A : Option Addr) (n c : Nat) (l : List UInt8) (w : World) (h : Rb w A n c l) (hm9 : n ≤ 1000000) (f ts ln id pl tl pr sm sa da : Nat) (st mo : Bool) (x0 : num ((l.drop 0).take 1) = f) (x1 : num ((l.drop 1).take 1) = ts) (x2 : num ((l.drop 2).take 2) = ln) (x3 : num ((l.drop 4).take 2) = id) (x4 : num ((l.drop 6).take 2) = pl) (x5 : num ((l.drop 8).take 1) = tl) (x6 : num ((l.drop 9).take 1) = pr) (x7 : num ((l.drop 10).take 2) = sm) (x8 : num ((l.drop 12).take 4) = sa) (x9 : num ((l.drop 16).take 4) = da) (hst : (pl / 16384 % 2 == 1) = st) (hmo : (pl / 8192 % 2 == 1) = mo) (hn : 20 ≤ n) (hb : f / 16 = 4) (hs : 20 ≤ 4 * (f % 16)) (hp9 : pl < 32768) (hl9 : 4 * (f % 16) ≤ ln) (hq0 : 4 * (f % 16) ≤ n) (hq1 : ln ≤ n) (hck : 65535 - fd (tot false (l.take (4 * (f % 16)))) = 0) : Calls Try.prog 128 #[.slice A n c] w (RetHd w ts ln id st mo (pl % 8192) tl pr sm sa da (4 * (f % 16)) ((l.drop 20).take (4 * (f % 16) - 20))) := by
  obtain ⟨du, u1, u2⟩ := rowH4
  have hc := h.2.1
  have hl := h.1
  have h20n : (20 : Int) ≤ (n : Int) := by omega
  have h20c : (20 : Int) ≤ (c : Int) := by omega
  have d20 : decide ((n : Int) < 20) = false := by simp only [decide_eq_false_iff_not]; omega
  have ht20 : Rb w A 20 c (l.take 20) := h.take (by omega)
  have hf8 : f < 256 := by rw [← x0]; exact num_lt' l 0 1 256 (by decide)
  have hpl : pl < 65536 := by rw [← x4]; exact num_lt' l 6 2 65536 (by decide)
  have hln : ln < 65536 := by rw [← x2]; exact num_lt' l 2 2 65536 (by decide)
  replace x0 : Hid (num (((l.take 20).drop 0).take 1) = f) := Lib.hid (by rw [num_in l 20 0 1 (by decide)]; exact x0)
  replace x1 : Hid (num (((l.take 20).drop 1).take 1) = ts) := Lib.hid (by rw [num_in l 20 1 1 (by decide)]; exact x1)
  replace x2 : Hid (num (((l.take 20).drop 2).take 2) = ln) := Lib.hid (by rw [num_in l 20 2 2 (by decide)]; exact x2)
  replace x3 : Hid (num (((l.take 20).drop 4).take 2) = id) := Lib.hid (by rw [num_in l 20 4 2 (by decide)]; exact x3)
  replace x4 : Hid (num (((l.take 20).drop 6).take 2) = pl) := Lib.hid (by rw [num_in l 20 6 2 (by decide)]; exact x4)
  replace x5 : Hid (num (((l.take 20).drop 8).take 1) = tl) := Lib.hid (by rw [num_in l 20 8 1 (by decide)]; exact x5)
  replace x6 : Hid (num (((l.take 20).drop 9).take 1) = pr) := Lib.hid (by rw [num_in l 20 9 1 (by decide)]; exact x6)
  replace x7 : Hid (num (((l.take 20).drop 10).take 2) = sm) := Lib.hid (by rw [num_in l 20 10 2 (by decide)]; exact x7)
  replace x8 : Hid (num (((l.take 20).drop 12).take 4) = sa) := Lib.hid (by rw [num_in l 20 12 4 (by decide)]; exact x8)
  replace x9 : Hid (num (((l.take 20).drop 16).take 4) = da) := Lib.hid (by rw [num_in l 20 16 4 (by decide)]; exact x9)
  have hB : (l.take 20).length = 20 := by rw [List.length_take]; omega
  have HR := Lib.hid (fun W (h : Rb W A 20 c (l.take 20)) => readK A 20 c (l.take 20) W h (by decide))
  generalize l.take 20 = B at *
  have hB1 : B.length ≤ 20 := by omega
  have hB2 : 20 ≤ B.length := by omega
  clear hB
  obtain ⟨m, hm⟩ : ∃ m : Nat, m = f % 16 := ⟨_, rfl⟩
  have e1 := u8_and15 f hf8
  rw [← hm] at e1
  obtain ⟨sz, hsz⟩ : ∃ s : Nat, s = 4 * m := ⟨_, rfl⟩
  have e2 : IntKind.i64.wrap (4 * (m : Int)) = (sz : Int) := by rw [IntWalk.i64_in _ (by omega)]; omega
  have e3 : IntKind.i64.wrap (m : Int) = (m : Int) := IntWalk.i64_in _ (by omega)
  have e4 : IntKind.i64.wrap (ln : Int) = (ln : Int) := IntWalk.i64_in _ (by omega)
  have hb1 : (f : Int) / 16 = 4 := by omega
  have hb1n : ((f : Int) / 16 != 4) = false := by rw [hb1]; rfl
  have qd8 : decide ((sz : Int) < 20) = false := by simp only [decide_eq_false_iff_not]; omega
  have qd9 : decide (sz < 20) = false := by simp only [decide_eq_false_iff_not]; omega
  have hp0 : pl / 32768 % 2 = 0 := by omega
  have hp : bits .and .u16 (pl : Int) 32768 = 0 := by rw [and15 pl hpl, hp0]; rfl
  clear hp0
  have qd10 : decide ((ln : Int) < (sz : Int)) = false := by simp only [decide_eq_false_iff_not]; omega
  have qd11 : decide (ln < sz) = false := by simp only [decide_eq_false_iff_not]; omega
  have qd22 : decide ((n : Int) < (sz : Int)) = false := by simp only [decide_eq_false_iff_not]; omega
  have qd23 : decide (n < sz) = false := by simp only [decide_eq_false_iff_not]; omega
  have qd24 : decide ((n : Int) < (ln : Int)) = false := by simp only [decide_eq_false_iff_not]; omega
  have qd25 : decide (n < ln) = false := by simp only [decide_eq_false_iff_not]; omega
  have hszn : sz ≤ n := by omega
  have hln9 : ln ≤ n := by omega
  have hszc : ((sz : Nat) : Int) ≤ (c : Int) := by omega
  have hsz0 : (0 : Int) ≤ (sz : Int) := by omega
  have hts : Rb w A sz c (l.take sz) := h.take hszn
  have hs4 : 4 * (f % 16) = sz := by omega
  have HO := Lib.hid (fun w A1 c1 (h : RdL w A1 1 [l.take sz]) => sumRight A1 1 c1 _ w h (by omega) (by simp; omega))
  have hfl : ([l.take sz] : List (List UInt8)).flatten = l.take sz := by simp
  rw [hfl] at HO
  rw [hs4] at hck
  have hck2 : (65535 - fd (tot false (l.take sz)) == 0) = true := by rw [beq_iff_eq]; exact hck
  rw [hck2] at HO
  have ho0 : Rb w (cutA A c 20 1) (sz - 20) (c - 20) ((l.drop 20).take (sz - 20)) := (h.cut (k := 20) (by omega)).take (by omega)
  have v1 : (bits .and .u16 (pl : Int) 16384 != 0) = st := by rw [← hst, and14 pl hpl]; rcases Nat.mod_two_eq_zero_or_one (pl / 16384) with h0 | h0 <;> simp [h0]
  have v2 : (bits .and .u16 (pl : Int) 8192 != 0) = mo := by rw [← hmo, and13 pl hpl]; rcases Nat.mod_two_eq_zero_or_one (pl / 8192) with h0 | h0 <;> simp [h0]
  have v3 := and8191 pl hpl
  have hfo : pl % 8192 < 65536 := by omega
  generalize pl % 8192 = fo at *
  have v4 : IntKind.i64.wrap (fo : Int) = (fo : Int) := IntWalk.i64_in _ (by omega)
  have hsa : sa < 4294967296 := by rw [← x8.out]; exact num_lt' _ 12 4 4294967296 (by decide)
  have hda : da < 4294967296 := by rw [← x9.out]; exact num_lt' _ 16 4 4294967296 (by decide)
  have v5 : IntKind.u64.wrap (sa : Int) = (sa : Int) := IntWalk.u64_in _ (by omega)
  have v6 : IntKind.u64.wrap (da : Int) = (da : Int) := IntWalk.u64_in _ (by omega)
  have j1 : (20 : Int) ≤ (sz : Int) := by omega
  have HC := Lib.hid (fun w (h : Rb w (cutA A c 20 1) (sz - 20) (c - 20) ((l.drop 20).take (sz - 20))) => clone_any _ _ _ _ w h (by omega))
  have hs9 := Lib.hid hs4
  clear hm hsz hb1 hs4 hck hck2 hfl hst hmo
  have b2 : Bk (w.alloc (.cells #[.int .u8 0, .int .i64 0, .int .u16 0, .bool false, .bool false, .int .i64 0, .int .u8 0, .int .u8 0, .int .u16 0, .bool false, .int .u64 0, .int .u64 0, .bool false, .int .u64 0, .int .u64 0, .slice none 0 0] 140)) w.heap.size 140 (h4C 0 0 0 false false 0 0 0 0 false 0 0 false 0 0 none 0 0) := Bk.new w 140 #[.int .u8 0, .int .i64 0, .int .u16 0, .bool false, .bool false, .int .i64 0, .int .u8 0, .int .u8 0, .int .u16 0, .bool false, .int .u64 0, .int .u64 0, .bool false, .int .u64 0, .int .u64 0, .slice none 0 0]
  have be : Below w.heap.size w (w.alloc (.cells #[.int .u8 0, .int .i64 0, .int .u16 0, .bool false, .bool false, .int .i64 0, .int .u8 0, .int .u8 0, .int .u16 0, .bool false, .int .u64 0, .int .u64 0, .bool false, .int .u64 0, .int .u64 0, .slice none 0 0] 140)) := Below.allocS (Below.refl _ _) _
  go_enter Try.func128, Try.ntmps128
  go_wp2_with fail
  refine (HR.out _ (ht20.alloc _)).mono ?_
  rintro e w1 ⟨r, bs1, d1, rfl, rfl, hr1, hR⟩
  replace b2 := b2.later (below_plus _ bs1 d1)
  replace be := belowP be bs1 d1
  have hr2 : w.heap.size < r := by simp at hr1; omega
  generalize plus (w.alloc (.cells #[.int .u8 0, .int .i64 0, .int .u16 0, .bool false, .bool false, .int .i64 0, .int .u8 0, .int .u8 0, .int .u16 0, .bool false, .int .u64 0, .int .u64 0, .bool false, .int .u64 0, .int .u64 0, .slice none 0 0] 140)) bs1 d1 = W0 at *
  clear hr1
  go_wp2_with fail
  refine (byteG W0 r B 0 f hR (by omega) (by omega) x0.out).mono ?_
  clear x0
  rintro e W1 ⟨rfl, hR1, hg⟩
  replace b2 := b2.grown hg (by simp; omega)
  replace be := below_grown be hg (by omega)
  clear hR hg
  have hR := hR1
  clear hR1
  go_wp2_with fail
  refine (byteG W1 r B 1 ts hR (by omega) (by omega) x1.out).mono ?_
  clear x1
  rintro e W2 ⟨rfl, hR1, hg⟩
  replace b2 := b2.grown hg (by simp; omega)
  replace be := below_grown be hg (by omega)
  clear hR hg
  have hR := hR1
  clear hR1
  go_wp2_with fail
  refine (wordG W2 r B 2 ln hR (by omega) (by omega) x2.out).mono ?_
  clear x2
  rintro e W3 ⟨rfl, hR1, hg⟩
  replace b2 := b2.grown hg (by simp; omega)
  replace be := below_grown be hg (by omega)
  clear hR hg
  have hR := hR1
  clear hR1
  go_wp2_with fail
  refine (wordG W3 r B 4 id hR (by omega) (by omega) x3.out).mono ?_
  clear x3
  rintro e W4 ⟨rfl, hR1, hg⟩
  replace b2 := b2.grown hg (by simp; omega)
  replace be := below_grown be hg (by omega)
  clear hR hg
  have hR := hR1
  clear hR1
  have zr := hR.lt
  go_wp2_with fail
  have b8 : Bk (W4.alloc (.cells #[.int .u8 (ts : Int), .int .i64 (ln : Int), .int .u16 (id : Int), .bool false, .bool false, .int .i64 0, .int .u8 0, .int .u8 0, .int .u16 0, .bool false, .int .u64 0, .int .u64 0, .bool false, .int .u64 0, .int .u64 0, .slice none 0 0] 140)) W4.heap.size 140 [.int .u8 (ts : Int), .int .i64 (ln : Int), .int .u16 (id : Int), .bool false, .bool false, .int .i64 0, .int .u8 0, .int .u8 0, .int .u16 0, .bool false, .int .u64 0, .int .u64 0, .bool false, .int .u64 0, .int .u64 0, .slice none 0 0] := Bk.new W4 140 #[.int .u8 (ts : Int), .int .i64 (ln : Int), .int .u16 (id : Int), .bool false, .bool false, .int .i64 0, .int .u8 0, .int .u8 0, .int .u16 0, .bool false, .int .u64 0, .int .u64 0, .bool false, .int .u64 0, .int .u64 0, .slice none 0 0]
  replace b2 := b2.alloc (.cells #[.int .u8 (ts : Int), .int .i64 (ln : Int), .int .u16 (id : Int), .bool false, .bool false, .int .i64 0, .int .u8 0, .int .u8 0, .int .u16 0, .bool false, .int .u64 0, .int .u64 0, .bool false, .int .u64 0, .int .u64 0, .slice none 0 0] 140)
  replace be := Below.allocS be (.cells #[.int .u8 (ts : Int), .int .i64 (ln : Int), .int .u16 (id : Int), .bool false, .bool false, .int .i64 0, .int .u8 0, .int .u8 0, .int .u16 0, .bool false, .int .u64 0, .int .u64 0, .bool false, .int .u64 0, .int .u64 0, .slice none 0 0] 140)
  replace hR := hR.later ((Below.refl _ _).alloc (Nat.le_refl _) (.cells #[.int .u8 (ts : Int), .int .i64 (ln : Int), .int .u16 (id : Int), .bool false, .bool false, .int .i64 0, .int .u8 0, .int .u8 0, .int .u16 0, .bool false, .int .u64 0, .int .u64 0, .bool false, .int .u64 0, .int .u64 0, .slice none 0 0] 140))
  have zb := be.size
  generalize W4.alloc (.cells #[.int .u8 (ts : Int), .int .i64 (ln : Int), .int .u16 (id : Int), .bool false, .bool false, .int .i64 0, .int .u8 0, .int .u8 0, .int .u16 0, .bool false, .int .u64 0, .int .u64 0, .bool false, .int .u64 0, .int .u64 0, .slice none 0 0] 140) = V0 at *
  have zg : w.heap.size < W4.heap.size := by omega
  generalize W4.heap.size = g8 at *
  refine (wordG V0 r B 6 pl hR (by omega) (by omega) x4.out).mono ?_
  clear x4
  rintro e W5 ⟨rfl, hR1, hg⟩
  replace b2 := b2.grown hg (by simp; omega)
  replace b8 := b8.grown hg (by simp; omega)
  replace be := below_grown be hg (by omega)
  clear hR hg
  have hR := hR1
  clear hR1
  have y1 : W5.cell? ⟨g8, 1, none⟩ = some (.int .i64 (ln : Int)) := b8.cell 1
  have z8 := b8.lt
  clear zb
  go_wp2_with fail
  refine (HO.out _ _ _ (RdL.litW [.slice A sz c] [l.take sz] (by simp) (.cons ⟨_, _, _, rfl, hts.later be⟩ .nil))).mono ?_
  rintro e w1 ⟨rfl, rfl⟩
  replace b2 := b2.alloc (.cells #[.slice A sz c] 22)
  replace b8 := b8.alloc (.cells #[.slice A sz c] 22)
  replace hR := hR.later ((Below.refl _ _).alloc (Nat.le_refl _) (.cells #[.slice A sz c] 22))
  replace be := Below.allocS be (.cells #[.slice A sz c] 22)
  clear y1 z8
  generalize W5.alloc (.cells #[.slice A sz c] 22) = V1 at *
  have q := b8.cell 3
  have fr := b8.frozen 3
  have z8 := b8.lt
  simp only [List.getElem?_cons_succ, List.getElem?_cons_zero] at q
  go_upto_region 15 with (fail)
  replace b8 := b8.set_ 3 (.bool st)
  replace b2 := b2.far (p := ⟨g8, 3, none⟩) (by simp; omega) (.bool st)
  replace hR := hR.far (p := ⟨g8, 3, none⟩) (by simp; omega) (.bool st)
  replace be := be.setCell (p := ⟨g8, 3, none⟩) (by simp; omega) (.bool st)
  simp only [List.set_cons_succ, List.set_cons_zero] at b8
  clear q fr z8
  generalize V1.setCell ⟨g8, 3, none⟩ (.bool st) = W6 at *
  have q := b8.cell 4
  have fr := b8.frozen 4
  have z8 := b8.lt
  simp only [List.getElem?_cons_succ, List.getElem?_cons_zero] at q
  go_upto_region 16 with (fail)
  replace b8 := b8.set_ 4 (.bool mo)
  replace b2 := b2.far (p := ⟨g8, 4, none⟩) (by simp; omega) (.bool mo)
  replace hR := hR.far (p := ⟨g8, 4, none⟩) (by simp; omega) (.bool mo)
  replace be := be.setCell (p := ⟨g8, 4, none⟩) (by simp; omega) (.bool mo)
  simp only [List.set_cons_succ, List.set_cons_zero] at b8
  clear q fr z8
  generalize W6.setCell ⟨g8, 4, none⟩ (.bool mo) = W7 at *
  have q := b8.cell 5
  have fr := b8.frozen 5
  have z8 := b8.lt
  simp only [List.getElem?_cons_succ, List.getElem?_cons_zero] at q
  go_upto_region 17 with (fail)
  replace b8 := b8.set_ 5 (.int .i64 (fo : Int))
  replace b2 := b2.far (p := ⟨g8, 5, none⟩) (by simp; omega) (.int .i64 (fo : Int))
  replace hR := hR.far (p := ⟨g8, 5, none⟩) (by simp; omega) (.int .i64 (fo : Int))
  replace be := be.setCell (p := ⟨g8, 5, none⟩) (by simp; omega) (.int .i64 (fo : Int))
  simp only [List.set_cons_succ, List.set_cons_zero] at b8
  clear q fr z8
  generalize W7.setCell ⟨g8, 5, none⟩ (.int .i64 (fo : Int)) = W8 at *
  go_wp2_with fail
  refine (byteG W8 r B 8 tl hR (by omega) (by omega) x5.out).mono ?_
  clear x5
  rintro e W9 ⟨rfl, hR1, hg⟩
  replace b2 := b2.grown hg (by simp; omega)
  replace b8 := b8.grown hg (by simp; omega)
  replace be := below_grown be hg (by omega)
  clear hR hg
  have hR := hR1
  clear hR1
  have q := b8.cell 6
  have fr := b8.frozen 6
  have z8 := b8.lt
  simp only [List.getElem?_cons_succ, List.getElem?_cons_zero] at q
  go_upto_region 18 with (fail)
  replace b8 := b8.set_ 6 (.int .u8 (tl : Int))
  replace b2 := b2.far (p := ⟨g8, 6, none⟩) (by simp; omega) (.int .u8 (tl : Int))
  replace hR := hR.far (p := ⟨g8, 6, none⟩) (by simp; omega) (.int .u8 (tl : Int))
  replace be := be.setCell (p := ⟨g8, 6, none⟩) (by simp; omega) (.int .u8 (tl : Int))
  simp only [List.set_cons_succ, List.set_cons_zero] at b8
  clear q fr z8
  generalize W9.setCell ⟨g8, 6, none⟩ (.int .u8 (tl : Int)) = W10 at *
  go_wp2_with fail
  refine (byteG W10 r B 9 pr hR (by omega) (by omega) x6.out).mono ?_
  clear x6
  rintro e W11 ⟨rfl, hR1, hg⟩
  replace b2 := b2.grown hg (by simp; omega)
  replace b8 := b8.grown hg (by simp; omega)
  replace be := below_grown be hg (by omega)
  clear hR hg
  have hR := hR1
  clear hR1
  have q := b8.cell 7
  have fr := b8.frozen 7
  have z8 := b8.lt
  simp only [List.getElem?_cons_succ, List.getElem?_cons_zero] at q
  go_upto_region 19 with (fail)
  replace b8 := b8.set_ 7 (.int .u8 (pr : Int))
  replace b2 := b2.far (p := ⟨g8, 7, none⟩) (by simp; omega) (.int .u8 (pr : Int))
  replace hR := hR.far (p := ⟨g8, 7, none⟩) (by simp; omega) (.int .u8 (pr : Int))
  replace be := be.setCell (p := ⟨g8, 7, none⟩) (by simp; omega) (.int .u8 (pr : Int))
  simp only [List.set_cons_succ, List.set_cons_zero] at b8
  clear q fr z8
  generalize W11.setCell ⟨g8, 7, none⟩ (.int .u8 (pr : Int)) = W12 at *
  go_wp2_with fail
  refine (wordG W12 r B 10 sm hR (by omega) (by omega) x7.out).mono ?_
  clear x7
  rintro e W13 ⟨rfl, hR1, hg⟩
  replace b2 := b2.grown hg (by simp; omega)
  replace b8 := b8.grown hg (by simp; omega)
  replace be := below_grown be hg (by omega)
  clear hR hg
  have hR := hR1
  clear hR1
  have q := b8.cell 8
  have fr := b8.frozen 8
  have z8 := b8.lt
  simp only [List.getElem?_cons_succ, List.getElem?_cons_zero] at q
  go_upto_region 20 with (fail)
  replace b8 := b8.set_ 8 (.int .u16 (sm : Int))
  replace b2 := b2.far (p := ⟨g8, 8, none⟩) (by simp; omega) (.int .u16 (sm : Int))
  replace hR := hR.far (p := ⟨g8, 8, none⟩) (by simp; omega) (.int .u16 (sm : Int))
  replace be := be.setCell (p := ⟨g8, 8, none⟩) (by simp; omega) (.int .u16 (sm : Int))
  simp only [List.set_cons_succ, List.set_cons_zero] at b8
  clear q fr z8
  generalize W13.setCell ⟨g8, 8, none⟩ (.int .u16 (sm : Int)) = W14 at *
  go_wp2_with fail
  refine (longG W14 r B 12 sa hR (by omega) (by omega) x8.out).mono ?_
  clear x8
  rintro e W15 ⟨rfl, hR1, hg⟩
  replace b2 := b2.grown hg (by simp; omega)
  replace b8 := b8.grown hg (by simp; omega)
  replace be := below_grown be hg (by omega)
  clear hR hg
  have hR := hR1
  clear hR1
  have z8 := b8.lt
  have zr := hR.lt
  go_upto_region 21 with (refine at_op (.store 26 (.tmp 96) (.tmp 95)) rfl ?_; refine wpList_stM (t := 140) 26 (.tmp 96) (.tmp 95) rfl rfl (adC false 0 sa) _ (by simp [adC]) (adC_one _ _ _) rfl rfl b8 (szAd _ _ _) ?_; intro W16 b8' hg3)
  simp only [splice, adC, List.take_succ_cons, List.take_zero, List.drop_succ_cons, List.drop_zero, List.length_cons, List.length_nil, Nat.zero_add, Nat.reduceAdd, List.cons_append, List.nil_append] at b8'
  replace b2 := b2.grown hg3 (by simp; omega)
  replace hR := hR.far_ hg3 (by omega)
  replace be := below_grown be hg3 (by omega)
  clear b8 hg3 z8 zr
  have b8 := b8'
  clear b8'
  go_wp2_with fail
  refine (longG W16 r B 16 da hR (by omega) (by omega) x9.out).mono ?_
  clear x9
  rintro e W17 ⟨rfl, hR1, hg⟩
  replace b2 := b2.grown hg (by simp; omega)
  replace b8 := b8.grown hg (by simp; omega)
  replace be := below_grown be hg (by omega)
  clear hR hg
  have hR := hR1
  clear hR1
  have z8 := b8.lt
  have zr := hR.lt
  go_upto_region 22 with (refine at_op (.store 26 (.tmp 101) (.tmp 100)) rfl ?_; refine wpList_stM (t := 140) 26 (.tmp 101) (.tmp 100) rfl rfl (adC false 0 da) _ (by simp [adC]) (adC_one _ _ _) rfl rfl b8 (szAd _ _ _) ?_; intro W18 b8' hg3)
  simp only [splice, adC, List.take_succ_cons, List.take_zero, List.drop_succ_cons, List.drop_zero, List.length_cons, List.length_nil, Nat.zero_add, Nat.reduceAdd, List.cons_append, List.nil_append] at b8'
  replace b2 := b2.grown hg3 (by simp; omega)
  replace hR := hR.far_ hg3 (by omega)
  replace be := below_grown be hg3 (by omega)
  clear b8 hg3 z8 zr
  have b8 := b8'
  clear b8'
  go_wp2_with fail
  refine (HC.out _ (ho0.later be)).mono ?_
  rintro e w1 ⟨Ao, no, ko, bso, mo9, rfl, rfl, hoo⟩
  have z8 := b8.lt
  have z2 := b2.lt
  have zo8 : ∀ b, (Value.slice Ao no ko).ownBlock = some b → b ≠ g8 := fun b hb => by have := (hoo.blk b hb).1; omega
  have zo2 : ∀ b, (Value.slice Ao no ko).ownBlock = some b → b ≠ w.heap.size := fun b hb => by have := (hoo.blk b hb).1; omega
  clear z8 z2
  replace b2 := b2.later (below_plus _ bso mo9)
  replace b8 := b8.later (below_plus _ bso mo9)
  replace hR := hR.later (below_plus _ bso mo9)
  have zbe := be.size
  replace be := belowP be bso mo9
  replace hoo := hoo.mono (base' := w.heap.size) zbe
  generalize plus W18 bso mo9 = V2 at *
  have q := b8.cell 15
  have fr := b8.frozen 15
  have z8 := b8.lt
  simp only [List.getElem?_cons_succ, List.getElem?_cons_zero] at q
  go_upto_region 23 with (fail)
  replace b8 := b8.set_ 15 (.slice Ao no ko)
  replace b2 := b2.far (p := ⟨g8, 15, none⟩) (by simp; omega) (.slice Ao no ko)
  replace hR := hR.far (p := ⟨g8, 15, none⟩) (by simp; omega) (.slice Ao no ko)
  replace be := be.setCell (p := ⟨g8, 15, none⟩) (by simp; omega) (.slice Ao no ko)
  simp only [List.set_cons_succ, List.set_cons_zero] at b8
  clear q fr z8
  replace hoo := hoo.grown (grownBy_setCell V2 g8 15 (.slice Ao no ko)) (fun b hb e => zo8 b hb (by injection e with e; exact e.symm))
  generalize V2.setCell ⟨g8, 15, none⟩ (.slice Ao no ko) = W19 at *
  go_wp2_with (first
    | (refine at_op (.load 140 (.tmp 8)) rfl ?_; refine wpList_ldA (t := 140) 140 (.tmp 8) rfl rfl (h4C ts (ln : Int) id st mo (fo : Int) tl pr sm false 0 sa false 0 da Ao no ko) rfl (b8) (whole_ _) u1 u2 (szH4 _ _ _ _ _ _ _ _ _ _ _ _ _ _ _ _ _ _) ?_)
    | (refine at_op (.store 140 (.tmp 2) (.tmp 107)) rfl ?_; refine wpList_stA (t := 140) 140 (.tmp 2) (.tmp 107) rfl rfl (h4C ts (ln : Int) id st mo (fo : Int) tl pr sm false 0 sa false 0 da Ao no ko) (h4C 0 0 0 false false 0 0 0 0 false 0 0 false 0 0 none 0 0) rfl (h4C_one _ _ _ _ _ _ _ _ _ _ _ _ _ _ _ _ _ _) rfl rfl b2 (szH4 _ _ _ _ _ _ _ _ _ _ _ _ _ _ _ _ _ _) ?_; intro W9 h9 g9))
  replace hoo := hoo.grown g9 (fun b hb e => zo2 b hb (by injection e with e; exact e.symm))
  rw [hs9.out]
  refine bodyPost_agg3 Try.results128 rfl rfl rfl h9.range u1 u2 (szH4 _ _ _ _ _ _ _ _ _ _ _ _ _ _ _ _ _ _) rfl (RetHd.mk hoo ?_)
  exact below_grown be g9 (by omega)
end Go.Proofs.Ytfmkndemkpecpaa

/- ip4.Parse. -/
namespace Go.Proofs.Ytfmkndemkpecpaa
open Go.RowKit
set_option linter.unusedVariables false
set_option linter.unusedSimpArgs false
attribute [local go_sem ↓] sliced_cut

attribute [local go_sem] cutA_zero

/-- a header, the bytes behind it, no error -/
def RetP4 (w : World) (ts ln id : Nat) (st mo : Bool) (fo tl pr sm sa da : Nat) (o load : List UInt8) (e : Ending) (w' : World) : Prop := ∃ A n k A2 n2 k2 bs d, e = .returned (.tuple #[.agg (h4C ts (ln : Int) id st mo (fo : Int) tl pr sm false 0 sa false 0 da A n k).toArray, .slice A2 n2 k2, .int .i64 0]) ∧ w' = plus w bs d ∧ Rb (plus w bs d) A n k o ∧ Rb (plus w bs d) A2 n2 k2 load ∧ ∀ a, A2 = some a → w.heap.size ≤ a.block
theorem Ob.fresh {w : World} {w0 base : Nat} {A : Option Addr} {n c : Nat} {l : List UInt8} (h : Ob w base A n c l) (hb : w0 ≤ base) : ∀ a, A = some a → w0 ≤ a.block := fun a ha => by
  subst ha
  have := (h.blk a.block rfl).1
  omega
theorem RetP4.mk {w w' : World} {ts ln id : Nat} {st mo : Bool} {fo tl pr sm sa da : Nat} {o load : List UInt8} {A : Option Addr} {n k : Nat} {A2 : Option Addr} {n2 k2 : Nat} (h : Rb w' A n k o) (h2 : Rb w' A2 n2 k2 load) (hf : ∀ a, A2 = some a → w.heap.size ≤ a.block) (hb : Below w.heap.size w w') : RetP4 w ts ln id st mo fo tl pr sm sa da o load (.returned (.tuple #[.agg (h4C ts (ln : Int) id st mo (fo : Int) tl pr sm false 0 sa false 0 da A n k).toArray, .slice A2 n2 k2, .int .i64 0])) w' := by
  obtain ⟨bs, d, rfl⟩ := plus_of hb
  exact ⟨A, n, k, A2, n2, k2, bs, d, rfl, rfl, h, h2, hf⟩
set_option maxHeartbeats 4000000 in
set_option maxRecDepth 100000 in
theorem parse4_err (A : Option Addr) (n c : Nat) (E : Int) (w : World) (hE : (E != 0) = true) (HH : ∀ w', Below w.heap.size w w' → Calls Try.prog 128 #[.slice A n c] w' (RetV w' (.tuple #[.agg (h4C 0 0 0 false false 0 0 0 0 false 0 0 false 0 0 none 0 0).toArray, .int .i64 0, .int .i64 E]))) : Calls Try.prog 72 #[.slice A n c] w (RetV w (.tuple #[.agg (h4C 0 0 0 false false 0 0 0 0 false 0 0 false 0 0 none 0 0).toArray, .slice none 0 0, .int .i64 E])) := by
  obtain ⟨du, u1, u2⟩ := rowH4
  replace HH := Lib.hid HH
  have b2 : Bk (w.alloc (.cells #[.int .u8 0, .int .i64 0, .int .u16 0, .bool false, .bool false, .int .i64 0, .int .u8 0, .int .u8 0, .int .u16 0, .bool false, .int .u64 0, .int .u64 0, .bool false, .int .u64 0, .int .u64 0, .slice none 0 0] 140)) w.heap.size 140 (h4C 0 0 0 false false 0 0 0 0 false 0 0 false 0 0 none 0 0) := Bk.new w 140 #[.int .u8 0, .int .i64 0, .int .u16 0, .bool false, .bool false, .int .i64 0, .int .u8 0, .int .u8 0, .int .u16 0, .bool false, .int .u64 0, .int .u64 0, .bool false, .int .u64 0, .int .u64 0, .slice none 0 0]
  have be : Below w.heap.size w (w.alloc (.cells #[.int .u8 0, .int .i64 0, .int .u16 0, .bool false, .bool false, .int .i64 0, .int .u8 0, .int .u8 0, .int .u16 0, .bool false, .int .u64 0, .int .u64 0, .bool false, .int .u64 0, .int .u64 0, .slice none 0 0] 140)) := Below.allocS (Below.refl _ _) _
  go_enter Try.func72, Try.ntmps72
  go_wp2_with fail
  refine (HH.out _ be).mono ?_
  rintro e w1 ⟨bs1, d1, rfl, rfl⟩
  go_upto_region 2 with (refine at_op (.store 140 (.tmp 5) (.tmp 11)) rfl ?_; refine wpList_stA (t := 140) 140 (.tmp 5) (.tmp 11) rfl rfl (h4C 0 0 0 false false 0 0 0 0 false 0 0 false 0 0 none 0 0) (h4C 0 0 0 false false 0 0 0 0 false 0 0 false 0 0 none 0 0) rfl (h4C_one _ _ _ _ _ _ _ _ _ _ _ _ _ _ _ _ _ _) rfl rfl ?_ (szH4 _ _ _ _ _ _ _ _ _ _ _ _ _ _ _ _ _ _) ?_; (· refine Bk.newK _ _ _ ?_ rfl; simp [size_plus]); intro W b5 hgr)
  have zb := be.size
  replace b2 := ((b2.later (below_plus _ bs1 d1)).alloc _).grown hgr (by simp; omega)
  replace be := below_grown (Below.allocS (belowP be bs1 d1) _) hgr (by omega)
  clear hgr zb
  go_wp2_with (refine at_op (.store 140 (.tmp 2) (.tmp 16)) rfl ?_; refine wpList_stA (t := 140) 140 (.tmp 2) (.tmp 16) rfl rfl (h4C 0 0 0 false false 0 0 0 0 false 0 0 false 0 0 none 0 0) (h4C 0 0 0 false false 0 0 0 0 false 0 0 false 0 0 none 0 0) rfl (h4C_one _ _ _ _ _ _ _ _ _ _ _ _ _ _ _ _ _ _) rfl rfl b2 (szH4 _ _ _ _ _ _ _ _ _ _ _ _ _ _ _ _ _ _) ?_; intro W9 h9 g9)
  refine bodyPost_agg3 Try.results72 rfl rfl rfl h9.range u1 u2 (szH4 _ _ _ _ _ _ _ _ _ _ _ _ _ _ _ _ _ _) rfl (RetV.mk ?_)
  exact below_grown be g9 (by omega)
set_option maxHeartbeats 4000000 in
set_option maxRecDepth 100000 in
theorem parse4_ok (A : Option Addr) (n c : Nat) (l : List UInt8) (ts ln id : Nat) (st mo : Bool) (fo tl pr sm sa da sz : Nat) (o : List UInt8) (w : World) (h : Rb w A n c l) (hm : n ≤ 1000000) (h1 : 20 ≤ sz) (h2 : sz ≤ ln) (h3 : ln ≤ n)
    (HH : ∀ w', Below w.heap.size w w' → Calls Try.prog 128 #[.slice A n c] w' (RetHd w' ts ln id st mo fo tl pr sm sa da sz o)) : Calls Try.prog 72 #[.slice A n c] w (RetP4 w ts ln id st mo fo tl pr sm sa da o ((l.drop sz).take (ln - sz))) := by
  obtain ⟨du, u1, u2⟩ := rowH4
  replace HH := Lib.hid HH
  obtain ⟨b, off, rfl, hbl, hcell⟩ := h.2.2.at_ (by rw [bcs_length, h.1]; omega)
  have hc := h.2.1
  have hr0 : Rb w (cutA (some ⟨b, off, none⟩) c sz 1) (ln - sz) (c - sz) ((l.drop sz).take (ln - sz)) := (h.cut (k := sz) (by omega)).take (by omega)
  have j0 : (0 : Int) ≤ (sz : Int) := by omega
  have j1 : (sz : Int) ≤ (ln : Int) := by omega
  have j2 : (ln : Int) ≤ (c : Int) := by omega
  clear hcell
  generalize (l.drop sz).take (ln - sz) = load at *
  have b2 : Bk (w.alloc (.cells #[.int .u8 0, .int .i64 0, .int .u16 0, .bool false, .bool false, .int .i64 0, .int .u8 0, .int .u8 0, .int .u16 0, .bool false, .int .u64 0, .int .u64 0, .bool false, .int .u64 0, .int .u64 0, .slice none 0 0] 140)) w.heap.size 140 (h4C 0 0 0 false false 0 0 0 0 false 0 0 false 0 0 none 0 0) := Bk.new w 140 #[.int .u8 0, .int .i64 0, .int .u16 0, .bool false, .bool false, .int .i64 0, .int .u8 0, .int .u8 0, .int .u16 0, .bool false, .int .u64 0, .int .u64 0, .bool false, .int .u64 0, .int .u64 0, .slice none 0 0]
  have be : Below w.heap.size w (w.alloc (.cells #[.int .u8 0, .int .i64 0, .int .u16 0, .bool false, .bool false, .int .i64 0, .int .u8 0, .int .u8 0, .int .u16 0, .bool false, .int .u64 0, .int .u64 0, .bool false, .int .u64 0, .int .u64 0, .slice none 0 0] 140)) := Below.allocS (Below.refl _ _) _
  go_enter Try.func72, Try.ntmps72
  go_wp2_with fail
  refine (HH.out _ be).mono ?_
  rintro e w1 ⟨Ao, no, ko, bs1, d1, rfl, rfl, hoo⟩
  have zo : ∀ a, Ao = some a → ¬ (fun b => b = w.heap.size) a.block := fun a ha hb => by
    subst ha
    have := (hoo.blk a.block rfl).1
    have hb' : a.block = w.heap.size := hb
    simp at this
    omega
  go_upto_region 2 with (refine at_op (.store 140 (.tmp 5) (.tmp 11)) rfl ?_; refine wpList_stA (t := 140) 140 (.tmp 5) (.tmp 11) rfl rfl (h4C ts (ln : Int) id st mo (fo : Int) tl pr sm false 0 sa false 0 da Ao no ko) (h4C 0 0 0 false false 0 0 0 0 false 0 0 false 0 0 none 0 0) rfl (h4C_one _ _ _ _ _ _ _ _ _ _ _ _ _ _ _ _ _ _) rfl rfl ?_ (szH4 _ _ _ _ _ _ _ _ _ _ _ _ _ _ _ _ _ _) ?_; (· refine Bk.newK _ _ _ ?_ rfl; simp [size_plus]); intro W b5 hgr)
  have zb := be.size
  replace b2 := ((b2.later (below_plus _ bs1 d1)).alloc _).grown hgr (by simp; omega)
  have hro := hoo.rb.later (below_grown (Below.allocS (Below.refl _ _) _) hgr (by simp [size_plus]))
  replace be := below_grown (Below.allocS (belowP be bs1 d1) _) hgr (by omega)
  have hr := hr0.later be
  have hg5 : w.heap.size < w.heap.size + 1 + bs1.length := by omega
  generalize w.heap.size + 1 + bs1.length = g5 at *
  have hDb : ∀ b, (fun b => b = w.heap.size) b → b < W.heap.size := fun b hb => by subst hb; exact b2.lt
  have hrd : ∀ a, cutA (some ⟨b, off, none⟩) c sz 1 = some a → ¬ (fun b => b = w.heap.size) a.block := fun a ha hb => by
    have : a.block = b := by
      unfold cutA at ha
      split at ha
      · injection ha with ha; subst ha; rfl
      · simp [add_plain] at ha; subst ha; rfl
    have hb' : a.block = w.heap.size := hb
    omega
  clear hgr zb h hoo
  go_wp2
  refine wp_su (fun b => b = w.heap.size) 10 25 2 [7] rfl (by kernel_rfl) (by kernel_rfl) (fun i => match i with | 0 => MC.eq (.agg (h4C ts (ln : Int) id st mo (fo : Int) tl pr sm false 0 sa false 0 da Ao no ko).toArray) | 1 => MC.eq (.slice (some ⟨b, off, none⟩) n c) | 2 => MC.eq (.int .i64 (sz : Int)) | 3 => MC.eq (.pointer (some ⟨g5, 1, none⟩)) | 4 => MC.eq (.int .i64 (ln : Int)) | 5 => MC.eq (.slice (cutA (some ⟨b, off, none⟩) c sz 1) (ln - sz) (c - sz)) | 6 => MC.ob W.heap.size hDb load | 7 => MC.any | 8 => MC.ob W.heap.size hDb load | 9 => MC.eq (.int .i64 0) | _ => MC.any) (fun k w' => Bk w' w.heap.size 140 (if k = 0 then h4C 0 0 0 false false 0 0 0 0 false 0 0 false 0 0 none 0 0 else h4C ts (ln : Int) id st mo (fo : Int) tl pr sm false 0 sa false 0 da Ao no ko)) ?_ ?_ ?_ ?_ ?_
  · exact fun k w w' h h' => h.later h'.below
  · exact b2
  · intro i hi o ho hq FA w' hC hO hD K hK
    match i, hi, ho, hq, hO, hD, hK with
    | 0, _, ho, hq, hO, hD, hK => 
      obtain rfl := Option.some.inj ho.symm
      clear ho hq
      have ev5 : FA.eval (.tmp 5) = .pointer (some ⟨g5, 0, none⟩) := hO 5 (by kernel_rfl)
      have e5 : FA.tmps[5]?.getD undef = .pointer (some ⟨g5, 0, none⟩) := by simpa [Act.eval] using ev5
      replace ev5 := Lib.hid ev5
      clear hO hD
      refine wanted_if rfl ?_
      refine wp_load_mid 140 (.tmp 5) rfl g5 0 ev5.out (h4C ts (ln : Int) id st mo (fo : Int) tl pr sm false 0 sa false 0 da Ao no ko) _ (Bk.range (b5.chg hC (by omega))) u1 u2 (szH4 _ _ _ _ _ _ _ _ _ _ _ _ _ _ _ _ _ _) ?_
      exact hK.out _ _ (Ex.refl _) rfl
    | 1, _, ho, hq, hO, hD, hK => 
      obtain rfl := Option.some.inj ho.symm
      clear ho hq
      have ev0 : FA.eval (.tmp 0) = .slice (some ⟨b, off, none⟩) n c := hO 0 (by kernel_rfl)
      have e0 : FA.tmps[0]?.getD undef = .slice (some ⟨b, off, none⟩) n c := by simpa [Act.eval] using ev0
      replace ev0 := Lib.hid ev0
      clear hO hD
      go_simp
      exact hK.out _ _ (Ex.refl _) rfl
    | 2, _, ho, hq, hO, hD, hK => 
      obtain rfl := Option.some.inj ho.symm
      clear ho hq
      have ev6 : FA.eval (.tmp 6) = .int .i64 (sz : Int) := hO 6 (by kernel_rfl)
      have e6 : FA.tmps[6]?.getD undef = .int .i64 (sz : Int) := by simpa [Act.eval] using ev6
      replace ev6 := Lib.hid ev6
      clear hO hD
      go_simp
      exact hK.out _ _ (Ex.refl _) rfl
    | 3, _, ho, hq, hO, hD, hK => 
      obtain rfl := Option.some.inj ho.symm
      clear ho hq
      have ev5 : FA.eval (.tmp 5) = .pointer (some ⟨g5, 0, none⟩) := hO 5 (by kernel_rfl)
      have e5 : FA.tmps[5]?.getD undef = .pointer (some ⟨g5, 0, none⟩) := by simpa [Act.eval] using ev5
      replace ev5 := Lib.hid ev5
      clear hO hD
      go_simp
      exact hK.out _ _ (Ex.refl _) rfl
    | 4, _, ho, hq, hO, hD, hK => 
      obtain rfl := Option.some.inj ho.symm
      clear ho hq
      have ev21 : FA.eval (.tmp 21) = .pointer (some ⟨g5, 1, none⟩) := hD 3 21 (by kernel_rfl)
      have e21 : FA.tmps[21]?.getD undef = .pointer (some ⟨g5, 1, none⟩) := by simpa [Act.eval] using ev21
      replace ev21 := Lib.hid ev21
      clear hO hD
      have cc : w'.cell? ⟨g5, 1, none⟩ = some (.int .i64 (ln : Int)) := (b5.chg hC (by omega)).cell 1
      go_simp
      exact hK.out _ _ (Ex.refl _) rfl
    | 5, _, ho, hq, hO, hD, hK => 
      obtain rfl := Option.some.inj ho.symm
      clear ho hq
      have ev19 : FA.eval (.tmp 19) = .slice (some ⟨b, off, none⟩) n c := hD 1 19 (by kernel_rfl)
      have e19 : FA.tmps[19]?.getD undef = .slice (some ⟨b, off, none⟩) n c := by simpa [Act.eval] using ev19
      replace ev19 := Lib.hid ev19
      have ev20 : FA.eval (.tmp 20) = .int .i64 (sz : Int) := hD 2 20 (by kernel_rfl)
      have e20 : FA.tmps[20]?.getD undef = .int .i64 (sz : Int) := by simpa [Act.eval] using ev20
      replace ev20 := Lib.hid ev20
      have ev22 : FA.eval (.tmp 22) = .int .i64 (ln : Int) := hD 4 22 (by kernel_rfl)
      have e22 : FA.tmps[22]?.getD undef = .int .i64 (ln : Int) := by simpa [Act.eval] using ev22
      replace ev22 := Lib.hid ev22
      clear hO hD
      go_simp
      exact hK.out _ _ (Ex.refl _) rfl
    | 6, _, ho, hq, hO, hD, hK => 
      obtain rfl := Option.some.inj ho.symm
      clear ho hq
      have ev23 : FA.eval (.tmp 23) = .slice (cutA (some ⟨b, off, none⟩) c sz 1) (ln - sz) (c - sz) := hD 5 23 (by kernel_rfl)
      have e23 : FA.tmps[23]?.getD undef = .slice (cutA (some ⟨b, off, none⟩) c sz 1) (ln - sz) (c - sz) := by simpa [Act.eval] using ev23
      replace ev23 := Lib.hid ev23
      clear hO hD
      go_simp
      refine (clone_any _ _ _ load _ (hr.chg hC hrd) (by omega)).mono ?_
      rintro e w1 ⟨A2, n2, c2, bs2, d2, rfl, rfl, ho2⟩
      exact hK.out _ _ (Ex.plus_ _ _ _) ⟨_, _, _, rfl, ho2.mono hC.size⟩
    | 7, _, _, hq, _, _, _ => exact absurd hq (by decide)
    | 8, _, ho, hq, hO, hD, hK => 
      obtain rfl := Option.some.inj ho.symm
      clear ho hq
      have f24 := hD 6 24 (by kernel_rfl)
      generalize eu24 : FA.eval (.tmp 24) = u24 at f24
      have e24 : FA.tmps[24]?.getD undef = u24 := by rw [← eu24]; simp [Act.eval]
      have ev24 := Lib.hid eu24
      clear eu24
      clear hO hD
      go_simp
      exact hK.out _ _ (Ex.refl _) f24
    | 9, _, ho, hq, hO, hD, hK => 
      obtain rfl := Option.some.inj ho.symm
      clear ho hq
      clear hO hD
      go_simp
      exact hK.out _ _ (Ex.refl _) rfl
    | (k + 10), hi, _, _, _, _, _ => exact absurd hi (by omega)
  · intro k i hk o ho FA w' hC hS hO hD K hK
    match k, hk, hS, hK with
    | 0, hk, hS, hK => 
      obtain rfl : 7 = i := Option.some.inj hk
      obtain rfl := Option.some.inj ho.symm
      clear ho hk
      have ev2 : FA.eval (.tmp 2) = .pointer (some ⟨w.heap.size, 0, none⟩) := hO 2 (by kernel_rfl)
      have e2 : FA.tmps[2]?.getD undef = .pointer (some ⟨w.heap.size, 0, none⟩) := by simpa [Act.eval] using ev2
      replace ev2 := Lib.hid ev2
      have ev18 : FA.eval (.tmp 18) = .agg (h4C ts (ln : Int) id st mo (fo : Int) tl pr sm false 0 sa false 0 da Ao no ko).toArray := hD 0 18 (by kernel_rfl)
      have e18 : FA.tmps[18]?.getD undef = .agg (h4C ts (ln : Int) id st mo (fo : Int) tl pr sm false 0 sa false 0 da Ao no ko).toArray := by simpa [Act.eval] using ev18
      replace ev18 := Lib.hid ev18
      clear hO hD
      refine wanted_if rfl ?_
      refine wp_stA 140 (.tmp 2) (.tmp 18) rfl (h4C ts (ln : Int) id st mo (fo : Int) tl pr sm false 0 sa false 0 da Ao no ko) (h4C 0 0 0 false false 0 0 0 0 false 0 0 false 0 0 none 0 0) rfl (h4C_one _ _ _ _ _ _ _ _ _ _ _ _ _ _ _ _ _ _) ev2.out ev18.out hS (szH4 _ _ _ _ _ _ _ _ _ _ _ _ _ _ _ _ _ _) ?_
      intro w'' hn hg
      exact hK.out _ _ (Chg.one hg rfl) hn trivial
    | (k + 1), hk, _, _ => simp at hk
  intro vs w' hC hS hp
  have p0 : vs 0 = .agg (h4C ts (ln : Int) id st mo (fo : Int) tl pr sm false 0 sa false 0 da Ao no ko).toArray := hp 0 (by omega) rfl
  have p1 : vs 1 = .slice (some ⟨b, off, none⟩) n c := hp 1 (by omega) rfl
  have p2 : vs 2 = .int .i64 (sz : Int) := hp 2 (by omega) rfl
  have p3 : vs 3 = .pointer (some ⟨g5, 1, none⟩) := hp 3 (by omega) rfl
  have p4 : vs 4 = .int .i64 (ln : Int) := hp 4 (by omega) rfl
  have p5 : vs 5 = .slice (cutA (some ⟨b, off, none⟩) c sz 1) (ln - sz) (c - sz) := hp 5 (by omega) rfl
  have p6 := hp 6 (by omega) rfl
  have p8 := hp 8 (by omega) rfl
  have p9 : vs 9 = .int .i64 0 := hp 9 (by omega) rfl
  clear hp
  simp only [List.take_succ_cons, List.take_zero, List.drop_succ_cons, List.drop_zero, putAll, Nat.zero_add, Nat.reduceAdd, Act.put, List.setIfInBounds_toArray, List.set_cons_zero, List.set_cons_succ, p0, p1, p2, p3, p4, p5, p9]
  clear p0 p1 p2 p3 p4 p5 p9
  generalize vs 6 = y6 at *
  generalize vs 8 = y8 at *
  clear vs
  obtain ⟨A8, n8, c8, rfl, h8⟩ := p8
  go_wp2
  refine bodyPost_agg3 Try.results72 rfl rfl rfl (Bk.range hS) u1 u2 (szH4 _ _ _ _ _ _ _ _ _ _ _ _ _ _ _ _ _ _) rfl (RetP4.mk (hro.chg hC zo) h8.rb (h8.fresh be.size) ?_)
  exact be.trans (hC.below (B := w.heap.size) (fun b hb => by have : b = w.heap.size := hb; omega) be.size)
end Go.Proofs.Ytfmkndemkpecpaa

