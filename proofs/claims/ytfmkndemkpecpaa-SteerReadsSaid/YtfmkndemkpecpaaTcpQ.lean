/- Contracts of the reference's Parse of TCP segments. -/
import Derived.Test.YtfmkndemkpecpaaTcpP
namespace Go.Proofs.Ytfmkndemkpecpaa
open Go.RowKit
set_option linter.unusedVariables false
set_option linter.unusedSimpArgs false
attribute [local go_sem ↓] sliced_cut
attribute [local go_sem] cutA_zero

theorem refGetV (A : Option Addr) (n c : Nat) (l : List UInt8) (k s : Int) (k' s' x : Nat) (w : World) (h : Rb w A n c l) (hk : k = k') (hs : s = s') (hx : num ((l.drop k').take s') = x) (hm : n ≤ 1099511627776) (hn : k' + s' ≤ n) (h8 : s' ≤ 8) :
    Calls Try.prog 54 #[.slice A n c, .int .i64 k, .int .i64 s] w fun e w' => e = .returned (.int .u64 (x : Nat)) ∧ w = w' := by
  subst hk hs hx
  exact refGet_any A n c l k' s' w h hm hn h8
theorem szSegR (cs : List Value) (h : cs.length = 10) : (Try.prog.info? 56).map (·.size) = some cs.length := by rw [h]; kernel_rfl
set_option maxRecDepth 100000 in
theorem run_buildSegR0 (w : World) : (Instr.build 56 #[]).run Try.prog w = .ok (.agg #[.int .u16 0, .int .u16 0, .int .u32 0, .int .u32 0, .int .u8 0, .int .u16 0, .int .u16 0, .int .u16 0, .slice none 0 0, .slice none 0 0]) w := by kernel_rfl

theorem refTcpParse_short (A : Option Addr) (n c : Nat) (l : List UInt8) (w : World) (hr : Rb w A n c l) (hn : n < 20) : Calls Try.prog 56 #[.slice A n c] w (RetSeg w 0 0 0 0 0 0 0 0 [] [] (.int .i64 20)) := by
  have hZ : Bk (w.alloc (.cells #[.int .u16 0, .int .u16 0, .int .u32 0, .int .u32 0, .int .u8 0, .int .u16 0, .int .u16 0, .int .u16 0, .slice none 0 0, .slice none 0 0] 56)) w.heap.size 56 [.int .u16 0, .int .u16 0, .int .u32 0, .int .u32 0, .int .u8 0, .int .u16 0, .int .u16 0, .int .u16 0, .slice none 0 0, .slice none 0 0] := Bk.new w 56 #[.int .u16 0, .int .u16 0, .int .u32 0, .int .u32 0, .int .u8 0, .int .u16 0, .int .u16 0, .int .u16 0, .slice none 0 0, .slice none 0 0]
  go_enter Try.func56, Try.ntmps56
  go_wp2_with (first
    | (refine at_op (.build 56 #[]) rfl ?_; refine wpList_build 56 [] rfl rfl (.agg #[.int .u16 0, .int .u16 0, .int .u32 0, .int .u32 0, .int .u8 0, .int .u16 0, .int .u16 0, .int .u16 0, .slice none 0 0, .slice none 0 0]) ?_ ?_; exact run_buildSegR0 _)
    | (refine at_op (.store 56 (.tmp 2) (.tmp 9)) rfl ?_; refine wpList_stA (t := 56) 56 (.tmp 2) (.tmp 9) rfl rfl [.int .u16 0, .int .u16 0, .int .u32 0, .int .u32 0, .int .u8 0, .int .u16 0, .int .u16 0, .int .u16 0, .slice none 0 0, .slice none 0 0] [.int .u16 0, .int .u16 0, .int .u32 0, .int .u32 0, .int .u8 0, .int .u16 0, .int .u16 0, .int .u16 0, .slice none 0 0, .slice none 0 0] rfl (by simp [Value.oneCell']) rfl rfl hZ (szSegR _ rfl) ?_; intro w2 hb2 hg2))
  refine bodyPost_agg2 Try.results56 rfl rfl hb2.range Try.underlying56 rfl (szSegR _ rfl) rfl (RetSeg.zero ?_)
  exact below_grown ((Below.refl _ _).alloc (Nat.le_refl _) _) hg2 (Nat.le_refl _)

set_option maxHeartbeats 4000000 in
theorem refTcpParse_form1 (A : Option Addr) (n c : Nat) (l : List UInt8) (w : World) (hr : Rb w A n c l) (h20 : 20 ≤ n) (hn : n ≤ 1000000) (x0 : Nat) (x1 : Nat) (x2 : Nat) (x3 : Nat) (xf : Nat) (x4 : Nat) (x5 : Nat) (x6 : Nat) (x7 : Nat) (hx0 : num ((l.drop 0).take 2) = x0) (hx1 : num ((l.drop 2).take 2) = x1) (hx2 : num ((l.drop 4).take 4) = x2) (hx3 : num ((l.drop 8).take 4) = x3) (hxf : num ((l.drop 12).take 1) = xf) (hx4 : num ((l.drop 13).take 1) = x4) (hx5 : num ((l.drop 14).take 2) = x5) (hx6 : num ((l.drop 16).take 2) = x6) (hx7 : num ((l.drop 18).take 2) = x7) (hs : xf / 16 < 5) :
    Calls Try.prog 56 #[.slice A n c] w (RetSeg w 0 0 0 0 0 0 0 0 [] [] (.int .i64 21)) := by
  have hc := hr.cap
  have h20i : (20 : Int) ≤ (n : Int) := by omega
  have hf : xf < 256 := by rw [← hxf]; exact num_lt' l 12 1 256 (by decide)
  obtain ⟨b, off, rfl, hlt, hcell⟩ := hr.2.2.at_ (by rw [bcs_length, hr.1]; omega)
  have q12 := num_cell hcell 12 (by rw [hr.1]; omega)
  have q13 := num_cell hcell 13 (by rw [hr.1]; omega)
  rw [hxf] at q12
  rw [hx4] at q13
  have i12 : (12 : Int) < (n : Int) := by omega
  have i13 : (13 : Int) < (n : Int) := by omega
  have Hx0 := Lib.hid hx0
  have Hx1 := Lib.hid hx1
  have Hx2 := Lib.hid hx2
  have Hx3 := Lib.hid hx3
  have Hxf := Lib.hid hxf
  have Hx4 := Lib.hid hx4
  have Hx5 := Lib.hid hx5
  have Hx6 := Lib.hid hx6
  have Hx7 := Lib.hid hx7
  clear hx0 hx1 hx2 hx3 hxf hx4 hx5 hx6 hx7 hcell
  have t1 : decide (((xf : Int) / 16) * 4 < 20) = true := by simp; omega
  have hZ : Bk (w.alloc (.cells #[.int .u16 0, .int .u16 0, .int .u32 0, .int .u32 0, .int .u8 0, .int .u16 0, .int .u16 0, .int .u16 0, .slice none 0 0, .slice none 0 0] 56)) w.heap.size 56 [.int .u16 0, .int .u16 0, .int .u32 0, .int .u32 0, .int .u8 0, .int .u16 0, .int .u16 0, .int .u16 0, .slice none 0 0, .slice none 0 0] := Bk.new w 56 #[.int .u16 0, .int .u16 0, .int .u32 0, .int .u32 0, .int .u8 0, .int .u16 0, .int .u16 0, .int .u16 0, .slice none 0 0, .slice none 0 0]
  go_enter Try.func56, Try.ntmps56
  go_wp2_with (first
    | (refine at_op (.build 56 #[]) rfl ?_; refine wpList_build 56 [] rfl rfl (.agg #[.int .u16 0, .int .u16 0, .int .u32 0, .int .u32 0, .int .u8 0, .int .u16 0, .int .u16 0, .int .u16 0, .slice none 0 0, .slice none 0 0]) ?_ ?_; exact run_buildSegR0 _)
    | (refine at_op (.store 56 (.tmp 2) (.tmp 25)) rfl ?_; refine wpList_stA (t := 56) 56 (.tmp 2) (.tmp 25) rfl rfl [.int .u16 0, .int .u16 0, .int .u32 0, .int .u32 0, .int .u8 0, .int .u16 0, .int .u16 0, .int .u16 0, .slice none 0 0, .slice none 0 0] [.int .u16 0, .int .u16 0, .int .u32 0, .int .u32 0, .int .u8 0, .int .u16 0, .int .u16 0, .int .u16 0, .slice none 0 0, .slice none 0 0] rfl (by simp [Value.oneCell']) rfl rfl hZ (szSegR _ rfl) ?_; intro w2 hb2 hg2))
  refine bodyPost_agg2 Try.results56 rfl rfl hb2.range Try.underlying56 rfl (szSegR _ rfl) rfl (RetSeg.zero ?_)
  exact below_grown ((Below.refl _ _).alloc (Nat.le_refl _) _) hg2 (Nat.le_refl _)

set_option maxHeartbeats 4000000 in
theorem refTcpParse_form2 (A : Option Addr) (n c : Nat) (l : List UInt8) (w : World) (hr : Rb w A n c l) (h20 : 20 ≤ n) (hn : n ≤ 1000000) (x0 : Nat) (x1 : Nat) (x2 : Nat) (x3 : Nat) (xf : Nat) (x4 : Nat) (x5 : Nat) (x6 : Nat) (x7 : Nat) (hx0 : num ((l.drop 0).take 2) = x0) (hx1 : num ((l.drop 2).take 2) = x1) (hx2 : num ((l.drop 4).take 4) = x2) (hx3 : num ((l.drop 8).take 4) = x3) (hxf : num ((l.drop 12).take 1) = xf) (hx4 : num ((l.drop 13).take 1) = x4) (hx5 : num ((l.drop 14).take 2) = x5) (hx6 : num ((l.drop 16).take 2) = x6) (hx7 : num ((l.drop 18).take 2) = x7) (hs : 5 ≤ xf / 16) (hm : xf % 16 ≠ 0) :
    Calls Try.prog 56 #[.slice A n c] w (RetSeg w 0 0 0 0 0 0 0 0 [] [] (.int .i64 21)) := by
  have hc := hr.cap
  have h20i : (20 : Int) ≤ (n : Int) := by omega
  have hf : xf < 256 := by rw [← hxf]; exact num_lt' l 12 1 256 (by decide)
  obtain ⟨b, off, rfl, hlt, hcell⟩ := hr.2.2.at_ (by rw [bcs_length, hr.1]; omega)
  have q12 := num_cell hcell 12 (by rw [hr.1]; omega)
  have q13 := num_cell hcell 13 (by rw [hr.1]; omega)
  rw [hxf] at q12
  rw [hx4] at q13
  have i12 : (12 : Int) < (n : Int) := by omega
  have i13 : (13 : Int) < (n : Int) := by omega
  have Hx0 := Lib.hid hx0
  have Hx1 := Lib.hid hx1
  have Hx2 := Lib.hid hx2
  have Hx3 := Lib.hid hx3
  have Hxf := Lib.hid hxf
  have Hx4 := Lib.hid hx4
  have Hx5 := Lib.hid hx5
  have Hx6 := Lib.hid hx6
  have Hx7 := Lib.hid hx7
  clear hx0 hx1 hx2 hx3 hxf hx4 hx5 hx6 hx7 hcell
  have t1 : decide (((xf : Int) / 16) * 4 < 20) = false := by simp; omega
  have t2 : (((xf : Int) % 16) != 0) = true := by rw [bne_iff_ne]; omega
  have hZ : Bk (w.alloc (.cells #[.int .u16 0, .int .u16 0, .int .u32 0, .int .u32 0, .int .u8 0, .int .u16 0, .int .u16 0, .int .u16 0, .slice none 0 0, .slice none 0 0] 56)) w.heap.size 56 [.int .u16 0, .int .u16 0, .int .u32 0, .int .u32 0, .int .u8 0, .int .u16 0, .int .u16 0, .int .u16 0, .slice none 0 0, .slice none 0 0] := Bk.new w 56 #[.int .u16 0, .int .u16 0, .int .u32 0, .int .u32 0, .int .u8 0, .int .u16 0, .int .u16 0, .int .u16 0, .slice none 0 0, .slice none 0 0]
  go_enter Try.func56, Try.ntmps56
  go_wp2_with (first
    | (refine at_op (.build 56 #[]) rfl ?_; refine wpList_build 56 [] rfl rfl (.agg #[.int .u16 0, .int .u16 0, .int .u32 0, .int .u32 0, .int .u8 0, .int .u16 0, .int .u16 0, .int .u16 0, .slice none 0 0, .slice none 0 0]) ?_ ?_; exact run_buildSegR0 _)
    | (refine at_op (.store 56 (.tmp 2) (.tmp 25)) rfl ?_; refine wpList_stA (t := 56) 56 (.tmp 2) (.tmp 25) rfl rfl [.int .u16 0, .int .u16 0, .int .u32 0, .int .u32 0, .int .u8 0, .int .u16 0, .int .u16 0, .int .u16 0, .slice none 0 0, .slice none 0 0] [.int .u16 0, .int .u16 0, .int .u32 0, .int .u32 0, .int .u8 0, .int .u16 0, .int .u16 0, .int .u16 0, .slice none 0 0, .slice none 0 0] rfl (by simp [Value.oneCell']) rfl rfl hZ (szSegR _ rfl) ?_; intro w2 hb2 hg2))
  refine bodyPost_agg2 Try.results56 rfl rfl hb2.range Try.underlying56 rfl (szSegR _ rfl) rfl (RetSeg.zero ?_)
  exact below_grown ((Below.refl _ _).alloc (Nat.le_refl _) _) hg2 (Nat.le_refl _)

set_option maxHeartbeats 4000000 in
theorem refTcpParse_short2 (A : Option Addr) (n c : Nat) (l : List UInt8) (w : World) (hr : Rb w A n c l) (h20 : 20 ≤ n) (hn : n ≤ 1000000) (x0 : Nat) (x1 : Nat) (x2 : Nat) (x3 : Nat) (xf : Nat) (x4 : Nat) (x5 : Nat) (x6 : Nat) (x7 : Nat) (hx0 : num ((l.drop 0).take 2) = x0) (hx1 : num ((l.drop 2).take 2) = x1) (hx2 : num ((l.drop 4).take 4) = x2) (hx3 : num ((l.drop 8).take 4) = x3) (hxf : num ((l.drop 12).take 1) = xf) (hx4 : num ((l.drop 13).take 1) = x4) (hx5 : num ((l.drop 14).take 2) = x5) (hx6 : num ((l.drop 16).take 2) = x6) (hx7 : num ((l.drop 18).take 2) = x7) (hs : 5 ≤ xf / 16) (hm : xf % 16 = 0) (hz : n < 4 * (xf / 16)) :
    Calls Try.prog 56 #[.slice A n c] w (RetSeg w 0 0 0 0 0 0 0 0 [] [] (.int .i64 20)) := by
  have hc := hr.cap
  have h20i : (20 : Int) ≤ (n : Int) := by omega
  have hf : xf < 256 := by rw [← hxf]; exact num_lt' l 12 1 256 (by decide)
  obtain ⟨b, off, rfl, hlt, hcell⟩ := hr.2.2.at_ (by rw [bcs_length, hr.1]; omega)
  have q12 := num_cell hcell 12 (by rw [hr.1]; omega)
  have q13 := num_cell hcell 13 (by rw [hr.1]; omega)
  rw [hxf] at q12
  rw [hx4] at q13
  have i12 : (12 : Int) < (n : Int) := by omega
  have i13 : (13 : Int) < (n : Int) := by omega
  have Hx0 := Lib.hid hx0
  have Hx1 := Lib.hid hx1
  have Hx2 := Lib.hid hx2
  have Hx3 := Lib.hid hx3
  have Hxf := Lib.hid hxf
  have Hx4 := Lib.hid hx4
  have Hx5 := Lib.hid hx5
  have Hx6 := Lib.hid hx6
  have Hx7 := Lib.hid hx7
  clear hx0 hx1 hx2 hx3 hxf hx4 hx5 hx6 hx7 hcell
  have t1 : decide (((xf : Int) / 16) * 4 < 20) = false := by simp; omega
  have t2 : (((xf : Int) % 16) != 0) = false := by rw [bne_eq_false_iff_eq]; omega
  have t3 : decide ((n : Int) < ((xf : Int) / 16) * 4) = true := by simp; omega
  have hZ : Bk (w.alloc (.cells #[.int .u16 0, .int .u16 0, .int .u32 0, .int .u32 0, .int .u8 0, .int .u16 0, .int .u16 0, .int .u16 0, .slice none 0 0, .slice none 0 0] 56)) w.heap.size 56 [.int .u16 0, .int .u16 0, .int .u32 0, .int .u32 0, .int .u8 0, .int .u16 0, .int .u16 0, .int .u16 0, .slice none 0 0, .slice none 0 0] := Bk.new w 56 #[.int .u16 0, .int .u16 0, .int .u32 0, .int .u32 0, .int .u8 0, .int .u16 0, .int .u16 0, .int .u16 0, .slice none 0 0, .slice none 0 0]
  go_enter Try.func56, Try.ntmps56
  go_wp2_with (first
    | (refine at_op (.build 56 #[]) rfl ?_; refine wpList_build 56 [] rfl rfl (.agg #[.int .u16 0, .int .u16 0, .int .u32 0, .int .u32 0, .int .u8 0, .int .u16 0, .int .u16 0, .int .u16 0, .slice none 0 0, .slice none 0 0]) ?_ ?_; exact run_buildSegR0 _)
    | (refine at_op (.store 56 (.tmp 2) (.tmp 30)) rfl ?_; refine wpList_stA (t := 56) 56 (.tmp 2) (.tmp 30) rfl rfl [.int .u16 0, .int .u16 0, .int .u32 0, .int .u32 0, .int .u8 0, .int .u16 0, .int .u16 0, .int .u16 0, .slice none 0 0, .slice none 0 0] [.int .u16 0, .int .u16 0, .int .u32 0, .int .u32 0, .int .u8 0, .int .u16 0, .int .u16 0, .int .u16 0, .slice none 0 0, .slice none 0 0] rfl (by simp [Value.oneCell']) rfl rfl hZ (szSegR _ rfl) ?_; intro w2 hb2 hg2))
  refine bodyPost_agg2 Try.results56 rfl rfl hb2.range Try.underlying56 rfl (szSegR _ rfl) rfl (RetSeg.zero ?_)
  exact below_grown ((Below.refl _ _).alloc (Nat.le_refl _) _) hg2 (Nat.le_refl _)

set_option maxHeartbeats 4000000 in
theorem refTcpParse_ok (A : Option Addr) (n c : Nat) (l : List UInt8) (w : World) (hr : Rb w A n c l) (h20 : 20 ≤ n) (hn : n ≤ 1000000) (x0 : Nat) (x1 : Nat) (x2 : Nat) (x3 : Nat) (xf : Nat) (x4 : Nat) (x5 : Nat) (x6 : Nat) (x7 : Nat) (hx0 : num ((l.drop 0).take 2) = x0) (hx1 : num ((l.drop 2).take 2) = x1) (hx2 : num ((l.drop 4).take 4) = x2) (hx3 : num ((l.drop 8).take 4) = x3) (hxf : num ((l.drop 12).take 1) = xf) (hx4 : num ((l.drop 13).take 1) = x4) (hx5 : num ((l.drop 14).take 2) = x5) (hx6 : num ((l.drop 16).take 2) = x6) (hx7 : num ((l.drop 18).take 2) = x7) (hs : 5 ≤ xf / 16) (hm : xf % 16 = 0) (sz : Nat) (hsz : sz = 4 * (xf / 16)) (hz : sz ≤ n) :
    Calls Try.prog 56 #[.slice A n c] w (RetSeg w x0 x1 x2 x3 x4 x5 x6 x7 ((l.drop 20).take (sz - 20)) (l.drop sz) (.int .i64 0)) := by
  have hc := hr.cap
  have h20i : (20 : Int) ≤ (n : Int) := by omega
  have hf : xf < 256 := by rw [← hxf]; exact num_lt' l 12 1 256 (by decide)
  obtain ⟨b, off, rfl, hlt, hcell⟩ := hr.2.2.at_ (by rw [bcs_length, hr.1]; omega)
  have q12 := num_cell hcell 12 (by rw [hr.1]; omega)
  have q13 := num_cell hcell 13 (by rw [hr.1]; omega)
  rw [hxf] at q12
  rw [hx4] at q13
  have i12 : (12 : Int) < (n : Int) := by omega
  have i13 : (13 : Int) < (n : Int) := by omega
  have Hx0 := Lib.hid hx0
  have Hx1 := Lib.hid hx1
  have Hx2 := Lib.hid hx2
  have Hx3 := Lib.hid hx3
  have Hxf := Lib.hid hxf
  have Hx4 := Lib.hid hx4
  have Hx5 := Lib.hid hx5
  have Hx6 := Lib.hid hx6
  have Hx7 := Lib.hid hx7
  clear hx0 hx1 hx2 hx3 hxf hx4 hx5 hx6 hx7 hcell
  have kx0 : x0 < 65536 := by rw [← Hx0.out]; exact num_lt' l 0 2 65536 (by decide)
  have cx0 : IntKind.u16.wrap (x0 : Int) = (x0 : Int) := by rw [IntKind.wrap_u16]; omega
  have kx1 : x1 < 65536 := by rw [← Hx1.out]; exact num_lt' l 2 2 65536 (by decide)
  have cx1 : IntKind.u16.wrap (x1 : Int) = (x1 : Int) := by rw [IntKind.wrap_u16]; omega
  have kx2 : x2 < 4294967296 := by rw [← Hx2.out]; exact num_lt' l 4 4 4294967296 (by decide)
  have cx2 : IntKind.u32.wrap (x2 : Int) = (x2 : Int) := by rw [IntKind.wrap_u32']; omega
  have kx3 : x3 < 4294967296 := by rw [← Hx3.out]; exact num_lt' l 8 4 4294967296 (by decide)
  have cx3 : IntKind.u32.wrap (x3 : Int) = (x3 : Int) := by rw [IntKind.wrap_u32']; omega
  have kx5 : x5 < 65536 := by rw [← Hx5.out]; exact num_lt' l 14 2 65536 (by decide)
  have cx5 : IntKind.u16.wrap (x5 : Int) = (x5 : Int) := by rw [IntKind.wrap_u16]; omega
  have kx6 : x6 < 65536 := by rw [← Hx6.out]; exact num_lt' l 16 2 65536 (by decide)
  have cx6 : IntKind.u16.wrap (x6 : Int) = (x6 : Int) := by rw [IntKind.wrap_u16]; omega
  have kx7 : x7 < 65536 := by rw [← Hx7.out]; exact num_lt' l 18 2 65536 (by decide)
  have cx7 : IntKind.u16.wrap (x7 : Int) = (x7 : Int) := by rw [IntKind.wrap_u16]; omega
  have esz : ((xf : Int) / 16) * 4 = (sz : Int) := by omega
  have hs2 : 20 ≤ sz := by omega
  have t2 : (((xf : Int) % 16) != 0) = false := by rw [bne_eq_false_iff_eq]; omega
  have HSZ := Lib.hid hsz
  clear hsz hm
  have t1 : decide ((sz : Int) < 20) = false := by simp; omega
  have hZ : Bk (w.alloc (.cells #[.int .u16 0, .int .u16 0, .int .u32 0, .int .u32 0, .int .u8 0, .int .u16 0, .int .u16 0, .int .u16 0, .slice none 0 0, .slice none 0 0] 56)) w.heap.size 56 [.int .u16 0, .int .u16 0, .int .u32 0, .int .u32 0, .int .u8 0, .int .u16 0, .int .u16 0, .int .u16 0, .slice none 0 0, .slice none 0 0] := Bk.new w 56 #[.int .u16 0, .int .u16 0, .int .u32 0, .int .u32 0, .int .u8 0, .int .u16 0, .int .u16 0, .int .u16 0, .slice none 0 0, .slice none 0 0]
  go_enter Try.func56, Try.ntmps56
  go_wp2
  refine wp_relE 26 69 [0, 2, 3, 5, 6, 8, 9, 11, 12, 15, 17, 18, 20, 21, 23] rfl (by kernel_rfl) (by kernel_rfl) (fun i => match i with | 0 => MP.eq (.slice (some ⟨b, off, none⟩) n c) | 1 => MP.eq (.int .u64 (x0 : Nat)) | 2 => MP.eq (.int .u16 (x0 : Nat)) | 3 => MP.eq (.slice (some ⟨b, off, none⟩) n c) | 4 => MP.eq (.int .u64 (x1 : Nat)) | 5 => MP.eq (.int .u16 (x1 : Nat)) | 6 => MP.eq (.slice (some ⟨b, off, none⟩) n c) | 7 => MP.eq (.int .u64 (x2 : Nat)) | 8 => MP.eq (.int .u32 (x2 : Nat)) | 9 => MP.eq (.slice (some ⟨b, off, none⟩) n c) | 10 => MP.eq (.int .u64 (x3 : Nat)) | 11 => MP.eq (.int .u32 (x3 : Nat)) | 12 => MP.eq (.slice (some ⟨b, off, none⟩) n c) | 13 => MP.eq (.pointer (some ⟨b, off + 13, none⟩)) | 14 => MP.eq (.int .u8 (x4 : Nat)) | 15 => MP.eq (.slice (some ⟨b, off, none⟩) n c) | 16 => MP.eq (.int .u64 (x5 : Nat)) | 17 => MP.eq (.int .u16 (x5 : Nat)) | 18 => MP.eq (.slice (some ⟨b, off, none⟩) n c) | 19 => MP.eq (.int .u64 (x6 : Nat)) | 20 => MP.eq (.int .u16 (x6 : Nat)) | 21 => MP.eq (.slice (some ⟨b, off, none⟩) n c) | 22 => MP.eq (.int .u64 (x7 : Nat)) | 23 => MP.eq (.int .u16 (x7 : Nat)) | 24 => MP.eq (.agg #[.int .u16 (x0 : Nat), .int .u16 (x1 : Nat), .int .u32 (x2 : Nat), .int .u32 (x3 : Nat), .int .u8 (x4 : Nat), .int .u16 (x5 : Nat), .int .u16 (x6 : Nat), .int .u16 (x7 : Nat), .slice none 0 0, .slice none 0 0]) | 25 => MP.blk (w.heap.size + 1) 56 [.int .u16 0, .int .u16 0, .int .u32 0, .int .u32 0, .int .u8 0, .int .u16 0, .int .u16 0, .int .u16 0, .slice none 0 0, .slice none 0 0] | _ => MP.any) ?_ ?_
  · intro i hi o ho A x hO hD
    match i, hi, ho, hO, hD with
    | 0, _, ho, hO, hD => 
      obtain rfl := Option.some.inj ho.symm
      clear ho
      have ev0 : A.eval (.tmp 0) = .slice (some ⟨b, off, none⟩) n c := hO 0 (by kernel_rfl)
      have e0 : A.tmps[0]?.getD undef = .slice (some ⟨b, off, none⟩) n c := by simpa [Act.eval] using ev0
      replace ev0 := Lib.hid ev0
      clear hO hD
      rw [if_pos (by decide)]
      refine ⟨.slice (some ⟨b, off, none⟩) n c, .inl ⟨by simp [Region.wanted], fun w => ?_⟩, rfl⟩
      go_simp
    | 1, _, ho, hO, hD => 
      obtain rfl := Option.some.inj ho.symm
      clear ho
      have ev31 : A.eval (.tmp 31) = .slice (some ⟨b, off, none⟩) n c := hD 0 31 (by kernel_rfl)
      have e31 : A.tmps[31]?.getD undef = .slice (some ⟨b, off, none⟩) n c := by simpa [Act.eval] using ev31
      replace ev31 := Lib.hid ev31
      clear hO hD
      rw [if_neg (by decide)]
      intro K hK
      go_simp
      refine (refGetV _ n c l _ _ 0 2 x0 _ ((hr.alloc _).plus_ _ _) rfl rfl Hx0.out (by omega) (by omega) (by omega)).mono ?_
      rintro e w1 ⟨rfl, rfl⟩
      exact hK.out _ _ (Ex.refl _) rfl
    | 2, _, ho, hO, hD => 
      obtain rfl := Option.some.inj ho.symm
      clear ho
      have ev32 : A.eval (.tmp 32) = .int .u64 (x0 : Nat) := hD 1 32 (by kernel_rfl)
      have e32 : A.tmps[32]?.getD undef = .int .u64 (x0 : Nat) := by simpa [Act.eval] using ev32
      replace ev32 := Lib.hid ev32
      clear hO hD
      rw [if_pos (by decide)]
      refine ⟨.int .u16 (x0 : Nat), .inl ⟨by simp [Region.wanted], fun w => ?_⟩, rfl⟩
      go_simp
    | 3, _, ho, hO, hD => 
      obtain rfl := Option.some.inj ho.symm
      clear ho
      have ev0 : A.eval (.tmp 0) = .slice (some ⟨b, off, none⟩) n c := hO 0 (by kernel_rfl)
      have e0 : A.tmps[0]?.getD undef = .slice (some ⟨b, off, none⟩) n c := by simpa [Act.eval] using ev0
      replace ev0 := Lib.hid ev0
      clear hO hD
      rw [if_pos (by decide)]
      refine ⟨.slice (some ⟨b, off, none⟩) n c, .inl ⟨by simp [Region.wanted], fun w => ?_⟩, rfl⟩
      go_simp
    | 4, _, ho, hO, hD => 
      obtain rfl := Option.some.inj ho.symm
      clear ho
      have ev34 : A.eval (.tmp 34) = .slice (some ⟨b, off, none⟩) n c := hD 3 34 (by kernel_rfl)
      have e34 : A.tmps[34]?.getD undef = .slice (some ⟨b, off, none⟩) n c := by simpa [Act.eval] using ev34
      replace ev34 := Lib.hid ev34
      clear hO hD
      rw [if_neg (by decide)]
      intro K hK
      go_simp
      refine (refGetV _ n c l _ _ 2 2 x1 _ ((hr.alloc _).plus_ _ _) rfl rfl Hx1.out (by omega) (by omega) (by omega)).mono ?_
      rintro e w1 ⟨rfl, rfl⟩
      exact hK.out _ _ (Ex.refl _) rfl
    | 5, _, ho, hO, hD => 
      obtain rfl := Option.some.inj ho.symm
      clear ho
      have ev35 : A.eval (.tmp 35) = .int .u64 (x1 : Nat) := hD 4 35 (by kernel_rfl)
      have e35 : A.tmps[35]?.getD undef = .int .u64 (x1 : Nat) := by simpa [Act.eval] using ev35
      replace ev35 := Lib.hid ev35
      clear hO hD
      rw [if_pos (by decide)]
      refine ⟨.int .u16 (x1 : Nat), .inl ⟨by simp [Region.wanted], fun w => ?_⟩, rfl⟩
      go_simp
    | 6, _, ho, hO, hD => 
      obtain rfl := Option.some.inj ho.symm
      clear ho
      have ev0 : A.eval (.tmp 0) = .slice (some ⟨b, off, none⟩) n c := hO 0 (by kernel_rfl)
      have e0 : A.tmps[0]?.getD undef = .slice (some ⟨b, off, none⟩) n c := by simpa [Act.eval] using ev0
      replace ev0 := Lib.hid ev0
      clear hO hD
      rw [if_pos (by decide)]
      refine ⟨.slice (some ⟨b, off, none⟩) n c, .inl ⟨by simp [Region.wanted], fun w => ?_⟩, rfl⟩
      go_simp
    | 7, _, ho, hO, hD => 
      obtain rfl := Option.some.inj ho.symm
      clear ho
      have ev37 : A.eval (.tmp 37) = .slice (some ⟨b, off, none⟩) n c := hD 6 37 (by kernel_rfl)
      have e37 : A.tmps[37]?.getD undef = .slice (some ⟨b, off, none⟩) n c := by simpa [Act.eval] using ev37
      replace ev37 := Lib.hid ev37
      clear hO hD
      rw [if_neg (by decide)]
      intro K hK
      go_simp
      refine (refGetV _ n c l _ _ 4 4 x2 _ ((hr.alloc _).plus_ _ _) rfl rfl Hx2.out (by omega) (by omega) (by omega)).mono ?_
      rintro e w1 ⟨rfl, rfl⟩
      exact hK.out _ _ (Ex.refl _) rfl
    | 8, _, ho, hO, hD => 
      obtain rfl := Option.some.inj ho.symm
      clear ho
      have ev38 : A.eval (.tmp 38) = .int .u64 (x2 : Nat) := hD 7 38 (by kernel_rfl)
      have e38 : A.tmps[38]?.getD undef = .int .u64 (x2 : Nat) := by simpa [Act.eval] using ev38
      replace ev38 := Lib.hid ev38
      clear hO hD
      rw [if_pos (by decide)]
      refine ⟨.int .u32 (x2 : Nat), .inl ⟨by simp [Region.wanted], fun w => ?_⟩, rfl⟩
      go_simp
    | 9, _, ho, hO, hD => 
      obtain rfl := Option.some.inj ho.symm
      clear ho
      have ev0 : A.eval (.tmp 0) = .slice (some ⟨b, off, none⟩) n c := hO 0 (by kernel_rfl)
      have e0 : A.tmps[0]?.getD undef = .slice (some ⟨b, off, none⟩) n c := by simpa [Act.eval] using ev0
      replace ev0 := Lib.hid ev0
      clear hO hD
      rw [if_pos (by decide)]
      refine ⟨.slice (some ⟨b, off, none⟩) n c, .inl ⟨by simp [Region.wanted], fun w => ?_⟩, rfl⟩
      go_simp
    | 10, _, ho, hO, hD => 
      obtain rfl := Option.some.inj ho.symm
      clear ho
      have ev40 : A.eval (.tmp 40) = .slice (some ⟨b, off, none⟩) n c := hD 9 40 (by kernel_rfl)
      have e40 : A.tmps[40]?.getD undef = .slice (some ⟨b, off, none⟩) n c := by simpa [Act.eval] using ev40
      replace ev40 := Lib.hid ev40
      clear hO hD
      rw [if_neg (by decide)]
      intro K hK
      go_simp
      refine (refGetV _ n c l _ _ 8 4 x3 _ ((hr.alloc _).plus_ _ _) rfl rfl Hx3.out (by omega) (by omega) (by omega)).mono ?_
      rintro e w1 ⟨rfl, rfl⟩
      exact hK.out _ _ (Ex.refl _) rfl
    | 11, _, ho, hO, hD => 
      obtain rfl := Option.some.inj ho.symm
      clear ho
      have ev41 : A.eval (.tmp 41) = .int .u64 (x3 : Nat) := hD 10 41 (by kernel_rfl)
      have e41 : A.tmps[41]?.getD undef = .int .u64 (x3 : Nat) := by simpa [Act.eval] using ev41
      replace ev41 := Lib.hid ev41
      clear hO hD
      rw [if_pos (by decide)]
      refine ⟨.int .u32 (x3 : Nat), .inl ⟨by simp [Region.wanted], fun w => ?_⟩, rfl⟩
      go_simp
    | 12, _, ho, hO, hD => 
      obtain rfl := Option.some.inj ho.symm
      clear ho
      have ev0 : A.eval (.tmp 0) = .slice (some ⟨b, off, none⟩) n c := hO 0 (by kernel_rfl)
      have e0 : A.tmps[0]?.getD undef = .slice (some ⟨b, off, none⟩) n c := by simpa [Act.eval] using ev0
      replace ev0 := Lib.hid ev0
      clear hO hD
      rw [if_pos (by decide)]
      refine ⟨.slice (some ⟨b, off, none⟩) n c, .inl ⟨by simp [Region.wanted], fun w => ?_⟩, rfl⟩
      go_simp
    | 13, _, ho, hO, hD => 
      obtain rfl := Option.some.inj ho.symm
      clear ho
      have ev43 : A.eval (.tmp 43) = .slice (some ⟨b, off, none⟩) n c := hD 12 43 (by kernel_rfl)
      have e43 : A.tmps[43]?.getD undef = .slice (some ⟨b, off, none⟩) n c := by simpa [Act.eval] using ev43
      replace ev43 := Lib.hid ev43
      clear hO hD
      rw [if_neg (by decide)]
      intro K hK
      go_simp
      exact hK.out _ _ (Ex.refl _) rfl
    | 14, _, ho, hO, hD => 
      obtain rfl := Option.some.inj ho.symm
      clear ho
      have ev44 : A.eval (.tmp 44) = .pointer (some ⟨b, off + 13, none⟩) := hD 13 44 (by kernel_rfl)
      have e44 : A.tmps[44]?.getD undef = .pointer (some ⟨b, off + 13, none⟩) := by simpa [Act.eval] using ev44
      replace ev44 := Lib.hid ev44
      clear hO hD
      rw [if_neg (by decide)]
      intro K hK
      go_simp
      exact hK.out _ _ (Ex.refl _) rfl
    | 15, _, ho, hO, hD => 
      obtain rfl := Option.some.inj ho.symm
      clear ho
      have ev0 : A.eval (.tmp 0) = .slice (some ⟨b, off, none⟩) n c := hO 0 (by kernel_rfl)
      have e0 : A.tmps[0]?.getD undef = .slice (some ⟨b, off, none⟩) n c := by simpa [Act.eval] using ev0
      replace ev0 := Lib.hid ev0
      clear hO hD
      rw [if_pos (by decide)]
      refine ⟨.slice (some ⟨b, off, none⟩) n c, .inl ⟨by simp [Region.wanted], fun w => ?_⟩, rfl⟩
      go_simp
    | 16, _, ho, hO, hD => 
      obtain rfl := Option.some.inj ho.symm
      clear ho
      have ev46 : A.eval (.tmp 46) = .slice (some ⟨b, off, none⟩) n c := hD 15 46 (by kernel_rfl)
      have e46 : A.tmps[46]?.getD undef = .slice (some ⟨b, off, none⟩) n c := by simpa [Act.eval] using ev46
      replace ev46 := Lib.hid ev46
      clear hO hD
      rw [if_neg (by decide)]
      intro K hK
      go_simp
      refine (refGetV _ n c l _ _ 14 2 x5 _ ((hr.alloc _).plus_ _ _) rfl rfl Hx5.out (by omega) (by omega) (by omega)).mono ?_
      rintro e w1 ⟨rfl, rfl⟩
      exact hK.out _ _ (Ex.refl _) rfl
    | 17, _, ho, hO, hD => 
      obtain rfl := Option.some.inj ho.symm
      clear ho
      have ev47 : A.eval (.tmp 47) = .int .u64 (x5 : Nat) := hD 16 47 (by kernel_rfl)
      have e47 : A.tmps[47]?.getD undef = .int .u64 (x5 : Nat) := by simpa [Act.eval] using ev47
      replace ev47 := Lib.hid ev47
      clear hO hD
      rw [if_pos (by decide)]
      refine ⟨.int .u16 (x5 : Nat), .inl ⟨by simp [Region.wanted], fun w => ?_⟩, rfl⟩
      go_simp
    | 18, _, ho, hO, hD => 
      obtain rfl := Option.some.inj ho.symm
      clear ho
      have ev0 : A.eval (.tmp 0) = .slice (some ⟨b, off, none⟩) n c := hO 0 (by kernel_rfl)
      have e0 : A.tmps[0]?.getD undef = .slice (some ⟨b, off, none⟩) n c := by simpa [Act.eval] using ev0
      replace ev0 := Lib.hid ev0
      clear hO hD
      rw [if_pos (by decide)]
      refine ⟨.slice (some ⟨b, off, none⟩) n c, .inl ⟨by simp [Region.wanted], fun w => ?_⟩, rfl⟩
      go_simp
    | 19, _, ho, hO, hD => 
      obtain rfl := Option.some.inj ho.symm
      clear ho
      have ev49 : A.eval (.tmp 49) = .slice (some ⟨b, off, none⟩) n c := hD 18 49 (by kernel_rfl)
      have e49 : A.tmps[49]?.getD undef = .slice (some ⟨b, off, none⟩) n c := by simpa [Act.eval] using ev49
      replace ev49 := Lib.hid ev49
      clear hO hD
      rw [if_neg (by decide)]
      intro K hK
      go_simp
      refine (refGetV _ n c l _ _ 16 2 x6 _ ((hr.alloc _).plus_ _ _) rfl rfl Hx6.out (by omega) (by omega) (by omega)).mono ?_
      rintro e w1 ⟨rfl, rfl⟩
      exact hK.out _ _ (Ex.refl _) rfl
    | 20, _, ho, hO, hD => 
      obtain rfl := Option.some.inj ho.symm
      clear ho
      have ev50 : A.eval (.tmp 50) = .int .u64 (x6 : Nat) := hD 19 50 (by kernel_rfl)
      have e50 : A.tmps[50]?.getD undef = .int .u64 (x6 : Nat) := by simpa [Act.eval] using ev50
      replace ev50 := Lib.hid ev50
      clear hO hD
      rw [if_pos (by decide)]
      refine ⟨.int .u16 (x6 : Nat), .inl ⟨by simp [Region.wanted], fun w => ?_⟩, rfl⟩
      go_simp
    | 21, _, ho, hO, hD => 
      obtain rfl := Option.some.inj ho.symm
      clear ho
      have ev0 : A.eval (.tmp 0) = .slice (some ⟨b, off, none⟩) n c := hO 0 (by kernel_rfl)
      have e0 : A.tmps[0]?.getD undef = .slice (some ⟨b, off, none⟩) n c := by simpa [Act.eval] using ev0
      replace ev0 := Lib.hid ev0
      clear hO hD
      rw [if_pos (by decide)]
      refine ⟨.slice (some ⟨b, off, none⟩) n c, .inl ⟨by simp [Region.wanted], fun w => ?_⟩, rfl⟩
      go_simp
    | 22, _, ho, hO, hD => 
      obtain rfl := Option.some.inj ho.symm
      clear ho
      have ev52 : A.eval (.tmp 52) = .slice (some ⟨b, off, none⟩) n c := hD 21 52 (by kernel_rfl)
      have e52 : A.tmps[52]?.getD undef = .slice (some ⟨b, off, none⟩) n c := by simpa [Act.eval] using ev52
      replace ev52 := Lib.hid ev52
      clear hO hD
      rw [if_neg (by decide)]
      intro K hK
      go_simp
      refine (refGetV _ n c l _ _ 18 2 x7 _ ((hr.alloc _).plus_ _ _) rfl rfl Hx7.out (by omega) (by omega) (by omega)).mono ?_
      rintro e w1 ⟨rfl, rfl⟩
      exact hK.out _ _ (Ex.refl _) rfl
    | 23, _, ho, hO, hD => 
      obtain rfl := Option.some.inj ho.symm
      clear ho
      have ev53 : A.eval (.tmp 53) = .int .u64 (x7 : Nat) := hD 22 53 (by kernel_rfl)
      have e53 : A.tmps[53]?.getD undef = .int .u64 (x7 : Nat) := by simpa [Act.eval] using ev53
      replace ev53 := Lib.hid ev53
      clear hO hD
      rw [if_pos (by decide)]
      refine ⟨.int .u16 (x7 : Nat), .inl ⟨by simp [Region.wanted], fun w => ?_⟩, rfl⟩
      go_simp
    | 24, _, ho, hO, hD => 
      obtain rfl := Option.some.inj ho.symm
      clear ho
      have ev33 : A.eval (.tmp 33) = .int .u16 (x0 : Nat) := hD 2 33 (by kernel_rfl)
      have e33 : A.tmps[33]?.getD undef = .int .u16 (x0 : Nat) := by simpa [Act.eval] using ev33
      replace ev33 := Lib.hid ev33
      have ev36 : A.eval (.tmp 36) = .int .u16 (x1 : Nat) := hD 5 36 (by kernel_rfl)
      have e36 : A.tmps[36]?.getD undef = .int .u16 (x1 : Nat) := by simpa [Act.eval] using ev36
      replace ev36 := Lib.hid ev36
      have ev39 : A.eval (.tmp 39) = .int .u32 (x2 : Nat) := hD 8 39 (by kernel_rfl)
      have e39 : A.tmps[39]?.getD undef = .int .u32 (x2 : Nat) := by simpa [Act.eval] using ev39
      replace ev39 := Lib.hid ev39
      have ev42 : A.eval (.tmp 42) = .int .u32 (x3 : Nat) := hD 11 42 (by kernel_rfl)
      have e42 : A.tmps[42]?.getD undef = .int .u32 (x3 : Nat) := by simpa [Act.eval] using ev42
      replace ev42 := Lib.hid ev42
      have ev45 : A.eval (.tmp 45) = .int .u8 (x4 : Nat) := hD 14 45 (by kernel_rfl)
      have e45 : A.tmps[45]?.getD undef = .int .u8 (x4 : Nat) := by simpa [Act.eval] using ev45
      replace ev45 := Lib.hid ev45
      have ev48 : A.eval (.tmp 48) = .int .u16 (x5 : Nat) := hD 17 48 (by kernel_rfl)
      have e48 : A.tmps[48]?.getD undef = .int .u16 (x5 : Nat) := by simpa [Act.eval] using ev48
      replace ev48 := Lib.hid ev48
      have ev51 : A.eval (.tmp 51) = .int .u16 (x6 : Nat) := hD 20 51 (by kernel_rfl)
      have e51 : A.tmps[51]?.getD undef = .int .u16 (x6 : Nat) := by simpa [Act.eval] using ev51
      replace ev51 := Lib.hid ev51
      have ev54 : A.eval (.tmp 54) = .int .u16 (x7 : Nat) := hD 23 54 (by kernel_rfl)
      have e54 : A.tmps[54]?.getD undef = .int .u16 (x7 : Nat) := by simpa [Act.eval] using ev54
      replace ev54 := Lib.hid ev54
      clear hO hD
      rw [if_neg (by decide)]
      intro K hK
      go_simp
      exact hK.out _ _ (Ex.refl _) rfl
    | 25, _, ho, hO, hD => 
      obtain rfl := Option.some.inj ho.symm
      clear ho
      clear hO hD
      rw [if_neg (by decide)]
      intro K hK
      go_simp
      refine hK.out _ _ (Ex.alloc _ _) ⟨_, rfl, ?_, ?_⟩
      · simp [size_plus]
      · refine Bk.newK _ _ _ ?_ rfl
        simp [size_plus]
    | (k + 26), hi, _, _, _ => exact absurd hi (by omega)
  intro vs x hp
  have p0 : vs 0 = .slice (some ⟨b, off, none⟩) n c := hp 0 (by omega)
  have p1 : vs 1 = .int .u64 (x0 : Nat) := hp 1 (by omega)
  have p2 : vs 2 = .int .u16 (x0 : Nat) := hp 2 (by omega)
  have p3 : vs 3 = .slice (some ⟨b, off, none⟩) n c := hp 3 (by omega)
  have p4 : vs 4 = .int .u64 (x1 : Nat) := hp 4 (by omega)
  have p5 : vs 5 = .int .u16 (x1 : Nat) := hp 5 (by omega)
  have p6 : vs 6 = .slice (some ⟨b, off, none⟩) n c := hp 6 (by omega)
  have p7 : vs 7 = .int .u64 (x2 : Nat) := hp 7 (by omega)
  have p8 : vs 8 = .int .u32 (x2 : Nat) := hp 8 (by omega)
  have p9 : vs 9 = .slice (some ⟨b, off, none⟩) n c := hp 9 (by omega)
  have p10 : vs 10 = .int .u64 (x3 : Nat) := hp 10 (by omega)
  have p11 : vs 11 = .int .u32 (x3 : Nat) := hp 11 (by omega)
  have p12 : vs 12 = .slice (some ⟨b, off, none⟩) n c := hp 12 (by omega)
  have p13 : vs 13 = .pointer (some ⟨b, off + 13, none⟩) := hp 13 (by omega)
  have p14 : vs 14 = .int .u8 (x4 : Nat) := hp 14 (by omega)
  have p15 : vs 15 = .slice (some ⟨b, off, none⟩) n c := hp 15 (by omega)
  have p16 : vs 16 = .int .u64 (x5 : Nat) := hp 16 (by omega)
  have p17 : vs 17 = .int .u16 (x5 : Nat) := hp 17 (by omega)
  have p18 : vs 18 = .slice (some ⟨b, off, none⟩) n c := hp 18 (by omega)
  have p19 : vs 19 = .int .u64 (x6 : Nat) := hp 19 (by omega)
  have p20 : vs 20 = .int .u16 (x6 : Nat) := hp 20 (by omega)
  have p21 : vs 21 = .slice (some ⟨b, off, none⟩) n c := hp 21 (by omega)
  have p22 : vs 22 = .int .u64 (x7 : Nat) := hp 22 (by omega)
  have p23 : vs 23 = .int .u16 (x7 : Nat) := hp 23 (by omega)
  have p24 : vs 24 = .agg #[.int .u16 (x0 : Nat), .int .u16 (x1 : Nat), .int .u32 (x2 : Nat), .int .u32 (x3 : Nat), .int .u8 (x4 : Nat), .int .u16 (x5 : Nat), .int .u16 (x6 : Nat), .int .u16 (x7 : Nat), .slice none 0 0, .slice none 0 0] := hp 24 (by omega)
  have p25 := hp 25 (by omega)
  clear hp
  simp only [List.take_succ_cons, List.take_zero, List.drop_succ_cons, List.drop_zero, putAll, Nat.zero_add, Nat.reduceAdd, Act.put, List.setIfInBounds_toArray, List.set_cons_zero, List.set_cons_succ, p0, p1, p2, p3, p4, p5, p6, p7, p8, p9, p10, p11, p12, p13, p14, p15, p16, p17, p18, p19, p20, p21, p22, p23, p24]
  clear p0 p1 p2 p3 p4 p5 p6 p7 p8 p9 p10 p11 p12 p13 p14 p15 p16 p17 p18 p19 p20 p21 p22 p23 p24
  generalize vs 25 = y25 at *
  clear vs
  obtain ⟨g, rfl, hgw, hb⟩ := p25
  go_upto_region 9 with (refine at_op (.store 56 (.tmp 5) (.tmp 55)) rfl ?_; refine wpList_stA (t := 56) 56 (.tmp 5) (.tmp 55) rfl rfl [.int .u16 (x0 : Nat), .int .u16 (x1 : Nat), .int .u32 (x2 : Nat), .int .u32 (x3 : Nat), .int .u8 (x4 : Nat), .int .u16 (x5 : Nat), .int .u16 (x6 : Nat), .int .u16 (x7 : Nat), .slice none 0 0, .slice none 0 0] [.int .u16 0, .int .u16 0, .int .u32 0, .int .u32 0, .int .u8 0, .int .u16 0, .int .u16 0, .int .u16 0, .slice none 0 0, .slice none 0 0] rfl (by simp [Value.oneCell']) rfl rfl hb (szSegR _ rfl) ?_; intro w3 hX hg3)
  refine NoPanic.normal ?_
  have hZ3 := (hZ.later (below_plus _ x.bs x.d)).grown hg3 (by simp; omega)
  have hB := below_grown (belowP ((Below.refl w.heap.size w).alloc (Nat.le_refl _) _) x.bs x.d) hg3 (by omega)
  clear hZ hg3 hb
  have q : w3.cell? ⟨g, 8, none⟩ = some (.slice none 0 0) := hX.cell 8
  have f := hX.frozen 8
  have hgl0 := hX.lt
  go_upto_region 10 with (at_builtin; refine wpList_app0 (l2 := ((l.drop 20).take (sz - 20))) bt rfl (.tmp 56) (.tmp 59) rfl rfl rfl rfl (((hr.cut (k := 20) (by omega)).take (k := sz - 20) (by omega)).later hB) (by omega) ?_; intro A1 n1 c1 bsA1 dA1 ho0)
  clear q f
  replace ho0 := ho0.swap (W' := w3.setCell ⟨g, 8, none⟩ (.slice A1 n1 c1)) (d' := dA1) (Nat.le_refl _) (by simp)
  obtain ⟨B0, hB0⟩ : ∃ B0, B0 = w3.heap.size := ⟨_, rfl⟩
  rw [← hB0] at ho0 hgl0
  have hwB : w.heap.size < B0 := by omega
  clear hB0
  replace hX := (hX.set_ 8 (.slice A1 n1 c1)).later (below_plus _ bsA1 dA1)
  simp only [List.set_cons_zero, List.set_cons_succ] at hX
  replace hZ3 := (hZ3.far (p := ⟨g, 8, none⟩) (by simp; omega) (.slice A1 n1 c1)).later (below_plus _ bsA1 dA1)
  replace hB := belowP (hB.setCell (p := ⟨g, 8, none⟩) (by simp; omega) (.slice A1 n1 c1)) bsA1 dA1
  generalize plus (w3.setCell ⟨g, 8, none⟩ (.slice A1 n1 c1)) bsA1 dA1 = w4 at hX hZ3 hB ho0 ⊢
  have q : w4.cell? ⟨g, 9, none⟩ = some (.slice none 0 0) := hX.cell 9
  have f := hX.frozen 9
  have hgl1 := hX.lt
  go_upto_region 11 with (at_builtin; refine wpList_app0 (l2 := (l.drop sz)) bt rfl (.tmp 62) (.tmp 65) rfl rfl rfl rfl ((hr.cut (k := sz) (by omega)).later hB) (by omega) ?_; intro A2 n2 c2 bsA2 dA2 ho1)
  clear q f
  replace ho1 := (ho1.swap (W' := w4.setCell ⟨g, 9, none⟩ (.slice A2 n2 c2)) (d' := dA2) (Nat.le_refl _) (by simp)).mono (show w.heap.size + 1 ≤ w4.heap.size by omega)
  replace ho0 := (ho0.setCell (p := ⟨g, 9, none⟩) hgl0 (.slice A2 n2 c2)).plus_ bsA2 dA2
  replace hX := (hX.set_ 9 (.slice A2 n2 c2)).later (below_plus _ bsA2 dA2)
  simp only [List.set_cons_zero, List.set_cons_succ] at hX
  replace hZ3 := (hZ3.far (p := ⟨g, 9, none⟩) (by simp; omega) (.slice A2 n2 c2)).later (below_plus _ bsA2 dA2)
  replace hB := belowP (hB.setCell (p := ⟨g, 9, none⟩) (by simp; omega) (.slice A2 n2 c2)) bsA2 dA2
  generalize plus (w4.setCell ⟨g, 9, none⟩ (.slice A2 n2 c2)) bsA2 dA2 = w5 at hX hZ3 hB ho0 ho1 ⊢
  go_wp2_with (first
    | (refine at_op (.load 56 (.tmp 5)) rfl ?_; refine wpList_ldA (t := 56) 56 (.tmp 5) rfl rfl [.int .u16 (x0 : Nat), .int .u16 (x1 : Nat), .int .u32 (x2 : Nat), .int .u32 (x3 : Nat), .int .u8 (x4 : Nat), .int .u16 (x5 : Nat), .int .u16 (x6 : Nat), .int .u16 (x7 : Nat), .slice A1 n1 c1, .slice A2 n2 c2] rfl hX rfl Try.underlying56 rfl (szSegR _ rfl) ?_)
    | (refine at_op (.store 56 (.tmp 2) (.tmp 68)) rfl ?_; refine wpList_stA (t := 56) 56 (.tmp 2) (.tmp 68) rfl rfl [.int .u16 (x0 : Nat), .int .u16 (x1 : Nat), .int .u32 (x2 : Nat), .int .u32 (x3 : Nat), .int .u8 (x4 : Nat), .int .u16 (x5 : Nat), .int .u16 (x6 : Nat), .int .u16 (x7 : Nat), .slice A1 n1 c1, .slice A2 n2 c2] [.int .u16 0, .int .u16 0, .int .u32 0, .int .u32 0, .int .u8 0, .int .u16 0, .int .u16 0, .int .u16 0, .slice none 0 0, .slice none 0 0] rfl (by simp [Value.oneCell']) rfl rfl hZ3 (szSegR _ rfl) ?_; intro w9 hb9 hg9))
  refine bodyPost_agg2 Try.results56 rfl rfl hb9.range Try.underlying56 rfl (szSegR _ rfl) rfl (RetSeg.mk ?_ ?_ (below_grown hB hg9 (Nat.le_refl _)))
  · exact (ho0.grown hg9 (fun k hk => by have := (ho0.blk k hk).1; simp; omega)).rb
  · exact (ho1.grown hg9 (fun k hk => by have := (ho1.blk k hk).1; simp; omega)).rb
end Go.Proofs.Ytfmkndemkpecpaa
