/- Parse of a written packet of IPv4. -/
import Derived.Test.YtldecdeiibfekaaIp4M
import Derived.Test.YtldecdeiibfekaaIp4H
import Derived.Test.YtldecdeiibfekaaIp4J
namespace Go.Proofs.Ytldecdeiibfekaa
open Go.RowKit
set_option linter.unusedVariables false
set_option linter.unusedSimpArgs false
attribute [local go_sem ↓] sliced_cut
attribute [local go_sem] cutA_zero

theorem pl4_st (st mo : Bool) (fo : Nat) (h : fo ≤ 8191) : (pl4 st mo fo / 16384 % 2 == 1) = st := by
  cases st <;> cases mo <;> simp [pl4] <;> omega
theorem pl4_mo (st mo : Bool) (fo : Nat) (h : fo ≤ 8191) : (pl4 st mo fo / 8192 % 2 == 1) = mo := by
  cases st <;> cases mo <;> simp [pl4] <;> omega
theorem pl4_fo (st mo : Bool) (fo : Nat) (h : fo ≤ 8191) : pl4 st mo fo % 8192 = fo := by
  cases st <;> cases mo <;> simp [pl4] <;> omega
theorem hdr4_w (ts ln id : Nat) (st mo : Bool) (fo tl pr sl dl : Nat) (A : Option Addr) (n c : Nat) (o load : List UInt8) (w : World) (h : Rb w A n c (ip4B ts ln id (pl4 st mo fo) tl pr (ip4K ts ln id (pl4 st mo fo) tl pr sl dl o) sl dl o ++ load)) (b1 : ts < 256) (b2 : id < 65536) (b3 : tl < 256) (b4 : pr < 256) (b5 : sl < 4294967296) (b6 : dl < 4294967296) (c1 : o.length ≤ 40) (c2 : o.length % 4 = 0) (c3 : ln = 20 + o.length + load.length) (c4 : ln ≤ 65535) (c5 : fo ≤ 8191) : Calls Try.prog 119 #[.slice A n c] w (RetHd w ts ln id st mo fo tl pr (ip4K ts ln id (pl4 st mo fo) tl pr sl dl o) sl dl (20 + o.length) o) := by
  have hn : n = 20 + o.length + load.length := by rw [← h.1, List.length_append, ip4B_length]
  have hk : ip4K ts ln id (pl4 st mo fo) tl pr sl dl o < 65536 := by unfold ip4K; omega
  have hp := pl4_lt st mo fo c5
  have hz : 4 * ((69 + o.length / 4) % 16) = 20 + o.length := by omega
  have t := hdr4_ok A n c (ip4B ts ln id (pl4 st mo fo) tl pr (ip4K ts ln id (pl4 st mo fo) tl pr sl dl o) sl dl o ++ load) w h (by omega) (69 + o.length / 4) ts ln id (pl4 st mo fo) tl pr (ip4K ts ln id (pl4 st mo fo) tl pr sl dl o) sl dl st mo (wr4_0 _ _ _ _ _ _ _ _ _ _ _ (by omega)) (wr4_1 _ _ _ _ _ _ _ _ _ _ _ (by omega)) (wr4_2 _ _ _ _ _ _ _ _ _ _ _ (by omega)) (wr4_3 _ _ _ _ _ _ _ _ _ _ _ (by omega)) (wr4_4 _ _ _ _ _ _ _ _ _ _ _ (by omega)) (wr4_5 _ _ _ _ _ _ _ _ _ _ _ (by omega)) (wr4_6 _ _ _ _ _ _ _ _ _ _ _ (by omega)) (wr4_7 _ _ _ _ _ _ _ _ _ _ _ (by omega)) (wr4_8 _ _ _ _ _ _ _ _ _ _ _ (by omega)) (wr4_9 _ _ _ _ _ _ _ _ _ _ _ (by omega)) (pl4_st st mo fo c5) (pl4_mo st mo fo c5) (by omega) (by omega) (by omega) (by omega) (by omega) (by omega) (by omega) (by rw [hz, wr4_head _ _ _ _ _ _ _ _ _ _ _ _ rfl]; exact wr4_sum _ _ _ _ _ _ _ _ _)
  rw [hz, pl4_fo st mo fo c5, Nat.add_sub_cancel_left, wr4_opts] at t
  exact t
theorem parse4_w (ts ln id : Nat) (st mo : Bool) (fo tl pr sl dl : Nat) (A : Option Addr) (n c : Nat) (o load : List UInt8) (w : World) (h : Rb w A n c (ip4B ts ln id (pl4 st mo fo) tl pr (ip4K ts ln id (pl4 st mo fo) tl pr sl dl o) sl dl o ++ load)) (b1 : ts < 256) (b2 : id < 65536) (b3 : tl < 256) (b4 : pr < 256) (b5 : sl < 4294967296) (b6 : dl < 4294967296) (c1 : o.length ≤ 40) (c2 : o.length % 4 = 0) (c3 : ln = 20 + o.length + load.length) (c4 : ln ≤ 65535) (c5 : fo ≤ 8191) : Calls Try.prog 44 #[.slice A n c] w (RetP4 w ts ln id st mo fo tl pr (ip4K ts ln id (pl4 st mo fo) tl pr sl dl o) sl dl o load) := by
  have hn : n = 20 + o.length + load.length := by rw [← h.1, List.length_append, ip4B_length]
  have hk : ip4K ts ln id (pl4 st mo fo) tl pr sl dl o < 65536 := by unfold ip4K; omega
  have hp := pl4_lt st mo fo c5
  have hz : 4 * ((69 + o.length / 4) % 16) = 20 + o.length := by omega
  have t := parse4_ok A n c (ip4B ts ln id (pl4 st mo fo) tl pr (ip4K ts ln id (pl4 st mo fo) tl pr sl dl o) sl dl o ++ load) ts ln id st mo fo tl pr (ip4K ts ln id (pl4 st mo fo) tl pr sl dl o) sl dl (20 + o.length) o w h (by omega) (by omega) (by omega) (by omega) (fun w' hb => hdr4_w ts ln id st mo fo tl pr sl dl A n c o load w' (h.later hb) b1 b2 b3 b4 b5 b6 c1 c2 c3 c4 c5)
  rw [wr4_load _ _ _ _ _ _ _ _ _ _ _ _ rfl, List.take_of_length_le (by omega)] at t
  exact t
theorem refP4_w (ts ln id : Nat) (st mo : Bool) (fo tl pr sl dl : Nat) (A : Option Addr) (n c : Nat) (o load : List UInt8) (w : World) (h : Rb w A n c (ip4B ts ln id (pl4 st mo fo) tl pr (ip4K ts ln id (pl4 st mo fo) tl pr sl dl o) sl dl o ++ load)) (b1 : ts < 256) (b2 : id < 65536) (b3 : tl < 256) (b4 : pr < 256) (b5 : sl < 4294967296) (b6 : dl < 4294967296) (c1 : o.length ≤ 40) (c2 : o.length % 4 = 0) (c3 : ln = 20 + o.length + load.length) (c4 : ln ≤ 65535) (c5 : fo ≤ 8191) : Calls Try.prog 45 #[.slice A n c] w (RetP4 w ts ln id st mo fo tl pr (ip4K ts ln id (pl4 st mo fo) tl pr sl dl o) sl dl o load) := by
  have hn : n = 20 + o.length + load.length := by rw [← h.1, List.length_append, ip4B_length]
  have hk : ip4K ts ln id (pl4 st mo fo) tl pr sl dl o < 65536 := by unfold ip4K; omega
  have hp := pl4_lt st mo fo c5
  have hz : 4 * ((69 + o.length / 4) % 16) = 20 + o.length := by omega
  have t := refP4_ok A n c (ip4B ts ln id (pl4 st mo fo) tl pr (ip4K ts ln id (pl4 st mo fo) tl pr sl dl o) sl dl o ++ load) w h (by omega) (69 + o.length / 4) ts ln id (pl4 st mo fo) tl pr (ip4K ts ln id (pl4 st mo fo) tl pr sl dl o) sl dl st mo (wr4_0 _ _ _ _ _ _ _ _ _ _ _ (by omega)) (wr4_1 _ _ _ _ _ _ _ _ _ _ _ (by omega)) (wr4_2 _ _ _ _ _ _ _ _ _ _ _ (by omega)) (wr4_3 _ _ _ _ _ _ _ _ _ _ _ (by omega)) (wr4_4 _ _ _ _ _ _ _ _ _ _ _ (by omega)) (wr4_5 _ _ _ _ _ _ _ _ _ _ _ (by omega)) (wr4_6 _ _ _ _ _ _ _ _ _ _ _ (by omega)) (wr4_7 _ _ _ _ _ _ _ _ _ _ _ (by omega)) (wr4_8 _ _ _ _ _ _ _ _ _ _ _ (by omega)) (wr4_9 _ _ _ _ _ _ _ _ _ _ _ (by omega)) (pl4_st st mo fo c5) (pl4_mo st mo fo c5) (by omega) (by omega) (by omega) (by omega) (by omega) (by omega) (by rw [hz, wr4_head _ _ _ _ _ _ _ _ _ _ _ _ rfl]; exact wr4_sum _ _ _ _ _ _ _ _ _)
  rw [hz, pl4_fo st mo fo c5, Nat.add_sub_cancel_left, wr4_opts, wr4_load _ _ _ _ _ _ _ _ _ _ _ _ rfl, List.take_of_length_le (by omega)] at t
  exact t
end Go.Proofs.Ytldecdeiibfekaa
