/- What is read of a written packet of IPv4. -/
import Derived.Test.YtldecdeiibfekaaIp4D
import Derived.Test.YtldecdeiibfekaaIp4G
import Derived.Test.YtldecdeiibfekaaPsd
namespace Go.Proofs.Ytldecdeiibfekaa
open Go.RowKit
set_option linter.unusedVariables false
set_option linter.unusedSimpArgs false
attribute [local go_sem ↓] sliced_cut
attribute [local go_sem] cutA_zero

theorem wr4_0 (ts ln id pl tl pr s sl dl : Nat) (o load : List UInt8) (h : 69 + o.length / 4 < 256) : num (((ip4B ts ln id pl tl pr s sl dl o ++ load).drop 0).take 1) = 69 + o.length / 4 := by
  have := num_mid ([]) (dig (ts) 1 ++ dig (ln) 2 ++ dig (id) 2 ++ dig (pl) 2 ++ dig (tl) 1 ++ dig (pr) 1 ++ dig (s) 2 ++ dig (sl) 4 ++ dig (dl) 4 ++ o ++ load) (69 + o.length / 4) 1 0 (by simp [dig_length]) (by omega)
  unfold ip4B
  simpa [List.append_assoc] using this
theorem wr4_1 (ts ln id pl tl pr s sl dl : Nat) (o load : List UInt8) (h : ts < 256) : num (((ip4B ts ln id pl tl pr s sl dl o ++ load).drop 1).take 1) = ts := by
  have := num_mid (dig (69 + o.length / 4) 1) (dig (ln) 2 ++ dig (id) 2 ++ dig (pl) 2 ++ dig (tl) 1 ++ dig (pr) 1 ++ dig (s) 2 ++ dig (sl) 4 ++ dig (dl) 4 ++ o ++ load) (ts) 1 1 (by simp [dig_length]) (by omega)
  unfold ip4B
  simpa [List.append_assoc] using this
theorem wr4_2 (ts ln id pl tl pr s sl dl : Nat) (o load : List UInt8) (h : ln < 65536) : num (((ip4B ts ln id pl tl pr s sl dl o ++ load).drop 2).take 2) = ln := by
  have := num_mid (dig (69 + o.length / 4) 1 ++ dig (ts) 1) (dig (id) 2 ++ dig (pl) 2 ++ dig (tl) 1 ++ dig (pr) 1 ++ dig (s) 2 ++ dig (sl) 4 ++ dig (dl) 4 ++ o ++ load) (ln) 2 2 (by simp [dig_length]) (by omega)
  unfold ip4B
  simpa [List.append_assoc] using this
theorem wr4_3 (ts ln id pl tl pr s sl dl : Nat) (o load : List UInt8) (h : id < 65536) : num (((ip4B ts ln id pl tl pr s sl dl o ++ load).drop 4).take 2) = id := by
  have := num_mid (dig (69 + o.length / 4) 1 ++ dig (ts) 1 ++ dig (ln) 2) (dig (pl) 2 ++ dig (tl) 1 ++ dig (pr) 1 ++ dig (s) 2 ++ dig (sl) 4 ++ dig (dl) 4 ++ o ++ load) (id) 2 4 (by simp [dig_length]) (by omega)
  unfold ip4B
  simpa [List.append_assoc] using this
theorem wr4_4 (ts ln id pl tl pr s sl dl : Nat) (o load : List UInt8) (h : pl < 65536) : num (((ip4B ts ln id pl tl pr s sl dl o ++ load).drop 6).take 2) = pl := by
  have := num_mid (dig (69 + o.length / 4) 1 ++ dig (ts) 1 ++ dig (ln) 2 ++ dig (id) 2) (dig (tl) 1 ++ dig (pr) 1 ++ dig (s) 2 ++ dig (sl) 4 ++ dig (dl) 4 ++ o ++ load) (pl) 2 6 (by simp [dig_length]) (by omega)
  unfold ip4B
  simpa [List.append_assoc] using this
theorem wr4_5 (ts ln id pl tl pr s sl dl : Nat) (o load : List UInt8) (h : tl < 256) : num (((ip4B ts ln id pl tl pr s sl dl o ++ load).drop 8).take 1) = tl := by
  have := num_mid (dig (69 + o.length / 4) 1 ++ dig (ts) 1 ++ dig (ln) 2 ++ dig (id) 2 ++ dig (pl) 2) (dig (pr) 1 ++ dig (s) 2 ++ dig (sl) 4 ++ dig (dl) 4 ++ o ++ load) (tl) 1 8 (by simp [dig_length]) (by omega)
  unfold ip4B
  simpa [List.append_assoc] using this
theorem wr4_6 (ts ln id pl tl pr s sl dl : Nat) (o load : List UInt8) (h : pr < 256) : num (((ip4B ts ln id pl tl pr s sl dl o ++ load).drop 9).take 1) = pr := by
  have := num_mid (dig (69 + o.length / 4) 1 ++ dig (ts) 1 ++ dig (ln) 2 ++ dig (id) 2 ++ dig (pl) 2 ++ dig (tl) 1) (dig (s) 2 ++ dig (sl) 4 ++ dig (dl) 4 ++ o ++ load) (pr) 1 9 (by simp [dig_length]) (by omega)
  unfold ip4B
  simpa [List.append_assoc] using this
theorem wr4_7 (ts ln id pl tl pr s sl dl : Nat) (o load : List UInt8) (h : s < 65536) : num (((ip4B ts ln id pl tl pr s sl dl o ++ load).drop 10).take 2) = s := by
  have := num_mid (dig (69 + o.length / 4) 1 ++ dig (ts) 1 ++ dig (ln) 2 ++ dig (id) 2 ++ dig (pl) 2 ++ dig (tl) 1 ++ dig (pr) 1) (dig (sl) 4 ++ dig (dl) 4 ++ o ++ load) (s) 2 10 (by simp [dig_length]) (by omega)
  unfold ip4B
  simpa [List.append_assoc] using this
theorem wr4_8 (ts ln id pl tl pr s sl dl : Nat) (o load : List UInt8) (h : sl < 4294967296) : num (((ip4B ts ln id pl tl pr s sl dl o ++ load).drop 12).take 4) = sl := by
  have := num_mid (dig (69 + o.length / 4) 1 ++ dig (ts) 1 ++ dig (ln) 2 ++ dig (id) 2 ++ dig (pl) 2 ++ dig (tl) 1 ++ dig (pr) 1 ++ dig (s) 2) (dig (dl) 4 ++ o ++ load) (sl) 4 12 (by simp [dig_length]) (by omega)
  unfold ip4B
  simpa [List.append_assoc] using this
theorem wr4_9 (ts ln id pl tl pr s sl dl : Nat) (o load : List UInt8) (h : dl < 4294967296) : num (((ip4B ts ln id pl tl pr s sl dl o ++ load).drop 16).take 4) = dl := by
  have := num_mid (dig (69 + o.length / 4) 1 ++ dig (ts) 1 ++ dig (ln) 2 ++ dig (id) 2 ++ dig (pl) 2 ++ dig (tl) 1 ++ dig (pr) 1 ++ dig (s) 2 ++ dig (sl) 4) (o ++ load) (dl) 4 16 (by simp [dig_length]) (by omega)
  unfold ip4B
  simpa [List.append_assoc] using this
theorem wr4_opts (ts ln id pl tl pr s sl dl : Nat) (o load : List UInt8) : ((ip4B ts ln id pl tl pr s sl dl o ++ load).drop 20).take o.length = o := by
  unfold ip4B
  rw [show dig (69 + o.length / 4) 1 ++ dig ts 1 ++ dig ln 2 ++ dig id 2 ++ dig pl 2 ++ dig tl 1 ++ dig pr 1 ++ (dig s 2 ++ (dig sl 4 ++ dig dl 4 ++ o)) ++ load = (dig (69 + o.length / 4) 1 ++ dig ts 1 ++ dig ln 2 ++ dig id 2 ++ dig pl 2 ++ dig tl 1 ++ dig pr 1 ++ (dig s 2 ++ (dig sl 4 ++ dig dl 4))) ++ (o ++ load) from by simp [List.append_assoc], List.drop_left' (by simp [dig_length]), List.take_left' rfl]
theorem wr4_load (ts ln id pl tl pr s sl dl : Nat) (o load : List UInt8) (n : Nat) (hn : o.length = n) : (ip4B ts ln id pl tl pr s sl dl o ++ load).drop (20 + n) = load := by
  rw [List.drop_left' (by rw [ip4B_length, hn])]
theorem wr4_head (ts ln id pl tl pr s sl dl : Nat) (o load : List UInt8) (n : Nat) (hn : o.length = n) : (ip4B ts ln id pl tl pr s sl dl o ++ load).take (20 + n) = ip4B ts ln id pl tl pr s sl dl o := by
  rw [List.take_left' (by rw [ip4B_length, hn])]
theorem fd_fill4 (t : Nat) : fd (t + (65535 - fd t)) = 65535 := by
  unfold fd
  split <;> split <;> omega
theorem tot_mid (H R : List UInt8) (hH : H.length % 2 = 0) (s : Nat) (hs : s < 65536) : tot false (H ++ (dig s 2 ++ R)) = tot false H + (s + tot false R) := by
  have h1 : tot false (dig s 2) = s := by rw [dig2 s hs]; simp [tot]; omega
  rw [tot_append, if_pos hH, tot_append, h1, if_pos (by simp [dig_length])]
/-- the checksum is right -/
theorem wr4_sum (ts ln id pl tl pr sl dl : Nat) (o : List UInt8) : 65535 - fd (tot false (ip4B ts ln id pl tl pr (ip4K ts ln id pl tl pr sl dl o) sl dl o)) = 0 := by
  have hk : ip4K ts ln id pl tl pr sl dl o = 65535 - fd (tot false (ip4B ts ln id pl tl pr 0 sl dl o)) := rfl
  have e : ∀ s, s < 65536 → tot false (ip4B ts ln id pl tl pr s sl dl o) = tot false (ip4B ts ln id pl tl pr 0 sl dl o) + s := fun s hs => by
    unfold ip4B
    rw [tot_mid _ _ (by simp [dig_length]) s hs, tot_mid _ _ (by simp [dig_length]) 0 (by decide)]
    omega
  rw [e _ (by rw [hk]; omega), hk, fd_fill4]
end Go.Proofs.Ytldecdeiibfekaa
