/- Siphash, plain: the padded bytes and the last word. -/
import Derived.Test.YtfmkndemkpecpaaSipS
namespace Go.Proofs.Ytfmkndemkpecpaa
set_option linter.unusedVariables false

def pad (l : List UInt8) : List UInt8 := l ++ List.replicate (7 - l.length % 8) 0 ++ [UInt8.ofNat (l.length % 256)]
theorem pad_length (l : List UInt8) : (pad l).length = 8 * (l.length / 8 + 1) := by
  simp only [pad, List.length_append, List.length_replicate, List.length_cons, List.length_nil]
  omega
theorem lnum_zeros : ∀ k, lnum (List.replicate k 0) = 0
  | 0 => rfl
  | k + 1 => by simp [List.replicate_succ, lnum, lnum_zeros k]
theorem chunk_pad (l : List UInt8) (j : Nat) (h : 8 * j + 8 ≤ l.length) : ((pad l).drop (8 * j)).take 8 = (l.drop (8 * j)).take 8 := by
  unfold pad
  rw [List.append_assoc, List.drop_append_of_le_length (by omega), List.take_append_of_le_length (by rw [List.length_drop]; omega)]
theorem feed_congr (v : W4) (l : List UInt8) : ∀ j, j ≤ l.length / 8 → feed v (pad l) j = feed v l j
  | 0, _ => rfl
  | j + 1, h => by rw [feed, feed, feed_congr v l j (by omega), chunk_pad l j (by omega)]
theorem last_pad (l : List UInt8) : lit (((pad l).drop (8 * (l.length / 8))).take 8) = lastW l := by
  have hp := pad_length l
  rw [List.take_of_length_le (by rw [List.length_drop]; omega)]
  unfold lit lastW pad
  rw [List.append_assoc, List.drop_append_of_le_length (by omega), lnum_append, lnum_append, lnum_zeros, List.length_replicate, List.length_drop]
  congr 1
  have e : l.length - 8 * (l.length / 8) = l.length % 8 := by omega
  have e2 : lnum [UInt8.ofNat (l.length % 256)] = l.length % 256 := by simp [lnum]
  rw [e, e2, Nat.zero_add, ← Nat.mul_assoc, ← Nat.pow_add, show l.length % 8 + (7 - l.length % 8) = 7 by omega, Nat.mul_comm (256 ^ 7)]
theorem feed_pad (v : W4) (l : List UInt8) : feed v (pad l) (l.length / 8 + 1) = absorb (feed v l (l.length / 8)) (lastW l) := by
  rw [feed, feed_congr v l _ (Nat.le_refl _), last_pad]
end Go.Proofs.Ytfmkndemkpecpaa
