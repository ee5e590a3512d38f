/- Parse of any bytes, both sides (chapter 4). -/
import Derived.Test.YtldecdeiibfekaaIp4I
import Derived.Test.YtldecdeiibfekaaIp4J
namespace Go.Proofs.Ytldecdeiibfekaa
open Go.RowKit
set_option linter.unusedVariables false
set_option linter.unusedSimpArgs false
attribute [local go_sem ↓] sliced_cut
attribute [local go_sem] cutA_zero

/-- a header, bytes, an error -/
def RetPE (w : World) (ts ln id : Nat) (st mo : Bool) (fo tl pr sm sa da : Nat) (o load : List UInt8) (E : Int) (e : Ending) (w' : World) : Prop := ∃ A n k A2 n2 k2 bs d, e = .returned (.tuple #[.agg (h4C ts (ln : Int) id st mo (fo : Int) tl pr sm false 0 sa false 0 da A n k).toArray, .slice A2 n2 k2, .int .i64 E]) ∧ w' = plus w bs d ∧ Rb (plus w bs d) A n k o ∧ Rb (plus w bs d) A2 n2 k2 load ∧ ∀ a, A2 = some a → w.heap.size ≤ a.block
theorem RetPE.err {w : World} {E : Int} {e : Ending} {w' : World} (h : RetV w (.tuple #[.agg (h4C 0 0 0 false false 0 0 0 0 false 0 0 false 0 0 none 0 0).toArray, .slice none 0 0, .int .i64 E]) e w') : RetPE w 0 0 0 false false 0 0 0 0 0 0 [] [] E e w' := by
  obtain ⟨bs, d, rfl, rfl⟩ := h
  exact ⟨none, 0, 0, none, 0, 0, bs, d, rfl, rfl, Rb.nil_, Rb.nil_, fun a ha => by cases ha⟩
theorem RetPE.ok {w : World} {ts ln id : Nat} {st mo : Bool} {fo tl pr sm sa da : Nat} {o load : List UInt8} {e : Ending} {w' : World} (h : RetP4 w ts ln id st mo fo tl pr sm sa da o load e w') : RetPE w ts ln id st mo fo tl pr sm sa da o load 0 e w' := h
set_option maxHeartbeats 4000000 in
set_option maxRecDepth 100000 in
theorem reads4 (A : Option Addr) (n c : Nat) (l : List UInt8) (w : World) (h : Rb w A n c l) (hm : n ≤ 1000000) : ∃ (ts ln id : Nat) (st mo : Bool) (fo tl pr sm sa da : Nat) (o load : List UInt8) (E : Int),
    (∀ w', Below w.heap.size w w' → Calls Try.prog 44 #[.slice A n c] w' (RetPE w' ts ln id st mo fo tl pr sm sa da o load E)) ∧ (∀ w', Below w.heap.size w w' → Calls Try.prog 45 #[.slice A n c] w' (RetPE w' ts ln id st mo fo tl pr sm sa da o load E)) := by
  have bad : ∀ E : Int, (E != 0) = true → (∀ w', Below w.heap.size w w' → Calls Try.prog 119 #[.slice A n c] w' (RetV w' (.tuple #[.agg (h4C 0 0 0 false false 0 0 0 0 false 0 0 false 0 0 none 0 0).toArray, .int .i64 0, .int .i64 E]))) → (∀ w', Below w.heap.size w w' → Calls Try.prog 45 #[.slice A n c] w' (RetV w' (.tuple #[.agg (h4C 0 0 0 false false 0 0 0 0 false 0 0 false 0 0 none 0 0).toArray, .slice none 0 0, .int .i64 E]))) → ∃ (ts ln id : Nat) (st mo : Bool) (fo tl pr sm sa da : Nat) (o load : List UInt8) (E : Int),
    (∀ w', Below w.heap.size w w' → Calls Try.prog 44 #[.slice A n c] w' (RetPE w' ts ln id st mo fo tl pr sm sa da o load E)) ∧ (∀ w', Below w.heap.size w w' → Calls Try.prog 45 #[.slice A n c] w' (RetPE w' ts ln id st mo fo tl pr sm sa da o load E)) := fun E hE h1 h2 =>
    ⟨0, 0, 0, false, false, 0, 0, 0, 0, 0, 0, [], [], E, fun w' hb => (parse4_err A n c E w' hE (fun w2 hb2 => h1 w2 (hb.trans (hb2.mono hb.size)))).mono fun _ _ => RetPE.err, fun w' hb => (h2 w' hb).mono fun _ _ => RetPE.err⟩
  by_cases g0 : n < 20
  · exact bad 20 rfl (fun w' hb => hdr4_short A n c l w' (h.later hb) hm g0) (fun w' hb => refP4_short A n c l w' (h.later hb) hm g0)
  have hn : 20 ≤ n := by omega
  obtain ⟨f, x0⟩ : ∃ f, num ((l.drop 0).take 1) = f := ⟨_, rfl⟩
  obtain ⟨ts, x1⟩ : ∃ f, num ((l.drop 1).take 1) = f := ⟨_, rfl⟩
  obtain ⟨ln, x2⟩ : ∃ f, num ((l.drop 2).take 2) = f := ⟨_, rfl⟩
  obtain ⟨id, x3⟩ : ∃ f, num ((l.drop 4).take 2) = f := ⟨_, rfl⟩
  obtain ⟨pl, x4⟩ : ∃ f, num ((l.drop 6).take 2) = f := ⟨_, rfl⟩
  obtain ⟨tl, x5⟩ : ∃ f, num ((l.drop 8).take 1) = f := ⟨_, rfl⟩
  obtain ⟨pr, x6⟩ : ∃ f, num ((l.drop 9).take 1) = f := ⟨_, rfl⟩
  obtain ⟨sm, x7⟩ : ∃ f, num ((l.drop 10).take 2) = f := ⟨_, rfl⟩
  obtain ⟨sa, x8⟩ : ∃ f, num ((l.drop 12).take 4) = f := ⟨_, rfl⟩
  obtain ⟨da, x9⟩ : ∃ f, num ((l.drop 16).take 4) = f := ⟨_, rfl⟩
  by_cases g1 : f / 16 = 4
  case neg => exact bad 21 rfl (fun w' hb => hdr4_f1 A n c l w' (h.later hb) hm f ts ln id pl x0 x1 x2 x3 x4 hn g1) (fun w' hb => refP4_f1 A n c l w' (h.later hb) hm f ts ln id pl tl pr sm sa da x0 x1 x2 x3 x4 x5 x6 x7 x8 x9 hn g1)
  by_cases g2 : 4 * (f % 16) < 20
  · exact bad 21 rfl (fun w' hb => hdr4_f2 A n c l w' (h.later hb) hm f ts ln id pl x0 x1 x2 x3 x4 hn g1 g2) (fun w' hb => refP4_f2 A n c l w' (h.later hb) hm f ts ln id pl tl pr sm sa da x0 x1 x2 x3 x4 x5 x6 x7 x8 x9 hn g1 g2)
  have g2' : 20 ≤ 4 * (f % 16) := by omega
  obtain ⟨st, hst⟩ : ∃ b, (pl / 16384 % 2 == 1) = b := ⟨_, rfl⟩
  obtain ⟨mo, hmo⟩ : ∃ b, (pl / 8192 % 2 == 1) = b := ⟨_, rfl⟩
  by_cases g3 : 32768 ≤ pl
  · exact bad 21 rfl (fun w' hb => hdr4_f3 A n c l w' (h.later hb) hm f ts ln id pl x0 x1 x2 x3 x4 hn g1 g2' g3) (fun w' hb => refP4_f3 A n c l w' (h.later hb) hm f ts ln id pl tl pr sm sa da st mo x0 x1 x2 x3 x4 x5 x6 x7 x8 x9 hst hmo hn g1 g2' g3)
  have g3' : pl < 32768 := by omega
  by_cases g4 : ln < 4 * (f % 16)
  · exact bad 21 rfl (fun w' hb => hdr4_f4 A n c l w' (h.later hb) hm f ts ln id pl x0 x1 x2 x3 x4 hn g1 g2' g3' g4) (fun w' hb => refP4_f4 A n c l w' (h.later hb) hm f ts ln id pl tl pr sm sa da st mo x0 x1 x2 x3 x4 x5 x6 x7 x8 x9 hst hmo hn g1 g2' g3' g4)
  have g4' : 4 * (f % 16) ≤ ln := by omega
  by_cases g5 : n < ln
  · refine bad 20 rfl (fun w' hb => ?_) (fun w' hb => refP4_l A n c l w' (h.later hb) hm f ts ln id pl tl pr sm sa da st mo x0 x1 x2 x3 x4 x5 x6 x7 x8 x9 hst hmo hn g1 g2' g3' g4' g5)
    by_cases g6 : n < 4 * (f % 16)
    · exact hdr4_l1 A n c l w' (h.later hb) hm f ts ln id pl x0 x1 x2 x3 x4 hn g1 g2' g3' g4' g6
    · exact hdr4_l2 A n c l w' (h.later hb) hm f ts ln id pl x0 x1 x2 x3 x4 hn g1 g2' g3' g4' (by omega) g5
  have g5' : ln ≤ n := by omega
  by_cases g7 : 65535 - fd (tot false (l.take (4 * (f % 16)))) = 0
  case neg => exact bad 22 rfl (fun w' hb => hdr4_sum A n c l w' (h.later hb) hm f ts ln id pl x0 x1 x2 x3 x4 hn g1 g2' g3' g4' (by omega) g5' g7) (fun w' hb => refP4_sum A n c l w' (h.later hb) hm f ts ln id pl tl pr sm sa da st mo x0 x1 x2 x3 x4 x5 x6 x7 x8 x9 hst hmo hn g1 g2' g3' g4' g5' g7)
  refine ⟨ts, ln, id, st, mo, pl % 8192, tl, pr, sm, sa, da, (l.drop 20).take (4 * (f % 16) - 20), (l.drop (4 * (f % 16))).take (ln - 4 * (f % 16)), 0, fun w' hb => ?_, fun w' hb => ?_⟩
  · exact (parse4_ok A n c l ts ln id st mo (pl % 8192) tl pr sm sa da (4 * (f % 16)) _ w' (h.later hb) hm g2' g4' g5' (fun w2 hb2 => hdr4_ok A n c l w2 ((h.later hb).later hb2) hm f ts ln id pl tl pr sm sa da st mo x0 x1 x2 x3 x4 x5 x6 x7 x8 x9 hst hmo hn g1 g2' g3' g4' (by omega) g5' g7)).mono fun _ _ => RetPE.ok
  · exact (refP4_ok A n c l w' (h.later hb) hm f ts ln id pl tl pr sm sa da st mo x0 x1 x2 x3 x4 x5 x6 x7 x8 x9 hst hmo hn g1 g2' g3' g4' g5' g7).mono fun _ _ => RetPE.ok
end Go.Proofs.Ytldecdeiibfekaa
