/- The argument of the law TcpStamps, opened. -/
import Derived.Test.YtdaicdjjdmgobaaTcpW
import Derived.ProofKit
namespace Go.Proofs.Ytdaicdjjdmgobaa
open Go.RowKit Go.ChangeShapes Go.WideShapes Go.ChangeAt
set_option linter.unusedVariables false

set_option maxRecDepth 100000 in
theorem open_seg {H : Type} {enc : TypeId × Value → H} {W : World} {base : Nat} {v : Value} {dt : DataW H} {p : List MemPlace} (hv : Value.okWide Try.prog W .any base 68 v) (h : DataW.Trod enc Try.prog W 0 (fun _ => true) true 68 v dt p) :
    ∃ a b c d f wi sm ur : Int, ∃ A n k A' n' k', ∃ l l' : List UInt8, v = .agg #[.int .u16 a, .int .u16 b, .int .u32 c, .int .u32 d, .int .u8 f, .int .u16 wi, .int .u16 sm, .int .u16 ur, .slice A n k, .slice A' n' k'] ∧ Rb W A n k l ∧ Rb W A' n' k' l' ∧ k ≤ maxLen ∧ k' ≤ maxLen := by
  obtain ⟨cs, rfl, hl, m, hf⟩ := open_struct Try.underlying68 (by kernel_rfl) (by kernel_rfl) hv h
  obtain ⟨u0, u1, u2, u3, u4, u5, u6, u7, u8, u9, rfl⟩ := list10 hl
  obtain ⟨_, _, e0, t0⟩ := hf 0 _ rfl
  obtain ⟨_, _, e1, t1⟩ := hf 1 _ rfl
  obtain ⟨_, _, e2, t2⟩ := hf 2 _ rfl
  obtain ⟨_, _, e3, t3⟩ := hf 3 _ rfl
  obtain ⟨_, _, e4, t4⟩ := hf 4 _ rfl
  obtain ⟨_, _, e5, t5⟩ := hf 5 _ rfl
  obtain ⟨_, _, e6, t6⟩ := hf 6 _ rfl
  obtain ⟨_, _, e7, t7⟩ := hf 7 _ rfl
  obtain ⟨_, _, e8, t8⟩ := hf 8 _ rfl
  obtain ⟨_, _, e9, t9⟩ := hf 9 _ rfl
  simp only [List.getElem?_cons_zero, List.getElem?_cons_succ, Option.some.injEq] at e0 e1 e2 e3 e4 e5 e6 e7 e8 e9
  subst e0 e1 e2 e3 e4 e5 e6 e7 e8 e9
  obtain ⟨a, x0, -, -⟩ := DataW.trod_int Try.underlying23 t0
  obtain ⟨b, x1, -, -⟩ := DataW.trod_int Try.underlying23 t1
  obtain ⟨c, x2, -, -⟩ := DataW.trod_int Try.underlying22 t2
  obtain ⟨d, x3, -, -⟩ := DataW.trod_int Try.underlying22 t3
  obtain ⟨f, x4, -, -⟩ := DataW.trod_int Try.underlying5 t4
  obtain ⟨wi, x5, -, -⟩ := DataW.trod_int Try.underlying23 t5
  obtain ⟨sm, x6, -, -⟩ := DataW.trod_int Try.underlying23 t6
  obtain ⟨ur, x7, -, -⟩ := DataW.trod_int Try.underlying23 t7
  obtain ⟨A, n, k, l, x8, hk, hr⟩ := open_bytes_cell Try.underlying31 Try.underlying5 (by kernel_rfl) t8
  obtain ⟨A', n', k', l', x9, hk', hr'⟩ := open_bytes_cell Try.underlying31 Try.underlying5 (by kernel_rfl) t9
  simp only [List.cons.injEq, and_true] at x0 x1 x2 x3 x4 x5 x6 x7
  subst x0 x1 x2 x3 x4 x5 x6 x7 x8 x9
  exact ⟨a, b, c, d, f, wi, sm, ur, A, n, k, A', n', k', l, l', rfl, hr, hr', hk, hk'⟩

set_option maxRecDepth 100000 in
theorem tcpStamps_walk (w : World) (a b c d f wi sm ur : Int) (A : Option Addr) (n k : Nat) (A' : Option Addr) (n' k' : Nat) (l l' : List UInt8) (h : Rb w A n k l) (h' : Rb w A' n' k' l') (hk : k ≤ maxLen) (hk' : k' ≤ maxLen) :
    Calls Try.prog 10 #[.agg #[.int .u16 a, .int .u16 b, .int .u32 c, .int .u32 d, .int .u8 f, .int .u16 wi, .int .u16 sm, .int .u16 ur, .slice A n k, .slice A' n' k']] w fun e w' => e = .returned (.bool true) ∧ Below w.heap.size w w' := by
  by_cases hl : n ≤ 200 ∧ n' ≤ 2000
  · cases hs : stampsAt l with
    | none => exact tcpStamps_none a b c d f wi sm ur A n k A' n' k' l w h hl.1 hl.2 hs
    | some p => exact tcpStamps_some a b c d f wi sm ur A n k A' n' k' l p w h hl.1 hl.2 hs
  · simp only [maxLen] at hk hk'
    have q := h.cap
    have q' := h'.cap
    go_enter Try.func10, Try.ntmps10
    go_wp2_with fail
    refine (tcpLight_no _ _ _ _ _ _ _ _ _ _ _ _ _ _ _ hl (by omega) (by omega)).mono ?_
    rintro e w1 ⟨rfl, bs1, d1, rfl⟩
    go_wp2_with (go_at_call 40; refine (tcpAwake _).mono ?_; rintro e w1 ⟨rfl, bs9, d9, rfl⟩)
    go_ret
    exact ⟨rfl, toPlus (toPlus ((Below.refl _ _).alloc (Nat.le_refl _) _) (by simp) _ _) (by simp [size_plus]; omega) _ _⟩
end Go.Proofs.Ytdaicdjjdmgobaa
