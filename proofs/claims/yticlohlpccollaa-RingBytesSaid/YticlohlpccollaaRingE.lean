/- Equality of rings as structs. -/
import Derived.Test.YticlohlpccollaaRingP
import Derived.Test.YticlohlpccollaaRingK
namespace Go.Proofs.Yticlohlpccollaa
open Go.RowKit
set_option linter.unusedVariables false
set_option linter.unusedSimpArgs false
theorem two_of {α β : Type} {f : α → β} {l : List α} {a b : β} (h : l.map f = [a, b]) : ∃ x y, l = [x, y] ∧ f x = a ∧ f y = b := by
  match l, h with
  | [x, y], h => simp at h; exact ⟨x, y, rfl, h.1, h.2⟩
theorem ringFields : (Try.prog.fieldsOf 55).toList.map (fun f => (f.name, f.type, f.offset)) = [("master", 53, 0), ("epoch", 50, 16)] := by kernel_rfl
theorem ringStood : Try.prog.stoodInHeld 55 = false := by kernel_rfl
theorem ringUnder : Try.prog.underlying 55 = some (.struct (Try.prog.fieldsOf 55)) := by kernel_rfl
theorem ringP0 (w : World) (key : List UInt8) (hk : K16 key) (n : Nat) : (part 53 (ringC key n).toArray 0).run Try.prog w = .ok (.agg (bcs key).toArray) w := by
  have hsz := szKey key hk
  cases hi : Try.prog.info? 53 with
  | none => rw [hi] at hsz; simp at hsz
  | some i =>
    rw [hi] at hsz
    simp at hsz
    simp [part, isAgg, run_underlying Try.underlying53, sizeOf, typeInfo, hi, hsz, ringC, bcs_length]
theorem ringP1 (w : World) (key : List UInt8) (hk : K16 key) (n : Nat) : (part 50 (ringC key n).toArray 16).run Try.prog w = .ok (.int .u64 (n : Int)) w := by
  simp [part, isAgg, run_underlying Try.underlying50, ringC_16 key hk n]
theorem ringE0 (d : Nat) (w : World) (key : List UInt8) (hk : K16 key) : (Op.equalIn (d + 1 + 1) 53 (.agg (bcs key).toArray) (.agg (bcs key).toArray)).run Try.prog w = .ok true w := by
  rw [show bcs key = key.map Extern.Stop.cell from rfl, run_equalIn_bytes w d 53 5 16 Try.underlying53 Try.underlying5 szU8 key key hk hk]
  simp
theorem eqTwo {P : Program} (w : World) (d : Nat) (xs ys : Array Value) (f0 f1 : Field) (h0 : f0.name ≠ "_") (h1 : f1.name ≠ "_") (u u' v v' : Value)
    (p0 : (part f0.type xs f0.offset).run P w = .ok u w) (p0' : (part f0.type ys f0.offset).run P w = .ok u' w) (p1 : (part f1.type xs f1.offset).run P w = .ok v w) (p1' : (part f1.type ys f1.offset).run P w = .ok v' w)
    (e0 : (Op.equalIn d f0.type u u').run P w = .ok true w) (e1 : (Op.equalIn d f1.type v v').run P w = .ok true w) : (Op.eqFields d xs ys [f0, f1]).run P w = .ok true w := by
  simp only [Op.eqFields, if_pos h0, if_pos h1, Sem.run_bind, p0, p0', p1, p1', e0, e1, Result.andThen_ok, Bool.not_true, Bool.false_eq_true, if_false, Sem.run_pure]
theorem eq_ring_d (d : Nat) (w : World) (key : List UInt8) (hk : K16 key) (n : Nat) : (Op.equalIn (d + 1 + 1 + 1) 55 (.agg (ringC key n).toArray) (.agg (ringC key n).toArray)).run Try.prog w = .ok true w := by
  obtain ⟨f0, f1, hl, h0, h1⟩ := two_of ringFields
  simp only [Prod.mk.injEq] at h0 h1
  obtain ⟨a1, a2, a3⟩ := h0
  obtain ⟨b1, b2, b3⟩ := h1
  refine (run_equalIn_struct w (d + 1 + 1) 55 _ _ ringUnder ringStood).trans ?_
  rw [hl]
  refine eqTwo w (d + 1 + 1) _ _ f0 f1 (by rw [a1]; decide) (by rw [b1]; decide) (.agg (bcs key).toArray) (.agg (bcs key).toArray) (.int .u64 (n : Int)) (.int .u64 (n : Int)) ?_ ?_ ?_ ?_ ?_ ?_
  · rw [a2, a3]; exact ringP0 w key hk n
  · rw [a2, a3]; exact ringP0 w key hk n
  · rw [b2, b3]; exact ringP1 w key hk n
  · rw [b2, b3]; exact ringP1 w key hk n
  · rw [a2]; exact ringE0 d w key hk
  · rw [b2, run_equalIn_int w (d + 1) 50 .u64 .u64 (n : Int) (n : Int) Try.underlying50]; simp
theorem eq_ring (w : World) (key : List UInt8) (hk : K16 key) (n : Nat) : (Op.equalIn 10000 55 (.agg (ringC key n).toArray) (.agg (ringC key n).toArray)).run Try.prog w = .ok true w := by
  have h := eq_ring_d 9997 w key hk n
  simp only [Nat.reduceAdd] at h
  exact h
end Go.Proofs.Yticlohlpccollaa
