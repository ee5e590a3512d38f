/- Own rows of bytes inside regions that draw their order; equality of rings. -/
import Derived.Test.YtldecdeiibfekaaAgg
namespace Go.Proofs.Ytldecdeiibfekaa
open Go.RowKit
set_option linter.unusedVariables false
set_option linter.unusedSimpArgs false

/-- an own row without room -/
def MP.fullO (base : Nat) (l : List UInt8) : MP := ⟨fun v w => ∃ A n, v = .slice A n n ∧ Ob w base A n n l, fun _ _ _ ⟨A, n, h1, h2⟩ h => ⟨A, n, h1, h2.later h.below⟩⟩
/-- append onto an own row without room: an own row, and nothing that was there is changed -/
theorem run_appFO {P : Program} (w : World) {ts ty : TypeId} (bt : BT P ts 5) {base : Nat} {A : Option Addr} {n : Nat} {l : List UInt8} (ho : Ob w base A n n l)
    {A2 : Option Addr} {n2 c2 : Nat} {l2 : List UInt8} (hr2 : Rb w A2 n2 c2 l2) (hm : n + n2 ≤ 1099511627776) (hbase : base ≤ w.heap.size) :
    ∃ A' n' c' w', (Builtin.append_ #[ts, ts] ty #[.slice A n n, .slice A2 n2 c2]).run P w = .ok (.slice A' n' c') w' ∧ Ob w' base A' n' c' (l ++ l2) ∧ Ex w w' := by
  obtain ⟨A1, n1, c1, w1, h1, h2, _⟩ := run_app (P := P) w (ty := ty) bt ho hr2 hm hbase
  obtain ⟨A3, n3, c3, w3, h3, _, h4, _⟩ := run_appF (P := P) w (ty := ty) bt ho.rb hr2 hm
  rw [h1] at h3
  injection h3 with e1 e2
  subst e2
  exact ⟨A1, n1, c1, w1, h1, h2, h4⟩
theorem rel_appO {P : Program} {Q : Exit → Act → World → Prop} {w : World} {o : Oper} {a : Act} {K : Act → World → Prop} {ts : TypeId} (bt : BT P ts 5) (s x : Operand) (base : Nat)
    (ho : o.op = .call { callee := .builtin .append, args := #[s, x], argTypes := #[ts, ts] }) {A : Option Addr} {n : Nat} {l : List UInt8} (hs : a.eval s = .slice A n n) (hr : Ob w base A n n l) (hbase : base ≤ w.heap.size)
    {A2 : Option Addr} {n2 c2 : Nat} {l2 : List UInt8} (hx : a.eval x = .slice A2 n2 c2) (hr2 : Rb w A2 n2 c2 l2) (hm : n + n2 ≤ 1099511627776)
    (h : ∀ A' n' c' w', Ex w w' → Ob w' base A' n' c' (l ++ l2) → K (a.put o.dst (.slice A' n' c')) w') : o.wp P a w K Q := by
  obtain ⟨A', n', c', w', hrun, h2, h3⟩ := run_appFO (P := P) w (ty := o.type) bt hr hr2 hm hbase
  unfold Oper.wp execOp
  simp only [ho, resolve, invoke, builtin, Sem.run_bind, Sem.run_pure, Result.andThen_ok, List.map_toArray, List.map_cons, List.map_nil, hs, hx, hrun]
  exact h A' n' c' w' h3 h2
end Go.Proofs.Ytldecdeiibfekaa
