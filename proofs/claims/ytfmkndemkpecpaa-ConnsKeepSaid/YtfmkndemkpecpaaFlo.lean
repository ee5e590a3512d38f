/- A flow (chapter 3). -/
import Derived.Test.YtfmkndemkpecpaaRet
namespace Go.Proofs.Ytfmkndemkpecpaa
open Go.RowKit
/-- a flow -/
def flC (s1 : Bool) (h1 l1 : Nat) (s2 : Bool) (h2 l2 : Nat) (sp dp p : Nat) : List Value := [.bool s1, .int .u64 (h1 : Int), .int .u64 (l1 : Int), .bool s2, .int .u64 (h2 : Int), .int .u64 (l2 : Int), .int .u16 (sp : Int), .int .u16 (dp : Int), .int .u8 (p : Int)]
theorem flC_one (s1 : Bool) (h1 l1 : Nat) (s2 : Bool) (h2 l2 : Nat) (sp dp p : Nat) : ∀ u ∈ flC s1 h1 l1 s2 h2 l2 sp dp p, u.oneCell' = true := by
  intro u hu
  simp only [flC, List.mem_cons, List.not_mem_nil, or_false] at hu
  rcases hu with rfl | rfl | rfl | rfl | rfl | rfl | rfl | rfl | rfl <;> rfl
theorem szFl (s1 : Bool) (h1 l1 : Nat) (s2 : Bool) (h2 l2 : Nat) (sp dp p : Nat) : (Try.prog.info? 29).map (·.size) = some (flC s1 h1 l1 s2 h2 l2 sp dp p).length := by kernel_rfl
theorem rowFl : ∃ d, Try.prog.underlying 29 = some d ∧ d.isRow = true := ⟨_, Try.underlying29, rfl⟩
end Go.Proofs.Ytfmkndemkpecpaa
