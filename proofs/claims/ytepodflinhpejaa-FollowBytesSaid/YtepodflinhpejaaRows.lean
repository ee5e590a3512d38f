/-
  No cell of these rows narrows 'for every input' (looked for: loops, veiled, ifaces, maps, wideKeys, modest, calm, conditions, laid).
  DERIVED. THE GIVEN ROWS OF THIS SEAT. 3 by the template 'for every input the law returns true; each argument reads behind the call as it read before'; 0 by the template 'total and deterministic' (their statements: YtepodflinhpejaaTotals.lean).
  GIVEN WITH THE SEED: the statements are not yours to turn. If you find one false, say at which input.
  Laid BY PROGRAM, IN A SANDBOX (cutbox-rows.mjs): the forced cells as the released guide's own fill.sh prints them over the translation 2a953582c8e87174… (all of the seat's roots in one cut). By AI agents, Wed Nov 11 2026. No macro, syntax, notation, axiom, sorry.
-/
import Derived.Test.YtepodflinhpejaaChecked
import GoSem.Claim
import GoSem.ClaimJoined
import GoSem.ClaimMapViews
import Derived.JoinedTies
import Derived.KernelRfl
namespace Go.Proofs.Ytepodflinhpejaa
/- THE CELL 'sum', in the pinned program and in every row, IS THE sha256 OF THE DUMP (.gsa) THAT YtepodflinhpejaaProg.lean LOADS. Nothing in Lean hashes anything: it is a label: what it is worth is what the hold of that sum in a sandbox is worth. -/
noncomputable def Try.pinned : Pinned := { name := "ytepodflinhpejaa", sum := "2a953582c8e87174b92df39db701e139698e2dccb0ac61c58fedc0cd3553ee62", checked := Try.checked }
namespace Rows
def none {H : Type} : Left H := { results := [], args := [] }

/-- 'counterfoillaw23.CodecOps': WHATEVER THE INPUT: true; the input reads as it did. -/
def codecOpsSpec : ChangeSpec := { name := "codecOps", fn := fun _ => fun
  | [d1, d2] => { results := [.lit (.bool true)], args := [d1, d2] }
  | _ => none }
def codecOpsRow : OpenClaim := { program := "ytepodflinhpejaa", sum := "2a953582c8e87174b92df39db701e139698e2dccb0ac61c58fedc0cd3553ee62", func := "counterfoil/counterfoillaw23.CodecOps", spec := "codecOps", apart := false }
def CodecOpsSaid : Prop := codecOpsRow.holds Try.pinned (OpenSpec.ofChange codecOpsSpec)

/-- ITS FALSE NEIGHBOUR: 'it returns false'. Refute it at one input. -/
def codecOpsWrong : ChangeSpec := { name := "codecOps", fn := fun _ => fun
  | [d1, d2] => { results := [.lit (.bool false)], args := [d1, d2] }
  | _ => none }
def CodecOpsWrongFalsely : Prop := codecOpsRow.holds Try.pinned (OpenSpec.ofChange codecOpsWrong)

/-- 'counterfoillaw15.StackFinds': WHATEVER THE INPUT: true; the input reads as it did. -/
def stackFindsSpec : ChangeSpec := { name := "stackFinds", fn := fun _ => fun
  | [d1, d2, d3] => { results := [.lit (.bool true)], args := [d1, d2, d3] }
  | _ => none }
def stackFindsRow : OpenClaim := { program := "ytepodflinhpejaa", sum := "2a953582c8e87174b92df39db701e139698e2dccb0ac61c58fedc0cd3553ee62", func := "counterfoil/counterfoillaw15.StackFinds", spec := "stackFinds", apart := false }
def StackFindsSaid : Prop := stackFindsRow.holds Try.pinned (OpenSpec.ofChange stackFindsSpec)

/-- ITS FALSE NEIGHBOUR: 'it returns false'. Refute it at one input. -/
def stackFindsWrong : ChangeSpec := { name := "stackFinds", fn := fun _ => fun
  | [d1, d2, d3] => { results := [.lit (.bool false)], args := [d1, d2, d3] }
  | _ => none }
def StackFindsWrongFalsely : Prop := stackFindsRow.holds Try.pinned (OpenSpec.ofChange stackFindsWrong)

/-- 'counterfoillaw27.FollowBytes': WHATEVER THE INPUT: true; the input reads as it did. -/
def followBytesSpec : ChangeSpec := { name := "followBytes", fn := fun _ => fun
  | [d1, d2] => { results := [.lit (.bool true)], args := [d1, d2] }
  | _ => none }
def followBytesRow : OpenClaim := { program := "ytepodflinhpejaa", sum := "2a953582c8e87174b92df39db701e139698e2dccb0ac61c58fedc0cd3553ee62", func := "counterfoil/counterfoillaw27.FollowBytes", spec := "followBytes", unfollowed := true, recurses := true, apart := false }
def FollowBytesSaid : Prop := followBytesRow.holds Try.pinned (OpenSpec.ofChange followBytesSpec)

/-- ITS FALSE NEIGHBOUR: 'it returns false'. Refute it at one input. -/
def followBytesWrong : ChangeSpec := { name := "followBytes", fn := fun _ => fun
  | [d1, d2] => { results := [.lit (.bool false)], args := [d1, d2] }
  | _ => none }
def FollowBytesWrongFalsely : Prop := followBytesRow.holds Try.pinned (OpenSpec.ofChange followBytesWrong)

/- THE SECOND FORM. 'bulk': how many values and letters a reading holds, each counted each time it is reached (what is shared counts as often as it is met; a slice's spare places count too). A statement '..UptoSaid' is the law's where the arguments, and the package variables that the reading takes, are together of bulk at most 1048576: NARROWER than '..Said'. Prove '..Said' where nothing that the law and all that it calls make is longer than what came in: it says more and counts as full. Else prove '..UptoSaid'. A law counts once. -/
mutual
def uptoBulk {H : Type} : DataW H → Nat
  | .lit (.string bytes) => bytes.length + 1
  | .lit _ => 1
  | .nil => 1
  | .ptr d => uptoBulk d + 1
  | .slice elems spare => uptoBulkAll elems + uptoBulkAll spare + 1
  | .agg parts => uptoBulkAll parts + 1
  | .iface _ d => uptoBulk d + 1
  | .map entries => uptoBulkEntries entries + 1
  | .held _ => 1
def uptoBulkAll {H : Type} : List (DataW H) → Nat
  | [] => 0
  | d :: r => uptoBulk d + uptoBulkAll r
def uptoBulkEntries {H : Type} : List (Lit × DataW H) → Nat
  | [] => 0
  | x :: r => uptoBulkEntry x + uptoBulkEntries r
def uptoBulkEntry {H : Type} : Lit × DataW H → Nat
  | (.string bytes, d) => bytes.length + uptoBulk d + 1
  | (_, d) => uptoBulk d + 1
 end
def uptoSmall : (H : Type) → List (DataW H) → Bool := fun _ ds => decide (uptoBulkAll ds ≤ 1048576)
def OpenSpec.upto (s : _root_.Go.ChangeSpec) : _root_.Go.OpenSpec := { _root_.Go.OpenSpec.ofChange s with cond := some uptoSmall }

/-- 'counterfoillaw23.CodecOps', WHERE WHAT IT READS IS OF BULK AT MOST 1048576: true; the input reads as it did. -/
def codecOpsUptoRow : OpenClaim := { program := "ytepodflinhpejaa", sum := "2a953582c8e87174b92df39db701e139698e2dccb0ac61c58fedc0cd3553ee62", func := "counterfoil/counterfoillaw23.CodecOps", spec := "codecOps", apart := false, narrowed := true }
def CodecOpsUptoSaid : Prop := codecOpsUptoRow.holds Try.pinned (OpenSpec.upto codecOpsSpec)

/-- 'counterfoillaw15.StackFinds', WHERE WHAT IT READS IS OF BULK AT MOST 1048576: true; the input reads as it did. -/
def stackFindsUptoRow : OpenClaim := { program := "ytepodflinhpejaa", sum := "2a953582c8e87174b92df39db701e139698e2dccb0ac61c58fedc0cd3553ee62", func := "counterfoil/counterfoillaw15.StackFinds", spec := "stackFinds", apart := false, narrowed := true }
def StackFindsUptoSaid : Prop := stackFindsUptoRow.holds Try.pinned (OpenSpec.upto stackFindsSpec)

/-- 'counterfoillaw27.FollowBytes', WHERE WHAT IT READS IS OF BULK AT MOST 1048576: true; the input reads as it did. -/
def followBytesUptoRow : OpenClaim := { program := "ytepodflinhpejaa", sum := "2a953582c8e87174b92df39db701e139698e2dccb0ac61c58fedc0cd3553ee62", func := "counterfoil/counterfoillaw27.FollowBytes", spec := "followBytes", unfollowed := true, recurses := true, apart := false, narrowed := true }
def FollowBytesUptoSaid : Prop := followBytesUptoRow.holds Try.pinned (OpenSpec.upto followBytesSpec)

end Rows
end Go.Proofs.Ytepodflinhpejaa
