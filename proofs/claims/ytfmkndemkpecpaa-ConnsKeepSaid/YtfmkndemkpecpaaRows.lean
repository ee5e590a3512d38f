/-
  No cell of these rows narrows 'for every input' (looked for: loops, veiled, ifaces, maps, wideKeys, modest, calm, conditions, laid).
  DERIVED. THE GIVEN ROWS OF THIS SEAT. 9 by the template 'for every input the law returns true; each argument reads behind the call as it read before'; 0 by the template 'total and deterministic' (their statements: YtfmkndemkpecpaaTotals.lean).
  GIVEN WITH THE SEED: the statements are not yours to turn. If you find one false, say at which input.
  Laid BY PROGRAM, IN A SANDBOX (cutbox-rows.mjs): the forced cells as the released guide's own fill.sh prints them over the translation 6de1bcc2084495ff… (all of the seat's roots in one cut). By AI agents, Wed Nov 11 2026. No macro, syntax, notation, axiom, sorry.
-/
import Derived.Test.YtfmkndemkpecpaaChecked
import GoSem.Claim
import GoSem.ClaimJoined
import GoSem.ClaimMapViews
import Derived.JoinedTies
import Derived.KernelRfl
namespace Go.Proofs.Ytfmkndemkpecpaa
/- THE CELL 'sum', in the pinned program and in every row, IS THE sha256 OF THE DUMP (.gsa) THAT YtfmkndemkpecpaaProg.lean LOADS. Nothing in Lean hashes anything: it is a label: what it is worth is what the hold of that sum in a sandbox is worth. -/
noncomputable def Try.pinned : Pinned := { name := "ytfmkndemkpecpaa", sum := "6de1bcc2084495ffb77529889ab4e5e66b73c5864b369c4b01829066d5894fa4", checked := Try.checked }
namespace Rows
def none {H : Type} : Left H := { results := [], args := [] }

/-- 'counterfoillaw29.SteerReads': WHATEVER THE INPUT: true; the input reads as it did. -/
def steerReadsSpec : ChangeSpec := { name := "steerReads", fn := fun _ => fun
  | [d1, d2] => { results := [.lit (.bool true)], args := [d1, d2] }
  | _ => none }
def steerReadsRow : OpenClaim := { program := "ytfmkndemkpecpaa", sum := "6de1bcc2084495ffb77529889ab4e5e66b73c5864b369c4b01829066d5894fa4", func := "counterfoil/counterfoillaw29.SteerReads", spec := "steerReads", unfollowed := true, recurses := true, plainKeys := false, apart := false }
def SteerReadsSaid : Prop := steerReadsRow.holds Try.pinned (OpenSpec.ofChange steerReadsSpec)

/-- ITS FALSE NEIGHBOUR: 'it returns false'. Refute it at one input. -/
def steerReadsWrong : ChangeSpec := { name := "steerReads", fn := fun _ => fun
  | [d1, d2] => { results := [.lit (.bool false)], args := [d1, d2] }
  | _ => none }
def SteerReadsWrongFalsely : Prop := steerReadsRow.holds Try.pinned (OpenSpec.ofChange steerReadsWrong)

/-- 'counterfoillaw28.PacketNames': WHATEVER THE INPUT: true; the input reads as it did. -/
def packetNamesSpec : ChangeSpec := { name := "packetNames", fn := fun _ => fun
  | [d1, d2] => { results := [.lit (.bool true)], args := [d1, d2] }
  | _ => none }
def packetNamesRow : OpenClaim := { program := "ytfmkndemkpecpaa", sum := "6de1bcc2084495ffb77529889ab4e5e66b73c5864b369c4b01829066d5894fa4", func := "counterfoil/counterfoillaw28.PacketNames", spec := "packetNames", plainKeys := false, apart := false }
def PacketNamesSaid : Prop := packetNamesRow.holds Try.pinned (OpenSpec.ofChange packetNamesSpec)

/-- ITS FALSE NEIGHBOUR: 'it returns false'. Refute it at one input. -/
def packetNamesWrong : ChangeSpec := { name := "packetNames", fn := fun _ => fun
  | [d1, d2] => { results := [.lit (.bool false)], args := [d1, d2] }
  | _ => none }
def PacketNamesWrongFalsely : Prop := packetNamesRow.holds Try.pinned (OpenSpec.ofChange packetNamesWrong)

/-- 'counterfoillaw28.PacketReads': WHATEVER THE INPUT: true; the input reads as it did. -/
def packetReadsSpec : ChangeSpec := { name := "packetReads", fn := fun _ => fun
  | [d] => { results := [.lit (.bool true)], args := [d] }
  | _ => none }
def packetReadsRow : OpenClaim := { program := "ytfmkndemkpecpaa", sum := "6de1bcc2084495ffb77529889ab4e5e66b73c5864b369c4b01829066d5894fa4", func := "counterfoil/counterfoillaw28.PacketReads", spec := "packetReads", plainKeys := false, apart := false }
def PacketReadsSaid : Prop := packetReadsRow.holds Try.pinned (OpenSpec.ofChange packetReadsSpec)

/-- ITS FALSE NEIGHBOUR: 'it returns false'. Refute it at one input. -/
def packetReadsWrong : ChangeSpec := { name := "packetReads", fn := fun _ => fun
  | [d] => { results := [.lit (.bool false)], args := [d] }
  | _ => none }
def PacketReadsWrongFalsely : Prop := packetReadsRow.holds Try.pinned (OpenSpec.ofChange packetReadsWrong)

/-- 'counterfoillaw28.PacketCarries': WHATEVER THE INPUT: true; the input reads as it did. -/
def packetCarriesSpec : ChangeSpec := { name := "packetCarries", fn := fun _ => fun
  | [d1, d2] => { results := [.lit (.bool true)], args := [d1, d2] }
  | _ => none }
def packetCarriesRow : OpenClaim := { program := "ytfmkndemkpecpaa", sum := "6de1bcc2084495ffb77529889ab4e5e66b73c5864b369c4b01829066d5894fa4", func := "counterfoil/counterfoillaw28.PacketCarries", spec := "packetCarries", plainKeys := false, apart := false }
def PacketCarriesSaid : Prop := packetCarriesRow.holds Try.pinned (OpenSpec.ofChange packetCarriesSpec)

/-- ITS FALSE NEIGHBOUR: 'it returns false'. Refute it at one input. -/
def packetCarriesWrong : ChangeSpec := { name := "packetCarries", fn := fun _ => fun
  | [d1, d2] => { results := [.lit (.bool false)], args := [d1, d2] }
  | _ => none }
def PacketCarriesWrongFalsely : Prop := packetCarriesRow.holds Try.pinned (OpenSpec.ofChange packetCarriesWrong)

/-- 'counterfoillaw29.SteerWhole': WHATEVER THE INPUT: true; the input reads as it did. -/
def steerWholeSpec : ChangeSpec := { name := "steerWhole", fn := fun _ => fun
  | [d1, d2] => { results := [.lit (.bool true)], args := [d1, d2] }
  | _ => none }
def steerWholeRow : OpenClaim := { program := "ytfmkndemkpecpaa", sum := "6de1bcc2084495ffb77529889ab4e5e66b73c5864b369c4b01829066d5894fa4", func := "counterfoil/counterfoillaw29.SteerWhole", spec := "steerWhole", unfollowed := true, recurses := true, plainKeys := false, apart := false }
def SteerWholeSaid : Prop := steerWholeRow.holds Try.pinned (OpenSpec.ofChange steerWholeSpec)

/-- ITS FALSE NEIGHBOUR: 'it returns false'. Refute it at one input. -/
def steerWholeWrong : ChangeSpec := { name := "steerWhole", fn := fun _ => fun
  | [d1, d2] => { results := [.lit (.bool false)], args := [d1, d2] }
  | _ => none }
def SteerWholeWrongFalsely : Prop := steerWholeRow.holds Try.pinned (OpenSpec.ofChange steerWholeWrong)

/-- 'counterfoillaw16.HrwKeeps': WHATEVER THE INPUT: true; the input reads as it did. -/
def hrwKeepsSpec : ChangeSpec := { name := "hrwKeeps", fn := fun _ => fun
  | [d1, d2, d3, d4] => { results := [.lit (.bool true)], args := [d1, d2, d3, d4] }
  | _ => none }
def hrwKeepsRow : OpenClaim := { program := "ytfmkndemkpecpaa", sum := "6de1bcc2084495ffb77529889ab4e5e66b73c5864b369c4b01829066d5894fa4", func := "counterfoil/counterfoillaw16.HrwKeeps", spec := "hrwKeeps", unfollowed := true, recurses := true, plainKeys := false, apart := false }
def HrwKeepsSaid : Prop := hrwKeepsRow.holds Try.pinned (OpenSpec.ofChange hrwKeepsSpec)

/-- ITS FALSE NEIGHBOUR: 'it returns false'. Refute it at one input. -/
def hrwKeepsWrong : ChangeSpec := { name := "hrwKeeps", fn := fun _ => fun
  | [d1, d2, d3, d4] => { results := [.lit (.bool false)], args := [d1, d2, d3, d4] }
  | _ => none }
def HrwKeepsWrongFalsely : Prop := hrwKeepsRow.holds Try.pinned (OpenSpec.ofChange hrwKeepsWrong)

/-- 'counterfoillaw15.StackFinds': WHATEVER THE INPUT: true; the input reads as it did. -/
def stackFindsSpec : ChangeSpec := { name := "stackFinds", fn := fun _ => fun
  | [d1, d2, d3] => { results := [.lit (.bool true)], args := [d1, d2, d3] }
  | _ => none }
def stackFindsRow : OpenClaim := { program := "ytfmkndemkpecpaa", sum := "6de1bcc2084495ffb77529889ab4e5e66b73c5864b369c4b01829066d5894fa4", func := "counterfoil/counterfoillaw15.StackFinds", spec := "stackFinds", plainKeys := false, apart := false }
def StackFindsSaid : Prop := stackFindsRow.holds Try.pinned (OpenSpec.ofChange stackFindsSpec)

/-- ITS FALSE NEIGHBOUR: 'it returns false'. Refute it at one input. -/
def stackFindsWrong : ChangeSpec := { name := "stackFinds", fn := fun _ => fun
  | [d1, d2, d3] => { results := [.lit (.bool false)], args := [d1, d2, d3] }
  | _ => none }
def StackFindsWrongFalsely : Prop := stackFindsRow.holds Try.pinned (OpenSpec.ofChange stackFindsWrong)

/-- 'counterfoillaw31.ConnsKeep': WHATEVER THE INPUT: true; the input reads as it did. -/
def connsKeepSpec : ChangeSpec := { name := "connsKeep", fn := fun _ => fun
  | [d1, d2, d3, d4] => { results := [.lit (.bool true)], args := [d1, d2, d3, d4] }
  | _ => none }
def connsKeepRow : OpenClaim := { program := "ytfmkndemkpecpaa", sum := "6de1bcc2084495ffb77529889ab4e5e66b73c5864b369c4b01829066d5894fa4", func := "counterfoil/counterfoillaw31.ConnsKeep", spec := "connsKeep", plainKeys := false, apart := false }
def ConnsKeepSaid : Prop := connsKeepRow.holds Try.pinned (OpenSpec.ofChange connsKeepSpec)

/-- ITS FALSE NEIGHBOUR: 'it returns false'. Refute it at one input. -/
def connsKeepWrong : ChangeSpec := { name := "connsKeep", fn := fun _ => fun
  | [d1, d2, d3, d4] => { results := [.lit (.bool false)], args := [d1, d2, d3, d4] }
  | _ => none }
def ConnsKeepWrongFalsely : Prop := connsKeepRow.holds Try.pinned (OpenSpec.ofChange connsKeepWrong)

/-- 'counterfoillaw31.ConnsPlay': WHATEVER THE INPUT: true; the input reads as it did. -/
def connsPlaySpec : ChangeSpec := { name := "connsPlay", fn := fun _ => fun
  | [d1, d2, d3] => { results := [.lit (.bool true)], args := [d1, d2, d3] }
  | _ => none }
def connsPlayRow : OpenClaim := { program := "ytfmkndemkpecpaa", sum := "6de1bcc2084495ffb77529889ab4e5e66b73c5864b369c4b01829066d5894fa4", func := "counterfoil/counterfoillaw31.ConnsPlay", spec := "connsPlay", plainKeys := false, apart := false }
def ConnsPlaySaid : Prop := connsPlayRow.holds Try.pinned (OpenSpec.ofChange connsPlaySpec)

/-- ITS FALSE NEIGHBOUR: 'it returns false'. Refute it at one input. -/
def connsPlayWrong : ChangeSpec := { name := "connsPlay", fn := fun _ => fun
  | [d1, d2, d3] => { results := [.lit (.bool false)], args := [d1, d2, d3] }
  | _ => none }
def ConnsPlayWrongFalsely : Prop := connsPlayRow.holds Try.pinned (OpenSpec.ofChange connsPlayWrong)

/- THE SECOND FORM. 'bulk': how many values and letters a reading holds, each counted each time it is reached (what is shared counts as often as it is met; a slice's spare places count too). A statement '..UptoSaid' is the law's where the arguments, and the package variables that the reading takes, are together of bulk at most 1048576: NARROWER than '..Said'. Prove '..Said' where nothing that the law and all that it calls make is longer than what came in: it says more and counts as full. Else prove '..UptoSaid'. A law counts once. -/
mutual
def uptoBulk {H : Type} : DataW H → Nat
  | .lit (.string bytes) => bytes.length + 1
  | .lit _ => 1
  | .nil => 1
  | .ptr d => uptoBulk d + 1
  | .slice elems spare => uptoBulkAll elems + uptoBulkAll spare + 1
  | .agg parts => uptoBulkAll parts + 1
  | .iface _ d => uptoBulk d + 1
  | .map entries => uptoBulkEntries entries + 1
  | .held _ => 1
def uptoBulkAll {H : Type} : List (DataW H) → Nat
  | [] => 0
  | d :: r => uptoBulk d + uptoBulkAll r
def uptoBulkEntries {H : Type} : List (Lit × DataW H) → Nat
  | [] => 0
  | x :: r => uptoBulkEntry x + uptoBulkEntries r
def uptoBulkEntry {H : Type} : Lit × DataW H → Nat
  | (.string bytes, d) => bytes.length + uptoBulk d + 1
  | (_, d) => uptoBulk d + 1
 end
def uptoSmall : (H : Type) → List (DataW H) → Bool := fun _ ds => decide (uptoBulkAll ds ≤ 1048576)
def OpenSpec.upto (s : _root_.Go.ChangeSpec) : _root_.Go.OpenSpec := { _root_.Go.OpenSpec.ofChange s with cond := some uptoSmall }

/-- 'counterfoillaw29.SteerReads', WHERE WHAT IT READS IS OF BULK AT MOST 1048576: true; the input reads as it did. -/
def steerReadsUptoRow : OpenClaim := { program := "ytfmkndemkpecpaa", sum := "6de1bcc2084495ffb77529889ab4e5e66b73c5864b369c4b01829066d5894fa4", func := "counterfoil/counterfoillaw29.SteerReads", spec := "steerReads", unfollowed := true, recurses := true, plainKeys := false, apart := false, narrowed := true }
def SteerReadsUptoSaid : Prop := steerReadsUptoRow.holds Try.pinned (OpenSpec.upto steerReadsSpec)

/-- 'counterfoillaw28.PacketNames', WHERE WHAT IT READS IS OF BULK AT MOST 1048576: true; the input reads as it did. -/
def packetNamesUptoRow : OpenClaim := { program := "ytfmkndemkpecpaa", sum := "6de1bcc2084495ffb77529889ab4e5e66b73c5864b369c4b01829066d5894fa4", func := "counterfoil/counterfoillaw28.PacketNames", spec := "packetNames", plainKeys := false, apart := false, narrowed := true }
def PacketNamesUptoSaid : Prop := packetNamesUptoRow.holds Try.pinned (OpenSpec.upto packetNamesSpec)

/-- 'counterfoillaw28.PacketReads', WHERE WHAT IT READS IS OF BULK AT MOST 1048576: true; the input reads as it did. -/
def packetReadsUptoRow : OpenClaim := { program := "ytfmkndemkpecpaa", sum := "6de1bcc2084495ffb77529889ab4e5e66b73c5864b369c4b01829066d5894fa4", func := "counterfoil/counterfoillaw28.PacketReads", spec := "packetReads", plainKeys := false, apart := false, narrowed := true }
def PacketReadsUptoSaid : Prop := packetReadsUptoRow.holds Try.pinned (OpenSpec.upto packetReadsSpec)

/-- 'counterfoillaw28.PacketCarries', WHERE WHAT IT READS IS OF BULK AT MOST 1048576: true; the input reads as it did. -/
def packetCarriesUptoRow : OpenClaim := { program := "ytfmkndemkpecpaa", sum := "6de1bcc2084495ffb77529889ab4e5e66b73c5864b369c4b01829066d5894fa4", func := "counterfoil/counterfoillaw28.PacketCarries", spec := "packetCarries", plainKeys := false, apart := false, narrowed := true }
def PacketCarriesUptoSaid : Prop := packetCarriesUptoRow.holds Try.pinned (OpenSpec.upto packetCarriesSpec)

/-- 'counterfoillaw29.SteerWhole', WHERE WHAT IT READS IS OF BULK AT MOST 1048576: true; the input reads as it did. -/
def steerWholeUptoRow : OpenClaim := { program := "ytfmkndemkpecpaa", sum := "6de1bcc2084495ffb77529889ab4e5e66b73c5864b369c4b01829066d5894fa4", func := "counterfoil/counterfoillaw29.SteerWhole", spec := "steerWhole", unfollowed := true, recurses := true, plainKeys := false, apart := false, narrowed := true }
def SteerWholeUptoSaid : Prop := steerWholeUptoRow.holds Try.pinned (OpenSpec.upto steerWholeSpec)

/-- 'counterfoillaw16.HrwKeeps', WHERE WHAT IT READS IS OF BULK AT MOST 1048576: true; the input reads as it did. -/
def hrwKeepsUptoRow : OpenClaim := { program := "ytfmkndemkpecpaa", sum := "6de1bcc2084495ffb77529889ab4e5e66b73c5864b369c4b01829066d5894fa4", func := "counterfoil/counterfoillaw16.HrwKeeps", spec := "hrwKeeps", unfollowed := true, recurses := true, plainKeys := false, apart := false, narrowed := true }
def HrwKeepsUptoSaid : Prop := hrwKeepsUptoRow.holds Try.pinned (OpenSpec.upto hrwKeepsSpec)

/-- 'counterfoillaw15.StackFinds', WHERE WHAT IT READS IS OF BULK AT MOST 1048576: true; the input reads as it did. -/
def stackFindsUptoRow : OpenClaim := { program := "ytfmkndemkpecpaa", sum := "6de1bcc2084495ffb77529889ab4e5e66b73c5864b369c4b01829066d5894fa4", func := "counterfoil/counterfoillaw15.StackFinds", spec := "stackFinds", plainKeys := false, apart := false, narrowed := true }
def StackFindsUptoSaid : Prop := stackFindsUptoRow.holds Try.pinned (OpenSpec.upto stackFindsSpec)

/-- 'counterfoillaw31.ConnsKeep', WHERE WHAT IT READS IS OF BULK AT MOST 1048576: true; the input reads as it did. -/
def connsKeepUptoRow : OpenClaim := { program := "ytfmkndemkpecpaa", sum := "6de1bcc2084495ffb77529889ab4e5e66b73c5864b369c4b01829066d5894fa4", func := "counterfoil/counterfoillaw31.ConnsKeep", spec := "connsKeep", plainKeys := false, apart := false, narrowed := true }
def ConnsKeepUptoSaid : Prop := connsKeepUptoRow.holds Try.pinned (OpenSpec.upto connsKeepSpec)

/-- 'counterfoillaw31.ConnsPlay', WHERE WHAT IT READS IS OF BULK AT MOST 1048576: true; the input reads as it did. -/
def connsPlayUptoRow : OpenClaim := { program := "ytfmkndemkpecpaa", sum := "6de1bcc2084495ffb77529889ab4e5e66b73c5864b369c4b01829066d5894fa4", func := "counterfoil/counterfoillaw31.ConnsPlay", spec := "connsPlay", plainKeys := false, apart := false, narrowed := true }
def ConnsPlayUptoSaid : Prop := connsPlayUptoRow.holds Try.pinned (OpenSpec.upto connsPlaySpec)

end Rows
end Go.Proofs.Ytfmkndemkpecpaa
