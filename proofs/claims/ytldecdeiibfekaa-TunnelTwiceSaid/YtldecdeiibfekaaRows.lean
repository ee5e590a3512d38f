/-
  No cell of these rows narrows 'for every input' (looked for: loops, veiled, ifaces, maps, wideKeys, modest, calm, conditions, laid).
  DERIVED. THE GIVEN ROWS OF THIS SEAT. 12 by the template 'for every input the law returns true; each argument reads behind the call as it read before'; 0 by the template 'total and deterministic' (their statements: YtldecdeiibfekaaTotals.lean).
  GIVEN WITH THE SEED: the statements are not yours to turn. If you find one false, say at which input.
  Laid BY PROGRAM, IN A SANDBOX (cutbox-rows.mjs): the forced cells as the released guide's own fill.sh prints them over the translation 396c8de6c8093de7… (all of the seat's roots in one cut). By AI agents, Wed Nov 11 2026. No macro, syntax, notation, axiom, sorry.
-/
import Derived.Test.YtldecdeiibfekaaChecked
import GoSem.Claim
import GoSem.ClaimJoined
import GoSem.ClaimMapViews
import Derived.JoinedTies
import Derived.KernelRfl
namespace Go.Proofs.Ytldecdeiibfekaa
/- THE CELL 'sum', in the pinned program and in every row, IS THE sha256 OF THE DUMP (.gsa) THAT YtldecdeiibfekaaProg.lean LOADS. Nothing in Lean hashes anything: it is a label: what it is worth is what the hold of that sum in a sandbox is worth. -/
noncomputable def Try.pinned : Pinned := { name := "ytldecdeiibfekaa", sum := "396c8de6c8093de736e2291e1b00e2f514f470239af39c069f1aa469c2eaa3de", checked := Try.checked }
namespace Rows
def none {H : Type} : Left H := { results := [], args := [] }

/-- 'counterfoillaw08.IcmpWrites': WHATEVER THE INPUT: true; the input reads as it did. -/
def icmpWritesSpec : ChangeSpec := { name := "icmpWrites", fn := fun _ => fun
  | [d1, d2, d3] => { results := [.lit (.bool true)], args := [d1, d2, d3] }
  | _ => none }
def icmpWritesRow : OpenClaim := { program := "ytldecdeiibfekaa", sum := "396c8de6c8093de736e2291e1b00e2f514f470239af39c069f1aa469c2eaa3de", func := "counterfoil/counterfoillaw08.IcmpWrites", spec := "icmpWrites", apart := false }
def IcmpWritesSaid : Prop := icmpWritesRow.holds Try.pinned (OpenSpec.ofChange icmpWritesSpec)

/-- ITS FALSE NEIGHBOUR: 'it returns false'. Refute it at one input. -/
def icmpWritesWrong : ChangeSpec := { name := "icmpWrites", fn := fun _ => fun
  | [d1, d2, d3] => { results := [.lit (.bool false)], args := [d1, d2, d3] }
  | _ => none }
def IcmpWritesWrongFalsely : Prop := icmpWritesRow.holds Try.pinned (OpenSpec.ofChange icmpWritesWrong)

/-- 'counterfoillaw13.CidMakes': WHATEVER THE INPUT: true; the input reads as it did. -/
def cidMakesSpec : ChangeSpec := { name := "cidMakes", fn := fun _ => fun
  | [d1, d2, d3] => { results := [.lit (.bool true)], args := [d1, d2, d3] }
  | _ => none }
def cidMakesRow : OpenClaim := { program := "ytldecdeiibfekaa", sum := "396c8de6c8093de736e2291e1b00e2f514f470239af39c069f1aa469c2eaa3de", func := "counterfoil/counterfoillaw13.CidMakes", spec := "cidMakes", apart := false }
def CidMakesSaid : Prop := cidMakesRow.holds Try.pinned (OpenSpec.ofChange cidMakesSpec)

/-- ITS FALSE NEIGHBOUR: 'it returns false'. Refute it at one input. -/
def cidMakesWrong : ChangeSpec := { name := "cidMakes", fn := fun _ => fun
  | [d1, d2, d3] => { results := [.lit (.bool false)], args := [d1, d2, d3] }
  | _ => none }
def CidMakesWrongFalsely : Prop := cidMakesRow.holds Try.pinned (OpenSpec.ofChange cidMakesWrong)

/-- 'counterfoillaw13.CidLeases': WHATEVER THE INPUT: true; the input reads as it did. -/
def cidLeasesSpec : ChangeSpec := { name := "cidLeases", fn := fun _ => fun
  | [d1, d2, d3, d4] => { results := [.lit (.bool true)], args := [d1, d2, d3, d4] }
  | _ => none }
def cidLeasesRow : OpenClaim := { program := "ytldecdeiibfekaa", sum := "396c8de6c8093de736e2291e1b00e2f514f470239af39c069f1aa469c2eaa3de", func := "counterfoil/counterfoillaw13.CidLeases", spec := "cidLeases", apart := false }
def CidLeasesSaid : Prop := cidLeasesRow.holds Try.pinned (OpenSpec.ofChange cidLeasesSpec)

/-- ITS FALSE NEIGHBOUR: 'it returns false'. Refute it at one input. -/
def cidLeasesWrong : ChangeSpec := { name := "cidLeases", fn := fun _ => fun
  | [d1, d2, d3, d4] => { results := [.lit (.bool false)], args := [d1, d2, d3, d4] }
  | _ => none }
def CidLeasesWrongFalsely : Prop := cidLeasesRow.holds Try.pinned (OpenSpec.ofChange cidLeasesWrong)

/-- 'counterfoillaw04.Ip4Long': WHATEVER THE INPUT: true; the input reads as it did. -/
def ip4LongSpec : ChangeSpec := { name := "ip4Long", fn := fun _ => fun
  | [d1, d2] => { results := [.lit (.bool true)], args := [d1, d2] }
  | _ => none }
def ip4LongRow : OpenClaim := { program := "ytldecdeiibfekaa", sum := "396c8de6c8093de736e2291e1b00e2f514f470239af39c069f1aa469c2eaa3de", func := "counterfoil/counterfoillaw04.Ip4Long", spec := "ip4Long", apart := false }
def Ip4LongSaid : Prop := ip4LongRow.holds Try.pinned (OpenSpec.ofChange ip4LongSpec)

/-- ITS FALSE NEIGHBOUR: 'it returns false'. Refute it at one input. -/
def ip4LongWrong : ChangeSpec := { name := "ip4Long", fn := fun _ => fun
  | [d1, d2] => { results := [.lit (.bool false)], args := [d1, d2] }
  | _ => none }
def Ip4LongWrongFalsely : Prop := ip4LongRow.holds Try.pinned (OpenSpec.ofChange ip4LongWrong)

/-- 'counterfoillaw04.Ip4Reads': WHATEVER THE INPUT: true; the input reads as it did. -/
def ip4ReadsSpec : ChangeSpec := { name := "ip4Reads", fn := fun _ => fun
  | [d] => { results := [.lit (.bool true)], args := [d] }
  | _ => none }
def ip4ReadsRow : OpenClaim := { program := "ytldecdeiibfekaa", sum := "396c8de6c8093de736e2291e1b00e2f514f470239af39c069f1aa469c2eaa3de", func := "counterfoil/counterfoillaw04.Ip4Reads", spec := "ip4Reads", apart := false }
def Ip4ReadsSaid : Prop := ip4ReadsRow.holds Try.pinned (OpenSpec.ofChange ip4ReadsSpec)

/-- ITS FALSE NEIGHBOUR: 'it returns false'. Refute it at one input. -/
def ip4ReadsWrong : ChangeSpec := { name := "ip4Reads", fn := fun _ => fun
  | [d] => { results := [.lit (.bool false)], args := [d] }
  | _ => none }
def Ip4ReadsWrongFalsely : Prop := ip4ReadsRow.holds Try.pinned (OpenSpec.ofChange ip4ReadsWrong)

/-- 'counterfoillaw04.Ip4Writes': WHATEVER THE INPUT: true; the input reads as it did. -/
def ip4WritesSpec : ChangeSpec := { name := "ip4Writes", fn := fun _ => fun
  | [d1, d2] => { results := [.lit (.bool true)], args := [d1, d2] }
  | _ => none }
def ip4WritesRow : OpenClaim := { program := "ytldecdeiibfekaa", sum := "396c8de6c8093de736e2291e1b00e2f514f470239af39c069f1aa469c2eaa3de", func := "counterfoil/counterfoillaw04.Ip4Writes", spec := "ip4Writes", apart := false }
def Ip4WritesSaid : Prop := ip4WritesRow.holds Try.pinned (OpenSpec.ofChange ip4WritesSpec)

/-- ITS FALSE NEIGHBOUR: 'it returns false'. Refute it at one input. -/
def ip4WritesWrong : ChangeSpec := { name := "ip4Writes", fn := fun _ => fun
  | [d1, d2] => { results := [.lit (.bool false)], args := [d1, d2] }
  | _ => none }
def Ip4WritesWrongFalsely : Prop := ip4WritesRow.holds Try.pinned (OpenSpec.ofChange ip4WritesWrong)

/-- 'counterfoillaw44.OptionWrites': WHATEVER THE INPUT: true; the input reads as it did. -/
def optionWritesSpec : ChangeSpec := { name := "optionWrites", fn := fun _ => fun
  | [d] => { results := [.lit (.bool true)], args := [d] }
  | _ => none }
def optionWritesRow : OpenClaim := { program := "ytldecdeiibfekaa", sum := "396c8de6c8093de736e2291e1b00e2f514f470239af39c069f1aa469c2eaa3de", func := "counterfoil/counterfoillaw44.OptionWrites", spec := "optionWrites", unfollowed := true, recurses := true, apart := false }
def OptionWritesSaid : Prop := optionWritesRow.holds Try.pinned (OpenSpec.ofChange optionWritesSpec)

/-- ITS FALSE NEIGHBOUR: 'it returns false'. Refute it at one input. -/
def optionWritesWrong : ChangeSpec := { name := "optionWrites", fn := fun _ => fun
  | [d] => { results := [.lit (.bool false)], args := [d] }
  | _ => none }
def OptionWritesWrongFalsely : Prop := optionWritesRow.holds Try.pinned (OpenSpec.ofChange optionWritesWrong)

/-- 'counterfoillaw44.OptionReads': WHATEVER THE INPUT: true; the input reads as it did. -/
def optionReadsSpec : ChangeSpec := { name := "optionReads", fn := fun _ => fun
  | [d1, d2, d3] => { results := [.lit (.bool true)], args := [d1, d2, d3] }
  | _ => none }
def optionReadsRow : OpenClaim := { program := "ytldecdeiibfekaa", sum := "396c8de6c8093de736e2291e1b00e2f514f470239af39c069f1aa469c2eaa3de", func := "counterfoil/counterfoillaw44.OptionReads", spec := "optionReads", unfollowed := true, recurses := true, apart := false }
def OptionReadsSaid : Prop := optionReadsRow.holds Try.pinned (OpenSpec.ofChange optionReadsSpec)

/-- ITS FALSE NEIGHBOUR: 'it returns false'. Refute it at one input. -/
def optionReadsWrong : ChangeSpec := { name := "optionReads", fn := fun _ => fun
  | [d1, d2, d3] => { results := [.lit (.bool false)], args := [d1, d2, d3] }
  | _ => none }
def OptionReadsWrongFalsely : Prop := optionReadsRow.holds Try.pinned (OpenSpec.ofChange optionReadsWrong)

/-- 'counterfoillaw44.OptionClamps': WHATEVER THE INPUT: true; the input reads as it did. -/
def optionClampsSpec : ChangeSpec := { name := "optionClamps", fn := fun _ => fun
  | [d1, d2, d3, d4] => { results := [.lit (.bool true)], args := [d1, d2, d3, d4] }
  | _ => none }
def optionClampsRow : OpenClaim := { program := "ytldecdeiibfekaa", sum := "396c8de6c8093de736e2291e1b00e2f514f470239af39c069f1aa469c2eaa3de", func := "counterfoil/counterfoillaw44.OptionClamps", spec := "optionClamps", unfollowed := true, recurses := true, apart := false }
def OptionClampsSaid : Prop := optionClampsRow.holds Try.pinned (OpenSpec.ofChange optionClampsSpec)

/-- ITS FALSE NEIGHBOUR: 'it returns false'. Refute it at one input. -/
def optionClampsWrong : ChangeSpec := { name := "optionClamps", fn := fun _ => fun
  | [d1, d2, d3, d4] => { results := [.lit (.bool false)], args := [d1, d2, d3, d4] }
  | _ => none }
def OptionClampsWrongFalsely : Prop := optionClampsRow.holds Try.pinned (OpenSpec.ofChange optionClampsWrong)

/-- 'counterfoillaw09.TunnelReads': WHATEVER THE INPUT: true; the input reads as it did. -/
def tunnelReadsSpec : ChangeSpec := { name := "tunnelReads", fn := fun _ => fun
  | [d] => { results := [.lit (.bool true)], args := [d] }
  | _ => none }
def tunnelReadsRow : OpenClaim := { program := "ytldecdeiibfekaa", sum := "396c8de6c8093de736e2291e1b00e2f514f470239af39c069f1aa469c2eaa3de", func := "counterfoil/counterfoillaw09.TunnelReads", spec := "tunnelReads", apart := false }
def TunnelReadsSaid : Prop := tunnelReadsRow.holds Try.pinned (OpenSpec.ofChange tunnelReadsSpec)

/-- ITS FALSE NEIGHBOUR: 'it returns false'. Refute it at one input. -/
def tunnelReadsWrong : ChangeSpec := { name := "tunnelReads", fn := fun _ => fun
  | [d] => { results := [.lit (.bool false)], args := [d] }
  | _ => none }
def TunnelReadsWrongFalsely : Prop := tunnelReadsRow.holds Try.pinned (OpenSpec.ofChange tunnelReadsWrong)

/-- 'counterfoillaw09.TunnelTwice': WHATEVER THE INPUT: true; the input reads as it did. -/
def tunnelTwiceSpec : ChangeSpec := { name := "tunnelTwice", fn := fun _ => fun
  | [d1, d2, d3, d4] => { results := [.lit (.bool true)], args := [d1, d2, d3, d4] }
  | _ => none }
def tunnelTwiceRow : OpenClaim := { program := "ytldecdeiibfekaa", sum := "396c8de6c8093de736e2291e1b00e2f514f470239af39c069f1aa469c2eaa3de", func := "counterfoil/counterfoillaw09.TunnelTwice", spec := "tunnelTwice", apart := false }
def TunnelTwiceSaid : Prop := tunnelTwiceRow.holds Try.pinned (OpenSpec.ofChange tunnelTwiceSpec)

/-- ITS FALSE NEIGHBOUR: 'it returns false'. Refute it at one input. -/
def tunnelTwiceWrong : ChangeSpec := { name := "tunnelTwice", fn := fun _ => fun
  | [d1, d2, d3, d4] => { results := [.lit (.bool false)], args := [d1, d2, d3, d4] }
  | _ => none }
def TunnelTwiceWrongFalsely : Prop := tunnelTwiceRow.holds Try.pinned (OpenSpec.ofChange tunnelTwiceWrong)

/-- 'counterfoillaw23.CodecOps': WHATEVER THE INPUT: true; the input reads as it did. -/
def codecOpsSpec : ChangeSpec := { name := "codecOps", fn := fun _ => fun
  | [d1, d2] => { results := [.lit (.bool true)], args := [d1, d2] }
  | _ => none }
def codecOpsRow : OpenClaim := { program := "ytldecdeiibfekaa", sum := "396c8de6c8093de736e2291e1b00e2f514f470239af39c069f1aa469c2eaa3de", func := "counterfoil/counterfoillaw23.CodecOps", spec := "codecOps", apart := false }
def CodecOpsSaid : Prop := codecOpsRow.holds Try.pinned (OpenSpec.ofChange codecOpsSpec)

/-- ITS FALSE NEIGHBOUR: 'it returns false'. Refute it at one input. -/
def codecOpsWrong : ChangeSpec := { name := "codecOps", fn := fun _ => fun
  | [d1, d2] => { results := [.lit (.bool false)], args := [d1, d2] }
  | _ => none }
def CodecOpsWrongFalsely : Prop := codecOpsRow.holds Try.pinned (OpenSpec.ofChange codecOpsWrong)

/- THE SECOND FORM. 'bulk': how many values and letters a reading holds, each counted each time it is reached (what is shared counts as often as it is met; a slice's spare places count too). A statement '..UptoSaid' is the law's where the arguments, and the package variables that the reading takes, are together of bulk at most 1048576: NARROWER than '..Said'. Prove '..Said' where nothing that the law and all that it calls make is longer than what came in: it says more and counts as full. Else prove '..UptoSaid'. A law counts once. -/
mutual
def uptoBulk {H : Type} : DataW H → Nat
  | .lit (.string bytes) => bytes.length + 1
  | .lit _ => 1
  | .nil => 1
  | .ptr d => uptoBulk d + 1
  | .slice elems spare => uptoBulkAll elems + uptoBulkAll spare + 1
  | .agg parts => uptoBulkAll parts + 1
  | .iface _ d => uptoBulk d + 1
  | .map entries => uptoBulkEntries entries + 1
  | .held _ => 1
def uptoBulkAll {H : Type} : List (DataW H) → Nat
  | [] => 0
  | d :: r => uptoBulk d + uptoBulkAll r
def uptoBulkEntries {H : Type} : List (Lit × DataW H) → Nat
  | [] => 0
  | x :: r => uptoBulkEntry x + uptoBulkEntries r
def uptoBulkEntry {H : Type} : Lit × DataW H → Nat
  | (.string bytes, d) => bytes.length + uptoBulk d + 1
  | (_, d) => uptoBulk d + 1
 end
def uptoSmall : (H : Type) → List (DataW H) → Bool := fun _ ds => decide (uptoBulkAll ds ≤ 1048576)
def OpenSpec.upto (s : _root_.Go.ChangeSpec) : _root_.Go.OpenSpec := { _root_.Go.OpenSpec.ofChange s with cond := some uptoSmall }

/-- 'counterfoillaw08.IcmpWrites', WHERE WHAT IT READS IS OF BULK AT MOST 1048576: true; the input reads as it did. -/
def icmpWritesUptoRow : OpenClaim := { program := "ytldecdeiibfekaa", sum := "396c8de6c8093de736e2291e1b00e2f514f470239af39c069f1aa469c2eaa3de", func := "counterfoil/counterfoillaw08.IcmpWrites", spec := "icmpWrites", apart := false, narrowed := true }
def IcmpWritesUptoSaid : Prop := icmpWritesUptoRow.holds Try.pinned (OpenSpec.upto icmpWritesSpec)

/-- 'counterfoillaw13.CidMakes', WHERE WHAT IT READS IS OF BULK AT MOST 1048576: true; the input reads as it did. -/
def cidMakesUptoRow : OpenClaim := { program := "ytldecdeiibfekaa", sum := "396c8de6c8093de736e2291e1b00e2f514f470239af39c069f1aa469c2eaa3de", func := "counterfoil/counterfoillaw13.CidMakes", spec := "cidMakes", apart := false, narrowed := true }
def CidMakesUptoSaid : Prop := cidMakesUptoRow.holds Try.pinned (OpenSpec.upto cidMakesSpec)

/-- 'counterfoillaw13.CidLeases', WHERE WHAT IT READS IS OF BULK AT MOST 1048576: true; the input reads as it did. -/
def cidLeasesUptoRow : OpenClaim := { program := "ytldecdeiibfekaa", sum := "396c8de6c8093de736e2291e1b00e2f514f470239af39c069f1aa469c2eaa3de", func := "counterfoil/counterfoillaw13.CidLeases", spec := "cidLeases", apart := false, narrowed := true }
def CidLeasesUptoSaid : Prop := cidLeasesUptoRow.holds Try.pinned (OpenSpec.upto cidLeasesSpec)

/-- 'counterfoillaw04.Ip4Long', WHERE WHAT IT READS IS OF BULK AT MOST 1048576: true; the input reads as it did. -/
def ip4LongUptoRow : OpenClaim := { program := "ytldecdeiibfekaa", sum := "396c8de6c8093de736e2291e1b00e2f514f470239af39c069f1aa469c2eaa3de", func := "counterfoil/counterfoillaw04.Ip4Long", spec := "ip4Long", apart := false, narrowed := true }
def Ip4LongUptoSaid : Prop := ip4LongUptoRow.holds Try.pinned (OpenSpec.upto ip4LongSpec)

/-- 'counterfoillaw04.Ip4Reads', WHERE WHAT IT READS IS OF BULK AT MOST 1048576: true; the input reads as it did. -/
def ip4ReadsUptoRow : OpenClaim := { program := "ytldecdeiibfekaa", sum := "396c8de6c8093de736e2291e1b00e2f514f470239af39c069f1aa469c2eaa3de", func := "counterfoil/counterfoillaw04.Ip4Reads", spec := "ip4Reads", apart := false, narrowed := true }
def Ip4ReadsUptoSaid : Prop := ip4ReadsUptoRow.holds Try.pinned (OpenSpec.upto ip4ReadsSpec)

/-- 'counterfoillaw04.Ip4Writes', WHERE WHAT IT READS IS OF BULK AT MOST 1048576: true; the input reads as it did. -/
def ip4WritesUptoRow : OpenClaim := { program := "ytldecdeiibfekaa", sum := "396c8de6c8093de736e2291e1b00e2f514f470239af39c069f1aa469c2eaa3de", func := "counterfoil/counterfoillaw04.Ip4Writes", spec := "ip4Writes", apart := false, narrowed := true }
def Ip4WritesUptoSaid : Prop := ip4WritesUptoRow.holds Try.pinned (OpenSpec.upto ip4WritesSpec)

/-- 'counterfoillaw44.OptionWrites', WHERE WHAT IT READS IS OF BULK AT MOST 1048576: true; the input reads as it did. -/
def optionWritesUptoRow : OpenClaim := { program := "ytldecdeiibfekaa", sum := "396c8de6c8093de736e2291e1b00e2f514f470239af39c069f1aa469c2eaa3de", func := "counterfoil/counterfoillaw44.OptionWrites", spec := "optionWrites", unfollowed := true, recurses := true, apart := false, narrowed := true }
def OptionWritesUptoSaid : Prop := optionWritesUptoRow.holds Try.pinned (OpenSpec.upto optionWritesSpec)

/-- 'counterfoillaw44.OptionReads', WHERE WHAT IT READS IS OF BULK AT MOST 1048576: true; the input reads as it did. -/
def optionReadsUptoRow : OpenClaim := { program := "ytldecdeiibfekaa", sum := "396c8de6c8093de736e2291e1b00e2f514f470239af39c069f1aa469c2eaa3de", func := "counterfoil/counterfoillaw44.OptionReads", spec := "optionReads", unfollowed := true, recurses := true, apart := false, narrowed := true }
def OptionReadsUptoSaid : Prop := optionReadsUptoRow.holds Try.pinned (OpenSpec.upto optionReadsSpec)

/-- 'counterfoillaw44.OptionClamps', WHERE WHAT IT READS IS OF BULK AT MOST 1048576: true; the input reads as it did. -/
def optionClampsUptoRow : OpenClaim := { program := "ytldecdeiibfekaa", sum := "396c8de6c8093de736e2291e1b00e2f514f470239af39c069f1aa469c2eaa3de", func := "counterfoil/counterfoillaw44.OptionClamps", spec := "optionClamps", unfollowed := true, recurses := true, apart := false, narrowed := true }
def OptionClampsUptoSaid : Prop := optionClampsUptoRow.holds Try.pinned (OpenSpec.upto optionClampsSpec)

/-- 'counterfoillaw09.TunnelReads', WHERE WHAT IT READS IS OF BULK AT MOST 1048576: true; the input reads as it did. -/
def tunnelReadsUptoRow : OpenClaim := { program := "ytldecdeiibfekaa", sum := "396c8de6c8093de736e2291e1b00e2f514f470239af39c069f1aa469c2eaa3de", func := "counterfoil/counterfoillaw09.TunnelReads", spec := "tunnelReads", apart := false, narrowed := true }
def TunnelReadsUptoSaid : Prop := tunnelReadsUptoRow.holds Try.pinned (OpenSpec.upto tunnelReadsSpec)

/-- 'counterfoillaw09.TunnelTwice', WHERE WHAT IT READS IS OF BULK AT MOST 1048576: true; the input reads as it did. -/
def tunnelTwiceUptoRow : OpenClaim := { program := "ytldecdeiibfekaa", sum := "396c8de6c8093de736e2291e1b00e2f514f470239af39c069f1aa469c2eaa3de", func := "counterfoil/counterfoillaw09.TunnelTwice", spec := "tunnelTwice", apart := false, narrowed := true }
def TunnelTwiceUptoSaid : Prop := tunnelTwiceUptoRow.holds Try.pinned (OpenSpec.upto tunnelTwiceSpec)

/-- 'counterfoillaw23.CodecOps', WHERE WHAT IT READS IS OF BULK AT MOST 1048576: true; the input reads as it did. -/
def codecOpsUptoRow : OpenClaim := { program := "ytldecdeiibfekaa", sum := "396c8de6c8093de736e2291e1b00e2f514f470239af39c069f1aa469c2eaa3de", func := "counterfoil/counterfoillaw23.CodecOps", spec := "codecOps", apart := false, narrowed := true }
def CodecOpsUptoSaid : Prop := codecOpsUptoRow.holds Try.pinned (OpenSpec.upto codecOpsSpec)

end Rows
end Go.Proofs.Ytldecdeiibfekaa
