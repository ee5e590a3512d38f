/-
  No cell of these rows narrows 'for every input' (looked for: loops, veiled, ifaces, maps, wideKeys, modest, calm, conditions, laid).
  DERIVED. THE GIVEN ROWS OF THIS SEAT. 12 by the template 'for every input the law returns true; each argument reads behind the call as it read before'; 0 by the template 'total and deterministic' (their statements: YticlohlpccollaaTotals.lean).
  GIVEN WITH THE SEED: the statements are not yours to turn. If you find one false, say at which input.
  Laid BY PROGRAM, IN A SANDBOX (cutbox-rows.mjs): the forced cells as the released guide's own fill.sh prints them over the translation 429ef785fd4672b4… (all of the seat's roots in one cut). By AI agents, Wed Nov 11 2026. No macro, syntax, notation, axiom, sorry.
-/
import Derived.Test.YticlohlpccollaaChecked
import GoSem.Claim
import GoSem.ClaimJoined
import GoSem.ClaimMapViews
import Derived.JoinedTies
import Derived.KernelRfl
namespace Go.Proofs.Yticlohlpccollaa
/- THE CELL 'sum', in the pinned program and in every row, IS THE sha256 OF THE DUMP (.gsa) THAT YticlohlpccollaaProg.lean LOADS. Nothing in Lean hashes anything: it is a label: what it is worth is what the hold of that sum in a sandbox is worth. -/
noncomputable def Try.pinned : Pinned := { name := "yticlohlpccollaa", sum := "429ef785fd4672b4af128f352b609619fb50931a8e292b7c27f682ae273369da", checked := Try.checked }
namespace Rows
def none {H : Type} : Left H := { results := [], args := [] }

/-- 'counterfoillaw06.TcpReads': WHATEVER THE INPUT: true; the input reads as it did. -/
def tcpReadsSpec : ChangeSpec := { name := "tcpReads", fn := fun _ => fun
  | [d] => { results := [.lit (.bool true)], args := [d] }
  | _ => none }
def tcpReadsRow : OpenClaim := { program := "yticlohlpccollaa", sum := "429ef785fd4672b4af128f352b609619fb50931a8e292b7c27f682ae273369da", func := "counterfoil/counterfoillaw06.TcpReads", spec := "tcpReads", apart := false }
def TcpReadsSaid : Prop := tcpReadsRow.holds Try.pinned (OpenSpec.ofChange tcpReadsSpec)

/-- ITS FALSE NEIGHBOUR: 'it returns false'. Refute it at one input. -/
def tcpReadsWrong : ChangeSpec := { name := "tcpReads", fn := fun _ => fun
  | [d] => { results := [.lit (.bool false)], args := [d] }
  | _ => none }
def TcpReadsWrongFalsely : Prop := tcpReadsRow.holds Try.pinned (OpenSpec.ofChange tcpReadsWrong)

/-- 'counterfoillaw07.UdpReads': WHATEVER THE INPUT: true; the input reads as it did. -/
def udpReadsSpec : ChangeSpec := { name := "udpReads", fn := fun _ => fun
  | [d] => { results := [.lit (.bool true)], args := [d] }
  | _ => none }
def udpReadsRow : OpenClaim := { program := "yticlohlpccollaa", sum := "429ef785fd4672b4af128f352b609619fb50931a8e292b7c27f682ae273369da", func := "counterfoil/counterfoillaw07.UdpReads", spec := "udpReads", apart := false }
def UdpReadsSaid : Prop := udpReadsRow.holds Try.pinned (OpenSpec.ofChange udpReadsSpec)

/-- ITS FALSE NEIGHBOUR: 'it returns false'. Refute it at one input. -/
def udpReadsWrong : ChangeSpec := { name := "udpReads", fn := fun _ => fun
  | [d] => { results := [.lit (.bool false)], args := [d] }
  | _ => none }
def UdpReadsWrongFalsely : Prop := udpReadsRow.holds Try.pinned (OpenSpec.ofChange udpReadsWrong)

/-- 'counterfoillaw06.TcpWrites': WHATEVER THE INPUT: true; the input reads as it did. -/
def tcpWritesSpec : ChangeSpec := { name := "tcpWrites", fn := fun _ => fun
  | [d] => { results := [.lit (.bool true)], args := [d] }
  | _ => none }
def tcpWritesRow : OpenClaim := { program := "yticlohlpccollaa", sum := "429ef785fd4672b4af128f352b609619fb50931a8e292b7c27f682ae273369da", func := "counterfoil/counterfoillaw06.TcpWrites", spec := "tcpWrites", apart := false }
def TcpWritesSaid : Prop := tcpWritesRow.holds Try.pinned (OpenSpec.ofChange tcpWritesSpec)

/-- ITS FALSE NEIGHBOUR: 'it returns false'. Refute it at one input. -/
def tcpWritesWrong : ChangeSpec := { name := "tcpWrites", fn := fun _ => fun
  | [d] => { results := [.lit (.bool false)], args := [d] }
  | _ => none }
def TcpWritesWrongFalsely : Prop := tcpWritesRow.holds Try.pinned (OpenSpec.ofChange tcpWritesWrong)

/-- 'counterfoillaw11.RingBytes': WHATEVER THE INPUT: true; the input reads as it did. -/
def ringBytesSpec : ChangeSpec := { name := "ringBytes", fn := fun _ => fun
  | [d1, d2] => { results := [.lit (.bool true)], args := [d1, d2] }
  | _ => none }
def ringBytesRow : OpenClaim := { program := "yticlohlpccollaa", sum := "429ef785fd4672b4af128f352b609619fb50931a8e292b7c27f682ae273369da", func := "counterfoil/counterfoillaw11.RingBytes", spec := "ringBytes", apart := false }
def RingBytesSaid : Prop := ringBytesRow.holds Try.pinned (OpenSpec.ofChange ringBytesSpec)

/-- ITS FALSE NEIGHBOUR: 'it returns false'. Refute it at one input. -/
def ringBytesWrong : ChangeSpec := { name := "ringBytes", fn := fun _ => fun
  | [d1, d2] => { results := [.lit (.bool false)], args := [d1, d2] }
  | _ => none }
def RingBytesWrongFalsely : Prop := ringBytesRow.holds Try.pinned (OpenSpec.ofChange ringBytesWrong)

/-- 'counterfoillaw05.Ip6Writes': WHATEVER THE INPUT: true; the input reads as it did. -/
def ip6WritesSpec : ChangeSpec := { name := "ip6Writes", fn := fun _ => fun
  | [d1, d2] => { results := [.lit (.bool true)], args := [d1, d2] }
  | _ => none }
def ip6WritesRow : OpenClaim := { program := "yticlohlpccollaa", sum := "429ef785fd4672b4af128f352b609619fb50931a8e292b7c27f682ae273369da", func := "counterfoil/counterfoillaw05.Ip6Writes", spec := "ip6Writes", apart := false }
def Ip6WritesSaid : Prop := ip6WritesRow.holds Try.pinned (OpenSpec.ofChange ip6WritesSpec)

/-- ITS FALSE NEIGHBOUR: 'it returns false'. Refute it at one input. -/
def ip6WritesWrong : ChangeSpec := { name := "ip6Writes", fn := fun _ => fun
  | [d1, d2] => { results := [.lit (.bool false)], args := [d1, d2] }
  | _ => none }
def Ip6WritesWrongFalsely : Prop := ip6WritesRow.holds Try.pinned (OpenSpec.ofChange ip6WritesWrong)

/-- 'counterfoillaw12.CookieBack': WHATEVER THE INPUT: true; the input reads as it did. -/
def cookieBackSpec : ChangeSpec := { name := "cookieBack", fn := fun _ => fun
  | [d1, d2, d3] => { results := [.lit (.bool true)], args := [d1, d2, d3] }
  | _ => none }
def cookieBackRow : OpenClaim := { program := "yticlohlpccollaa", sum := "429ef785fd4672b4af128f352b609619fb50931a8e292b7c27f682ae273369da", func := "counterfoil/counterfoillaw12.CookieBack", spec := "cookieBack", apart := false }
def CookieBackSaid : Prop := cookieBackRow.holds Try.pinned (OpenSpec.ofChange cookieBackSpec)

/-- ITS FALSE NEIGHBOUR: 'it returns false'. Refute it at one input. -/
def cookieBackWrong : ChangeSpec := { name := "cookieBack", fn := fun _ => fun
  | [d1, d2, d3] => { results := [.lit (.bool false)], args := [d1, d2, d3] }
  | _ => none }
def CookieBackWrongFalsely : Prop := cookieBackRow.holds Try.pinned (OpenSpec.ofChange cookieBackWrong)

/-- 'counterfoillaw16.HrwKeeps': WHATEVER THE INPUT: true; the input reads as it did. -/
def hrwKeepsSpec : ChangeSpec := { name := "hrwKeeps", fn := fun _ => fun
  | [d1, d2, d3, d4] => { results := [.lit (.bool true)], args := [d1, d2, d3, d4] }
  | _ => none }
def hrwKeepsRow : OpenClaim := { program := "yticlohlpccollaa", sum := "429ef785fd4672b4af128f352b609619fb50931a8e292b7c27f682ae273369da", func := "counterfoil/counterfoillaw16.HrwKeeps", spec := "hrwKeeps", unfollowed := true, recurses := true, apart := false }
def HrwKeepsSaid : Prop := hrwKeepsRow.holds Try.pinned (OpenSpec.ofChange hrwKeepsSpec)

/-- ITS FALSE NEIGHBOUR: 'it returns false'. Refute it at one input. -/
def hrwKeepsWrong : ChangeSpec := { name := "hrwKeeps", fn := fun _ => fun
  | [d1, d2, d3, d4] => { results := [.lit (.bool false)], args := [d1, d2, d3, d4] }
  | _ => none }
def HrwKeepsWrongFalsely : Prop := hrwKeepsRow.holds Try.pinned (OpenSpec.ofChange hrwKeepsWrong)

/-- 'counterfoillaw13.CidLeases': WHATEVER THE INPUT: true; the input reads as it did. -/
def cidLeasesSpec : ChangeSpec := { name := "cidLeases", fn := fun _ => fun
  | [d1, d2, d3, d4] => { results := [.lit (.bool true)], args := [d1, d2, d3, d4] }
  | _ => none }
def cidLeasesRow : OpenClaim := { program := "yticlohlpccollaa", sum := "429ef785fd4672b4af128f352b609619fb50931a8e292b7c27f682ae273369da", func := "counterfoil/counterfoillaw13.CidLeases", spec := "cidLeases", apart := false }
def CidLeasesSaid : Prop := cidLeasesRow.holds Try.pinned (OpenSpec.ofChange cidLeasesSpec)

/-- ITS FALSE NEIGHBOUR: 'it returns false'. Refute it at one input. -/
def cidLeasesWrong : ChangeSpec := { name := "cidLeases", fn := fun _ => fun
  | [d1, d2, d3, d4] => { results := [.lit (.bool false)], args := [d1, d2, d3, d4] }
  | _ => none }
def CidLeasesWrongFalsely : Prop := cidLeasesRow.holds Try.pinned (OpenSpec.ofChange cidLeasesWrong)

/-- 'counterfoillaw08.IcmpWrites': WHATEVER THE INPUT: true; the input reads as it did. -/
def icmpWritesSpec : ChangeSpec := { name := "icmpWrites", fn := fun _ => fun
  | [d1, d2, d3] => { results := [.lit (.bool true)], args := [d1, d2, d3] }
  | _ => none }
def icmpWritesRow : OpenClaim := { program := "yticlohlpccollaa", sum := "429ef785fd4672b4af128f352b609619fb50931a8e292b7c27f682ae273369da", func := "counterfoil/counterfoillaw08.IcmpWrites", spec := "icmpWrites", apart := false }
def IcmpWritesSaid : Prop := icmpWritesRow.holds Try.pinned (OpenSpec.ofChange icmpWritesSpec)

/-- ITS FALSE NEIGHBOUR: 'it returns false'. Refute it at one input. -/
def icmpWritesWrong : ChangeSpec := { name := "icmpWrites", fn := fun _ => fun
  | [d1, d2, d3] => { results := [.lit (.bool false)], args := [d1, d2, d3] }
  | _ => none }
def IcmpWritesWrongFalsely : Prop := icmpWritesRow.holds Try.pinned (OpenSpec.ofChange icmpWritesWrong)

/-- 'counterfoillaw07.UdpLong': WHATEVER THE INPUT: true; the input reads as it did. -/
def udpLongSpec : ChangeSpec := { name := "udpLong", fn := fun _ => fun
  | [d] => { results := [.lit (.bool true)], args := [d] }
  | _ => none }
def udpLongRow : OpenClaim := { program := "yticlohlpccollaa", sum := "429ef785fd4672b4af128f352b609619fb50931a8e292b7c27f682ae273369da", func := "counterfoil/counterfoillaw07.UdpLong", spec := "udpLong", apart := false }
def UdpLongSaid : Prop := udpLongRow.holds Try.pinned (OpenSpec.ofChange udpLongSpec)

/-- ITS FALSE NEIGHBOUR: 'it returns false'. Refute it at one input. -/
def udpLongWrong : ChangeSpec := { name := "udpLong", fn := fun _ => fun
  | [d] => { results := [.lit (.bool false)], args := [d] }
  | _ => none }
def UdpLongWrongFalsely : Prop := udpLongRow.holds Try.pinned (OpenSpec.ofChange udpLongWrong)

/-- 'counterfoillaw23.CodecOps': WHATEVER THE INPUT: true; the input reads as it did. -/
def codecOpsSpec : ChangeSpec := { name := "codecOps", fn := fun _ => fun
  | [d1, d2] => { results := [.lit (.bool true)], args := [d1, d2] }
  | _ => none }
def codecOpsRow : OpenClaim := { program := "yticlohlpccollaa", sum := "429ef785fd4672b4af128f352b609619fb50931a8e292b7c27f682ae273369da", func := "counterfoil/counterfoillaw23.CodecOps", spec := "codecOps", apart := false }
def CodecOpsSaid : Prop := codecOpsRow.holds Try.pinned (OpenSpec.ofChange codecOpsSpec)

/-- ITS FALSE NEIGHBOUR: 'it returns false'. Refute it at one input. -/
def codecOpsWrong : ChangeSpec := { name := "codecOps", fn := fun _ => fun
  | [d1, d2] => { results := [.lit (.bool false)], args := [d1, d2] }
  | _ => none }
def CodecOpsWrongFalsely : Prop := codecOpsRow.holds Try.pinned (OpenSpec.ofChange codecOpsWrong)

/-- 'counterfoillaw13.CidReads': WHATEVER THE INPUT: true; the input reads as it did. -/
def cidReadsSpec : ChangeSpec := { name := "cidReads", fn := fun _ => fun
  | [d1, d2] => { results := [.lit (.bool true)], args := [d1, d2] }
  | _ => none }
def cidReadsRow : OpenClaim := { program := "yticlohlpccollaa", sum := "429ef785fd4672b4af128f352b609619fb50931a8e292b7c27f682ae273369da", func := "counterfoil/counterfoillaw13.CidReads", spec := "cidReads", apart := false }
def CidReadsSaid : Prop := cidReadsRow.holds Try.pinned (OpenSpec.ofChange cidReadsSpec)

/-- ITS FALSE NEIGHBOUR: 'it returns false'. Refute it at one input. -/
def cidReadsWrong : ChangeSpec := { name := "cidReads", fn := fun _ => fun
  | [d1, d2] => { results := [.lit (.bool false)], args := [d1, d2] }
  | _ => none }
def CidReadsWrongFalsely : Prop := cidReadsRow.holds Try.pinned (OpenSpec.ofChange cidReadsWrong)

/- THE SECOND FORM. 'bulk': how many values and letters a reading holds, each counted each time it is reached (what is shared counts as often as it is met; a slice's spare places count too). A statement '..UptoSaid' is the law's where the arguments, and the package variables that the reading takes, are together of bulk at most 1048576: NARROWER than '..Said'. Prove '..Said' where nothing that the law and all that it calls make is longer than what came in: it says more and counts as full. Else prove '..UptoSaid'. A law counts once. -/
mutual
def uptoBulk {H : Type} : DataW H → Nat
  | .lit (.string bytes) => bytes.length + 1
  | .lit _ => 1
  | .nil => 1
  | .ptr d => uptoBulk d + 1
  | .slice elems spare => uptoBulkAll elems + uptoBulkAll spare + 1
  | .agg parts => uptoBulkAll parts + 1
  | .iface _ d => uptoBulk d + 1
  | .map entries => uptoBulkEntries entries + 1
  | .held _ => 1
def uptoBulkAll {H : Type} : List (DataW H) → Nat
  | [] => 0
  | d :: r => uptoBulk d + uptoBulkAll r
def uptoBulkEntries {H : Type} : List (Lit × DataW H) → Nat
  | [] => 0
  | x :: r => uptoBulkEntry x + uptoBulkEntries r
def uptoBulkEntry {H : Type} : Lit × DataW H → Nat
  | (.string bytes, d) => bytes.length + uptoBulk d + 1
  | (_, d) => uptoBulk d + 1
 end
def uptoSmall : (H : Type) → List (DataW H) → Bool := fun _ ds => decide (uptoBulkAll ds ≤ 1048576)
def OpenSpec.upto (s : _root_.Go.ChangeSpec) : _root_.Go.OpenSpec := { _root_.Go.OpenSpec.ofChange s with cond := some uptoSmall }

/-- 'counterfoillaw06.TcpReads', WHERE WHAT IT READS IS OF BULK AT MOST 1048576: true; the input reads as it did. -/
def tcpReadsUptoRow : OpenClaim := { program := "yticlohlpccollaa", sum := "429ef785fd4672b4af128f352b609619fb50931a8e292b7c27f682ae273369da", func := "counterfoil/counterfoillaw06.TcpReads", spec := "tcpReads", apart := false, narrowed := true }
def TcpReadsUptoSaid : Prop := tcpReadsUptoRow.holds Try.pinned (OpenSpec.upto tcpReadsSpec)

/-- 'counterfoillaw07.UdpReads', WHERE WHAT IT READS IS OF BULK AT MOST 1048576: true; the input reads as it did. -/
def udpReadsUptoRow : OpenClaim := { program := "yticlohlpccollaa", sum := "429ef785fd4672b4af128f352b609619fb50931a8e292b7c27f682ae273369da", func := "counterfoil/counterfoillaw07.UdpReads", spec := "udpReads", apart := false, narrowed := true }
def UdpReadsUptoSaid : Prop := udpReadsUptoRow.holds Try.pinned (OpenSpec.upto udpReadsSpec)

/-- 'counterfoillaw06.TcpWrites', WHERE WHAT IT READS IS OF BULK AT MOST 1048576: true; the input reads as it did. -/
def tcpWritesUptoRow : OpenClaim := { program := "yticlohlpccollaa", sum := "429ef785fd4672b4af128f352b609619fb50931a8e292b7c27f682ae273369da", func := "counterfoil/counterfoillaw06.TcpWrites", spec := "tcpWrites", apart := false, narrowed := true }
def TcpWritesUptoSaid : Prop := tcpWritesUptoRow.holds Try.pinned (OpenSpec.upto tcpWritesSpec)

/-- 'counterfoillaw11.RingBytes', WHERE WHAT IT READS IS OF BULK AT MOST 1048576: true; the input reads as it did. -/
def ringBytesUptoRow : OpenClaim := { program := "yticlohlpccollaa", sum := "429ef785fd4672b4af128f352b609619fb50931a8e292b7c27f682ae273369da", func := "counterfoil/counterfoillaw11.RingBytes", spec := "ringBytes", apart := false, narrowed := true }
def RingBytesUptoSaid : Prop := ringBytesUptoRow.holds Try.pinned (OpenSpec.upto ringBytesSpec)

/-- 'counterfoillaw05.Ip6Writes', WHERE WHAT IT READS IS OF BULK AT MOST 1048576: true; the input reads as it did. -/
def ip6WritesUptoRow : OpenClaim := { program := "yticlohlpccollaa", sum := "429ef785fd4672b4af128f352b609619fb50931a8e292b7c27f682ae273369da", func := "counterfoil/counterfoillaw05.Ip6Writes", spec := "ip6Writes", apart := false, narrowed := true }
def Ip6WritesUptoSaid : Prop := ip6WritesUptoRow.holds Try.pinned (OpenSpec.upto ip6WritesSpec)

/-- 'counterfoillaw12.CookieBack', WHERE WHAT IT READS IS OF BULK AT MOST 1048576: true; the input reads as it did. -/
def cookieBackUptoRow : OpenClaim := { program := "yticlohlpccollaa", sum := "429ef785fd4672b4af128f352b609619fb50931a8e292b7c27f682ae273369da", func := "counterfoil/counterfoillaw12.CookieBack", spec := "cookieBack", apart := false, narrowed := true }
def CookieBackUptoSaid : Prop := cookieBackUptoRow.holds Try.pinned (OpenSpec.upto cookieBackSpec)

/-- 'counterfoillaw16.HrwKeeps', WHERE WHAT IT READS IS OF BULK AT MOST 1048576: true; the input reads as it did. -/
def hrwKeepsUptoRow : OpenClaim := { program := "yticlohlpccollaa", sum := "429ef785fd4672b4af128f352b609619fb50931a8e292b7c27f682ae273369da", func := "counterfoil/counterfoillaw16.HrwKeeps", spec := "hrwKeeps", unfollowed := true, recurses := true, apart := false, narrowed := true }
def HrwKeepsUptoSaid : Prop := hrwKeepsUptoRow.holds Try.pinned (OpenSpec.upto hrwKeepsSpec)

/-- 'counterfoillaw13.CidLeases', WHERE WHAT IT READS IS OF BULK AT MOST 1048576: true; the input reads as it did. -/
def cidLeasesUptoRow : OpenClaim := { program := "yticlohlpccollaa", sum := "429ef785fd4672b4af128f352b609619fb50931a8e292b7c27f682ae273369da", func := "counterfoil/counterfoillaw13.CidLeases", spec := "cidLeases", apart := false, narrowed := true }
def CidLeasesUptoSaid : Prop := cidLeasesUptoRow.holds Try.pinned (OpenSpec.upto cidLeasesSpec)

/-- 'counterfoillaw08.IcmpWrites', WHERE WHAT IT READS IS OF BULK AT MOST 1048576: true; the input reads as it did. -/
def icmpWritesUptoRow : OpenClaim := { program := "yticlohlpccollaa", sum := "429ef785fd4672b4af128f352b609619fb50931a8e292b7c27f682ae273369da", func := "counterfoil/counterfoillaw08.IcmpWrites", spec := "icmpWrites", apart := false, narrowed := true }
def IcmpWritesUptoSaid : Prop := icmpWritesUptoRow.holds Try.pinned (OpenSpec.upto icmpWritesSpec)

/-- 'counterfoillaw07.UdpLong', WHERE WHAT IT READS IS OF BULK AT MOST 1048576: true; the input reads as it did. -/
def udpLongUptoRow : OpenClaim := { program := "yticlohlpccollaa", sum := "429ef785fd4672b4af128f352b609619fb50931a8e292b7c27f682ae273369da", func := "counterfoil/counterfoillaw07.UdpLong", spec := "udpLong", apart := false, narrowed := true }
def UdpLongUptoSaid : Prop := udpLongUptoRow.holds Try.pinned (OpenSpec.upto udpLongSpec)

/-- 'counterfoillaw23.CodecOps', WHERE WHAT IT READS IS OF BULK AT MOST 1048576: true; the input reads as it did. -/
def codecOpsUptoRow : OpenClaim := { program := "yticlohlpccollaa", sum := "429ef785fd4672b4af128f352b609619fb50931a8e292b7c27f682ae273369da", func := "counterfoil/counterfoillaw23.CodecOps", spec := "codecOps", apart := false, narrowed := true }
def CodecOpsUptoSaid : Prop := codecOpsUptoRow.holds Try.pinned (OpenSpec.upto codecOpsSpec)

/-- 'counterfoillaw13.CidReads', WHERE WHAT IT READS IS OF BULK AT MOST 1048576: true; the input reads as it did. -/
def cidReadsUptoRow : OpenClaim := { program := "yticlohlpccollaa", sum := "429ef785fd4672b4af128f352b609619fb50931a8e292b7c27f682ae273369da", func := "counterfoil/counterfoillaw13.CidReads", spec := "cidReads", apart := false, narrowed := true }
def CidReadsUptoSaid : Prop := cidReadsUptoRow.holds Try.pinned (OpenSpec.upto cidReadsSpec)

end Rows
end Go.Proofs.Yticlohlpccollaa
