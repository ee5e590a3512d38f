/-
  No cell of these rows narrows 'for every input' (looked for: loops, veiled, ifaces, maps, wideKeys, modest, calm, conditions, laid).
  DERIVED. THE GIVEN ROWS OF THIS SEAT. 12 by the template 'for every input the law returns true; each argument reads behind the call as it read before'; 0 by the template 'total and deterministic' (their statements: YtdaicdjjdmgobaaTotals.lean).
  GIVEN WITH THE SEED: the statements are not yours to turn. If you find one false, say at which input.
  Laid BY PROGRAM, IN A SANDBOX (cutbox-rows.mjs): the forced cells as the released guide's own fill.sh prints them over the translation 73c3ea9cc545af68… (all of the seat's roots in one cut). By AI agents, Wed Nov 11 2026. No macro, syntax, notation, axiom, sorry.
-/
import Derived.Test.YtdaicdjjdmgobaaChecked
import GoSem.Claim
import GoSem.ClaimJoined
import GoSem.ClaimMapViews
import Derived.JoinedTies
import Derived.KernelRfl
namespace Go.Proofs.Ytdaicdjjdmgobaa
/- THE CELL 'sum', in the pinned program and in every row, IS THE sha256 OF THE DUMP (.gsa) THAT YtdaicdjjdmgobaaProg.lean LOADS. Nothing in Lean hashes anything: it is a label: what it is worth is what the hold of that sum in a sandbox is worth. -/
noncomputable def Try.pinned : Pinned := { name := "ytdaicdjjdmgobaa", sum := "73c3ea9cc545af68e817bf106f5f26760d4d32bc100e3df17cefc4de7325ba8e", checked := Try.checked }
namespace Rows
def none {H : Type} : Left H := { results := [], args := [] }

/-- 'counterfoillaw12.CookieTicks': WHATEVER THE INPUT: true; the input reads as it did. -/
def cookieTicksSpec : ChangeSpec := { name := "cookieTicks", fn := fun _ => fun
  | [d1, d2, d3, d4] => { results := [.lit (.bool true)], args := [d1, d2, d3, d4] }
  | _ => none }
def cookieTicksRow : OpenClaim := { program := "ytdaicdjjdmgobaa", sum := "73c3ea9cc545af68e817bf106f5f26760d4d32bc100e3df17cefc4de7325ba8e", func := "counterfoil/counterfoillaw12.CookieTicks", spec := "cookieTicks", plainKeys := false, apart := false }
def CookieTicksSaid : Prop := cookieTicksRow.holds Try.pinned (OpenSpec.ofChange cookieTicksSpec)

/-- ITS FALSE NEIGHBOUR: 'it returns false'. Refute it at one input. -/
def cookieTicksWrong : ChangeSpec := { name := "cookieTicks", fn := fun _ => fun
  | [d1, d2, d3, d4] => { results := [.lit (.bool false)], args := [d1, d2, d3, d4] }
  | _ => none }
def CookieTicksWrongFalsely : Prop := cookieTicksRow.holds Try.pinned (OpenSpec.ofChange cookieTicksWrong)

/-- 'counterfoillaw12.CookieRestores': WHATEVER THE INPUT: true; the input reads as it did. -/
def cookieRestoresSpec : ChangeSpec := { name := "cookieRestores", fn := fun _ => fun
  | [d1, d2, d3, d4] => { results := [.lit (.bool true)], args := [d1, d2, d3, d4] }
  | _ => none }
def cookieRestoresRow : OpenClaim := { program := "ytdaicdjjdmgobaa", sum := "73c3ea9cc545af68e817bf106f5f26760d4d32bc100e3df17cefc4de7325ba8e", func := "counterfoil/counterfoillaw12.CookieRestores", spec := "cookieRestores", plainKeys := false, apart := false }
def CookieRestoresSaid : Prop := cookieRestoresRow.holds Try.pinned (OpenSpec.ofChange cookieRestoresSpec)

/-- ITS FALSE NEIGHBOUR: 'it returns false'. Refute it at one input. -/
def cookieRestoresWrong : ChangeSpec := { name := "cookieRestores", fn := fun _ => fun
  | [d1, d2, d3, d4] => { results := [.lit (.bool false)], args := [d1, d2, d3, d4] }
  | _ => none }
def CookieRestoresWrongFalsely : Prop := cookieRestoresRow.holds Try.pinned (OpenSpec.ofChange cookieRestoresWrong)

/-- 'counterfoillaw08.IcmpBig': WHATEVER THE INPUT: true; the input reads as it did. -/
def icmpBigSpec : ChangeSpec := { name := "icmpBig", fn := fun _ => fun
  | [d1, d2, d3] => { results := [.lit (.bool true)], args := [d1, d2, d3] }
  | _ => none }
def icmpBigRow : OpenClaim := { program := "ytdaicdjjdmgobaa", sum := "73c3ea9cc545af68e817bf106f5f26760d4d32bc100e3df17cefc4de7325ba8e", func := "counterfoil/counterfoillaw08.IcmpBig", spec := "icmpBig", plainKeys := false, apart := false }
def IcmpBigSaid : Prop := icmpBigRow.holds Try.pinned (OpenSpec.ofChange icmpBigSpec)

/-- ITS FALSE NEIGHBOUR: 'it returns false'. Refute it at one input. -/
def icmpBigWrong : ChangeSpec := { name := "icmpBig", fn := fun _ => fun
  | [d1, d2, d3] => { results := [.lit (.bool false)], args := [d1, d2, d3] }
  | _ => none }
def IcmpBigWrongFalsely : Prop := icmpBigRow.holds Try.pinned (OpenSpec.ofChange icmpBigWrong)

/-- 'counterfoillaw10.SiphashSums': WHATEVER THE INPUT: true; the input reads as it did. -/
def siphashSumsSpec : ChangeSpec := { name := "siphashSums", fn := fun _ => fun
  | [d1, d2] => { results := [.lit (.bool true)], args := [d1, d2] }
  | _ => none }
def siphashSumsRow : OpenClaim := { program := "ytdaicdjjdmgobaa", sum := "73c3ea9cc545af68e817bf106f5f26760d4d32bc100e3df17cefc4de7325ba8e", func := "counterfoil/counterfoillaw10.SiphashSums", spec := "siphashSums", plainKeys := false, apart := false }
def SiphashSumsSaid : Prop := siphashSumsRow.holds Try.pinned (OpenSpec.ofChange siphashSumsSpec)

/-- ITS FALSE NEIGHBOUR: 'it returns false'. Refute it at one input. -/
def siphashSumsWrong : ChangeSpec := { name := "siphashSums", fn := fun _ => fun
  | [d1, d2] => { results := [.lit (.bool false)], args := [d1, d2] }
  | _ => none }
def SiphashSumsWrongFalsely : Prop := siphashSumsRow.holds Try.pinned (OpenSpec.ofChange siphashSumsWrong)

/-- 'counterfoillaw44.OptionWrites': WHATEVER THE INPUT: true; the input reads as it did. -/
def optionWritesSpec : ChangeSpec := { name := "optionWrites", fn := fun _ => fun
  | [d] => { results := [.lit (.bool true)], args := [d] }
  | _ => none }
def optionWritesRow : OpenClaim := { program := "ytdaicdjjdmgobaa", sum := "73c3ea9cc545af68e817bf106f5f26760d4d32bc100e3df17cefc4de7325ba8e", func := "counterfoil/counterfoillaw44.OptionWrites", spec := "optionWrites", unfollowed := true, recurses := true, plainKeys := false, apart := false }
def OptionWritesSaid : Prop := optionWritesRow.holds Try.pinned (OpenSpec.ofChange optionWritesSpec)

/-- ITS FALSE NEIGHBOUR: 'it returns false'. Refute it at one input. -/
def optionWritesWrong : ChangeSpec := { name := "optionWrites", fn := fun _ => fun
  | [d] => { results := [.lit (.bool false)], args := [d] }
  | _ => none }
def OptionWritesWrongFalsely : Prop := optionWritesRow.holds Try.pinned (OpenSpec.ofChange optionWritesWrong)

/-- 'counterfoillaw10.SiphashFolds': WHATEVER THE INPUT: true; the input reads as it did. -/
def siphashFoldsSpec : ChangeSpec := { name := "siphashFolds", fn := fun _ => fun
  | [d1, d2] => { results := [.lit (.bool true)], args := [d1, d2] }
  | _ => none }
def siphashFoldsRow : OpenClaim := { program := "ytdaicdjjdmgobaa", sum := "73c3ea9cc545af68e817bf106f5f26760d4d32bc100e3df17cefc4de7325ba8e", func := "counterfoil/counterfoillaw10.SiphashFolds", spec := "siphashFolds", plainKeys := false, apart := false }
def SiphashFoldsSaid : Prop := siphashFoldsRow.holds Try.pinned (OpenSpec.ofChange siphashFoldsSpec)

/-- ITS FALSE NEIGHBOUR: 'it returns false'. Refute it at one input. -/
def siphashFoldsWrong : ChangeSpec := { name := "siphashFolds", fn := fun _ => fun
  | [d1, d2] => { results := [.lit (.bool false)], args := [d1, d2] }
  | _ => none }
def SiphashFoldsWrongFalsely : Prop := siphashFoldsRow.holds Try.pinned (OpenSpec.ofChange siphashFoldsWrong)

/-- 'counterfoillaw10.SiphashKeys': WHATEVER THE INPUT: true; the input reads as it did. -/
def siphashKeysSpec : ChangeSpec := { name := "siphashKeys", fn := fun _ => fun
  | [d1, d2, d3, d4] => { results := [.lit (.bool true)], args := [d1, d2, d3, d4] }
  | _ => none }
def siphashKeysRow : OpenClaim := { program := "ytdaicdjjdmgobaa", sum := "73c3ea9cc545af68e817bf106f5f26760d4d32bc100e3df17cefc4de7325ba8e", func := "counterfoil/counterfoillaw10.SiphashKeys", spec := "siphashKeys", plainKeys := false, apart := false }
def SiphashKeysSaid : Prop := siphashKeysRow.holds Try.pinned (OpenSpec.ofChange siphashKeysSpec)

/-- ITS FALSE NEIGHBOUR: 'it returns false'. Refute it at one input. -/
def siphashKeysWrong : ChangeSpec := { name := "siphashKeys", fn := fun _ => fun
  | [d1, d2, d3, d4] => { results := [.lit (.bool false)], args := [d1, d2, d3, d4] }
  | _ => none }
def SiphashKeysWrongFalsely : Prop := siphashKeysRow.holds Try.pinned (OpenSpec.ofChange siphashKeysWrong)

/-- 'counterfoillaw06.TcpStamps': WHATEVER THE INPUT: true; the input reads as it did. -/
def tcpStampsSpec : ChangeSpec := { name := "tcpStamps", fn := fun _ => fun
  | [d] => { results := [.lit (.bool true)], args := [d] }
  | _ => none }
def tcpStampsRow : OpenClaim := { program := "ytdaicdjjdmgobaa", sum := "73c3ea9cc545af68e817bf106f5f26760d4d32bc100e3df17cefc4de7325ba8e", func := "counterfoil/counterfoillaw06.TcpStamps", spec := "tcpStamps", plainKeys := false, apart := false }
def TcpStampsSaid : Prop := tcpStampsRow.holds Try.pinned (OpenSpec.ofChange tcpStampsSpec)

/-- ITS FALSE NEIGHBOUR: 'it returns false'. Refute it at one input. -/
def tcpStampsWrong : ChangeSpec := { name := "tcpStamps", fn := fun _ => fun
  | [d] => { results := [.lit (.bool false)], args := [d] }
  | _ => none }
def TcpStampsWrongFalsely : Prop := tcpStampsRow.holds Try.pinned (OpenSpec.ofChange tcpStampsWrong)

/-- 'counterfoillaw08.IcmpReads': WHATEVER THE INPUT: true; the input reads as it did. -/
def icmpReadsSpec : ChangeSpec := { name := "icmpReads", fn := fun _ => fun
  | [d] => { results := [.lit (.bool true)], args := [d] }
  | _ => none }
def icmpReadsRow : OpenClaim := { program := "ytdaicdjjdmgobaa", sum := "73c3ea9cc545af68e817bf106f5f26760d4d32bc100e3df17cefc4de7325ba8e", func := "counterfoil/counterfoillaw08.IcmpReads", spec := "icmpReads", plainKeys := false, apart := false }
def IcmpReadsSaid : Prop := icmpReadsRow.holds Try.pinned (OpenSpec.ofChange icmpReadsSpec)

/-- ITS FALSE NEIGHBOUR: 'it returns false'. Refute it at one input. -/
def icmpReadsWrong : ChangeSpec := { name := "icmpReads", fn := fun _ => fun
  | [d] => { results := [.lit (.bool false)], args := [d] }
  | _ => none }
def IcmpReadsWrongFalsely : Prop := icmpReadsRow.holds Try.pinned (OpenSpec.ofChange icmpReadsWrong)

/-- 'counterfoillaw31.ConnsKeep': WHATEVER THE INPUT: true; the input reads as it did. -/
def connsKeepSpec : ChangeSpec := { name := "connsKeep", fn := fun _ => fun
  | [d1, d2, d3, d4] => { results := [.lit (.bool true)], args := [d1, d2, d3, d4] }
  | _ => none }
def connsKeepRow : OpenClaim := { program := "ytdaicdjjdmgobaa", sum := "73c3ea9cc545af68e817bf106f5f26760d4d32bc100e3df17cefc4de7325ba8e", func := "counterfoil/counterfoillaw31.ConnsKeep", spec := "connsKeep", plainKeys := false, apart := false }
def ConnsKeepSaid : Prop := connsKeepRow.holds Try.pinned (OpenSpec.ofChange connsKeepSpec)

/-- ITS FALSE NEIGHBOUR: 'it returns false'. Refute it at one input. -/
def connsKeepWrong : ChangeSpec := { name := "connsKeep", fn := fun _ => fun
  | [d1, d2, d3, d4] => { results := [.lit (.bool false)], args := [d1, d2, d3, d4] }
  | _ => none }
def ConnsKeepWrongFalsely : Prop := connsKeepRow.holds Try.pinned (OpenSpec.ofChange connsKeepWrong)

/-- 'counterfoillaw11.RingKeeps': WHATEVER THE INPUT: true; the input reads as it did. -/
def ringKeepsSpec : ChangeSpec := { name := "ringKeeps", fn := fun _ => fun
  | [d] => { results := [.lit (.bool true)], args := [d] }
  | _ => none }
def ringKeepsRow : OpenClaim := { program := "ytdaicdjjdmgobaa", sum := "73c3ea9cc545af68e817bf106f5f26760d4d32bc100e3df17cefc4de7325ba8e", func := "counterfoil/counterfoillaw11.RingKeeps", spec := "ringKeeps", plainKeys := false, apart := false }
def RingKeepsSaid : Prop := ringKeepsRow.holds Try.pinned (OpenSpec.ofChange ringKeepsSpec)

/-- ITS FALSE NEIGHBOUR: 'it returns false'. Refute it at one input. -/
def ringKeepsWrong : ChangeSpec := { name := "ringKeeps", fn := fun _ => fun
  | [d] => { results := [.lit (.bool false)], args := [d] }
  | _ => none }
def RingKeepsWrongFalsely : Prop := ringKeepsRow.holds Try.pinned (OpenSpec.ofChange ringKeepsWrong)

/-- 'counterfoillaw11.RingKeys': WHATEVER THE INPUT: true; the input reads as it did. -/
def ringKeysSpec : ChangeSpec := { name := "ringKeys", fn := fun _ => fun
  | [d1, d2] => { results := [.lit (.bool true)], args := [d1, d2] }
  | _ => none }
def ringKeysRow : OpenClaim := { program := "ytdaicdjjdmgobaa", sum := "73c3ea9cc545af68e817bf106f5f26760d4d32bc100e3df17cefc4de7325ba8e", func := "counterfoil/counterfoillaw11.RingKeys", spec := "ringKeys", plainKeys := false, apart := false }
def RingKeysSaid : Prop := ringKeysRow.holds Try.pinned (OpenSpec.ofChange ringKeysSpec)

/-- ITS FALSE NEIGHBOUR: 'it returns false'. Refute it at one input. -/
def ringKeysWrong : ChangeSpec := { name := "ringKeys", fn := fun _ => fun
  | [d1, d2] => { results := [.lit (.bool false)], args := [d1, d2] }
  | _ => none }
def RingKeysWrongFalsely : Prop := ringKeysRow.holds Try.pinned (OpenSpec.ofChange ringKeysWrong)

/- THE SECOND FORM. 'bulk': how many values and letters a reading holds, each counted each time it is reached (what is shared counts as often as it is met; a slice's spare places count too). A statement '..UptoSaid' is the law's where the arguments, and the package variables that the reading takes, are together of bulk at most 1048576: NARROWER than '..Said'. Prove '..Said' where nothing that the law and all that it calls make is longer than what came in: it says more and counts as full. Else prove '..UptoSaid'. A law counts once. -/
mutual
def uptoBulk {H : Type} : DataW H → Nat
  | .lit (.string bytes) => bytes.length + 1
  | .lit _ => 1
  | .nil => 1
  | .ptr d => uptoBulk d + 1
  | .slice elems spare => uptoBulkAll elems + uptoBulkAll spare + 1
  | .agg parts => uptoBulkAll parts + 1
  | .iface _ d => uptoBulk d + 1
  | .map entries => uptoBulkEntries entries + 1
  | .held _ => 1
def uptoBulkAll {H : Type} : List (DataW H) → Nat
  | [] => 0
  | d :: r => uptoBulk d + uptoBulkAll r
def uptoBulkEntries {H : Type} : List (Lit × DataW H) → Nat
  | [] => 0
  | x :: r => uptoBulkEntry x + uptoBulkEntries r
def uptoBulkEntry {H : Type} : Lit × DataW H → Nat
  | (.string bytes, d) => bytes.length + uptoBulk d + 1
  | (_, d) => uptoBulk d + 1
 end
def uptoSmall : (H : Type) → List (DataW H) → Bool := fun _ ds => decide (uptoBulkAll ds ≤ 1048576)
def OpenSpec.upto (s : _root_.Go.ChangeSpec) : _root_.Go.OpenSpec := { _root_.Go.OpenSpec.ofChange s with cond := some uptoSmall }

/-- 'counterfoillaw12.CookieTicks', WHERE WHAT IT READS IS OF BULK AT MOST 1048576: true; the input reads as it did. -/
def cookieTicksUptoRow : OpenClaim := { program := "ytdaicdjjdmgobaa", sum := "73c3ea9cc545af68e817bf106f5f26760d4d32bc100e3df17cefc4de7325ba8e", func := "counterfoil/counterfoillaw12.CookieTicks", spec := "cookieTicks", plainKeys := false, apart := false, narrowed := true }
def CookieTicksUptoSaid : Prop := cookieTicksUptoRow.holds Try.pinned (OpenSpec.upto cookieTicksSpec)

/-- 'counterfoillaw12.CookieRestores', WHERE WHAT IT READS IS OF BULK AT MOST 1048576: true; the input reads as it did. -/
def cookieRestoresUptoRow : OpenClaim := { program := "ytdaicdjjdmgobaa", sum := "73c3ea9cc545af68e817bf106f5f26760d4d32bc100e3df17cefc4de7325ba8e", func := "counterfoil/counterfoillaw12.CookieRestores", spec := "cookieRestores", plainKeys := false, apart := false, narrowed := true }
def CookieRestoresUptoSaid : Prop := cookieRestoresUptoRow.holds Try.pinned (OpenSpec.upto cookieRestoresSpec)

/-- 'counterfoillaw08.IcmpBig', WHERE WHAT IT READS IS OF BULK AT MOST 1048576: true; the input reads as it did. -/
def icmpBigUptoRow : OpenClaim := { program := "ytdaicdjjdmgobaa", sum := "73c3ea9cc545af68e817bf106f5f26760d4d32bc100e3df17cefc4de7325ba8e", func := "counterfoil/counterfoillaw08.IcmpBig", spec := "icmpBig", plainKeys := false, apart := false, narrowed := true }
def IcmpBigUptoSaid : Prop := icmpBigUptoRow.holds Try.pinned (OpenSpec.upto icmpBigSpec)

/-- 'counterfoillaw10.SiphashSums', WHERE WHAT IT READS IS OF BULK AT MOST 1048576: true; the input reads as it did. -/
def siphashSumsUptoRow : OpenClaim := { program := "ytdaicdjjdmgobaa", sum := "73c3ea9cc545af68e817bf106f5f26760d4d32bc100e3df17cefc4de7325ba8e", func := "counterfoil/counterfoillaw10.SiphashSums", spec := "siphashSums", plainKeys := false, apart := false, narrowed := true }
def SiphashSumsUptoSaid : Prop := siphashSumsUptoRow.holds Try.pinned (OpenSpec.upto siphashSumsSpec)

/-- 'counterfoillaw44.OptionWrites', WHERE WHAT IT READS IS OF BULK AT MOST 1048576: true; the input reads as it did. -/
def optionWritesUptoRow : OpenClaim := { program := "ytdaicdjjdmgobaa", sum := "73c3ea9cc545af68e817bf106f5f26760d4d32bc100e3df17cefc4de7325ba8e", func := "counterfoil/counterfoillaw44.OptionWrites", spec := "optionWrites", unfollowed := true, recurses := true, plainKeys := false, apart := false, narrowed := true }
def OptionWritesUptoSaid : Prop := optionWritesUptoRow.holds Try.pinned (OpenSpec.upto optionWritesSpec)

/-- 'counterfoillaw10.SiphashFolds', WHERE WHAT IT READS IS OF BULK AT MOST 1048576: true; the input reads as it did. -/
def siphashFoldsUptoRow : OpenClaim := { program := "ytdaicdjjdmgobaa", sum := "73c3ea9cc545af68e817bf106f5f26760d4d32bc100e3df17cefc4de7325ba8e", func := "counterfoil/counterfoillaw10.SiphashFolds", spec := "siphashFolds", plainKeys := false, apart := false, narrowed := true }
def SiphashFoldsUptoSaid : Prop := siphashFoldsUptoRow.holds Try.pinned (OpenSpec.upto siphashFoldsSpec)

/-- 'counterfoillaw10.SiphashKeys', WHERE WHAT IT READS IS OF BULK AT MOST 1048576: true; the input reads as it did. -/
def siphashKeysUptoRow : OpenClaim := { program := "ytdaicdjjdmgobaa", sum := "73c3ea9cc545af68e817bf106f5f26760d4d32bc100e3df17cefc4de7325ba8e", func := "counterfoil/counterfoillaw10.SiphashKeys", spec := "siphashKeys", plainKeys := false, apart := false, narrowed := true }
def SiphashKeysUptoSaid : Prop := siphashKeysUptoRow.holds Try.pinned (OpenSpec.upto siphashKeysSpec)

/-- 'counterfoillaw06.TcpStamps', WHERE WHAT IT READS IS OF BULK AT MOST 1048576: true; the input reads as it did. -/
def tcpStampsUptoRow : OpenClaim := { program := "ytdaicdjjdmgobaa", sum := "73c3ea9cc545af68e817bf106f5f26760d4d32bc100e3df17cefc4de7325ba8e", func := "counterfoil/counterfoillaw06.TcpStamps", spec := "tcpStamps", plainKeys := false, apart := false, narrowed := true }
def TcpStampsUptoSaid : Prop := tcpStampsUptoRow.holds Try.pinned (OpenSpec.upto tcpStampsSpec)

/-- 'counterfoillaw08.IcmpReads', WHERE WHAT IT READS IS OF BULK AT MOST 1048576: true; the input reads as it did. -/
def icmpReadsUptoRow : OpenClaim := { program := "ytdaicdjjdmgobaa", sum := "73c3ea9cc545af68e817bf106f5f26760d4d32bc100e3df17cefc4de7325ba8e", func := "counterfoil/counterfoillaw08.IcmpReads", spec := "icmpReads", plainKeys := false, apart := false, narrowed := true }
def IcmpReadsUptoSaid : Prop := icmpReadsUptoRow.holds Try.pinned (OpenSpec.upto icmpReadsSpec)

/-- 'counterfoillaw31.ConnsKeep', WHERE WHAT IT READS IS OF BULK AT MOST 1048576: true; the input reads as it did. -/
def connsKeepUptoRow : OpenClaim := { program := "ytdaicdjjdmgobaa", sum := "73c3ea9cc545af68e817bf106f5f26760d4d32bc100e3df17cefc4de7325ba8e", func := "counterfoil/counterfoillaw31.ConnsKeep", spec := "connsKeep", plainKeys := false, apart := false, narrowed := true }
def ConnsKeepUptoSaid : Prop := connsKeepUptoRow.holds Try.pinned (OpenSpec.upto connsKeepSpec)

/-- 'counterfoillaw11.RingKeeps', WHERE WHAT IT READS IS OF BULK AT MOST 1048576: true; the input reads as it did. -/
def ringKeepsUptoRow : OpenClaim := { program := "ytdaicdjjdmgobaa", sum := "73c3ea9cc545af68e817bf106f5f26760d4d32bc100e3df17cefc4de7325ba8e", func := "counterfoil/counterfoillaw11.RingKeeps", spec := "ringKeeps", plainKeys := false, apart := false, narrowed := true }
def RingKeepsUptoSaid : Prop := ringKeepsUptoRow.holds Try.pinned (OpenSpec.upto ringKeepsSpec)

/-- 'counterfoillaw11.RingKeys', WHERE WHAT IT READS IS OF BULK AT MOST 1048576: true; the input reads as it did. -/
def ringKeysUptoRow : OpenClaim := { program := "ytdaicdjjdmgobaa", sum := "73c3ea9cc545af68e817bf106f5f26760d4d32bc100e3df17cefc4de7325ba8e", func := "counterfoil/counterfoillaw11.RingKeys", spec := "ringKeys", plainKeys := false, apart := false, narrowed := true }
def RingKeysUptoSaid : Prop := ringKeysUptoRow.holds Try.pinned (OpenSpec.upto ringKeysSpec)

end Rows
end Go.Proofs.Ytdaicdjjdmgobaa
