/-
  No cell of these rows narrows 'for every input' (looked for: loops, veiled, ifaces, maps, wideKeys, modest, calm, conditions, laid).
  DERIVED. THE GIVEN ROWS OF THIS SEAT. 5 by the template 'for every input the law returns true; each argument reads behind the call as it read before'; 0 by the template 'total and deterministic' (their statements: YtlaidcoickeihaaTotals.lean).
  GIVEN WITH THE SEED: the statements are not yours to turn. If you find one false, say at which input.
  Laid BY PROGRAM, IN A SANDBOX (cutbox-rows.mjs): the forced cells as the released guide's own fill.sh prints them over the translation e34a5188d75e5cd6… (all of the seat's roots in one cut). By AI agents, Wed Nov 11 2026. No macro, syntax, notation, axiom, sorry.
-/
import Derived.Test.YtlaidcoickeihaaChecked
import GoSem.Claim
import GoSem.ClaimJoined
import GoSem.ClaimMapViews
import Derived.JoinedTies
import Derived.KernelRfl
namespace Go.Proofs.Ytlaidcoickeihaa
/- THE CELL 'sum', in the pinned program and in every row, IS THE sha256 OF THE DUMP (.gsa) THAT YtlaidcoickeihaaProg.lean LOADS. Nothing in Lean hashes anything: it is a label: what it is worth is what the hold of that sum in a sandbox is worth. -/
noncomputable def Try.pinned : Pinned := { name := "ytlaidcoickeihaa", sum := "e34a5188d75e5cd68cde5a988dec3dc0d014822571362ad33d52eb60220f632e", checked := Try.checked }
namespace Rows
def none {H : Type} : Left H := { results := [], args := [] }

/-- 'serinettelaw21.ClocksAside': WHATEVER THE INPUT: true; the input reads as it did. -/
def clocksAsideSpec : ChangeSpec := { name := "clocksAside", fn := fun _ => fun
  | [d1, d2] => { results := [.lit (.bool true)], args := [d1, d2] }
  | _ => none }
def clocksAsideRow : OpenClaim := { program := "ytlaidcoickeihaa", sum := "e34a5188d75e5cd68cde5a988dec3dc0d014822571362ad33d52eb60220f632e", func := "serinette/serinettelaw21.ClocksAside", spec := "clocksAside", apart := false }
def ClocksAsideSaid : Prop := clocksAsideRow.holds Try.pinned (OpenSpec.ofChange clocksAsideSpec)

/-- ITS FALSE NEIGHBOUR: 'it returns false'. Refute it at one input. -/
def clocksAsideWrong : ChangeSpec := { name := "clocksAside", fn := fun _ => fun
  | [d1, d2] => { results := [.lit (.bool false)], args := [d1, d2] }
  | _ => none }
def ClocksAsideWrongFalsely : Prop := clocksAsideRow.holds Try.pinned (OpenSpec.ofChange clocksAsideWrong)

/-- 'serinettelaw21.ReaderFeeds': WHATEVER THE INPUT: true; the input reads as it did. -/
def readerFeedsSpec : ChangeSpec := { name := "readerFeeds", fn := fun _ => fun
  | [d1, d2] => { results := [.lit (.bool true)], args := [d1, d2] }
  | _ => none }
def readerFeedsRow : OpenClaim := { program := "ytlaidcoickeihaa", sum := "e34a5188d75e5cd68cde5a988dec3dc0d014822571362ad33d52eb60220f632e", func := "serinette/serinettelaw21.ReaderFeeds", spec := "readerFeeds", apart := false }
def ReaderFeedsSaid : Prop := readerFeedsRow.holds Try.pinned (OpenSpec.ofChange readerFeedsSpec)

/-- ITS FALSE NEIGHBOUR: 'it returns false'. Refute it at one input. -/
def readerFeedsWrong : ChangeSpec := { name := "readerFeeds", fn := fun _ => fun
  | [d1, d2] => { results := [.lit (.bool false)], args := [d1, d2] }
  | _ => none }
def ReaderFeedsWrongFalsely : Prop := readerFeedsRow.holds Try.pinned (OpenSpec.ofChange readerFeedsWrong)

/-- 'serinettelaw21.ReaderNil': WHATEVER THE INPUT: true; the input reads as it did. -/
def readerNilSpec : ChangeSpec := { name := "readerNil", fn := fun _ => fun
  | [d] => { results := [.lit (.bool true)], args := [d] }
  | _ => none }
def readerNilRow : OpenClaim := { program := "ytlaidcoickeihaa", sum := "e34a5188d75e5cd68cde5a988dec3dc0d014822571362ad33d52eb60220f632e", func := "serinette/serinettelaw21.ReaderNil", spec := "readerNil", apart := false }
def ReaderNilSaid : Prop := readerNilRow.holds Try.pinned (OpenSpec.ofChange readerNilSpec)

/-- ITS FALSE NEIGHBOUR: 'it returns false'. Refute it at one input. -/
def readerNilWrong : ChangeSpec := { name := "readerNil", fn := fun _ => fun
  | [d] => { results := [.lit (.bool false)], args := [d] }
  | _ => none }
def ReaderNilWrongFalsely : Prop := readerNilRow.holds Try.pinned (OpenSpec.ofChange readerNilWrong)

/-- 'serinettelaw21.MessagesBack': WHATEVER THE INPUT: true; the input reads as it did. -/
def messagesBackSpec : ChangeSpec := { name := "messagesBack", fn := fun _ => fun
  | [d1, d2] => { results := [.lit (.bool true)], args := [d1, d2] }
  | _ => none }
def messagesBackRow : OpenClaim := { program := "ytlaidcoickeihaa", sum := "e34a5188d75e5cd68cde5a988dec3dc0d014822571362ad33d52eb60220f632e", func := "serinette/serinettelaw21.MessagesBack", spec := "messagesBack", apart := false }
def MessagesBackSaid : Prop := messagesBackRow.holds Try.pinned (OpenSpec.ofChange messagesBackSpec)

/-- ITS FALSE NEIGHBOUR: 'it returns false'. Refute it at one input. -/
def messagesBackWrong : ChangeSpec := { name := "messagesBack", fn := fun _ => fun
  | [d1, d2] => { results := [.lit (.bool false)], args := [d1, d2] }
  | _ => none }
def MessagesBackWrongFalsely : Prop := messagesBackRow.holds Try.pinned (OpenSpec.ofChange messagesBackWrong)

/-- 'serinettelaw21.EventsMade': WHATEVER THE INPUT: true; the input reads as it did. -/
def eventsMadeSpec : ChangeSpec := { name := "eventsMade", fn := fun _ => fun
  | [d1, d2, d3] => { results := [.lit (.bool true)], args := [d1, d2, d3] }
  | _ => none }
def eventsMadeRow : OpenClaim := { program := "ytlaidcoickeihaa", sum := "e34a5188d75e5cd68cde5a988dec3dc0d014822571362ad33d52eb60220f632e", func := "serinette/serinettelaw21.EventsMade", spec := "eventsMade", recurses := true, apart := false }
def EventsMadeSaid : Prop := eventsMadeRow.holds Try.pinned (OpenSpec.ofChange eventsMadeSpec)

/-- ITS FALSE NEIGHBOUR: 'it returns false'. Refute it at one input. -/
def eventsMadeWrong : ChangeSpec := { name := "eventsMade", fn := fun _ => fun
  | [d1, d2, d3] => { results := [.lit (.bool false)], args := [d1, d2, d3] }
  | _ => none }
def EventsMadeWrongFalsely : Prop := eventsMadeRow.holds Try.pinned (OpenSpec.ofChange eventsMadeWrong)

/- THE SECOND FORM. 'bulk': how many values and letters a reading holds, each counted each time it is reached (what is shared counts as often as it is met; a slice's spare places count too). A statement '..UptoSaid' is the law's where the arguments, and the package variables that the reading takes, are together of bulk at most 1048576: NARROWER than '..Said'. Prove '..Said' where nothing that the law and all that it calls make is longer than what came in: it says more and counts as full. Else prove '..UptoSaid'. A law counts once. -/
mutual
def uptoBulk {H : Type} : DataW H → Nat
  | .lit (.string bytes) => bytes.length + 1
  | .lit _ => 1
  | .nil => 1
  | .ptr d => uptoBulk d + 1
  | .slice elems spare => uptoBulkAll elems + uptoBulkAll spare + 1
  | .agg parts => uptoBulkAll parts + 1
  | .iface _ d => uptoBulk d + 1
  | .map entries => uptoBulkEntries entries + 1
  | .held _ => 1
def uptoBulkAll {H : Type} : List (DataW H) → Nat
  | [] => 0
  | d :: r => uptoBulk d + uptoBulkAll r
def uptoBulkEntries {H : Type} : List (Lit × DataW H) → Nat
  | [] => 0
  | x :: r => uptoBulkEntry x + uptoBulkEntries r
def uptoBulkEntry {H : Type} : Lit × DataW H → Nat
  | (.string bytes, d) => bytes.length + uptoBulk d + 1
  | (_, d) => uptoBulk d + 1
 end
def uptoSmall : (H : Type) → List (DataW H) → Bool := fun _ ds => decide (uptoBulkAll ds ≤ 1048576)
def OpenSpec.upto (s : _root_.Go.ChangeSpec) : _root_.Go.OpenSpec := { _root_.Go.OpenSpec.ofChange s with cond := some uptoSmall }

/-- 'serinettelaw21.ClocksAside', WHERE WHAT IT READS IS OF BULK AT MOST 1048576: true; the input reads as it did. -/
def clocksAsideUptoRow : OpenClaim := { program := "ytlaidcoickeihaa", sum := "e34a5188d75e5cd68cde5a988dec3dc0d014822571362ad33d52eb60220f632e", func := "serinette/serinettelaw21.ClocksAside", spec := "clocksAside", apart := false, narrowed := true }
def ClocksAsideUptoSaid : Prop := clocksAsideUptoRow.holds Try.pinned (OpenSpec.upto clocksAsideSpec)

/-- 'serinettelaw21.ReaderFeeds', WHERE WHAT IT READS IS OF BULK AT MOST 1048576: true; the input reads as it did. -/
def readerFeedsUptoRow : OpenClaim := { program := "ytlaidcoickeihaa", sum := "e34a5188d75e5cd68cde5a988dec3dc0d014822571362ad33d52eb60220f632e", func := "serinette/serinettelaw21.ReaderFeeds", spec := "readerFeeds", apart := false, narrowed := true }
def ReaderFeedsUptoSaid : Prop := readerFeedsUptoRow.holds Try.pinned (OpenSpec.upto readerFeedsSpec)

/-- 'serinettelaw21.ReaderNil', WHERE WHAT IT READS IS OF BULK AT MOST 1048576: true; the input reads as it did. -/
def readerNilUptoRow : OpenClaim := { program := "ytlaidcoickeihaa", sum := "e34a5188d75e5cd68cde5a988dec3dc0d014822571362ad33d52eb60220f632e", func := "serinette/serinettelaw21.ReaderNil", spec := "readerNil", apart := false, narrowed := true }
def ReaderNilUptoSaid : Prop := readerNilUptoRow.holds Try.pinned (OpenSpec.upto readerNilSpec)

/-- 'serinettelaw21.MessagesBack', WHERE WHAT IT READS IS OF BULK AT MOST 1048576: true; the input reads as it did. -/
def messagesBackUptoRow : OpenClaim := { program := "ytlaidcoickeihaa", sum := "e34a5188d75e5cd68cde5a988dec3dc0d014822571362ad33d52eb60220f632e", func := "serinette/serinettelaw21.MessagesBack", spec := "messagesBack", apart := false, narrowed := true }
def MessagesBackUptoSaid : Prop := messagesBackUptoRow.holds Try.pinned (OpenSpec.upto messagesBackSpec)

/-- 'serinettelaw21.EventsMade', WHERE WHAT IT READS IS OF BULK AT MOST 1048576: true; the input reads as it did. -/
def eventsMadeUptoRow : OpenClaim := { program := "ytlaidcoickeihaa", sum := "e34a5188d75e5cd68cde5a988dec3dc0d014822571362ad33d52eb60220f632e", func := "serinette/serinettelaw21.EventsMade", spec := "eventsMade", recurses := true, apart := false, narrowed := true }
def EventsMadeUptoSaid : Prop := eventsMadeUptoRow.holds Try.pinned (OpenSpec.upto eventsMadeSpec)

end Rows
end Go.Proofs.Ytlaidcoickeihaa
