/-
  No cell of these rows narrows 'for every input' (looked for: loops, veiled, ifaces, maps, wideKeys, modest, calm, conditions, laid).
  DERIVED. THE GIVEN ROWS OF THIS SEAT. 6 by the template 'for every input the law returns true; each argument reads behind the call as it read before'; 0 by the template 'total and deterministic' (their statements: YtgecbfemlpmpeaaTotals.lean).
  GIVEN WITH THE SEED: the statements are not yours to turn. If you find one false, say at which input.
  Laid BY PROGRAM, IN A SANDBOX (cutbox-rows.mjs): the forced cells as the released guide's own fill.sh prints them over the translation 3b4a8454b1248b81… (all of the seat's roots in one cut). By AI agents, Wed Nov 11 2026. No macro, syntax, notation, axiom, sorry.
-/
import Derived.Test.YtgecbfemlpmpeaaChecked
import GoSem.Claim
import GoSem.ClaimJoined
import GoSem.ClaimMapViews
import Derived.JoinedTies
import Derived.KernelRfl
namespace Go.Proofs.Ytgecbfemlpmpeaa
/- THE CELL 'sum', in the pinned program and in every row, IS THE sha256 OF THE DUMP (.gsa) THAT YtgecbfemlpmpeaaProg.lean LOADS. Nothing in Lean hashes anything: it is a label: what it is worth is what the hold of that sum in a sandbox is worth. -/
noncomputable def Try.pinned : Pinned := { name := "ytgecbfemlpmpeaa", sum := "3b4a8454b1248b813c88b6e9b71219bb92304d2bb79fc3c55bddbf1731715198", checked := Try.checked }
namespace Rows
def none {H : Type} : Left H := { results := [], args := [] }

/-- 'serinettelaw01.NumberSums': WHATEVER THE INPUT: true; the input reads as it did. -/
def numberSumsSpec : ChangeSpec := { name := "numberSums", fn := fun _ => fun
  | [d] => { results := [.lit (.bool true)], args := [d] }
  | _ => none }
def numberSumsRow : OpenClaim := { program := "ytgecbfemlpmpeaa", sum := "3b4a8454b1248b813c88b6e9b71219bb92304d2bb79fc3c55bddbf1731715198", func := "serinette/serinettelaw01.NumberSums", spec := "numberSums", apart := false }
def NumberSumsSaid : Prop := numberSumsRow.holds Try.pinned (OpenSpec.ofChange numberSumsSpec)

/-- ITS FALSE NEIGHBOUR: 'it returns false'. Refute it at one input. -/
def numberSumsWrong : ChangeSpec := { name := "numberSums", fn := fun _ => fun
  | [d] => { results := [.lit (.bool false)], args := [d] }
  | _ => none }
def NumberSumsWrongFalsely : Prop := numberSumsRow.holds Try.pinned (OpenSpec.ofChange numberSumsWrong)

/-- 'serinettelaw01.NumberField': WHATEVER THE INPUT: true; the input reads as it did. -/
def numberFieldSpec : ChangeSpec := { name := "numberField", fn := fun _ => fun
  | [d1, d2, d3] => { results := [.lit (.bool true)], args := [d1, d2, d3] }
  | _ => none }
def numberFieldRow : OpenClaim := { program := "ytgecbfemlpmpeaa", sum := "3b4a8454b1248b813c88b6e9b71219bb92304d2bb79fc3c55bddbf1731715198", func := "serinette/serinettelaw01.NumberField", spec := "numberField", apart := false }
def NumberFieldSaid : Prop := numberFieldRow.holds Try.pinned (OpenSpec.ofChange numberFieldSpec)

/-- ITS FALSE NEIGHBOUR: 'it returns false'. Refute it at one input. -/
def numberFieldWrong : ChangeSpec := { name := "numberField", fn := fun _ => fun
  | [d1, d2, d3] => { results := [.lit (.bool false)], args := [d1, d2, d3] }
  | _ => none }
def NumberFieldWrongFalsely : Prop := numberFieldRow.holds Try.pinned (OpenSpec.ofChange numberFieldWrong)

/-- 'serinettelaw01.NumberMakes': WHATEVER THE INPUT: true; the input reads as it did. -/
def numberMakesSpec : ChangeSpec := { name := "numberMakes", fn := fun _ => fun
  | [d] => { results := [.lit (.bool true)], args := [d] }
  | _ => none }
def numberMakesRow : OpenClaim := { program := "ytgecbfemlpmpeaa", sum := "3b4a8454b1248b813c88b6e9b71219bb92304d2bb79fc3c55bddbf1731715198", func := "serinette/serinettelaw01.NumberMakes", spec := "numberMakes", apart := false }
def NumberMakesSaid : Prop := numberMakesRow.holds Try.pinned (OpenSpec.ofChange numberMakesSpec)

/-- ITS FALSE NEIGHBOUR: 'it returns false'. Refute it at one input. -/
def numberMakesWrong : ChangeSpec := { name := "numberMakes", fn := fun _ => fun
  | [d] => { results := [.lit (.bool false)], args := [d] }
  | _ => none }
def NumberMakesWrongFalsely : Prop := numberMakesRow.holds Try.pinned (OpenSpec.ofChange numberMakesWrong)

/-- 'serinettelaw01.NumberTests': WHATEVER THE INPUT: true; the input reads as it did. -/
def numberTestsSpec : ChangeSpec := { name := "numberTests", fn := fun _ => fun
  | [d1, d2, d3] => { results := [.lit (.bool true)], args := [d1, d2, d3] }
  | _ => none }
def numberTestsRow : OpenClaim := { program := "ytgecbfemlpmpeaa", sum := "3b4a8454b1248b813c88b6e9b71219bb92304d2bb79fc3c55bddbf1731715198", func := "serinette/serinettelaw01.NumberTests", spec := "numberTests", apart := false }
def NumberTestsSaid : Prop := numberTestsRow.holds Try.pinned (OpenSpec.ofChange numberTestsSpec)

/-- ITS FALSE NEIGHBOUR: 'it returns false'. Refute it at one input. -/
def numberTestsWrong : ChangeSpec := { name := "numberTests", fn := fun _ => fun
  | [d1, d2, d3] => { results := [.lit (.bool false)], args := [d1, d2, d3] }
  | _ => none }
def NumberTestsWrongFalsely : Prop := numberTestsRow.holds Try.pinned (OpenSpec.ofChange numberTestsWrong)

/-- 'serinettelaw01.NumberRounds': WHATEVER THE INPUT: true; the input reads as it did. -/
def numberRoundsSpec : ChangeSpec := { name := "numberRounds", fn := fun _ => fun
  | [d1, d2] => { results := [.lit (.bool true)], args := [d1, d2] }
  | _ => none }
def numberRoundsRow : OpenClaim := { program := "ytgecbfemlpmpeaa", sum := "3b4a8454b1248b813c88b6e9b71219bb92304d2bb79fc3c55bddbf1731715198", func := "serinette/serinettelaw01.NumberRounds", spec := "numberRounds", apart := false }
def NumberRoundsSaid : Prop := numberRoundsRow.holds Try.pinned (OpenSpec.ofChange numberRoundsSpec)

/-- ITS FALSE NEIGHBOUR: 'it returns false'. Refute it at one input. -/
def numberRoundsWrong : ChangeSpec := { name := "numberRounds", fn := fun _ => fun
  | [d1, d2] => { results := [.lit (.bool false)], args := [d1, d2] }
  | _ => none }
def NumberRoundsWrongFalsely : Prop := numberRoundsRow.holds Try.pinned (OpenSpec.ofChange numberRoundsWrong)

/-- 'serinettelaw01.NumberSays': WHATEVER THE INPUT: true; the input reads as it did. -/
def numberSaysSpec : ChangeSpec := { name := "numberSays", fn := fun _ => fun
  | [d1, d2] => { results := [.lit (.bool true)], args := [d1, d2] }
  | _ => none }
def numberSaysRow : OpenClaim := { program := "ytgecbfemlpmpeaa", sum := "3b4a8454b1248b813c88b6e9b71219bb92304d2bb79fc3c55bddbf1731715198", func := "serinette/serinettelaw01.NumberSays", spec := "numberSays", apart := false }
def NumberSaysSaid : Prop := numberSaysRow.holds Try.pinned (OpenSpec.ofChange numberSaysSpec)

/-- ITS FALSE NEIGHBOUR: 'it returns false'. Refute it at one input. -/
def numberSaysWrong : ChangeSpec := { name := "numberSays", fn := fun _ => fun
  | [d1, d2] => { results := [.lit (.bool false)], args := [d1, d2] }
  | _ => none }
def NumberSaysWrongFalsely : Prop := numberSaysRow.holds Try.pinned (OpenSpec.ofChange numberSaysWrong)

/- THE SECOND FORM. 'bulk': how many values and letters a reading holds, each counted each time it is reached (what is shared counts as often as it is met; a slice's spare places count too). A statement '..UptoSaid' is the law's where the arguments, and the package variables that the reading takes, are together of bulk at most 1048576: NARROWER than '..Said'. Prove '..Said' where nothing that the law and all that it calls make is longer than what came in: it says more and counts as full. Else prove '..UptoSaid'. A law counts once. -/
mutual
def uptoBulk {H : Type} : DataW H → Nat
  | .lit (.string bytes) => bytes.length + 1
  | .lit _ => 1
  | .nil => 1
  | .ptr d => uptoBulk d + 1
  | .slice elems spare => uptoBulkAll elems + uptoBulkAll spare + 1
  | .agg parts => uptoBulkAll parts + 1
  | .iface _ d => uptoBulk d + 1
  | .map entries => uptoBulkEntries entries + 1
  | .held _ => 1
def uptoBulkAll {H : Type} : List (DataW H) → Nat
  | [] => 0
  | d :: r => uptoBulk d + uptoBulkAll r
def uptoBulkEntries {H : Type} : List (Lit × DataW H) → Nat
  | [] => 0
  | x :: r => uptoBulkEntry x + uptoBulkEntries r
def uptoBulkEntry {H : Type} : Lit × DataW H → Nat
  | (.string bytes, d) => bytes.length + uptoBulk d + 1
  | (_, d) => uptoBulk d + 1
 end
def uptoSmall : (H : Type) → List (DataW H) → Bool := fun _ ds => decide (uptoBulkAll ds ≤ 1048576)
def OpenSpec.upto (s : _root_.Go.ChangeSpec) : _root_.Go.OpenSpec := { _root_.Go.OpenSpec.ofChange s with cond := some uptoSmall }

/-- 'serinettelaw01.NumberSums', WHERE WHAT IT READS IS OF BULK AT MOST 1048576: true; the input reads as it did. -/
def numberSumsUptoRow : OpenClaim := { program := "ytgecbfemlpmpeaa", sum := "3b4a8454b1248b813c88b6e9b71219bb92304d2bb79fc3c55bddbf1731715198", func := "serinette/serinettelaw01.NumberSums", spec := "numberSums", apart := false, narrowed := true }
def NumberSumsUptoSaid : Prop := numberSumsUptoRow.holds Try.pinned (OpenSpec.upto numberSumsSpec)

/-- 'serinettelaw01.NumberField', WHERE WHAT IT READS IS OF BULK AT MOST 1048576: true; the input reads as it did. -/
def numberFieldUptoRow : OpenClaim := { program := "ytgecbfemlpmpeaa", sum := "3b4a8454b1248b813c88b6e9b71219bb92304d2bb79fc3c55bddbf1731715198", func := "serinette/serinettelaw01.NumberField", spec := "numberField", apart := false, narrowed := true }
def NumberFieldUptoSaid : Prop := numberFieldUptoRow.holds Try.pinned (OpenSpec.upto numberFieldSpec)

/-- 'serinettelaw01.NumberMakes', WHERE WHAT IT READS IS OF BULK AT MOST 1048576: true; the input reads as it did. -/
def numberMakesUptoRow : OpenClaim := { program := "ytgecbfemlpmpeaa", sum := "3b4a8454b1248b813c88b6e9b71219bb92304d2bb79fc3c55bddbf1731715198", func := "serinette/serinettelaw01.NumberMakes", spec := "numberMakes", apart := false, narrowed := true }
def NumberMakesUptoSaid : Prop := numberMakesUptoRow.holds Try.pinned (OpenSpec.upto numberMakesSpec)

/-- 'serinettelaw01.NumberTests', WHERE WHAT IT READS IS OF BULK AT MOST 1048576: true; the input reads as it did. -/
def numberTestsUptoRow : OpenClaim := { program := "ytgecbfemlpmpeaa", sum := "3b4a8454b1248b813c88b6e9b71219bb92304d2bb79fc3c55bddbf1731715198", func := "serinette/serinettelaw01.NumberTests", spec := "numberTests", apart := false, narrowed := true }
def NumberTestsUptoSaid : Prop := numberTestsUptoRow.holds Try.pinned (OpenSpec.upto numberTestsSpec)

/-- 'serinettelaw01.NumberRounds', WHERE WHAT IT READS IS OF BULK AT MOST 1048576: true; the input reads as it did. -/
def numberRoundsUptoRow : OpenClaim := { program := "ytgecbfemlpmpeaa", sum := "3b4a8454b1248b813c88b6e9b71219bb92304d2bb79fc3c55bddbf1731715198", func := "serinette/serinettelaw01.NumberRounds", spec := "numberRounds", apart := false, narrowed := true }
def NumberRoundsUptoSaid : Prop := numberRoundsUptoRow.holds Try.pinned (OpenSpec.upto numberRoundsSpec)

/-- 'serinettelaw01.NumberSays', WHERE WHAT IT READS IS OF BULK AT MOST 1048576: true; the input reads as it did. -/
def numberSaysUptoRow : OpenClaim := { program := "ytgecbfemlpmpeaa", sum := "3b4a8454b1248b813c88b6e9b71219bb92304d2bb79fc3c55bddbf1731715198", func := "serinette/serinettelaw01.NumberSays", spec := "numberSays", apart := false, narrowed := true }
def NumberSaysUptoSaid : Prop := numberSaysUptoRow.holds Try.pinned (OpenSpec.upto numberSaysSpec)

end Rows
end Go.Proofs.Ytgecbfemlpmpeaa
