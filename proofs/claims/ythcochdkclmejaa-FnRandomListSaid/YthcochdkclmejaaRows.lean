/-
  No cell of these rows narrows 'for every input' (looked for: loops, veiled, ifaces, maps, wideKeys, modest, calm, conditions, laid).
  DERIVED. THE GIVEN ROWS OF THIS SEAT. 12 by the template 'for every input the law returns true; each argument reads behind the call as it read before'; 0 by the template 'total and deterministic' (their statements: YthcochdkclmejaaTotals.lean).
  GIVEN WITH THE SEED: the statements are not yours to turn. If you find one false, say at which input.
  Laid BY PROGRAM, IN A SANDBOX (cutbox-rows.mjs): the forced cells as the released guide's own fill.sh prints them over the translation 00dd7c96221d44bb… (all of the seat's roots in one cut). By AI agents, Wed Nov 11 2026. No macro, syntax, notation, axiom, sorry.
-/
import Derived.Test.YthcochdkclmejaaChecked
import GoSem.Claim
import GoSem.ClaimJoined
import GoSem.ClaimMapViews
import Derived.JoinedTies
import Derived.KernelRfl
namespace Go.Proofs.Ythcochdkclmejaa
/- THE CELL 'sum', in the pinned program and in every row, IS THE sha256 OF THE DUMP (.gsa) THAT YthcochdkclmejaaProg.lean LOADS. Nothing in Lean hashes anything: it is a label: what it is worth is what the hold of that sum in a sandbox is worth. -/
noncomputable def Try.pinned : Pinned := { name := "ythcochdkclmejaa", sum := "00dd7c96221d44bb1fc572afa58d4cd571ded3859c0d331aff42cbca78cf1fd6", checked := Try.checked }
namespace Rows
def none {H : Type} : Left H := { results := [], args := [] }

/-- 'laws.FnSplitTwice': WHATEVER THE INPUT: true; the input reads as it did. -/
def fnSplitTwiceSpec : ChangeSpec := { name := "fnSplitTwice", fn := fun _ => fun
  | [d1, d2] => { results := [.lit (.bool true)], args := [d1, d2] }
  | _ => none }
def fnSplitTwiceRow : OpenClaim := { program := "ythcochdkclmejaa", sum := "00dd7c96221d44bb1fc572afa58d4cd571ded3859c0d331aff42cbca78cf1fd6", func := "loop.example/sharedinference/laws.FnSplitTwice", spec := "fnSplitTwice", apart := false }
def FnSplitTwiceSaid : Prop := fnSplitTwiceRow.holds Try.pinned (OpenSpec.ofChange fnSplitTwiceSpec)

/-- ITS FALSE NEIGHBOUR: 'it returns false'. Refute it at one input. -/
def fnSplitTwiceWrong : ChangeSpec := { name := "fnSplitTwice", fn := fun _ => fun
  | [d1, d2] => { results := [.lit (.bool false)], args := [d1, d2] }
  | _ => none }
def FnSplitTwiceWrongFalsely : Prop := fnSplitTwiceRow.holds Try.pinned (OpenSpec.ofChange fnSplitTwiceWrong)

/-- 'laws.FnSplitNumber': WHATEVER THE INPUT: true; the input reads as it did. -/
def fnSplitNumberSpec : ChangeSpec := { name := "fnSplitNumber", fn := fun _ => fun
  | [d] => { results := [.lit (.bool true)], args := [d] }
  | _ => none }
def fnSplitNumberRow : OpenClaim := { program := "ythcochdkclmejaa", sum := "00dd7c96221d44bb1fc572afa58d4cd571ded3859c0d331aff42cbca78cf1fd6", func := "loop.example/sharedinference/laws.FnSplitNumber", spec := "fnSplitNumber", apart := false }
def FnSplitNumberSaid : Prop := fnSplitNumberRow.holds Try.pinned (OpenSpec.ofChange fnSplitNumberSpec)

/-- ITS FALSE NEIGHBOUR: 'it returns false'. Refute it at one input. -/
def fnSplitNumberWrong : ChangeSpec := { name := "fnSplitNumber", fn := fun _ => fun
  | [d] => { results := [.lit (.bool false)], args := [d] }
  | _ => none }
def FnSplitNumberWrongFalsely : Prop := fnSplitNumberRow.holds Try.pinned (OpenSpec.ofChange fnSplitNumberWrong)

/-- 'laws.FnJoinShares': WHATEVER THE INPUT: true; the input reads as it did. -/
def fnJoinSharesSpec : ChangeSpec := { name := "fnJoinShares", fn := fun _ => fun
  | [d] => { results := [.lit (.bool true)], args := [d] }
  | _ => none }
def fnJoinSharesRow : OpenClaim := { program := "ythcochdkclmejaa", sum := "00dd7c96221d44bb1fc572afa58d4cd571ded3859c0d331aff42cbca78cf1fd6", func := "loop.example/sharedinference/laws.FnJoinShares", spec := "fnJoinShares", apart := false }
def FnJoinSharesSaid : Prop := fnJoinSharesRow.holds Try.pinned (OpenSpec.ofChange fnJoinSharesSpec)

/-- ITS FALSE NEIGHBOUR: 'it returns false'. Refute it at one input. -/
def fnJoinSharesWrong : ChangeSpec := { name := "fnJoinShares", fn := fun _ => fun
  | [d] => { results := [.lit (.bool false)], args := [d] }
  | _ => none }
def FnJoinSharesWrongFalsely : Prop := fnJoinSharesRow.holds Try.pinned (OpenSpec.ofChange fnJoinSharesWrong)

/-- 'laws.FnExactMatrixValid': WHATEVER THE INPUT: true; the input reads as it did. -/
def fnExactMatrixValidSpec : ChangeSpec := { name := "fnExactMatrixValid", fn := fun _ => fun
  | [d] => { results := [.lit (.bool true)], args := [d] }
  | _ => none }
def fnExactMatrixValidRow : OpenClaim := { program := "ythcochdkclmejaa", sum := "00dd7c96221d44bb1fc572afa58d4cd571ded3859c0d331aff42cbca78cf1fd6", func := "loop.example/sharedinference/laws.FnExactMatrixValid", spec := "fnExactMatrixValid", apart := false }
def FnExactMatrixValidSaid : Prop := fnExactMatrixValidRow.holds Try.pinned (OpenSpec.ofChange fnExactMatrixValidSpec)

/-- ITS FALSE NEIGHBOUR: 'it returns false'. Refute it at one input. -/
def fnExactMatrixValidWrong : ChangeSpec := { name := "fnExactMatrixValid", fn := fun _ => fun
  | [d] => { results := [.lit (.bool false)], args := [d] }
  | _ => none }
def FnExactMatrixValidWrongFalsely : Prop := fnExactMatrixValidRow.holds Try.pinned (OpenSpec.ofChange fnExactMatrixValidWrong)

/-- 'laws.FnMatrixValid': WHATEVER THE INPUT: true; the input reads as it did. -/
def fnMatrixValidSpec : ChangeSpec := { name := "fnMatrixValid", fn := fun _ => fun
  | [d] => { results := [.lit (.bool true)], args := [d] }
  | _ => none }
def fnMatrixValidRow : OpenClaim := { program := "ythcochdkclmejaa", sum := "00dd7c96221d44bb1fc572afa58d4cd571ded3859c0d331aff42cbca78cf1fd6", func := "loop.example/sharedinference/laws.FnMatrixValid", spec := "fnMatrixValid", apart := false }
def FnMatrixValidSaid : Prop := fnMatrixValidRow.holds Try.pinned (OpenSpec.ofChange fnMatrixValidSpec)

/-- ITS FALSE NEIGHBOUR: 'it returns false'. Refute it at one input. -/
def fnMatrixValidWrong : ChangeSpec := { name := "fnMatrixValid", fn := fun _ => fun
  | [d] => { results := [.lit (.bool false)], args := [d] }
  | _ => none }
def FnMatrixValidWrongFalsely : Prop := fnMatrixValidRow.holds Try.pinned (OpenSpec.ofChange fnMatrixValidWrong)

/-- 'laws.FnExactRandomList': WHATEVER THE INPUT: true; the input reads as it did. -/
def fnExactRandomListSpec : ChangeSpec := { name := "fnExactRandomList", fn := fun _ => fun
  | [d1, d2] => { results := [.lit (.bool true)], args := [d1, d2] }
  | _ => none }
def fnExactRandomListRow : OpenClaim := { program := "ythcochdkclmejaa", sum := "00dd7c96221d44bb1fc572afa58d4cd571ded3859c0d331aff42cbca78cf1fd6", func := "loop.example/sharedinference/laws.FnExactRandomList", spec := "fnExactRandomList", unfollowed := true, recurses := true, apart := false }
def FnExactRandomListSaid : Prop := fnExactRandomListRow.holds Try.pinned (OpenSpec.ofChange fnExactRandomListSpec)

/-- ITS FALSE NEIGHBOUR: 'it returns false'. Refute it at one input. -/
def fnExactRandomListWrong : ChangeSpec := { name := "fnExactRandomList", fn := fun _ => fun
  | [d1, d2] => { results := [.lit (.bool false)], args := [d1, d2] }
  | _ => none }
def FnExactRandomListWrongFalsely : Prop := fnExactRandomListRow.holds Try.pinned (OpenSpec.ofChange fnExactRandomListWrong)

/-- 'laws.FnRandomList': WHATEVER THE INPUT: true; the input reads as it did. -/
def fnRandomListSpec : ChangeSpec := { name := "fnRandomList", fn := fun _ => fun
  | [d] => { results := [.lit (.bool true)], args := [d] }
  | _ => none }
def fnRandomListRow : OpenClaim := { program := "ythcochdkclmejaa", sum := "00dd7c96221d44bb1fc572afa58d4cd571ded3859c0d331aff42cbca78cf1fd6", func := "loop.example/sharedinference/laws.FnRandomList", spec := "fnRandomList", unfollowed := true, recurses := true, apart := false }
def FnRandomListSaid : Prop := fnRandomListRow.holds Try.pinned (OpenSpec.ofChange fnRandomListSpec)

/-- ITS FALSE NEIGHBOUR: 'it returns false'. Refute it at one input. -/
def fnRandomListWrong : ChangeSpec := { name := "fnRandomList", fn := fun _ => fun
  | [d] => { results := [.lit (.bool false)], args := [d] }
  | _ => none }
def FnRandomListWrongFalsely : Prop := fnRandomListRow.holds Try.pinned (OpenSpec.ofChange fnRandomListWrong)

/-- 'laws.FnExactRandomMatrix': WHATEVER THE INPUT: true; the input reads as it did. -/
def fnExactRandomMatrixSpec : ChangeSpec := { name := "fnExactRandomMatrix", fn := fun _ => fun
  | [d1, d2, d3] => { results := [.lit (.bool true)], args := [d1, d2, d3] }
  | _ => none }
def fnExactRandomMatrixRow : OpenClaim := { program := "ythcochdkclmejaa", sum := "00dd7c96221d44bb1fc572afa58d4cd571ded3859c0d331aff42cbca78cf1fd6", func := "loop.example/sharedinference/laws.FnExactRandomMatrix", spec := "fnExactRandomMatrix", unfollowed := true, recurses := true, apart := false }
def FnExactRandomMatrixSaid : Prop := fnExactRandomMatrixRow.holds Try.pinned (OpenSpec.ofChange fnExactRandomMatrixSpec)

/-- ITS FALSE NEIGHBOUR: 'it returns false'. Refute it at one input. -/
def fnExactRandomMatrixWrong : ChangeSpec := { name := "fnExactRandomMatrix", fn := fun _ => fun
  | [d1, d2, d3] => { results := [.lit (.bool false)], args := [d1, d2, d3] }
  | _ => none }
def FnExactRandomMatrixWrongFalsely : Prop := fnExactRandomMatrixRow.holds Try.pinned (OpenSpec.ofChange fnExactRandomMatrixWrong)

/-- 'laws.FnRandomMatrix': WHATEVER THE INPUT: true; the input reads as it did. -/
def fnRandomMatrixSpec : ChangeSpec := { name := "fnRandomMatrix", fn := fun _ => fun
  | [d] => { results := [.lit (.bool true)], args := [d] }
  | _ => none }
def fnRandomMatrixRow : OpenClaim := { program := "ythcochdkclmejaa", sum := "00dd7c96221d44bb1fc572afa58d4cd571ded3859c0d331aff42cbca78cf1fd6", func := "loop.example/sharedinference/laws.FnRandomMatrix", spec := "fnRandomMatrix", unfollowed := true, recurses := true, apart := false }
def FnRandomMatrixSaid : Prop := fnRandomMatrixRow.holds Try.pinned (OpenSpec.ofChange fnRandomMatrixSpec)

/-- ITS FALSE NEIGHBOUR: 'it returns false'. Refute it at one input. -/
def fnRandomMatrixWrong : ChangeSpec := { name := "fnRandomMatrix", fn := fun _ => fun
  | [d] => { results := [.lit (.bool false)], args := [d] }
  | _ => none }
def FnRandomMatrixWrongFalsely : Prop := fnRandomMatrixRow.holds Try.pinned (OpenSpec.ofChange fnRandomMatrixWrong)

/-- 'laws.FnExactSharedMatrixValid': WHATEVER THE INPUT: true; the input reads as it did. -/
def fnExactSharedMatrixValidSpec : ChangeSpec := { name := "fnExactSharedMatrixValid", fn := fun _ => fun
  | [d] => { results := [.lit (.bool true)], args := [d] }
  | _ => none }
def fnExactSharedMatrixValidRow : OpenClaim := { program := "ythcochdkclmejaa", sum := "00dd7c96221d44bb1fc572afa58d4cd571ded3859c0d331aff42cbca78cf1fd6", func := "loop.example/sharedinference/laws.FnExactSharedMatrixValid", spec := "fnExactSharedMatrixValid", apart := false }
def FnExactSharedMatrixValidSaid : Prop := fnExactSharedMatrixValidRow.holds Try.pinned (OpenSpec.ofChange fnExactSharedMatrixValidSpec)

/-- ITS FALSE NEIGHBOUR: 'it returns false'. Refute it at one input. -/
def fnExactSharedMatrixValidWrong : ChangeSpec := { name := "fnExactSharedMatrixValid", fn := fun _ => fun
  | [d] => { results := [.lit (.bool false)], args := [d] }
  | _ => none }
def FnExactSharedMatrixValidWrongFalsely : Prop := fnExactSharedMatrixValidRow.holds Try.pinned (OpenSpec.ofChange fnExactSharedMatrixValidWrong)

/-- 'laws.FnTurnMatrix': WHATEVER THE INPUT: true; the input reads as it did. -/
def fnTurnMatrixSpec : ChangeSpec := { name := "fnTurnMatrix", fn := fun _ => fun
  | [d] => { results := [.lit (.bool true)], args := [d] }
  | _ => none }
def fnTurnMatrixRow : OpenClaim := { program := "ythcochdkclmejaa", sum := "00dd7c96221d44bb1fc572afa58d4cd571ded3859c0d331aff42cbca78cf1fd6", func := "loop.example/sharedinference/laws.FnTurnMatrix", spec := "fnTurnMatrix", apart := false }
def FnTurnMatrixSaid : Prop := fnTurnMatrixRow.holds Try.pinned (OpenSpec.ofChange fnTurnMatrixSpec)

/-- ITS FALSE NEIGHBOUR: 'it returns false'. Refute it at one input. -/
def fnTurnMatrixWrong : ChangeSpec := { name := "fnTurnMatrix", fn := fun _ => fun
  | [d] => { results := [.lit (.bool false)], args := [d] }
  | _ => none }
def FnTurnMatrixWrongFalsely : Prop := fnTurnMatrixRow.holds Try.pinned (OpenSpec.ofChange fnTurnMatrixWrong)

/-- 'laws.FnExactTurnMatrix': WHATEVER THE INPUT: true; the input reads as it did. -/
def fnExactTurnMatrixSpec : ChangeSpec := { name := "fnExactTurnMatrix", fn := fun _ => fun
  | [d] => { results := [.lit (.bool true)], args := [d] }
  | _ => none }
def fnExactTurnMatrixRow : OpenClaim := { program := "ythcochdkclmejaa", sum := "00dd7c96221d44bb1fc572afa58d4cd571ded3859c0d331aff42cbca78cf1fd6", func := "loop.example/sharedinference/laws.FnExactTurnMatrix", spec := "fnExactTurnMatrix", apart := false }
def FnExactTurnMatrixSaid : Prop := fnExactTurnMatrixRow.holds Try.pinned (OpenSpec.ofChange fnExactTurnMatrixSpec)

/-- ITS FALSE NEIGHBOUR: 'it returns false'. Refute it at one input. -/
def fnExactTurnMatrixWrong : ChangeSpec := { name := "fnExactTurnMatrix", fn := fun _ => fun
  | [d] => { results := [.lit (.bool false)], args := [d] }
  | _ => none }
def FnExactTurnMatrixWrongFalsely : Prop := fnExactTurnMatrixRow.holds Try.pinned (OpenSpec.ofChange fnExactTurnMatrixWrong)

/- THE SECOND FORM. 'bulk': how many values and letters a reading holds, each counted each time it is reached (what is shared counts as often as it is met; a slice's spare places count too). A statement '..UptoSaid' is the law's where the arguments, and the package variables that the reading takes, are together of bulk at most 1048576: NARROWER than '..Said'. Prove '..Said' where nothing that the law and all that it calls make is longer than what came in: it says more and counts as full. Else prove '..UptoSaid'. A law counts once. -/
mutual
def uptoBulk {H : Type} : DataW H → Nat
  | .lit (.string bytes) => bytes.length + 1
  | .lit _ => 1
  | .nil => 1
  | .ptr d => uptoBulk d + 1
  | .slice elems spare => uptoBulkAll elems + uptoBulkAll spare + 1
  | .agg parts => uptoBulkAll parts + 1
  | .iface _ d => uptoBulk d + 1
  | .map entries => uptoBulkEntries entries + 1
  | .held _ => 1
def uptoBulkAll {H : Type} : List (DataW H) → Nat
  | [] => 0
  | d :: r => uptoBulk d + uptoBulkAll r
def uptoBulkEntries {H : Type} : List (Lit × DataW H) → Nat
  | [] => 0
  | x :: r => uptoBulkEntry x + uptoBulkEntries r
def uptoBulkEntry {H : Type} : Lit × DataW H → Nat
  | (.string bytes, d) => bytes.length + uptoBulk d + 1
  | (_, d) => uptoBulk d + 1
 end
def uptoSmall : (H : Type) → List (DataW H) → Bool := fun _ ds => decide (uptoBulkAll ds ≤ 1048576)
def OpenSpec.upto (s : _root_.Go.ChangeSpec) : _root_.Go.OpenSpec := { _root_.Go.OpenSpec.ofChange s with cond := some uptoSmall }

/-- 'laws.FnSplitTwice', WHERE WHAT IT READS IS OF BULK AT MOST 1048576: true; the input reads as it did. -/
def fnSplitTwiceUptoRow : OpenClaim := { program := "ythcochdkclmejaa", sum := "00dd7c96221d44bb1fc572afa58d4cd571ded3859c0d331aff42cbca78cf1fd6", func := "loop.example/sharedinference/laws.FnSplitTwice", spec := "fnSplitTwice", apart := false, narrowed := true }
def FnSplitTwiceUptoSaid : Prop := fnSplitTwiceUptoRow.holds Try.pinned (OpenSpec.upto fnSplitTwiceSpec)

/-- 'laws.FnSplitNumber', WHERE WHAT IT READS IS OF BULK AT MOST 1048576: true; the input reads as it did. -/
def fnSplitNumberUptoRow : OpenClaim := { program := "ythcochdkclmejaa", sum := "00dd7c96221d44bb1fc572afa58d4cd571ded3859c0d331aff42cbca78cf1fd6", func := "loop.example/sharedinference/laws.FnSplitNumber", spec := "fnSplitNumber", apart := false, narrowed := true }
def FnSplitNumberUptoSaid : Prop := fnSplitNumberUptoRow.holds Try.pinned (OpenSpec.upto fnSplitNumberSpec)

/-- 'laws.FnJoinShares', WHERE WHAT IT READS IS OF BULK AT MOST 1048576: true; the input reads as it did. -/
def fnJoinSharesUptoRow : OpenClaim := { program := "ythcochdkclmejaa", sum := "00dd7c96221d44bb1fc572afa58d4cd571ded3859c0d331aff42cbca78cf1fd6", func := "loop.example/sharedinference/laws.FnJoinShares", spec := "fnJoinShares", apart := false, narrowed := true }
def FnJoinSharesUptoSaid : Prop := fnJoinSharesUptoRow.holds Try.pinned (OpenSpec.upto fnJoinSharesSpec)

/-- 'laws.FnExactMatrixValid', WHERE WHAT IT READS IS OF BULK AT MOST 1048576: true; the input reads as it did. -/
def fnExactMatrixValidUptoRow : OpenClaim := { program := "ythcochdkclmejaa", sum := "00dd7c96221d44bb1fc572afa58d4cd571ded3859c0d331aff42cbca78cf1fd6", func := "loop.example/sharedinference/laws.FnExactMatrixValid", spec := "fnExactMatrixValid", apart := false, narrowed := true }
def FnExactMatrixValidUptoSaid : Prop := fnExactMatrixValidUptoRow.holds Try.pinned (OpenSpec.upto fnExactMatrixValidSpec)

/-- 'laws.FnMatrixValid', WHERE WHAT IT READS IS OF BULK AT MOST 1048576: true; the input reads as it did. -/
def fnMatrixValidUptoRow : OpenClaim := { program := "ythcochdkclmejaa", sum := "00dd7c96221d44bb1fc572afa58d4cd571ded3859c0d331aff42cbca78cf1fd6", func := "loop.example/sharedinference/laws.FnMatrixValid", spec := "fnMatrixValid", apart := false, narrowed := true }
def FnMatrixValidUptoSaid : Prop := fnMatrixValidUptoRow.holds Try.pinned (OpenSpec.upto fnMatrixValidSpec)

/-- 'laws.FnExactRandomList', WHERE WHAT IT READS IS OF BULK AT MOST 1048576: true; the input reads as it did. -/
def fnExactRandomListUptoRow : OpenClaim := { program := "ythcochdkclmejaa", sum := "00dd7c96221d44bb1fc572afa58d4cd571ded3859c0d331aff42cbca78cf1fd6", func := "loop.example/sharedinference/laws.FnExactRandomList", spec := "fnExactRandomList", unfollowed := true, recurses := true, apart := false, narrowed := true }
def FnExactRandomListUptoSaid : Prop := fnExactRandomListUptoRow.holds Try.pinned (OpenSpec.upto fnExactRandomListSpec)

/-- 'laws.FnRandomList', WHERE WHAT IT READS IS OF BULK AT MOST 1048576: true; the input reads as it did. -/
def fnRandomListUptoRow : OpenClaim := { program := "ythcochdkclmejaa", sum := "00dd7c96221d44bb1fc572afa58d4cd571ded3859c0d331aff42cbca78cf1fd6", func := "loop.example/sharedinference/laws.FnRandomList", spec := "fnRandomList", unfollowed := true, recurses := true, apart := false, narrowed := true }
def FnRandomListUptoSaid : Prop := fnRandomListUptoRow.holds Try.pinned (OpenSpec.upto fnRandomListSpec)

/-- 'laws.FnExactRandomMatrix', WHERE WHAT IT READS IS OF BULK AT MOST 1048576: true; the input reads as it did. -/
def fnExactRandomMatrixUptoRow : OpenClaim := { program := "ythcochdkclmejaa", sum := "00dd7c96221d44bb1fc572afa58d4cd571ded3859c0d331aff42cbca78cf1fd6", func := "loop.example/sharedinference/laws.FnExactRandomMatrix", spec := "fnExactRandomMatrix", unfollowed := true, recurses := true, apart := false, narrowed := true }
def FnExactRandomMatrixUptoSaid : Prop := fnExactRandomMatrixUptoRow.holds Try.pinned (OpenSpec.upto fnExactRandomMatrixSpec)

/-- 'laws.FnRandomMatrix', WHERE WHAT IT READS IS OF BULK AT MOST 1048576: true; the input reads as it did. -/
def fnRandomMatrixUptoRow : OpenClaim := { program := "ythcochdkclmejaa", sum := "00dd7c96221d44bb1fc572afa58d4cd571ded3859c0d331aff42cbca78cf1fd6", func := "loop.example/sharedinference/laws.FnRandomMatrix", spec := "fnRandomMatrix", unfollowed := true, recurses := true, apart := false, narrowed := true }
def FnRandomMatrixUptoSaid : Prop := fnRandomMatrixUptoRow.holds Try.pinned (OpenSpec.upto fnRandomMatrixSpec)

/-- 'laws.FnExactSharedMatrixValid', WHERE WHAT IT READS IS OF BULK AT MOST 1048576: true; the input reads as it did. -/
def fnExactSharedMatrixValidUptoRow : OpenClaim := { program := "ythcochdkclmejaa", sum := "00dd7c96221d44bb1fc572afa58d4cd571ded3859c0d331aff42cbca78cf1fd6", func := "loop.example/sharedinference/laws.FnExactSharedMatrixValid", spec := "fnExactSharedMatrixValid", apart := false, narrowed := true }
def FnExactSharedMatrixValidUptoSaid : Prop := fnExactSharedMatrixValidUptoRow.holds Try.pinned (OpenSpec.upto fnExactSharedMatrixValidSpec)

/-- 'laws.FnTurnMatrix', WHERE WHAT IT READS IS OF BULK AT MOST 1048576: true; the input reads as it did. -/
def fnTurnMatrixUptoRow : OpenClaim := { program := "ythcochdkclmejaa", sum := "00dd7c96221d44bb1fc572afa58d4cd571ded3859c0d331aff42cbca78cf1fd6", func := "loop.example/sharedinference/laws.FnTurnMatrix", spec := "fnTurnMatrix", apart := false, narrowed := true }
def FnTurnMatrixUptoSaid : Prop := fnTurnMatrixUptoRow.holds Try.pinned (OpenSpec.upto fnTurnMatrixSpec)

/-- 'laws.FnExactTurnMatrix', WHERE WHAT IT READS IS OF BULK AT MOST 1048576: true; the input reads as it did. -/
def fnExactTurnMatrixUptoRow : OpenClaim := { program := "ythcochdkclmejaa", sum := "00dd7c96221d44bb1fc572afa58d4cd571ded3859c0d331aff42cbca78cf1fd6", func := "loop.example/sharedinference/laws.FnExactTurnMatrix", spec := "fnExactTurnMatrix", apart := false, narrowed := true }
def FnExactTurnMatrixUptoSaid : Prop := fnExactTurnMatrixUptoRow.holds Try.pinned (OpenSpec.upto fnExactTurnMatrixSpec)

end Rows
end Go.Proofs.Ythcochdkclmejaa
