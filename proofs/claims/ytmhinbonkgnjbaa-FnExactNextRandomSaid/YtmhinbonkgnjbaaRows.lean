/-
  No cell of these rows narrows 'for every input' (looked for: loops, veiled, ifaces, maps, wideKeys, modest, calm, conditions, laid).
  DERIVED. THE GIVEN ROWS OF THIS SEAT. 12 by the template 'for every input the law returns true; each argument reads behind the call as it read before'; 0 by the template 'total and deterministic' (their statements: YtmhinbonkgnjbaaTotals.lean).
  GIVEN WITH THE SEED: the statements are not yours to turn. If you find one false, say at which input.
  Laid BY PROGRAM, IN A SANDBOX (cutbox-rows.mjs): the forced cells as the released guide's own fill.sh prints them over the translation 521feb04a3d04da5… (all of the seat's roots in one cut). By AI agents, Wed Nov 11 2026. No macro, syntax, notation, axiom, sorry.
-/
import Derived.Test.YtmhinbonkgnjbaaChecked
import GoSem.Claim
import GoSem.ClaimJoined
import GoSem.ClaimMapViews
import Derived.JoinedTies
import Derived.KernelRfl
namespace Go.Proofs.Ytmhinbonkgnjbaa
/- THE CELL 'sum', in the pinned program and in every row, IS THE sha256 OF THE DUMP (.gsa) THAT YtmhinbonkgnjbaaProg.lean LOADS. Nothing in Lean hashes anything: it is a label: what it is worth is what the hold of that sum in a sandbox is worth. -/
noncomputable def Try.pinned : Pinned := { name := "ytmhinbonkgnjbaa", sum := "521feb04a3d04da5bc5fbca2a6fa4174b40e6b427e223d5adf8973b3f976355b", checked := Try.checked }
namespace Rows
def none {H : Type} : Left H := { results := [], args := [] }

/-- 'laws.FnExactConstants': WHATEVER THE INPUT: true; the input reads as it did. -/
def fnExactConstantsSpec : ChangeSpec := { name := "fnExactConstants", fn := fun _ => fun
  | [] => { results := [.lit (.bool true)], args := [] }
  | _ => none }
def fnExactConstantsRow : OpenClaim := { program := "ytmhinbonkgnjbaa", sum := "521feb04a3d04da5bc5fbca2a6fa4174b40e6b427e223d5adf8973b3f976355b", func := "loop.example/sharedinference/laws.FnExactConstants", spec := "fnExactConstants", apart := false }
def FnExactConstantsSaid : Prop := fnExactConstantsRow.holds Try.pinned (OpenSpec.ofChange fnExactConstantsSpec)

/-- ITS FALSE NEIGHBOUR: 'it returns false'. Refute it at one input. -/
def fnExactConstantsWrong : ChangeSpec := { name := "fnExactConstants", fn := fun _ => fun
  | [] => { results := [.lit (.bool false)], args := [] }
  | _ => none }
def FnExactConstantsWrongFalsely : Prop := fnExactConstantsRow.holds Try.pinned (OpenSpec.ofChange fnExactConstantsWrong)

/-- 'laws.FnExactRingOf': WHATEVER THE INPUT: true; the input reads as it did. -/
def fnExactRingOfSpec : ChangeSpec := { name := "fnExactRingOf", fn := fun _ => fun
  | [d] => { results := [.lit (.bool true)], args := [d] }
  | _ => none }
def fnExactRingOfRow : OpenClaim := { program := "ytmhinbonkgnjbaa", sum := "521feb04a3d04da5bc5fbca2a6fa4174b40e6b427e223d5adf8973b3f976355b", func := "loop.example/sharedinference/laws.FnExactRingOf", spec := "fnExactRingOf", apart := false }
def FnExactRingOfSaid : Prop := fnExactRingOfRow.holds Try.pinned (OpenSpec.ofChange fnExactRingOfSpec)

/-- ITS FALSE NEIGHBOUR: 'it returns false'. Refute it at one input. -/
def fnExactRingOfWrong : ChangeSpec := { name := "fnExactRingOf", fn := fun _ => fun
  | [d] => { results := [.lit (.bool false)], args := [d] }
  | _ => none }
def FnExactRingOfWrongFalsely : Prop := fnExactRingOfRow.holds Try.pinned (OpenSpec.ofChange fnExactRingOfWrong)

/-- 'laws.FnExactRingValid': WHATEVER THE INPUT: true; the input reads as it did. -/
def fnExactRingValidSpec : ChangeSpec := { name := "fnExactRingValid", fn := fun _ => fun
  | [d] => { results := [.lit (.bool true)], args := [d] }
  | _ => none }
def fnExactRingValidRow : OpenClaim := { program := "ytmhinbonkgnjbaa", sum := "521feb04a3d04da5bc5fbca2a6fa4174b40e6b427e223d5adf8973b3f976355b", func := "loop.example/sharedinference/laws.FnExactRingValid", spec := "fnExactRingValid", apart := false }
def FnExactRingValidSaid : Prop := fnExactRingValidRow.holds Try.pinned (OpenSpec.ofChange fnExactRingValidSpec)

/-- ITS FALSE NEIGHBOUR: 'it returns false'. Refute it at one input. -/
def fnExactRingValidWrong : ChangeSpec := { name := "fnExactRingValid", fn := fun _ => fun
  | [d] => { results := [.lit (.bool false)], args := [d] }
  | _ => none }
def FnExactRingValidWrongFalsely : Prop := fnExactRingValidRow.holds Try.pinned (OpenSpec.ofChange fnExactRingValidWrong)

/-- 'laws.FnExactSharedValid': WHATEVER THE INPUT: true; the input reads as it did. -/
def fnExactSharedValidSpec : ChangeSpec := { name := "fnExactSharedValid", fn := fun _ => fun
  | [d] => { results := [.lit (.bool true)], args := [d] }
  | _ => none }
def fnExactSharedValidRow : OpenClaim := { program := "ytmhinbonkgnjbaa", sum := "521feb04a3d04da5bc5fbca2a6fa4174b40e6b427e223d5adf8973b3f976355b", func := "loop.example/sharedinference/laws.FnExactSharedValid", spec := "fnExactSharedValid", apart := false }
def FnExactSharedValidSaid : Prop := fnExactSharedValidRow.holds Try.pinned (OpenSpec.ofChange fnExactSharedValidSpec)

/-- ITS FALSE NEIGHBOUR: 'it returns false'. Refute it at one input. -/
def fnExactSharedValidWrong : ChangeSpec := { name := "fnExactSharedValid", fn := fun _ => fun
  | [d] => { results := [.lit (.bool false)], args := [d] }
  | _ => none }
def FnExactSharedValidWrongFalsely : Prop := fnExactSharedValidRow.holds Try.pinned (OpenSpec.ofChange fnExactSharedValidWrong)

/-- 'laws.FnExactSignedOf': WHATEVER THE INPUT: true; the input reads as it did. -/
def fnExactSignedOfSpec : ChangeSpec := { name := "fnExactSignedOf", fn := fun _ => fun
  | [d] => { results := [.lit (.bool true)], args := [d] }
  | _ => none }
def fnExactSignedOfRow : OpenClaim := { program := "ytmhinbonkgnjbaa", sum := "521feb04a3d04da5bc5fbca2a6fa4174b40e6b427e223d5adf8973b3f976355b", func := "loop.example/sharedinference/laws.FnExactSignedOf", spec := "fnExactSignedOf", apart := false }
def FnExactSignedOfSaid : Prop := fnExactSignedOfRow.holds Try.pinned (OpenSpec.ofChange fnExactSignedOfSpec)

/-- ITS FALSE NEIGHBOUR: 'it returns false'. Refute it at one input. -/
def fnExactSignedOfWrong : ChangeSpec := { name := "fnExactSignedOf", fn := fun _ => fun
  | [d] => { results := [.lit (.bool false)], args := [d] }
  | _ => none }
def FnExactSignedOfWrongFalsely : Prop := fnExactSignedOfRow.holds Try.pinned (OpenSpec.ofChange fnExactSignedOfWrong)

/-- 'laws.FnExactAddRing': WHATEVER THE INPUT: true; the input reads as it did. -/
def fnExactAddRingSpec : ChangeSpec := { name := "fnExactAddRing", fn := fun _ => fun
  | [d1, d2] => { results := [.lit (.bool true)], args := [d1, d2] }
  | _ => none }
def fnExactAddRingRow : OpenClaim := { program := "ytmhinbonkgnjbaa", sum := "521feb04a3d04da5bc5fbca2a6fa4174b40e6b427e223d5adf8973b3f976355b", func := "loop.example/sharedinference/laws.FnExactAddRing", spec := "fnExactAddRing", apart := false }
def FnExactAddRingSaid : Prop := fnExactAddRingRow.holds Try.pinned (OpenSpec.ofChange fnExactAddRingSpec)

/-- ITS FALSE NEIGHBOUR: 'it returns false'. Refute it at one input. -/
def fnExactAddRingWrong : ChangeSpec := { name := "fnExactAddRing", fn := fun _ => fun
  | [d1, d2] => { results := [.lit (.bool false)], args := [d1, d2] }
  | _ => none }
def FnExactAddRingWrongFalsely : Prop := fnExactAddRingRow.holds Try.pinned (OpenSpec.ofChange fnExactAddRingWrong)

/-- 'laws.FnExactMulRing': WHATEVER THE INPUT: true; the input reads as it did. -/
def fnExactMulRingSpec : ChangeSpec := { name := "fnExactMulRing", fn := fun _ => fun
  | [d1, d2] => { results := [.lit (.bool true)], args := [d1, d2] }
  | _ => none }
def fnExactMulRingRow : OpenClaim := { program := "ytmhinbonkgnjbaa", sum := "521feb04a3d04da5bc5fbca2a6fa4174b40e6b427e223d5adf8973b3f976355b", func := "loop.example/sharedinference/laws.FnExactMulRing", spec := "fnExactMulRing", apart := false }
def FnExactMulRingSaid : Prop := fnExactMulRingRow.holds Try.pinned (OpenSpec.ofChange fnExactMulRingSpec)

/-- ITS FALSE NEIGHBOUR: 'it returns false'. Refute it at one input. -/
def fnExactMulRingWrong : ChangeSpec := { name := "fnExactMulRing", fn := fun _ => fun
  | [d1, d2] => { results := [.lit (.bool false)], args := [d1, d2] }
  | _ => none }
def FnExactMulRingWrongFalsely : Prop := fnExactMulRingRow.holds Try.pinned (OpenSpec.ofChange fnExactMulRingWrong)

/-- 'laws.FnExactSubRing': WHATEVER THE INPUT: true; the input reads as it did. -/
def fnExactSubRingSpec : ChangeSpec := { name := "fnExactSubRing", fn := fun _ => fun
  | [d1, d2] => { results := [.lit (.bool true)], args := [d1, d2] }
  | _ => none }
def fnExactSubRingRow : OpenClaim := { program := "ytmhinbonkgnjbaa", sum := "521feb04a3d04da5bc5fbca2a6fa4174b40e6b427e223d5adf8973b3f976355b", func := "loop.example/sharedinference/laws.FnExactSubRing", spec := "fnExactSubRing", apart := false }
def FnExactSubRingSaid : Prop := fnExactSubRingRow.holds Try.pinned (OpenSpec.ofChange fnExactSubRingSpec)

/-- ITS FALSE NEIGHBOUR: 'it returns false'. Refute it at one input. -/
def fnExactSubRingWrong : ChangeSpec := { name := "fnExactSubRing", fn := fun _ => fun
  | [d1, d2] => { results := [.lit (.bool false)], args := [d1, d2] }
  | _ => none }
def FnExactSubRingWrongFalsely : Prop := fnExactSubRingRow.holds Try.pinned (OpenSpec.ofChange fnExactSubRingWrong)

/-- 'laws.FnExactNextRandom': WHATEVER THE INPUT: true; the input reads as it did. -/
def fnExactNextRandomSpec : ChangeSpec := { name := "fnExactNextRandom", fn := fun _ => fun
  | [d] => { results := [.lit (.bool true)], args := [d] }
  | _ => none }
def fnExactNextRandomRow : OpenClaim := { program := "ytmhinbonkgnjbaa", sum := "521feb04a3d04da5bc5fbca2a6fa4174b40e6b427e223d5adf8973b3f976355b", func := "loop.example/sharedinference/laws.FnExactNextRandom", spec := "fnExactNextRandom", apart := false }
def FnExactNextRandomSaid : Prop := fnExactNextRandomRow.holds Try.pinned (OpenSpec.ofChange fnExactNextRandomSpec)

/-- ITS FALSE NEIGHBOUR: 'it returns false'. Refute it at one input. -/
def fnExactNextRandomWrong : ChangeSpec := { name := "fnExactNextRandom", fn := fun _ => fun
  | [d] => { results := [.lit (.bool false)], args := [d] }
  | _ => none }
def FnExactNextRandomWrongFalsely : Prop := fnExactNextRandomRow.holds Try.pinned (OpenSpec.ofChange fnExactNextRandomWrong)

/-- 'laws.FnExactJoinShares': WHATEVER THE INPUT: true; the input reads as it did. -/
def fnExactJoinSharesSpec : ChangeSpec := { name := "fnExactJoinShares", fn := fun _ => fun
  | [d] => { results := [.lit (.bool true)], args := [d] }
  | _ => none }
def fnExactJoinSharesRow : OpenClaim := { program := "ytmhinbonkgnjbaa", sum := "521feb04a3d04da5bc5fbca2a6fa4174b40e6b427e223d5adf8973b3f976355b", func := "loop.example/sharedinference/laws.FnExactJoinShares", spec := "fnExactJoinShares", apart := false }
def FnExactJoinSharesSaid : Prop := fnExactJoinSharesRow.holds Try.pinned (OpenSpec.ofChange fnExactJoinSharesSpec)

/-- ITS FALSE NEIGHBOUR: 'it returns false'. Refute it at one input. -/
def fnExactJoinSharesWrong : ChangeSpec := { name := "fnExactJoinShares", fn := fun _ => fun
  | [d] => { results := [.lit (.bool false)], args := [d] }
  | _ => none }
def FnExactJoinSharesWrongFalsely : Prop := fnExactJoinSharesRow.holds Try.pinned (OpenSpec.ofChange fnExactJoinSharesWrong)

/-- 'laws.FnExactSplitNumber': WHATEVER THE INPUT: true; the input reads as it did. -/
def fnExactSplitNumberSpec : ChangeSpec := { name := "fnExactSplitNumber", fn := fun _ => fun
  | [d1, d2] => { results := [.lit (.bool true)], args := [d1, d2] }
  | _ => none }
def fnExactSplitNumberRow : OpenClaim := { program := "ytmhinbonkgnjbaa", sum := "521feb04a3d04da5bc5fbca2a6fa4174b40e6b427e223d5adf8973b3f976355b", func := "loop.example/sharedinference/laws.FnExactSplitNumber", spec := "fnExactSplitNumber", apart := false }
def FnExactSplitNumberSaid : Prop := fnExactSplitNumberRow.holds Try.pinned (OpenSpec.ofChange fnExactSplitNumberSpec)

/-- ITS FALSE NEIGHBOUR: 'it returns false'. Refute it at one input. -/
def fnExactSplitNumberWrong : ChangeSpec := { name := "fnExactSplitNumber", fn := fun _ => fun
  | [d1, d2] => { results := [.lit (.bool false)], args := [d1, d2] }
  | _ => none }
def FnExactSplitNumberWrongFalsely : Prop := fnExactSplitNumberRow.holds Try.pinned (OpenSpec.ofChange fnExactSplitNumberWrong)

/-- 'laws.FnExactCutRing': WHATEVER THE INPUT: true; the input reads as it did. -/
def fnExactCutRingSpec : ChangeSpec := { name := "fnExactCutRing", fn := fun _ => fun
  | [d] => { results := [.lit (.bool true)], args := [d] }
  | _ => none }
def fnExactCutRingRow : OpenClaim := { program := "ytmhinbonkgnjbaa", sum := "521feb04a3d04da5bc5fbca2a6fa4174b40e6b427e223d5adf8973b3f976355b", func := "loop.example/sharedinference/laws.FnExactCutRing", spec := "fnExactCutRing", apart := false }
def FnExactCutRingSaid : Prop := fnExactCutRingRow.holds Try.pinned (OpenSpec.ofChange fnExactCutRingSpec)

/-- ITS FALSE NEIGHBOUR: 'it returns false'. Refute it at one input. -/
def fnExactCutRingWrong : ChangeSpec := { name := "fnExactCutRing", fn := fun _ => fun
  | [d] => { results := [.lit (.bool false)], args := [d] }
  | _ => none }
def FnExactCutRingWrongFalsely : Prop := fnExactCutRingRow.holds Try.pinned (OpenSpec.ofChange fnExactCutRingWrong)

/- THE SECOND FORM. 'bulk': how many values and letters a reading holds, each counted each time it is reached (what is shared counts as often as it is met; a slice's spare places count too). A statement '..UptoSaid' is the law's where the arguments, and the package variables that the reading takes, are together of bulk at most 1048576: NARROWER than '..Said'. Prove '..Said' where nothing that the law and all that it calls make is longer than what came in: it says more and counts as full. Else prove '..UptoSaid'. A law counts once. -/
mutual
def uptoBulk {H : Type} : DataW H → Nat
  | .lit (.string bytes) => bytes.length + 1
  | .lit _ => 1
  | .nil => 1
  | .ptr d => uptoBulk d + 1
  | .slice elems spare => uptoBulkAll elems + uptoBulkAll spare + 1
  | .agg parts => uptoBulkAll parts + 1
  | .iface _ d => uptoBulk d + 1
  | .map entries => uptoBulkEntries entries + 1
  | .held _ => 1
def uptoBulkAll {H : Type} : List (DataW H) → Nat
  | [] => 0
  | d :: r => uptoBulk d + uptoBulkAll r
def uptoBulkEntries {H : Type} : List (Lit × DataW H) → Nat
  | [] => 0
  | x :: r => uptoBulkEntry x + uptoBulkEntries r
def uptoBulkEntry {H : Type} : Lit × DataW H → Nat
  | (.string bytes, d) => bytes.length + uptoBulk d + 1
  | (_, d) => uptoBulk d + 1
 end
def uptoSmall : (H : Type) → List (DataW H) → Bool := fun _ ds => decide (uptoBulkAll ds ≤ 1048576)
def OpenSpec.upto (s : _root_.Go.ChangeSpec) : _root_.Go.OpenSpec := { _root_.Go.OpenSpec.ofChange s with cond := some uptoSmall }

/-- 'laws.FnExactConstants', WHERE WHAT IT READS IS OF BULK AT MOST 1048576: true; the input reads as it did. -/
def fnExactConstantsUptoRow : OpenClaim := { program := "ytmhinbonkgnjbaa", sum := "521feb04a3d04da5bc5fbca2a6fa4174b40e6b427e223d5adf8973b3f976355b", func := "loop.example/sharedinference/laws.FnExactConstants", spec := "fnExactConstants", apart := false, narrowed := true }
def FnExactConstantsUptoSaid : Prop := fnExactConstantsUptoRow.holds Try.pinned (OpenSpec.upto fnExactConstantsSpec)

/-- 'laws.FnExactRingOf', WHERE WHAT IT READS IS OF BULK AT MOST 1048576: true; the input reads as it did. -/
def fnExactRingOfUptoRow : OpenClaim := { program := "ytmhinbonkgnjbaa", sum := "521feb04a3d04da5bc5fbca2a6fa4174b40e6b427e223d5adf8973b3f976355b", func := "loop.example/sharedinference/laws.FnExactRingOf", spec := "fnExactRingOf", apart := false, narrowed := true }
def FnExactRingOfUptoSaid : Prop := fnExactRingOfUptoRow.holds Try.pinned (OpenSpec.upto fnExactRingOfSpec)

/-- 'laws.FnExactRingValid', WHERE WHAT IT READS IS OF BULK AT MOST 1048576: true; the input reads as it did. -/
def fnExactRingValidUptoRow : OpenClaim := { program := "ytmhinbonkgnjbaa", sum := "521feb04a3d04da5bc5fbca2a6fa4174b40e6b427e223d5adf8973b3f976355b", func := "loop.example/sharedinference/laws.FnExactRingValid", spec := "fnExactRingValid", apart := false, narrowed := true }
def FnExactRingValidUptoSaid : Prop := fnExactRingValidUptoRow.holds Try.pinned (OpenSpec.upto fnExactRingValidSpec)

/-- 'laws.FnExactSharedValid', WHERE WHAT IT READS IS OF BULK AT MOST 1048576: true; the input reads as it did. -/
def fnExactSharedValidUptoRow : OpenClaim := { program := "ytmhinbonkgnjbaa", sum := "521feb04a3d04da5bc5fbca2a6fa4174b40e6b427e223d5adf8973b3f976355b", func := "loop.example/sharedinference/laws.FnExactSharedValid", spec := "fnExactSharedValid", apart := false, narrowed := true }
def FnExactSharedValidUptoSaid : Prop := fnExactSharedValidUptoRow.holds Try.pinned (OpenSpec.upto fnExactSharedValidSpec)

/-- 'laws.FnExactSignedOf', WHERE WHAT IT READS IS OF BULK AT MOST 1048576: true; the input reads as it did. -/
def fnExactSignedOfUptoRow : OpenClaim := { program := "ytmhinbonkgnjbaa", sum := "521feb04a3d04da5bc5fbca2a6fa4174b40e6b427e223d5adf8973b3f976355b", func := "loop.example/sharedinference/laws.FnExactSignedOf", spec := "fnExactSignedOf", apart := false, narrowed := true }
def FnExactSignedOfUptoSaid : Prop := fnExactSignedOfUptoRow.holds Try.pinned (OpenSpec.upto fnExactSignedOfSpec)

/-- 'laws.FnExactAddRing', WHERE WHAT IT READS IS OF BULK AT MOST 1048576: true; the input reads as it did. -/
def fnExactAddRingUptoRow : OpenClaim := { program := "ytmhinbonkgnjbaa", sum := "521feb04a3d04da5bc5fbca2a6fa4174b40e6b427e223d5adf8973b3f976355b", func := "loop.example/sharedinference/laws.FnExactAddRing", spec := "fnExactAddRing", apart := false, narrowed := true }
def FnExactAddRingUptoSaid : Prop := fnExactAddRingUptoRow.holds Try.pinned (OpenSpec.upto fnExactAddRingSpec)

/-- 'laws.FnExactMulRing', WHERE WHAT IT READS IS OF BULK AT MOST 1048576: true; the input reads as it did. -/
def fnExactMulRingUptoRow : OpenClaim := { program := "ytmhinbonkgnjbaa", sum := "521feb04a3d04da5bc5fbca2a6fa4174b40e6b427e223d5adf8973b3f976355b", func := "loop.example/sharedinference/laws.FnExactMulRing", spec := "fnExactMulRing", apart := false, narrowed := true }
def FnExactMulRingUptoSaid : Prop := fnExactMulRingUptoRow.holds Try.pinned (OpenSpec.upto fnExactMulRingSpec)

/-- 'laws.FnExactSubRing', WHERE WHAT IT READS IS OF BULK AT MOST 1048576: true; the input reads as it did. -/
def fnExactSubRingUptoRow : OpenClaim := { program := "ytmhinbonkgnjbaa", sum := "521feb04a3d04da5bc5fbca2a6fa4174b40e6b427e223d5adf8973b3f976355b", func := "loop.example/sharedinference/laws.FnExactSubRing", spec := "fnExactSubRing", apart := false, narrowed := true }
def FnExactSubRingUptoSaid : Prop := fnExactSubRingUptoRow.holds Try.pinned (OpenSpec.upto fnExactSubRingSpec)

/-- 'laws.FnExactNextRandom', WHERE WHAT IT READS IS OF BULK AT MOST 1048576: true; the input reads as it did. -/
def fnExactNextRandomUptoRow : OpenClaim := { program := "ytmhinbonkgnjbaa", sum := "521feb04a3d04da5bc5fbca2a6fa4174b40e6b427e223d5adf8973b3f976355b", func := "loop.example/sharedinference/laws.FnExactNextRandom", spec := "fnExactNextRandom", apart := false, narrowed := true }
def FnExactNextRandomUptoSaid : Prop := fnExactNextRandomUptoRow.holds Try.pinned (OpenSpec.upto fnExactNextRandomSpec)

/-- 'laws.FnExactJoinShares', WHERE WHAT IT READS IS OF BULK AT MOST 1048576: true; the input reads as it did. -/
def fnExactJoinSharesUptoRow : OpenClaim := { program := "ytmhinbonkgnjbaa", sum := "521feb04a3d04da5bc5fbca2a6fa4174b40e6b427e223d5adf8973b3f976355b", func := "loop.example/sharedinference/laws.FnExactJoinShares", spec := "fnExactJoinShares", apart := false, narrowed := true }
def FnExactJoinSharesUptoSaid : Prop := fnExactJoinSharesUptoRow.holds Try.pinned (OpenSpec.upto fnExactJoinSharesSpec)

/-- 'laws.FnExactSplitNumber', WHERE WHAT IT READS IS OF BULK AT MOST 1048576: true; the input reads as it did. -/
def fnExactSplitNumberUptoRow : OpenClaim := { program := "ytmhinbonkgnjbaa", sum := "521feb04a3d04da5bc5fbca2a6fa4174b40e6b427e223d5adf8973b3f976355b", func := "loop.example/sharedinference/laws.FnExactSplitNumber", spec := "fnExactSplitNumber", apart := false, narrowed := true }
def FnExactSplitNumberUptoSaid : Prop := fnExactSplitNumberUptoRow.holds Try.pinned (OpenSpec.upto fnExactSplitNumberSpec)

/-- 'laws.FnExactCutRing', WHERE WHAT IT READS IS OF BULK AT MOST 1048576: true; the input reads as it did. -/
def fnExactCutRingUptoRow : OpenClaim := { program := "ytmhinbonkgnjbaa", sum := "521feb04a3d04da5bc5fbca2a6fa4174b40e6b427e223d5adf8973b3f976355b", func := "loop.example/sharedinference/laws.FnExactCutRing", spec := "fnExactCutRing", apart := false, narrowed := true }
def FnExactCutRingUptoSaid : Prop := fnExactCutRingUptoRow.holds Try.pinned (OpenSpec.upto fnExactCutRingSpec)

end Rows
end Go.Proofs.Ytmhinbonkgnjbaa
