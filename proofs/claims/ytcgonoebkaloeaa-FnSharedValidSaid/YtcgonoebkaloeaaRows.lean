/-
  No cell of these rows narrows 'for every input' (looked for: loops, veiled, ifaces, maps, wideKeys, modest, calm, conditions, laid).
  DERIVED. THE GIVEN ROWS OF THIS SEAT. 12 by the template 'for every input the law returns true; each argument reads behind the call as it read before'; 0 by the template 'total and deterministic' (their statements: YtcgonoebkaloeaaTotals.lean).
  GIVEN WITH THE SEED: the statements are not yours to turn. If you find one false, say at which input.
  Laid BY PROGRAM, IN A SANDBOX (cutbox-rows.mjs): the forced cells as the released guide's own fill.sh prints them over the translation acfb30633966fb7a… (all of the seat's roots in one cut). By AI agents, Wed Nov 11 2026. No macro, syntax, notation, axiom, sorry.
-/
import Derived.Test.YtcgonoebkaloeaaChecked
import GoSem.Claim
import GoSem.ClaimJoined
import GoSem.ClaimMapViews
import Derived.JoinedTies
import Derived.KernelRfl
namespace Go.Proofs.Ytcgonoebkaloeaa
/- THE CELL 'sum', in the pinned program and in every row, IS THE sha256 OF THE DUMP (.gsa) THAT YtcgonoebkaloeaaProg.lean LOADS. Nothing in Lean hashes anything: it is a label: what it is worth is what the hold of that sum in a sandbox is worth. -/
noncomputable def Try.pinned : Pinned := { name := "ytcgonoebkaloeaa", sum := "acfb30633966fb7ac6a7e001cec9326f23433aeaa1ad525aed56a066d9cfc1a4", checked := Try.checked }
namespace Rows
def none {H : Type} : Left H := { results := [], args := [] }

/-- 'laws.FnExactMulFixed': WHATEVER THE INPUT: true; the input reads as it did. -/
def fnExactMulFixedSpec : ChangeSpec := { name := "fnExactMulFixed", fn := fun _ => fun
  | [d1, d2] => { results := [.lit (.bool true)], args := [d1, d2] }
  | _ => none }
def fnExactMulFixedRow : OpenClaim := { program := "ytcgonoebkaloeaa", sum := "acfb30633966fb7ac6a7e001cec9326f23433aeaa1ad525aed56a066d9cfc1a4", func := "loop.example/sharedinference/laws.FnExactMulFixed", spec := "fnExactMulFixed", apart := false }
def FnExactMulFixedSaid : Prop := fnExactMulFixedRow.holds Try.pinned (OpenSpec.ofChange fnExactMulFixedSpec)

/-- ITS FALSE NEIGHBOUR: 'it returns false'. Refute it at one input. -/
def fnExactMulFixedWrong : ChangeSpec := { name := "fnExactMulFixed", fn := fun _ => fun
  | [d1, d2] => { results := [.lit (.bool false)], args := [d1, d2] }
  | _ => none }
def FnExactMulFixedWrongFalsely : Prop := fnExactMulFixedRow.holds Try.pinned (OpenSpec.ofChange fnExactMulFixedWrong)

/-- 'laws.FnExactAddKnown': WHATEVER THE INPUT: true; the input reads as it did. -/
def fnExactAddKnownSpec : ChangeSpec := { name := "fnExactAddKnown", fn := fun _ => fun
  | [d1, d2] => { results := [.lit (.bool true)], args := [d1, d2] }
  | _ => none }
def fnExactAddKnownRow : OpenClaim := { program := "ytcgonoebkaloeaa", sum := "acfb30633966fb7ac6a7e001cec9326f23433aeaa1ad525aed56a066d9cfc1a4", func := "loop.example/sharedinference/laws.FnExactAddKnown", spec := "fnExactAddKnown", unfollowed := true, recurses := true, apart := false }
def FnExactAddKnownSaid : Prop := fnExactAddKnownRow.holds Try.pinned (OpenSpec.ofChange fnExactAddKnownSpec)

/-- ITS FALSE NEIGHBOUR: 'it returns false'. Refute it at one input. -/
def fnExactAddKnownWrong : ChangeSpec := { name := "fnExactAddKnown", fn := fun _ => fun
  | [d1, d2] => { results := [.lit (.bool false)], args := [d1, d2] }
  | _ => none }
def FnExactAddKnownWrongFalsely : Prop := fnExactAddKnownRow.holds Try.pinned (OpenSpec.ofChange fnExactAddKnownWrong)

/-- 'laws.FnRingOf': WHATEVER THE INPUT: true; the input reads as it did. -/
def fnRingOfSpec : ChangeSpec := { name := "fnRingOf", fn := fun _ => fun
  | [d] => { results := [.lit (.bool true)], args := [d] }
  | _ => none }
def fnRingOfRow : OpenClaim := { program := "ytcgonoebkaloeaa", sum := "acfb30633966fb7ac6a7e001cec9326f23433aeaa1ad525aed56a066d9cfc1a4", func := "loop.example/sharedinference/laws.FnRingOf", spec := "fnRingOf", apart := false }
def FnRingOfSaid : Prop := fnRingOfRow.holds Try.pinned (OpenSpec.ofChange fnRingOfSpec)

/-- ITS FALSE NEIGHBOUR: 'it returns false'. Refute it at one input. -/
def fnRingOfWrong : ChangeSpec := { name := "fnRingOf", fn := fun _ => fun
  | [d] => { results := [.lit (.bool false)], args := [d] }
  | _ => none }
def FnRingOfWrongFalsely : Prop := fnRingOfRow.holds Try.pinned (OpenSpec.ofChange fnRingOfWrong)

/-- 'laws.FnRingValid': WHATEVER THE INPUT: true; the input reads as it did. -/
def fnRingValidSpec : ChangeSpec := { name := "fnRingValid", fn := fun _ => fun
  | [d] => { results := [.lit (.bool true)], args := [d] }
  | _ => none }
def fnRingValidRow : OpenClaim := { program := "ytcgonoebkaloeaa", sum := "acfb30633966fb7ac6a7e001cec9326f23433aeaa1ad525aed56a066d9cfc1a4", func := "loop.example/sharedinference/laws.FnRingValid", spec := "fnRingValid", apart := false }
def FnRingValidSaid : Prop := fnRingValidRow.holds Try.pinned (OpenSpec.ofChange fnRingValidSpec)

/-- ITS FALSE NEIGHBOUR: 'it returns false'. Refute it at one input. -/
def fnRingValidWrong : ChangeSpec := { name := "fnRingValid", fn := fun _ => fun
  | [d] => { results := [.lit (.bool false)], args := [d] }
  | _ => none }
def FnRingValidWrongFalsely : Prop := fnRingValidRow.holds Try.pinned (OpenSpec.ofChange fnRingValidWrong)

/-- 'laws.FnSharedValid': WHATEVER THE INPUT: true; the input reads as it did. -/
def fnSharedValidSpec : ChangeSpec := { name := "fnSharedValid", fn := fun _ => fun
  | [d] => { results := [.lit (.bool true)], args := [d] }
  | _ => none }
def fnSharedValidRow : OpenClaim := { program := "ytcgonoebkaloeaa", sum := "acfb30633966fb7ac6a7e001cec9326f23433aeaa1ad525aed56a066d9cfc1a4", func := "loop.example/sharedinference/laws.FnSharedValid", spec := "fnSharedValid", apart := false }
def FnSharedValidSaid : Prop := fnSharedValidRow.holds Try.pinned (OpenSpec.ofChange fnSharedValidSpec)

/-- ITS FALSE NEIGHBOUR: 'it returns false'. Refute it at one input. -/
def fnSharedValidWrong : ChangeSpec := { name := "fnSharedValid", fn := fun _ => fun
  | [d] => { results := [.lit (.bool false)], args := [d] }
  | _ => none }
def FnSharedValidWrongFalsely : Prop := fnSharedValidRow.holds Try.pinned (OpenSpec.ofChange fnSharedValidWrong)

/-- 'laws.FnSignedOf': WHATEVER THE INPUT: true; the input reads as it did. -/
def fnSignedOfSpec : ChangeSpec := { name := "fnSignedOf", fn := fun _ => fun
  | [d] => { results := [.lit (.bool true)], args := [d] }
  | _ => none }
def fnSignedOfRow : OpenClaim := { program := "ytcgonoebkaloeaa", sum := "acfb30633966fb7ac6a7e001cec9326f23433aeaa1ad525aed56a066d9cfc1a4", func := "loop.example/sharedinference/laws.FnSignedOf", spec := "fnSignedOf", apart := false }
def FnSignedOfSaid : Prop := fnSignedOfRow.holds Try.pinned (OpenSpec.ofChange fnSignedOfSpec)

/-- ITS FALSE NEIGHBOUR: 'it returns false'. Refute it at one input. -/
def fnSignedOfWrong : ChangeSpec := { name := "fnSignedOf", fn := fun _ => fun
  | [d] => { results := [.lit (.bool false)], args := [d] }
  | _ => none }
def FnSignedOfWrongFalsely : Prop := fnSignedOfRow.holds Try.pinned (OpenSpec.ofChange fnSignedOfWrong)

/-- 'laws.FnAddRing': WHATEVER THE INPUT: true; the input reads as it did. -/
def fnAddRingSpec : ChangeSpec := { name := "fnAddRing", fn := fun _ => fun
  | [d] => { results := [.lit (.bool true)], args := [d] }
  | _ => none }
def fnAddRingRow : OpenClaim := { program := "ytcgonoebkaloeaa", sum := "acfb30633966fb7ac6a7e001cec9326f23433aeaa1ad525aed56a066d9cfc1a4", func := "loop.example/sharedinference/laws.FnAddRing", spec := "fnAddRing", apart := false }
def FnAddRingSaid : Prop := fnAddRingRow.holds Try.pinned (OpenSpec.ofChange fnAddRingSpec)

/-- ITS FALSE NEIGHBOUR: 'it returns false'. Refute it at one input. -/
def fnAddRingWrong : ChangeSpec := { name := "fnAddRing", fn := fun _ => fun
  | [d] => { results := [.lit (.bool false)], args := [d] }
  | _ => none }
def FnAddRingWrongFalsely : Prop := fnAddRingRow.holds Try.pinned (OpenSpec.ofChange fnAddRingWrong)

/-- 'laws.FnNextRandom': WHATEVER THE INPUT: true; the input reads as it did. -/
def fnNextRandomSpec : ChangeSpec := { name := "fnNextRandom", fn := fun _ => fun
  | [d] => { results := [.lit (.bool true)], args := [d] }
  | _ => none }
def fnNextRandomRow : OpenClaim := { program := "ytcgonoebkaloeaa", sum := "acfb30633966fb7ac6a7e001cec9326f23433aeaa1ad525aed56a066d9cfc1a4", func := "loop.example/sharedinference/laws.FnNextRandom", spec := "fnNextRandom", apart := false }
def FnNextRandomSaid : Prop := fnNextRandomRow.holds Try.pinned (OpenSpec.ofChange fnNextRandomSpec)

/-- ITS FALSE NEIGHBOUR: 'it returns false'. Refute it at one input. -/
def fnNextRandomWrong : ChangeSpec := { name := "fnNextRandom", fn := fun _ => fun
  | [d] => { results := [.lit (.bool false)], args := [d] }
  | _ => none }
def FnNextRandomWrongFalsely : Prop := fnNextRandomRow.holds Try.pinned (OpenSpec.ofChange fnNextRandomWrong)

/-- 'laws.FnMulRing': WHATEVER THE INPUT: true; the input reads as it did. -/
def fnMulRingSpec : ChangeSpec := { name := "fnMulRing", fn := fun _ => fun
  | [d] => { results := [.lit (.bool true)], args := [d] }
  | _ => none }
def fnMulRingRow : OpenClaim := { program := "ytcgonoebkaloeaa", sum := "acfb30633966fb7ac6a7e001cec9326f23433aeaa1ad525aed56a066d9cfc1a4", func := "loop.example/sharedinference/laws.FnMulRing", spec := "fnMulRing", apart := false }
def FnMulRingSaid : Prop := fnMulRingRow.holds Try.pinned (OpenSpec.ofChange fnMulRingSpec)

/-- ITS FALSE NEIGHBOUR: 'it returns false'. Refute it at one input. -/
def fnMulRingWrong : ChangeSpec := { name := "fnMulRing", fn := fun _ => fun
  | [d] => { results := [.lit (.bool false)], args := [d] }
  | _ => none }
def FnMulRingWrongFalsely : Prop := fnMulRingRow.holds Try.pinned (OpenSpec.ofChange fnMulRingWrong)

/-- 'laws.FnSubRing': WHATEVER THE INPUT: true; the input reads as it did. -/
def fnSubRingSpec : ChangeSpec := { name := "fnSubRing", fn := fun _ => fun
  | [d] => { results := [.lit (.bool true)], args := [d] }
  | _ => none }
def fnSubRingRow : OpenClaim := { program := "ytcgonoebkaloeaa", sum := "acfb30633966fb7ac6a7e001cec9326f23433aeaa1ad525aed56a066d9cfc1a4", func := "loop.example/sharedinference/laws.FnSubRing", spec := "fnSubRing", apart := false }
def FnSubRingSaid : Prop := fnSubRingRow.holds Try.pinned (OpenSpec.ofChange fnSubRingSpec)

/-- ITS FALSE NEIGHBOUR: 'it returns false'. Refute it at one input. -/
def fnSubRingWrong : ChangeSpec := { name := "fnSubRing", fn := fun _ => fun
  | [d] => { results := [.lit (.bool false)], args := [d] }
  | _ => none }
def FnSubRingWrongFalsely : Prop := fnSubRingRow.holds Try.pinned (OpenSpec.ofChange fnSubRingWrong)

/-- 'laws.FnCutRing': WHATEVER THE INPUT: true; the input reads as it did. -/
def fnCutRingSpec : ChangeSpec := { name := "fnCutRing", fn := fun _ => fun
  | [d] => { results := [.lit (.bool true)], args := [d] }
  | _ => none }
def fnCutRingRow : OpenClaim := { program := "ytcgonoebkaloeaa", sum := "acfb30633966fb7ac6a7e001cec9326f23433aeaa1ad525aed56a066d9cfc1a4", func := "loop.example/sharedinference/laws.FnCutRing", spec := "fnCutRing", apart := false }
def FnCutRingSaid : Prop := fnCutRingRow.holds Try.pinned (OpenSpec.ofChange fnCutRingSpec)

/-- ITS FALSE NEIGHBOUR: 'it returns false'. Refute it at one input. -/
def fnCutRingWrong : ChangeSpec := { name := "fnCutRing", fn := fun _ => fun
  | [d] => { results := [.lit (.bool false)], args := [d] }
  | _ => none }
def FnCutRingWrongFalsely : Prop := fnCutRingRow.holds Try.pinned (OpenSpec.ofChange fnCutRingWrong)

/-- 'laws.FnMulFixed': WHATEVER THE INPUT: true; the input reads as it did. -/
def fnMulFixedSpec : ChangeSpec := { name := "fnMulFixed", fn := fun _ => fun
  | [d] => { results := [.lit (.bool true)], args := [d] }
  | _ => none }
def fnMulFixedRow : OpenClaim := { program := "ytcgonoebkaloeaa", sum := "acfb30633966fb7ac6a7e001cec9326f23433aeaa1ad525aed56a066d9cfc1a4", func := "loop.example/sharedinference/laws.FnMulFixed", spec := "fnMulFixed", apart := false }
def FnMulFixedSaid : Prop := fnMulFixedRow.holds Try.pinned (OpenSpec.ofChange fnMulFixedSpec)

/-- ITS FALSE NEIGHBOUR: 'it returns false'. Refute it at one input. -/
def fnMulFixedWrong : ChangeSpec := { name := "fnMulFixed", fn := fun _ => fun
  | [d] => { results := [.lit (.bool false)], args := [d] }
  | _ => none }
def FnMulFixedWrongFalsely : Prop := fnMulFixedRow.holds Try.pinned (OpenSpec.ofChange fnMulFixedWrong)

/- THE SECOND FORM. 'bulk': how many values and letters a reading holds, each counted each time it is reached (what is shared counts as often as it is met; a slice's spare places count too). A statement '..UptoSaid' is the law's where the arguments, and the package variables that the reading takes, are together of bulk at most 1048576: NARROWER than '..Said'. Prove '..Said' where nothing that the law and all that it calls make is longer than what came in: it says more and counts as full. Else prove '..UptoSaid'. A law counts once. -/
mutual
def uptoBulk {H : Type} : DataW H → Nat
  | .lit (.string bytes) => bytes.length + 1
  | .lit _ => 1
  | .nil => 1
  | .ptr d => uptoBulk d + 1
  | .slice elems spare => uptoBulkAll elems + uptoBulkAll spare + 1
  | .agg parts => uptoBulkAll parts + 1
  | .iface _ d => uptoBulk d + 1
  | .map entries => uptoBulkEntries entries + 1
  | .held _ => 1
def uptoBulkAll {H : Type} : List (DataW H) → Nat
  | [] => 0
  | d :: r => uptoBulk d + uptoBulkAll r
def uptoBulkEntries {H : Type} : List (Lit × DataW H) → Nat
  | [] => 0
  | x :: r => uptoBulkEntry x + uptoBulkEntries r
def uptoBulkEntry {H : Type} : Lit × DataW H → Nat
  | (.string bytes, d) => bytes.length + uptoBulk d + 1
  | (_, d) => uptoBulk d + 1
 end
def uptoSmall : (H : Type) → List (DataW H) → Bool := fun _ ds => decide (uptoBulkAll ds ≤ 1048576)
def OpenSpec.upto (s : _root_.Go.ChangeSpec) : _root_.Go.OpenSpec := { _root_.Go.OpenSpec.ofChange s with cond := some uptoSmall }

/-- 'laws.FnExactMulFixed', WHERE WHAT IT READS IS OF BULK AT MOST 1048576: true; the input reads as it did. -/
def fnExactMulFixedUptoRow : OpenClaim := { program := "ytcgonoebkaloeaa", sum := "acfb30633966fb7ac6a7e001cec9326f23433aeaa1ad525aed56a066d9cfc1a4", func := "loop.example/sharedinference/laws.FnExactMulFixed", spec := "fnExactMulFixed", apart := false, narrowed := true }
def FnExactMulFixedUptoSaid : Prop := fnExactMulFixedUptoRow.holds Try.pinned (OpenSpec.upto fnExactMulFixedSpec)

/-- 'laws.FnExactAddKnown', WHERE WHAT IT READS IS OF BULK AT MOST 1048576: true; the input reads as it did. -/
def fnExactAddKnownUptoRow : OpenClaim := { program := "ytcgonoebkaloeaa", sum := "acfb30633966fb7ac6a7e001cec9326f23433aeaa1ad525aed56a066d9cfc1a4", func := "loop.example/sharedinference/laws.FnExactAddKnown", spec := "fnExactAddKnown", unfollowed := true, recurses := true, apart := false, narrowed := true }
def FnExactAddKnownUptoSaid : Prop := fnExactAddKnownUptoRow.holds Try.pinned (OpenSpec.upto fnExactAddKnownSpec)

/-- 'laws.FnRingOf', WHERE WHAT IT READS IS OF BULK AT MOST 1048576: true; the input reads as it did. -/
def fnRingOfUptoRow : OpenClaim := { program := "ytcgonoebkaloeaa", sum := "acfb30633966fb7ac6a7e001cec9326f23433aeaa1ad525aed56a066d9cfc1a4", func := "loop.example/sharedinference/laws.FnRingOf", spec := "fnRingOf", apart := false, narrowed := true }
def FnRingOfUptoSaid : Prop := fnRingOfUptoRow.holds Try.pinned (OpenSpec.upto fnRingOfSpec)

/-- 'laws.FnRingValid', WHERE WHAT IT READS IS OF BULK AT MOST 1048576: true; the input reads as it did. -/
def fnRingValidUptoRow : OpenClaim := { program := "ytcgonoebkaloeaa", sum := "acfb30633966fb7ac6a7e001cec9326f23433aeaa1ad525aed56a066d9cfc1a4", func := "loop.example/sharedinference/laws.FnRingValid", spec := "fnRingValid", apart := false, narrowed := true }
def FnRingValidUptoSaid : Prop := fnRingValidUptoRow.holds Try.pinned (OpenSpec.upto fnRingValidSpec)

/-- 'laws.FnSharedValid', WHERE WHAT IT READS IS OF BULK AT MOST 1048576: true; the input reads as it did. -/
def fnSharedValidUptoRow : OpenClaim := { program := "ytcgonoebkaloeaa", sum := "acfb30633966fb7ac6a7e001cec9326f23433aeaa1ad525aed56a066d9cfc1a4", func := "loop.example/sharedinference/laws.FnSharedValid", spec := "fnSharedValid", apart := false, narrowed := true }
def FnSharedValidUptoSaid : Prop := fnSharedValidUptoRow.holds Try.pinned (OpenSpec.upto fnSharedValidSpec)

/-- 'laws.FnSignedOf', WHERE WHAT IT READS IS OF BULK AT MOST 1048576: true; the input reads as it did. -/
def fnSignedOfUptoRow : OpenClaim := { program := "ytcgonoebkaloeaa", sum := "acfb30633966fb7ac6a7e001cec9326f23433aeaa1ad525aed56a066d9cfc1a4", func := "loop.example/sharedinference/laws.FnSignedOf", spec := "fnSignedOf", apart := false, narrowed := true }
def FnSignedOfUptoSaid : Prop := fnSignedOfUptoRow.holds Try.pinned (OpenSpec.upto fnSignedOfSpec)

/-- 'laws.FnAddRing', WHERE WHAT IT READS IS OF BULK AT MOST 1048576: true; the input reads as it did. -/
def fnAddRingUptoRow : OpenClaim := { program := "ytcgonoebkaloeaa", sum := "acfb30633966fb7ac6a7e001cec9326f23433aeaa1ad525aed56a066d9cfc1a4", func := "loop.example/sharedinference/laws.FnAddRing", spec := "fnAddRing", apart := false, narrowed := true }
def FnAddRingUptoSaid : Prop := fnAddRingUptoRow.holds Try.pinned (OpenSpec.upto fnAddRingSpec)

/-- 'laws.FnNextRandom', WHERE WHAT IT READS IS OF BULK AT MOST 1048576: true; the input reads as it did. -/
def fnNextRandomUptoRow : OpenClaim := { program := "ytcgonoebkaloeaa", sum := "acfb30633966fb7ac6a7e001cec9326f23433aeaa1ad525aed56a066d9cfc1a4", func := "loop.example/sharedinference/laws.FnNextRandom", spec := "fnNextRandom", apart := false, narrowed := true }
def FnNextRandomUptoSaid : Prop := fnNextRandomUptoRow.holds Try.pinned (OpenSpec.upto fnNextRandomSpec)

/-- 'laws.FnMulRing', WHERE WHAT IT READS IS OF BULK AT MOST 1048576: true; the input reads as it did. -/
def fnMulRingUptoRow : OpenClaim := { program := "ytcgonoebkaloeaa", sum := "acfb30633966fb7ac6a7e001cec9326f23433aeaa1ad525aed56a066d9cfc1a4", func := "loop.example/sharedinference/laws.FnMulRing", spec := "fnMulRing", apart := false, narrowed := true }
def FnMulRingUptoSaid : Prop := fnMulRingUptoRow.holds Try.pinned (OpenSpec.upto fnMulRingSpec)

/-- 'laws.FnSubRing', WHERE WHAT IT READS IS OF BULK AT MOST 1048576: true; the input reads as it did. -/
def fnSubRingUptoRow : OpenClaim := { program := "ytcgonoebkaloeaa", sum := "acfb30633966fb7ac6a7e001cec9326f23433aeaa1ad525aed56a066d9cfc1a4", func := "loop.example/sharedinference/laws.FnSubRing", spec := "fnSubRing", apart := false, narrowed := true }
def FnSubRingUptoSaid : Prop := fnSubRingUptoRow.holds Try.pinned (OpenSpec.upto fnSubRingSpec)

/-- 'laws.FnCutRing', WHERE WHAT IT READS IS OF BULK AT MOST 1048576: true; the input reads as it did. -/
def fnCutRingUptoRow : OpenClaim := { program := "ytcgonoebkaloeaa", sum := "acfb30633966fb7ac6a7e001cec9326f23433aeaa1ad525aed56a066d9cfc1a4", func := "loop.example/sharedinference/laws.FnCutRing", spec := "fnCutRing", apart := false, narrowed := true }
def FnCutRingUptoSaid : Prop := fnCutRingUptoRow.holds Try.pinned (OpenSpec.upto fnCutRingSpec)

/-- 'laws.FnMulFixed', WHERE WHAT IT READS IS OF BULK AT MOST 1048576: true; the input reads as it did. -/
def fnMulFixedUptoRow : OpenClaim := { program := "ytcgonoebkaloeaa", sum := "acfb30633966fb7ac6a7e001cec9326f23433aeaa1ad525aed56a066d9cfc1a4", func := "loop.example/sharedinference/laws.FnMulFixed", spec := "fnMulFixed", apart := false, narrowed := true }
def FnMulFixedUptoSaid : Prop := fnMulFixedUptoRow.holds Try.pinned (OpenSpec.upto fnMulFixedSpec)

end Rows
end Go.Proofs.Ytcgonoebkaloeaa
