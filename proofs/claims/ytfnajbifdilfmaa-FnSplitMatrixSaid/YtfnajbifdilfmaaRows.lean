/-
  No cell of these rows narrows 'for every input' (looked for: loops, veiled, ifaces, maps, wideKeys, modest, calm, conditions, laid).
  DERIVED. THE GIVEN ROWS OF THIS SEAT. 11 by the template 'for every input the law returns true; each argument reads behind the call as it read before'; 0 by the template 'total and deterministic' (their statements: YtfnajbifdilfmaaTotals.lean).
  GIVEN WITH THE SEED: the statements are not yours to turn. If you find one false, say at which input.
  Laid BY PROGRAM, IN A SANDBOX (cutbox-rows.mjs): the forced cells as the released guide's own fill.sh prints them over the translation 1e69f8537ac95a5c… (all of the seat's roots in one cut). By AI agents, Wed Nov 11 2026. No macro, syntax, notation, axiom, sorry.
-/
import Derived.Test.YtfnajbifdilfmaaChecked
import GoSem.Claim
import GoSem.ClaimJoined
import GoSem.ClaimMapViews
import Derived.JoinedTies
import Derived.KernelRfl
namespace Go.Proofs.Ytfnajbifdilfmaa
/- THE CELL 'sum', in the pinned program and in every row, IS THE sha256 OF THE DUMP (.gsa) THAT YtfnajbifdilfmaaProg.lean LOADS. Nothing in Lean hashes anything: it is a label: what it is worth is what the hold of that sum in a sandbox is worth. -/
noncomputable def Try.pinned : Pinned := { name := "ytfnajbifdilfmaa", sum := "1e69f8537ac95a5c075f2e6a260bacd7acb6f602fba0135f580342c101347094", checked := Try.checked }
namespace Rows
def none {H : Type} : Left H := { results := [], args := [] }

/-- 'laws.FnExactMulMatrices': WHATEVER THE INPUT: true; the input reads as it did. -/
def fnExactMulMatricesSpec : ChangeSpec := { name := "fnExactMulMatrices", fn := fun _ => fun
  | [d1, d2] => { results := [.lit (.bool true)], args := [d1, d2] }
  | _ => none }
def fnExactMulMatricesRow : OpenClaim := { program := "ytfnajbifdilfmaa", sum := "1e69f8537ac95a5c075f2e6a260bacd7acb6f602fba0135f580342c101347094", func := "loop.example/sharedinference/laws.FnExactMulMatrices", spec := "fnExactMulMatrices", apart := false }
def FnExactMulMatricesSaid : Prop := fnExactMulMatricesRow.holds Try.pinned (OpenSpec.ofChange fnExactMulMatricesSpec)

/-- ITS FALSE NEIGHBOUR: 'it returns false'. Refute it at one input. -/
def fnExactMulMatricesWrong : ChangeSpec := { name := "fnExactMulMatrices", fn := fun _ => fun
  | [d1, d2] => { results := [.lit (.bool false)], args := [d1, d2] }
  | _ => none }
def FnExactMulMatricesWrongFalsely : Prop := fnExactMulMatricesRow.holds Try.pinned (OpenSpec.ofChange fnExactMulMatricesWrong)

/-- 'laws.FnExactAddMatrices': WHATEVER THE INPUT: true; the input reads as it did. -/
def fnExactAddMatricesSpec : ChangeSpec := { name := "fnExactAddMatrices", fn := fun _ => fun
  | [d1, d2] => { results := [.lit (.bool true)], args := [d1, d2] }
  | _ => none }
def fnExactAddMatricesRow : OpenClaim := { program := "ytfnajbifdilfmaa", sum := "1e69f8537ac95a5c075f2e6a260bacd7acb6f602fba0135f580342c101347094", func := "loop.example/sharedinference/laws.FnExactAddMatrices", spec := "fnExactAddMatrices", unfollowed := true, recurses := true, apart := false }
def FnExactAddMatricesSaid : Prop := fnExactAddMatricesRow.holds Try.pinned (OpenSpec.ofChange fnExactAddMatricesSpec)

/-- ITS FALSE NEIGHBOUR: 'it returns false'. Refute it at one input. -/
def fnExactAddMatricesWrong : ChangeSpec := { name := "fnExactAddMatrices", fn := fun _ => fun
  | [d1, d2] => { results := [.lit (.bool false)], args := [d1, d2] }
  | _ => none }
def FnExactAddMatricesWrongFalsely : Prop := fnExactAddMatricesRow.holds Try.pinned (OpenSpec.ofChange fnExactAddMatricesWrong)

/-- 'laws.FnExactSubMatrices': WHATEVER THE INPUT: true; the input reads as it did. -/
def fnExactSubMatricesSpec : ChangeSpec := { name := "fnExactSubMatrices", fn := fun _ => fun
  | [d1, d2] => { results := [.lit (.bool true)], args := [d1, d2] }
  | _ => none }
def fnExactSubMatricesRow : OpenClaim := { program := "ytfnajbifdilfmaa", sum := "1e69f8537ac95a5c075f2e6a260bacd7acb6f602fba0135f580342c101347094", func := "loop.example/sharedinference/laws.FnExactSubMatrices", spec := "fnExactSubMatrices", unfollowed := true, recurses := true, apart := false }
def FnExactSubMatricesSaid : Prop := fnExactSubMatricesRow.holds Try.pinned (OpenSpec.ofChange fnExactSubMatricesSpec)

/-- ITS FALSE NEIGHBOUR: 'it returns false'. Refute it at one input. -/
def fnExactSubMatricesWrong : ChangeSpec := { name := "fnExactSubMatrices", fn := fun _ => fun
  | [d1, d2] => { results := [.lit (.bool false)], args := [d1, d2] }
  | _ => none }
def FnExactSubMatricesWrongFalsely : Prop := fnExactSubMatricesRow.holds Try.pinned (OpenSpec.ofChange fnExactSubMatricesWrong)

/-- 'laws.FnMulMatrices': WHATEVER THE INPUT: true; the input reads as it did. -/
def fnMulMatricesSpec : ChangeSpec := { name := "fnMulMatrices", fn := fun _ => fun
  | [d] => { results := [.lit (.bool true)], args := [d] }
  | _ => none }
def fnMulMatricesRow : OpenClaim := { program := "ytfnajbifdilfmaa", sum := "1e69f8537ac95a5c075f2e6a260bacd7acb6f602fba0135f580342c101347094", func := "loop.example/sharedinference/laws.FnMulMatrices", spec := "fnMulMatrices", apart := false }
def FnMulMatricesSaid : Prop := fnMulMatricesRow.holds Try.pinned (OpenSpec.ofChange fnMulMatricesSpec)

/-- ITS FALSE NEIGHBOUR: 'it returns false'. Refute it at one input. -/
def fnMulMatricesWrong : ChangeSpec := { name := "fnMulMatrices", fn := fun _ => fun
  | [d] => { results := [.lit (.bool false)], args := [d] }
  | _ => none }
def FnMulMatricesWrongFalsely : Prop := fnMulMatricesRow.holds Try.pinned (OpenSpec.ofChange fnMulMatricesWrong)

/-- 'laws.FnAddMatrices': WHATEVER THE INPUT: true; the input reads as it did. -/
def fnAddMatricesSpec : ChangeSpec := { name := "fnAddMatrices", fn := fun _ => fun
  | [d] => { results := [.lit (.bool true)], args := [d] }
  | _ => none }
def fnAddMatricesRow : OpenClaim := { program := "ytfnajbifdilfmaa", sum := "1e69f8537ac95a5c075f2e6a260bacd7acb6f602fba0135f580342c101347094", func := "loop.example/sharedinference/laws.FnAddMatrices", spec := "fnAddMatrices", unfollowed := true, recurses := true, apart := false }
def FnAddMatricesSaid : Prop := fnAddMatricesRow.holds Try.pinned (OpenSpec.ofChange fnAddMatricesSpec)

/-- ITS FALSE NEIGHBOUR: 'it returns false'. Refute it at one input. -/
def fnAddMatricesWrong : ChangeSpec := { name := "fnAddMatrices", fn := fun _ => fun
  | [d] => { results := [.lit (.bool false)], args := [d] }
  | _ => none }
def FnAddMatricesWrongFalsely : Prop := fnAddMatricesRow.holds Try.pinned (OpenSpec.ofChange fnAddMatricesWrong)

/-- 'laws.FnSubMatrices': WHATEVER THE INPUT: true; the input reads as it did. -/
def fnSubMatricesSpec : ChangeSpec := { name := "fnSubMatrices", fn := fun _ => fun
  | [d] => { results := [.lit (.bool true)], args := [d] }
  | _ => none }
def fnSubMatricesRow : OpenClaim := { program := "ytfnajbifdilfmaa", sum := "1e69f8537ac95a5c075f2e6a260bacd7acb6f602fba0135f580342c101347094", func := "loop.example/sharedinference/laws.FnSubMatrices", spec := "fnSubMatrices", unfollowed := true, recurses := true, apart := false }
def FnSubMatricesSaid : Prop := fnSubMatricesRow.holds Try.pinned (OpenSpec.ofChange fnSubMatricesSpec)

/-- ITS FALSE NEIGHBOUR: 'it returns false'. Refute it at one input. -/
def fnSubMatricesWrong : ChangeSpec := { name := "fnSubMatrices", fn := fun _ => fun
  | [d] => { results := [.lit (.bool false)], args := [d] }
  | _ => none }
def FnSubMatricesWrongFalsely : Prop := fnSubMatricesRow.holds Try.pinned (OpenSpec.ofChange fnSubMatricesWrong)

/-- 'laws.FnSharedMatrixValid': WHATEVER THE INPUT: true; the input reads as it did. -/
def fnSharedMatrixValidSpec : ChangeSpec := { name := "fnSharedMatrixValid", fn := fun _ => fun
  | [d] => { results := [.lit (.bool true)], args := [d] }
  | _ => none }
def fnSharedMatrixValidRow : OpenClaim := { program := "ytfnajbifdilfmaa", sum := "1e69f8537ac95a5c075f2e6a260bacd7acb6f602fba0135f580342c101347094", func := "loop.example/sharedinference/laws.FnSharedMatrixValid", spec := "fnSharedMatrixValid", unfollowed := true, recurses := true, apart := false }
def FnSharedMatrixValidSaid : Prop := fnSharedMatrixValidRow.holds Try.pinned (OpenSpec.ofChange fnSharedMatrixValidSpec)

/-- ITS FALSE NEIGHBOUR: 'it returns false'. Refute it at one input. -/
def fnSharedMatrixValidWrong : ChangeSpec := { name := "fnSharedMatrixValid", fn := fun _ => fun
  | [d] => { results := [.lit (.bool false)], args := [d] }
  | _ => none }
def FnSharedMatrixValidWrongFalsely : Prop := fnSharedMatrixValidRow.holds Try.pinned (OpenSpec.ofChange fnSharedMatrixValidWrong)

/-- 'laws.FnExactJoinMatrix': WHATEVER THE INPUT: true; the input reads as it did. -/
def fnExactJoinMatrixSpec : ChangeSpec := { name := "fnExactJoinMatrix", fn := fun _ => fun
  | [d] => { results := [.lit (.bool true)], args := [d] }
  | _ => none }
def fnExactJoinMatrixRow : OpenClaim := { program := "ytfnajbifdilfmaa", sum := "1e69f8537ac95a5c075f2e6a260bacd7acb6f602fba0135f580342c101347094", func := "loop.example/sharedinference/laws.FnExactJoinMatrix", spec := "fnExactJoinMatrix", unfollowed := true, recurses := true, apart := false }
def FnExactJoinMatrixSaid : Prop := fnExactJoinMatrixRow.holds Try.pinned (OpenSpec.ofChange fnExactJoinMatrixSpec)

/-- ITS FALSE NEIGHBOUR: 'it returns false'. Refute it at one input. -/
def fnExactJoinMatrixWrong : ChangeSpec := { name := "fnExactJoinMatrix", fn := fun _ => fun
  | [d] => { results := [.lit (.bool false)], args := [d] }
  | _ => none }
def FnExactJoinMatrixWrongFalsely : Prop := fnExactJoinMatrixRow.holds Try.pinned (OpenSpec.ofChange fnExactJoinMatrixWrong)

/-- 'laws.FnJoinMatrix': WHATEVER THE INPUT: true; the input reads as it did. -/
def fnJoinMatrixSpec : ChangeSpec := { name := "fnJoinMatrix", fn := fun _ => fun
  | [d] => { results := [.lit (.bool true)], args := [d] }
  | _ => none }
def fnJoinMatrixRow : OpenClaim := { program := "ytfnajbifdilfmaa", sum := "1e69f8537ac95a5c075f2e6a260bacd7acb6f602fba0135f580342c101347094", func := "loop.example/sharedinference/laws.FnJoinMatrix", spec := "fnJoinMatrix", unfollowed := true, recurses := true, apart := false }
def FnJoinMatrixSaid : Prop := fnJoinMatrixRow.holds Try.pinned (OpenSpec.ofChange fnJoinMatrixSpec)

/-- ITS FALSE NEIGHBOUR: 'it returns false'. Refute it at one input. -/
def fnJoinMatrixWrong : ChangeSpec := { name := "fnJoinMatrix", fn := fun _ => fun
  | [d] => { results := [.lit (.bool false)], args := [d] }
  | _ => none }
def FnJoinMatrixWrongFalsely : Prop := fnJoinMatrixRow.holds Try.pinned (OpenSpec.ofChange fnJoinMatrixWrong)

/-- 'laws.FnSplitMatrix': WHATEVER THE INPUT: true; the input reads as it did. -/
def fnSplitMatrixSpec : ChangeSpec := { name := "fnSplitMatrix", fn := fun _ => fun
  | [d] => { results := [.lit (.bool true)], args := [d] }
  | _ => none }
def fnSplitMatrixRow : OpenClaim := { program := "ytfnajbifdilfmaa", sum := "1e69f8537ac95a5c075f2e6a260bacd7acb6f602fba0135f580342c101347094", func := "loop.example/sharedinference/laws.FnSplitMatrix", spec := "fnSplitMatrix", unfollowed := true, recurses := true, apart := false }
def FnSplitMatrixSaid : Prop := fnSplitMatrixRow.holds Try.pinned (OpenSpec.ofChange fnSplitMatrixSpec)

/-- ITS FALSE NEIGHBOUR: 'it returns false'. Refute it at one input. -/
def fnSplitMatrixWrong : ChangeSpec := { name := "fnSplitMatrix", fn := fun _ => fun
  | [d] => { results := [.lit (.bool false)], args := [d] }
  | _ => none }
def FnSplitMatrixWrongFalsely : Prop := fnSplitMatrixRow.holds Try.pinned (OpenSpec.ofChange fnSplitMatrixWrong)

/-- 'laws.FnExactSplitMatrix': WHATEVER THE INPUT: true; the input reads as it did. -/
def fnExactSplitMatrixSpec : ChangeSpec := { name := "fnExactSplitMatrix", fn := fun _ => fun
  | [d1, d2] => { results := [.lit (.bool true)], args := [d1, d2] }
  | _ => none }
def fnExactSplitMatrixRow : OpenClaim := { program := "ytfnajbifdilfmaa", sum := "1e69f8537ac95a5c075f2e6a260bacd7acb6f602fba0135f580342c101347094", func := "loop.example/sharedinference/laws.FnExactSplitMatrix", spec := "fnExactSplitMatrix", unfollowed := true, recurses := true, apart := false }
def FnExactSplitMatrixSaid : Prop := fnExactSplitMatrixRow.holds Try.pinned (OpenSpec.ofChange fnExactSplitMatrixSpec)

/-- ITS FALSE NEIGHBOUR: 'it returns false'. Refute it at one input. -/
def fnExactSplitMatrixWrong : ChangeSpec := { name := "fnExactSplitMatrix", fn := fun _ => fun
  | [d1, d2] => { results := [.lit (.bool false)], args := [d1, d2] }
  | _ => none }
def FnExactSplitMatrixWrongFalsely : Prop := fnExactSplitMatrixRow.holds Try.pinned (OpenSpec.ofChange fnExactSplitMatrixWrong)

/- THE SECOND FORM. 'bulk': how many values and letters a reading holds, each counted each time it is reached (what is shared counts as often as it is met; a slice's spare places count too). A statement '..UptoSaid' is the law's where the arguments, and the package variables that the reading takes, are together of bulk at most 1048576: NARROWER than '..Said'. Prove '..Said' where nothing that the law and all that it calls make is longer than what came in: it says more and counts as full. Else prove '..UptoSaid'. A law counts once. -/
mutual
def uptoBulk {H : Type} : DataW H → Nat
  | .lit (.string bytes) => bytes.length + 1
  | .lit _ => 1
  | .nil => 1
  | .ptr d => uptoBulk d + 1
  | .slice elems spare => uptoBulkAll elems + uptoBulkAll spare + 1
  | .agg parts => uptoBulkAll parts + 1
  | .iface _ d => uptoBulk d + 1
  | .map entries => uptoBulkEntries entries + 1
  | .held _ => 1
def uptoBulkAll {H : Type} : List (DataW H) → Nat
  | [] => 0
  | d :: r => uptoBulk d + uptoBulkAll r
def uptoBulkEntries {H : Type} : List (Lit × DataW H) → Nat
  | [] => 0
  | x :: r => uptoBulkEntry x + uptoBulkEntries r
def uptoBulkEntry {H : Type} : Lit × DataW H → Nat
  | (.string bytes, d) => bytes.length + uptoBulk d + 1
  | (_, d) => uptoBulk d + 1
 end
def uptoSmall : (H : Type) → List (DataW H) → Bool := fun _ ds => decide (uptoBulkAll ds ≤ 1048576)
def OpenSpec.upto (s : _root_.Go.ChangeSpec) : _root_.Go.OpenSpec := { _root_.Go.OpenSpec.ofChange s with cond := some uptoSmall }

/-- 'laws.FnExactMulMatrices', WHERE WHAT IT READS IS OF BULK AT MOST 1048576: true; the input reads as it did. -/
def fnExactMulMatricesUptoRow : OpenClaim := { program := "ytfnajbifdilfmaa", sum := "1e69f8537ac95a5c075f2e6a260bacd7acb6f602fba0135f580342c101347094", func := "loop.example/sharedinference/laws.FnExactMulMatrices", spec := "fnExactMulMatrices", apart := false, narrowed := true }
def FnExactMulMatricesUptoSaid : Prop := fnExactMulMatricesUptoRow.holds Try.pinned (OpenSpec.upto fnExactMulMatricesSpec)

/-- 'laws.FnExactAddMatrices', WHERE WHAT IT READS IS OF BULK AT MOST 1048576: true; the input reads as it did. -/
def fnExactAddMatricesUptoRow : OpenClaim := { program := "ytfnajbifdilfmaa", sum := "1e69f8537ac95a5c075f2e6a260bacd7acb6f602fba0135f580342c101347094", func := "loop.example/sharedinference/laws.FnExactAddMatrices", spec := "fnExactAddMatrices", unfollowed := true, recurses := true, apart := false, narrowed := true }
def FnExactAddMatricesUptoSaid : Prop := fnExactAddMatricesUptoRow.holds Try.pinned (OpenSpec.upto fnExactAddMatricesSpec)

/-- 'laws.FnExactSubMatrices', WHERE WHAT IT READS IS OF BULK AT MOST 1048576: true; the input reads as it did. -/
def fnExactSubMatricesUptoRow : OpenClaim := { program := "ytfnajbifdilfmaa", sum := "1e69f8537ac95a5c075f2e6a260bacd7acb6f602fba0135f580342c101347094", func := "loop.example/sharedinference/laws.FnExactSubMatrices", spec := "fnExactSubMatrices", unfollowed := true, recurses := true, apart := false, narrowed := true }
def FnExactSubMatricesUptoSaid : Prop := fnExactSubMatricesUptoRow.holds Try.pinned (OpenSpec.upto fnExactSubMatricesSpec)

/-- 'laws.FnMulMatrices', WHERE WHAT IT READS IS OF BULK AT MOST 1048576: true; the input reads as it did. -/
def fnMulMatricesUptoRow : OpenClaim := { program := "ytfnajbifdilfmaa", sum := "1e69f8537ac95a5c075f2e6a260bacd7acb6f602fba0135f580342c101347094", func := "loop.example/sharedinference/laws.FnMulMatrices", spec := "fnMulMatrices", apart := false, narrowed := true }
def FnMulMatricesUptoSaid : Prop := fnMulMatricesUptoRow.holds Try.pinned (OpenSpec.upto fnMulMatricesSpec)

/-- 'laws.FnAddMatrices', WHERE WHAT IT READS IS OF BULK AT MOST 1048576: true; the input reads as it did. -/
def fnAddMatricesUptoRow : OpenClaim := { program := "ytfnajbifdilfmaa", sum := "1e69f8537ac95a5c075f2e6a260bacd7acb6f602fba0135f580342c101347094", func := "loop.example/sharedinference/laws.FnAddMatrices", spec := "fnAddMatrices", unfollowed := true, recurses := true, apart := false, narrowed := true }
def FnAddMatricesUptoSaid : Prop := fnAddMatricesUptoRow.holds Try.pinned (OpenSpec.upto fnAddMatricesSpec)

/-- 'laws.FnSubMatrices', WHERE WHAT IT READS IS OF BULK AT MOST 1048576: true; the input reads as it did. -/
def fnSubMatricesUptoRow : OpenClaim := { program := "ytfnajbifdilfmaa", sum := "1e69f8537ac95a5c075f2e6a260bacd7acb6f602fba0135f580342c101347094", func := "loop.example/sharedinference/laws.FnSubMatrices", spec := "fnSubMatrices", unfollowed := true, recurses := true, apart := false, narrowed := true }
def FnSubMatricesUptoSaid : Prop := fnSubMatricesUptoRow.holds Try.pinned (OpenSpec.upto fnSubMatricesSpec)

/-- 'laws.FnSharedMatrixValid', WHERE WHAT IT READS IS OF BULK AT MOST 1048576: true; the input reads as it did. -/
def fnSharedMatrixValidUptoRow : OpenClaim := { program := "ytfnajbifdilfmaa", sum := "1e69f8537ac95a5c075f2e6a260bacd7acb6f602fba0135f580342c101347094", func := "loop.example/sharedinference/laws.FnSharedMatrixValid", spec := "fnSharedMatrixValid", unfollowed := true, recurses := true, apart := false, narrowed := true }
def FnSharedMatrixValidUptoSaid : Prop := fnSharedMatrixValidUptoRow.holds Try.pinned (OpenSpec.upto fnSharedMatrixValidSpec)

/-- 'laws.FnExactJoinMatrix', WHERE WHAT IT READS IS OF BULK AT MOST 1048576: true; the input reads as it did. -/
def fnExactJoinMatrixUptoRow : OpenClaim := { program := "ytfnajbifdilfmaa", sum := "1e69f8537ac95a5c075f2e6a260bacd7acb6f602fba0135f580342c101347094", func := "loop.example/sharedinference/laws.FnExactJoinMatrix", spec := "fnExactJoinMatrix", unfollowed := true, recurses := true, apart := false, narrowed := true }
def FnExactJoinMatrixUptoSaid : Prop := fnExactJoinMatrixUptoRow.holds Try.pinned (OpenSpec.upto fnExactJoinMatrixSpec)

/-- 'laws.FnJoinMatrix', WHERE WHAT IT READS IS OF BULK AT MOST 1048576: true; the input reads as it did. -/
def fnJoinMatrixUptoRow : OpenClaim := { program := "ytfnajbifdilfmaa", sum := "1e69f8537ac95a5c075f2e6a260bacd7acb6f602fba0135f580342c101347094", func := "loop.example/sharedinference/laws.FnJoinMatrix", spec := "fnJoinMatrix", unfollowed := true, recurses := true, apart := false, narrowed := true }
def FnJoinMatrixUptoSaid : Prop := fnJoinMatrixUptoRow.holds Try.pinned (OpenSpec.upto fnJoinMatrixSpec)

/-- 'laws.FnSplitMatrix', WHERE WHAT IT READS IS OF BULK AT MOST 1048576: true; the input reads as it did. -/
def fnSplitMatrixUptoRow : OpenClaim := { program := "ytfnajbifdilfmaa", sum := "1e69f8537ac95a5c075f2e6a260bacd7acb6f602fba0135f580342c101347094", func := "loop.example/sharedinference/laws.FnSplitMatrix", spec := "fnSplitMatrix", unfollowed := true, recurses := true, apart := false, narrowed := true }
def FnSplitMatrixUptoSaid : Prop := fnSplitMatrixUptoRow.holds Try.pinned (OpenSpec.upto fnSplitMatrixSpec)

/-- 'laws.FnExactSplitMatrix', WHERE WHAT IT READS IS OF BULK AT MOST 1048576: true; the input reads as it did. -/
def fnExactSplitMatrixUptoRow : OpenClaim := { program := "ytfnajbifdilfmaa", sum := "1e69f8537ac95a5c075f2e6a260bacd7acb6f602fba0135f580342c101347094", func := "loop.example/sharedinference/laws.FnExactSplitMatrix", spec := "fnExactSplitMatrix", unfollowed := true, recurses := true, apart := false, narrowed := true }
def FnExactSplitMatrixUptoSaid : Prop := fnExactSplitMatrixUptoRow.holds Try.pinned (OpenSpec.upto fnExactSplitMatrixSpec)

end Rows
end Go.Proofs.Ytfnajbifdilfmaa
