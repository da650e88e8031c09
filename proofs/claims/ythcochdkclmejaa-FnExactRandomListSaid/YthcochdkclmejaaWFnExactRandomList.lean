/- The law FnExactRandomList returns true for all arguments: the program's RandomList and the reference's return the same, in memory of its own. Conditions: none. The walk. -/
import Derived.Test.YthcochdkclmejaaRListC
import Derived.WalkKit
import Derived.WalkLawsBesides
import Derived.WalkSpells
import Derived.Deep.RegionHeld3
namespace Go.Proofs.Ythcochdkclmejaa.fnExactRandomList
open Go Go.RowKit
set_option linter.unusedVariables false

theorem walk (a0 : Int) (a1 : Int) (w : World) (w0 : (Lit.int .i64 a0).wf = true) (w1 : (Lit.int .i64 a1).wf = true) :
    Calls Try.prog 8 #[.int .i64 a0, .int .i64 a1] w fun e w' => e = .returned (.bool true) ∧ Below w.heap.size w w' := by
  have hlen := rL_len a0 a1
  have C1 := fun u => randomList a0 a1 u
  have C2 := fun u => randomList_s a0 a1 u
  generalize rL a0 a1 = l at *
  generalize rZ a0 a1 = z at *
  replace C1 := Lib.hid C1
  replace C2 := Lib.hid C2
  have hne : (z != z) = false := by simp
  have kq : ¬ (1 : Int) + (l.length : Int) < 0 := by omega
  have kn : ((1 : Int) + (l.length : Int) != 1 + (l.length : Int)) = false := by simp
  go_enter Try.func8, Try.ntmps8
  go_wp2_with fail
  refine (C2.out _).mono ?_
  rintro e w1 ⟨aW, capW, rfl, oW, hg⟩
  have m1 := hg.size
  have G0 := hg
  have hW : ∀ q, (Value.slice aW l.length capW).ownBlock = some q → q < w1.heap.size := fun q e => (oW.lt q e).2
  clear hg
  go_wp2_with fail
  refine (C1.out _).mono ?_
  rintro e w2 ⟨aG, capG, rfl, oG, hg⟩
  have hG : ∀ q, (Value.slice aG l.length capG).ownBlock = some q → w1.heap.size ≤ q := fun q e => (oG.lt q e).1
  replace oW := own_kept oW hg
  replace G0 := gbt G0 hg
  clear hg
  go_wp2_with fail
  refine (eqIntS _ _ l _ (Sees.of_own oG) (Sees.of_own oW)).mono ?_
  rintro e w3 ⟨rfl, hg⟩
  replace oW := own_kept oW hg
  replace oG := own_kept oG hg
  replace G0 := gbt G0 hg
  clear hg
  have HWh := Lib.hid hW
  have HGh := Lib.hid hG
  clear hW hG
  go_wp2_with fail
  refine (markIntS _ l.length _ _ 1 _ oG (by omega) (by decide)).mono ?_
  rintro e w4 ⟨rfl, oG', hg⟩
  replace oW := oW.kept hg (by
    cases hv : (Value.slice aW l.length capW).ownBlock with
    | none => exact .inl rfl
    | some q => right; intro e; have h1 := HWh.out q hv; have h2 := HGh.out q e.symm; omega)
  replace G0 : w.grownBy w4 none := ⟨hg.os.trans G0.os, hg.tape.trans G0.tape, hg.output.trans G0.output, Nat.le_trans G0.size hg.size, fun k hk hne => (hg.block k (Nat.lt_of_lt_of_le hk G0.size) (fun e => by have := HGh.out k e.symm; omega)).trans (G0.block k hk hne)⟩
  clear hg oG
  go_wp2_with fail
  refine (heldIntS l.length _ 1 _ (Sees.of_own oG') (by omega) (by decide)).mono ?_
  rintro e w' ⟨rfl, rfl⟩
  go_wp2_with fail
  refine (C1.out _).mono ?_
  rintro e w5 ⟨aH, capH, rfl, oH, hg⟩
  replace oW := own_kept oW hg
  replace oG' := own_kept oG' hg
  replace G0 := gbt G0 hg
  clear hg
  go_wp2_with fail
  refine (eqIntS _ _ l _ (Sees.of_own oH) (Sees.of_own oW)).mono ?_
  rintro e w6 ⟨rfl, hg⟩
  replace oG' := own_kept oG' hg
  replace G0 := gbt G0 hg
  clear hg oH oW
  go_wp2_with fail
  refine (heldIntS l.length _ 1 _ (Sees.of_own oG') (by omega) (by decide)).mono ?_
  rintro e w' ⟨rfl, rfl⟩
  go_wp2_with fail
  go_ret
  exact ⟨rfl, gb_below G0⟩
end Go.Proofs.Ythcochdkclmejaa.fnExactRandomList
