/- The law FnExactMulMatrices returns true for every matrix: the program's MulMatrices and the reference's return the same, in memory of its own, and the arguments stay as they were. Conditions: none. -/
import Derived.Test.YtfnajbifdilfmaaRows
import Derived.Test.YtfnajbifdilfmaaWFnExactMulMatrices
import Derived.WalkKit
import Derived.ProofKit
import Derived.OpenShut
import Derived.WalkLawsBesides
import Derived.WalkSpells
import Derived.Lib.SmallJoins
import Derived.ShutString
import Derived.ChangeOld
import Derived.Below
namespace Go.Proofs.Ytfnajbifdilfmaa.fnExactMulMatrices
open Go.ChangeShapes Go.WideShapes Go.ChangeAt Go.RowKit Go.Joins
set_option linter.unusedVariables false

theorem own : ownKnob Try.prog.godebug = none := by kernel_rfl
theorem laidOut : laidOutB Try.prog = true := by kernel_rfl
theorem cellsMatrix : Try.prog.cellsOf 24 = 3 := by kernel_rfl


set_option maxHeartbeats 1600000 in
set_option maxRecDepth 100000 in
theorem lifted (os : Os) (started : os.Started) (H : Type) (enc : TypeId × Value → H) :
    ReturnsInHanded {} Try.checked os 3 .any (Rows.fnExactMulMatricesSpec.pre6 enc Try.prog Try.f3 Rows.fnExactMulMatricesRow.domain false) (Rows.fnExactMulMatricesSpec.post enc Try.prog Try.f3 false true false false) := by
  refine returnsInHanded_of_change (C := Try.checked) own started (by kernel_rfl) Try.func3
    (ChangeSpec.witness6 (enc := enc) (C := Try.checked) false ⟨#[], #[.agg #[.int .i64 0, .int .i64 0, .slice none 0 0], .agg #[.int .i64 0, .int .i64 0, .slice none 0 0]], []⟩ 8 (by kernel_rfl) (by kernel_rfl) (by kernel_rfl) (by kernel_rfl)) ?_
  intro W base args ds gs before hval0 hW hcnd _
  have hval : ∀ (j : Nat) t v, Try.f3.params[j]? = some t → args[j]? = some v → Value.okWide Try.prog W .any base t v := hval0
  have hW' := hW
  obtain ⟨p, q, hA0, hV, rfl, hfz, hnd⟩ := hW
  have hA : DataW.TrodAll enc Try.prog W 0 (fun _ => true) true Try.f3.params.toList args.toList ds p := hA0
  rw [Try.params3] at hA hval
  obtain ⟨v0, vs0, d0, ds0, p0, q0, hargs, rfl, rfl, h0, rst0⟩ := trodAll_cons hA
  obtain ⟨v1, vs1, d1, ds1, p1, q1, rfl, rfl, rfl, h1, rst1⟩ := trodAll_cons rst0
  obtain ⟨rfl, rfl, rfl⟩ := trodAll_nil rst1
  obtain rfl : args = #[v0, v1] := by cases args; simp_all
  obtain ⟨rfl, rfl⟩ := trodVars_none hV
  have k0 := h0
  have lt0 : ∀ x ∈ p0, x.block < W.heap.size := by obtain ⟨m, hm⟩ := k0; exact DataW.trod_lt m _ _ _ hm
  obtain ⟨x0, x0b, x0c, y0, y0b, y0c, m0, rfl, rfl, rfl, hy0, hz0, hs0⟩ := open_agg3 Try.underlying24 (by kernel_rfl) cellsMatrix (hval 0 24 v0 rfl rfl) h0
  obtain ⟨r0, er0, rfl, wr0⟩ := DataW.trod_int Try.underlying3 hy0
  obtain ⟨c0, ec0, rfl, wc0⟩ := DataW.trod_int Try.underlying3 hz0
  obtain ⟨a0, len0, cap0, es0⟩ := slice_form Try.underlying22 hs0
  simp at er0 ec0 es0
  subst er0 ec0 es0
  obtain ⟨z0, w0⟩ : ∃ zs, IsRow .i64 W a0 len0 cap0 zs := by
    rcases open_ints Try.underlying22 Try.underlying3 (by kernel_rfl) hs0 with ⟨hcs, _⟩ | ⟨x, l, c, zs, hcs, _, hl, hm, hz, _, hcell, hwz⟩
    · simp at hcs
      obtain ⟨rfl, rfl, rfl⟩ := hcs
      exact ⟨[], .inl ⟨rfl, rfl, rfl, rfl⟩⟩
    · simp at hcs
      obtain ⟨rfl, rfl, rfl⟩ := hcs
      exact ⟨zs, .inr ⟨_, rfl, hl, hm, by simpa using hz, hcell, hwz⟩⟩
  have k1 := h1
  have lt1 : ∀ x ∈ p1, x.block < W.heap.size := by obtain ⟨m, hm⟩ := k1; exact DataW.trod_lt m _ _ _ hm
  obtain ⟨x1, x1b, x1c, y1, y1b, y1c, m1, rfl, rfl, rfl, hy1, hz1, hs1⟩ := open_agg3 Try.underlying24 (by kernel_rfl) cellsMatrix (hval 1 24 v1 rfl rfl) h1
  obtain ⟨r1, er1, rfl, wr1⟩ := DataW.trod_int Try.underlying3 hy1
  obtain ⟨c1, ec1, rfl, wc1⟩ := DataW.trod_int Try.underlying3 hz1
  obtain ⟨a1, len1, cap1, es1⟩ := slice_form Try.underlying22 hs1
  simp at er1 ec1 es1
  subst er1 ec1 es1
  obtain ⟨z1, w1⟩ : ∃ zs, IsRow .i64 W a1 len1 cap1 zs := by
    rcases open_ints Try.underlying22 Try.underlying3 (by kernel_rfl) hs1 with ⟨hcs, _⟩ | ⟨x, l, c, zs, hcs, _, hl, hm, hz, _, hcell, hwz⟩
    · simp at hcs
      obtain ⟨rfl, rfl, rfl⟩ := hcs
      exact ⟨[], .inl ⟨rfl, rfl, rfl, rfl⟩⟩
    · simp at hcs
      obtain ⟨rfl, rfl, rfl⟩ := hcs
      exact ⟨zs, .inr ⟨_, rfl, hl, hm, by simpa using hz, hcell, hwz⟩⟩
  clear hA0 hval0
  refine (walk r0 c0 a0 len0 cap0 z0 r1 c1 a1 len1 cap1 z1 W wr0 wc0 w0 wr1 wc1 w1).mono fun e W' ⟨he, bel⟩ => ?_
  subst he
  exact ⟨_, rfl, _, _, _, [], _, [], hW', trodAll_mk1 (shut_bool Try.underlying4 _), (trodAll_cons_mk (Below.trod laidOut (by kernel_rfl) (of_decide_eq_true (by kernel_rfl)) k0 bel lt0) (trodAll_cons_mk (Below.trod laidOut (by kernel_rfl) (of_decide_eq_true (by kernel_rfl)) k1 bel lt1) trodAll_mk0)), rfl, bel.frame _, fun h => by cases h⟩

theorem over : Rows.fnExactMulMatricesRow.holds Try.pinned (OpenSpec.ofChange Rows.fnExactMulMatricesSpec) :=
  OpenClaim.holds_of_wide 3 Try.f3 rfl rfl rfl rfl rfl rfl rfl ⟨rfl, rfl, rfl, rfl, rfl⟩ rfl rfl rfl rfl rfl (by kernel_rfl) Try.func3 (by kernel_rfl)
    (of_decide_eq_true (by kernel_rfl)) (by unfold Func.isWrapper; first | (rw [if_pos (by decide +kernel)]; kernel_rfl) | (rw [if_neg (by decide +kernel)]; exact ⟨rfl, rfl⟩))
    (fun os started H enc _ => lifted os started H enc)

theorem proved : Rows.FnExactMulMatricesSaid := over
end Go.Proofs.Ytfnajbifdilfmaa.fnExactMulMatrices
