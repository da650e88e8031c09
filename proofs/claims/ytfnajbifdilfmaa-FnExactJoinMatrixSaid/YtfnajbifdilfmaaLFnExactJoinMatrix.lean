/- The law FnExactJoinMatrix returns true for every shared matrix: the program's JoinMatrix and the reference's return the same, in memory of its own, and the argument stays as it was. Conditions: none. -/
import Derived.Test.YtfnajbifdilfmaaRows
import Derived.Test.YtfnajbifdilfmaaWFnExactJoinMatrix
import Derived.WalkKit
import Derived.ProofKit
import Derived.OpenShut
import Derived.WalkLawsBesides
import Derived.WalkSpells
import Derived.Lib.SmallJoins
import Derived.Deep.Strs
import Derived.ShutString
import Derived.ChangeOld
import Derived.Below
namespace Go.Proofs.Ytfnajbifdilfmaa.fnExactJoinMatrix
open Go.ChangeShapes Go.WideShapes Go.ChangeAt Go.RowKit Go.Joins
set_option linter.unusedVariables false

theorem own : ownKnob Try.prog.godebug = none := by kernel_rfl
theorem laidOut : laidOutB Try.prog = true := by kernel_rfl
theorem cellsMatrix : Try.prog.cellsOf 24 = 3 := by kernel_rfl
theorem cellsSharedM : Try.prog.cellsOf 45 = 6 := by kernel_rfl
theorem array6 {α : Type} {cs : Array α} (h : cs.size = 6) : ∃ c0 c1 c2 c3 c4 c5, cs = #[c0, c1, c2, c3, c4, c5] := by
  obtain ⟨l⟩ := cs
  match l, h with
  | [c0, c1, c2, c3, c4, c5], _ => exact ⟨c0, c1, c2, c3, c4, c5, rfl⟩
theorem open_m {H : Type} {enc : TypeId × Value → H} {W : World} {n : Nat} {x0 x1 x2 : Value} {y : DataW H × List MemPlace} (h : DataW.trod enc Try.prog W 0 (fun _ => true) true n 24 [x0, x1, x2] = some y) :
    ∃ (r c : Int) (a : Option Addr) (len cap : Nat) (z : List Int), x0 = .int .i64 r ∧ x1 = .int .i64 c ∧ x2 = .slice a len cap ∧ IsRow .i64 W a len cap z := by
  obtain ⟨y0, y1, y2, m, _, _, h0, h1, h2⟩ := Go.Deep.trod_struct3 Try.underlying24 h
  have k0 : Try.prog.cellsOf 3 = 1 := by kernel_rfl
  have k1 : Try.prog.cellsOf 22 = 1 := by kernel_rfl
  simp [k0, k1] at h0 h1 h2
  obtain ⟨r, er, rfl, wr⟩ := DataW.trod_int Try.underlying3 h0
  obtain ⟨c, ec, rfl, wc⟩ := DataW.trod_int Try.underlying3 h1
  obtain ⟨a, len, cap, es⟩ := slice_form Try.underlying22 h2
  simp at er ec es
  subst er ec es
  rcases open_ints Try.underlying22 Try.underlying3 (by kernel_rfl) h2 with ⟨hcs, _⟩ | ⟨x, l, c', zs, hcs, _, hl, hm, hz, _, hcell, hwz⟩
  · simp at hcs
    obtain ⟨rfl, rfl, rfl⟩ := hcs
    exact ⟨r, c, _, _, _, [], rfl, rfl, rfl, .inl ⟨rfl, rfl, rfl, rfl⟩⟩
  · simp at hcs
    obtain ⟨rfl, rfl, rfl⟩ := hcs
    exact ⟨r, c, _, _, _, zs, rfl, rfl, rfl, .inr ⟨_, rfl, hl, hm, by simpa using hz, hcell, hwz⟩⟩
theorem open_sm {H : Type} {enc : TypeId × Value → H} {W : World} {v : Value} {d : DataW H} {p : List MemPlace} {base : Nat} (hv : Value.okWide Try.prog W .any base 45 v) (h : DataW.Trod enc Try.prog W 0 (fun _ => true) true 45 v d p) :
    ∃ (r c : Int) (a : Option Addr) (len cap : Nat) (z : List Int) (s e : Int) (b : Option Addr) (lem caq : Nat) (y : List Int), v = .agg #[.int .i64 r, .int .i64 c, .slice a len cap, .int .i64 s, .int .i64 e, .slice b lem caq] ∧ IsRow .i64 W a len cap z ∧ IsRow .i64 W b lem caq y := by
  obtain ⟨cs, rfl, hsz⟩ := okWide_struct Try.underlying45 hv
  obtain ⟨x0, x1, x2, x3, x4, x5, rfl⟩ := array6 (hsz.trans cellsSharedM)
  obtain ⟨fuel, hf⟩ := h
  obtain ⟨y0, y1, n, _, _, h0, h1⟩ := trod_struct2 Try.underlying45 hf
  simp [Value.cells, cellsMatrix] at h0 h1
  obtain ⟨r, c, a, len, cap, z, rfl, rfl, rfl, w0⟩ := open_m h0
  obtain ⟨s, e, b, lem, caq, y, rfl, rfl, rfl, w1⟩ := open_m h1
  exact ⟨r, c, a, len, cap, z, s, e, b, lem, caq, y, rfl, w0, w1⟩


set_option maxRecDepth 100000 in
theorem lifted (os : Os) (started : os.Started) (H : Type) (enc : TypeId × Value → H) :
    ReturnsInHanded {} Try.checked os 10 .any (Rows.fnExactJoinMatrixSpec.pre6 enc Try.prog Try.f10 Rows.fnExactJoinMatrixRow.domain false) (Rows.fnExactJoinMatrixSpec.post enc Try.prog Try.f10 false true false false) := by
  refine returnsInHanded_of_change (C := Try.checked) own started (by kernel_rfl) Try.func10
    (ChangeSpec.witness6 (enc := enc) (C := Try.checked) false ⟨#[], #[.agg #[.int .i64 0, .int .i64 0, .slice none 0 0, .int .i64 0, .int .i64 0, .slice none 0 0]], []⟩ 8 (by kernel_rfl) (by kernel_rfl) (by kernel_rfl) (by kernel_rfl)) ?_
  intro W base args ds gs before hval0 hW hcnd _
  have hval : ∀ (j : Nat) t v, Try.f10.params[j]? = some t → args[j]? = some v → Value.okWide Try.prog W .any base t v := hval0
  have hW' := hW
  obtain ⟨p, q, hA0, hV, rfl, hfz, hnd⟩ := hW
  have hA : DataW.TrodAll enc Try.prog W 0 (fun _ => true) true Try.f10.params.toList args.toList ds p := hA0
  rw [Try.params10] at hA hval
  obtain ⟨v0, vs0, d0, ds0, p0, q0, hargs, rfl, rfl, h0, rst0⟩ := trodAll_cons hA
  obtain ⟨rfl, rfl, rfl⟩ := trodAll_nil rst0
  obtain rfl : args = #[v0] := by cases args; simp_all
  obtain ⟨rfl, rfl⟩ := trodVars_none hV
  have k0 := h0
  have lt0 : ∀ x ∈ p0, x.block < W.heap.size := by obtain ⟨m, hm⟩ := k0; exact DataW.trod_lt m _ _ _ hm
  obtain ⟨r0, c0, a0, len0, cap0, z0, s0, e0, b0, lem0, caq0, y0, rfl, w0, u0⟩ := open_sm (hval 0 45 v0 rfl rfl) h0
  clear hA0 hval0
  refine (walk r0 c0 a0 len0 cap0 z0 s0 e0 b0 lem0 caq0 y0 W w0 u0).mono fun e W' ⟨he, bel⟩ => ?_
  subst he
  exact ⟨_, rfl, _, _, _, [], _, [], hW', trodAll_mk1 (shut_bool Try.underlying4 _), (trodAll_cons_mk (Below.trod laidOut (by kernel_rfl) (of_decide_eq_true (by kernel_rfl)) k0 bel lt0) trodAll_mk0), rfl, bel.frame _, fun h => by cases h⟩

theorem over : Rows.fnExactJoinMatrixRow.holds Try.pinned (OpenSpec.ofChange Rows.fnExactJoinMatrixSpec) :=
  OpenClaim.holds_of_wide 10 Try.f10 rfl rfl rfl rfl rfl rfl rfl ⟨rfl, rfl, rfl, rfl, rfl⟩ rfl rfl rfl rfl rfl (by kernel_rfl) Try.func10 (by kernel_rfl)
    (of_decide_eq_true (by kernel_rfl)) (by unfold Func.isWrapper; first | (rw [if_pos (by decide +kernel)]; kernel_rfl) | (rw [if_neg (by decide +kernel)]; exact ⟨rfl, rfl⟩))
    (fun os started H enc _ => lifted os started H enc)

theorem proved : Rows.FnExactJoinMatrixSaid := over
end Go.Proofs.Ytfnajbifdilfmaa.fnExactJoinMatrix
