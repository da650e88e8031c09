/- The validity of matrices, with the answer known. -/
import Derived.Test.YthcochdkclmejaaMat
import Derived.Test.YthcochdkclmejaaPick
import Derived.Deep.RegionHeldLaw
namespace Go.Proofs.Ythcochdkclmejaa
open Go Go.RowKit
theorem matrixValid_at (q : Bool) (r c : Int) (v : Value) (xs : List Int) (w : World) (h : Sees w v xs) (hv : mv r c xs = q) : Calls Try.prog 26 #[.agg #[.int .i64 r, .int .i64 c, v]] w fun e w' => e = .returned (.bool q) ∧ w.grownBy w' none := by
  subst hv; exact matrixValid r c v xs w h
theorem matrixValid_s_at (q : Bool) (r c : Int) (v : Value) (xs : List Int) (w : World) (h : Sees w v xs) (hv : mv r c xs = q) : Calls Try.prog 24 #[.agg #[.int .i64 r, .int .i64 c, v]] w fun e w' => e = .returned (.bool q) ∧ w.grownBy w' none := by
  subst hv; exact matrixValid_s r c v xs w h
theorem mv_more {r c : Int} {xs : List Int} (x : Int) (h : mv r c xs = true) : mv r c (xs ++ [x]) = false := by
  obtain ⟨_, _, hl, _⟩ := mv_iff.1 h
  exact mv_l (by simp; omega)
theorem mv_zero : mv 0 0 [] = false := by simp [mv, sd]
theorem news_one {w : World} {b : Nat} {v : Value} (h : w.cell? ⟨b, 0, none⟩ = some v) : ∀ j u, [v][j]? = some u → w.cell? ((⟨b, 0, none⟩ : Addr).add j) = some u := by
  intro j u hu
  rcases Nat.eq_zero_or_pos j with rfl | hp
  · simp at hu
    subst hu
    simpa [Addr.add] using h
  · cases j with
    | zero => omega
    | succ j => simp at hu
theorem alloc_cell0 (W : World) (n : Nat) (v : Value) (T : TypeId) (e : W.heap.size = n) : (W.alloc (.cells #[v] T)).cell? ⟨n, 0, none⟩ = some v := by
  subst e; rw [World.cell?_alloc_at _ _ _ _ rfl]; rfl
theorem Three.new_at (W : World) (n : Nat) (x y z : Value) (T : TypeId) (e : W.heap.size = n) : Three (W.alloc (.cells #[x, y, z] T)) n x y z := by
  subst e; exact Three.new W x y z T
theorem made_row (W : World) (n : Nat) (e : W.heap.size = n) : (W.alloc (.cells #[] 3)).ownsRow n 3 1 (.slice (some ⟨n, 0, none⟩) 0 0) 0 [] := by
  rw [← e]; exact World.ownsRow_made W #[] 0 (Nat.le_refl _) (by decide) rfl
theorem far_row {g1 g2 nB H : Nat} (h : some g1 = some g2 ∨ g2 = H) (h1 : g1 ≠ nB) (hH : nB < H) : g2 ≠ nB := by
  rcases h with e | e
  · cases e; exact h1
  · omega
theorem sees_zero (w : World) : Sees w (.slice none 0 0) [] := ⟨none, 0, rfl, ⟨Nat.le_refl _, fun _ => rfl⟩, by decide, fun h => absurd rfl h⟩
theorem sees_set {w : World} {g o n cap B : Nat} {xs : List Int} (h : Sees w (.slice (some ⟨g, o, none⟩) n cap) xs) (hne : g ≠ B) (k : Nat) (v : Value) : Sees (w.setCell ⟨B, k, none⟩ v) (.slice (some ⟨g, o, none⟩) n cap) xs :=
  h.kept_row (gb_setCell w B k v) (Or.inr (by intro e; simp [Value.ownBlock] at e <;> omega))
end Go.Proofs.Ythcochdkclmejaa
