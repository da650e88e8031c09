/- The contract of DrawRandomList. Conditions: the code is a readable slice of bytes. -/
import Derived.Test.YthcochdkclmejaaRListC
import Derived.Test.YthcochdkclmejaaDraw
import Derived.Deep.RegionLaw
namespace Go.Proofs.Ythcochdkclmejaa
open Go Go.RowKit

/-- A block of integers. -/
def Lit7 (W : World) (B : Nat) : Prop := B < W.heap.size ∧ ∀ i : Nat, i < 7 → W.cell? ⟨B, i, none⟩ = some (.int .i64 (([0, 0, 0, 0, 1, 2, 3] : List Int).getD i 0))
def Lit4 (W : World) (B : Nat) (p : Int) : Prop := B < W.heap.size ∧ ∀ i : Nat, i < 4 → W.cell? ⟨B, i, none⟩ = some (.int .i64 (([p, 4096, 4097, -1] : List Int).getD i 0))
theorem Lit7.kept {W W' : World} {B b : Nat} (h : Lit7 W B) (hg : W.grownBy W' (some b)) (hne : B ≠ b) : Lit7 W' B := ⟨Nat.lt_of_lt_of_le h.1 hg.size, fun i hi => hg.cell (h.2 i hi) (by simpa using hne)⟩
theorem Lit4.kept {W W' : World} {B b : Nat} {p : Int} (h : Lit4 W B p) (hg : W.grownBy W' (some b)) (hne : B ≠ b) : Lit4 W' B p := ⟨Nat.lt_of_lt_of_le h.1 hg.size, fun i hi => hg.cell (h.2 i hi) (by simpa using hne)⟩
theorem Lit7.alloc {W : World} {B : Nat} (h : Lit7 W B) (o : Obj) : Lit7 (W.alloc o) B := ⟨by simpa using Nat.lt_succ_of_lt h.1, fun i hi => (World.cell?_alloc_past _ _ _ h.1).trans (h.2 i hi)⟩
theorem Lit4.alloc {W : World} {B : Nat} {p : Int} (h : Lit4 W B p) (o : Obj) : Lit4 (W.alloc o) B p := ⟨by simpa using Nat.lt_succ_of_lt h.1, fun i hi => (World.cell?_alloc_past _ _ _ h.1).trans (h.2 i hi)⟩
theorem Lit7.drew {W : World} {B : Nat} (h : Lit7 W B) : Lit7 W.drew B := h
theorem Lit4.drew {W : World} {B : Nat} {p : Int} (h : Lit4 W B p) : Lit4 W.drew B p := h
theorem Lit7.new (W : World) (B : Nat) (e : B = W.heap.size) : Lit7 (W.alloc (.cells #[.int .i64 0, .int .i64 0, .int .i64 0, .int .i64 0, .int .i64 1, .int .i64 2, .int .i64 3] 3)) B := by
  subst e
  refine ⟨by simp, fun i hi => ?_⟩
  rw [World.cell?_alloc_at _ _ _ _ rfl]
  rcases (by omega : i = 0 ∨ i = 1 ∨ i = 2 ∨ i = 3 ∨ i = 4 ∨ i = 5 ∨ i = 6) with rfl | rfl | rfl | rfl | rfl | rfl | rfl <;> rfl
theorem Lit4.new (W : World) (B : Nat) (p : Int) (e : B = W.heap.size) : Lit4 (W.alloc (.cells #[.int .i64 p, .int .i64 4096, .int .i64 4097, .int .i64 (-1)] 3)) B p := by
  subst e
  refine ⟨by simp, fun i hi => ?_⟩
  rw [World.cell?_alloc_at _ _ _ _ rfl]
  rcases (by omega : i = 0 ∨ i = 1 ∨ i = 2 ∨ i = 3) with rfl | rfl | rfl | rfl <;> rfl
theorem lit7_in (i : Nat) (hi : i < 7) : 0 ≤ ([0, 0, 0, 0, 1, 2, 3] : List Int).getD i 0 ∧ ([0, 0, 0, 0, 1, 2, 3] : List Int).getD i 0 ≤ 3 := by
  rcases (by omega : i = 0 ∨ i = 1 ∨ i = 2 ∨ i = 3 ∨ i = 4 ∨ i = 5 ∨ i = 6) with rfl | rfl | rfl | rfl | rfl | rfl | rfl <;> decide
theorem arr7 (i : Nat) (hi : i < 7) : (#[.int .i64 0, .int .i64 0, .int .i64 0, .int .i64 0, .int .i64 1, .int .i64 2, .int .i64 3] : Array Value)[i]? = some (.int .i64 (([0, 0, 0, 0, 1, 2, 3] : List Int).getD i 0)) := by
  rcases (by omega : i = 0 ∨ i = 1 ∨ i = 2 ∨ i = 3 ∨ i = 4 ∨ i = 5 ∨ i = 6) with rfl | rfl | rfl | rfl | rfl | rfl | rfl <;> rfl
theorem arr4 (p : Int) (i : Nat) (hi : i < 4) : (#[.int .i64 p, .int .i64 4096, .int .i64 4097, .int .i64 (-1)] : Array Value)[i]? = some (.int .i64 (([p, 4096, 4097, -1] : List Int).getD i 0)) := by
  rcases (by omega : i = 0 ∨ i = 1 ∨ i = 2 ∨ i = 3) with rfl | rfl | rfl | rfl <;> rfl
theorem at7 (i : Nat) (hi : i < 7) : ([.int .i64 0, .int .i64 0, .int .i64 0, .int .i64 0, .int .i64 1, .int .i64 2, .int .i64 3] : List Value)[i]'(by simpa using hi) = .int .i64 (([0, 0, 0, 0, 1, 2, 3] : List Int).getD i 0) := by
  rcases (by omega : i = 0 ∨ i = 1 ∨ i = 2 ∨ i = 3 ∨ i = 4 ∨ i = 5 ∨ i = 6) with rfl | rfl | rfl | rfl | rfl | rfl | rfl <;> rfl
theorem at4 (p : Int) (i : Nat) (hi : i < 4) : ([.int .i64 p, .int .i64 4096, .int .i64 4097, .int .i64 (-1)] : List Value)[i]'(by simpa using hi) = .int .i64 (([p, 4096, 4097, -1] : List Int).getD i 0) := by
  rcases (by omega : i = 0 ∨ i = 1 ∨ i = 2 ∨ i = 3) with rfl | rfl | rfl | rfl <;> rfl
set_option maxHeartbeats 3200000 in
theorem drawRandomList (a : Option Addr) (n cap : Nat) (z : List Int) (w : World) (h : IsRow .u8 w a n cap z) : Calls Try.prog 34 #[.slice a n cap] w fun e w' => ∃ s m : Int, e = .returned (.tuple #[.int .i64 s, .int .i64 m]) ∧ w.grownBy w' none := by
  go_enter Try.func34, Try.ntmps34
  go_wp2_with fail
  refine (l20Open a n cap z _ h).mono ?_
  rintro e w1 ⟨n', b, rfl, hr1, hg1⟩
  have hb := hr1.b_lt
  clear hg1
  go_wp2_with fail
  go_region_law (first
    | (go_simp; go_at_call 70; refine (l20Seed (a := a) (n := n') (cap := cap) (w0 := w) (b := b) (P := 0) (by (repeat (with_reducible first | exact hr1 | refine Rd.alloc ?_ _ | refine Rd.kept ?_ (gb_drew _ none) (fun _ e => by cases e))); (first | done | fail)) (by decide) 9 (by decide)).mono ?_; rintro e u1 ⟨v1, ⟨s, rfl, ls, us⟩, rfl, r1, g⟩; have m1 : w1.heap.size ≤ u1.heap.size := (@World.grownBy.size w1 u1 (some b) (gbt (by (repeat (with_reducible first | exact World.grownBy.refl _ _ | refine gbt ?_ (World.grownBy_alloc _ _ _) | refine gbt ?_ (gb_drew _ _))); (first | done | fail)) g)); (first | (have L7 : Lit7 u1 w1.heap.size := Lit7.kept (by (repeat (with_reducible first | exact Lit7.new _ w1.heap.size (by simp; (first | done | fail)) | refine Lit7.alloc ?_ _ | refine Lit7.drew ?_)); (first | done | fail)) g (by omega)) | skip); clear g)
    | (go_simp; go_at_call 71; (fail_if_success (have _t := r3)); refine (pick (a := a) (n := n') (cap := cap) (w0 := w) (b := b) (P := 3) (by (repeat (with_reducible first | exact r1 | refine Rd.alloc ?_ _ | refine Rd.kept ?_ (gb_drew _ none) (fun _ e => by cases e))); (first | done | fail)) (by decide) 20 (by decide)).mono ?_; rintro e u3 ⟨v3, ⟨p, rfl, lp, up⟩, rfl, r3, g⟩; have m3 : u1.heap.size ≤ u3.heap.size := (@World.grownBy.size u1 u3 (some b) (gbt (by (repeat (with_reducible first | exact World.grownBy.refl _ _ | refine gbt ?_ (World.grownBy_alloc _ _ _) | refine gbt ?_ (gb_drew _ _))); (first | done | fail)) g)); (first | (have L7' := L7; clear L7; have L7 : Lit7 u3 w1.heap.size := Lit7.kept (by (repeat (with_reducible first | exact L7' | exact Lit7.new _ 0 (by simp; (first | done | fail)) | refine Lit7.alloc ?_ _ | refine Lit7.drew ?_)); (first | done | fail)) g (by omega); clear L7') | (have L7 : Lit7 u3 u1.heap.size := Lit7.kept (by (repeat (with_reducible first | exact Lit7.new _ u1.heap.size (by simp; (first | done | fail)) | refine Lit7.alloc ?_ _ | refine Lit7.drew ?_)); (first | done | fail)) g (by omega)) | skip); clear g)
    | (go_simp; go_at_call 71; have _t := r3; refine (pick (a := a) (n := n') (cap := cap) (w0 := w) (b := b) (P := 4) (by (repeat (with_reducible first | exact r3 | refine Rd.alloc ?_ _ | refine Rd.kept ?_ (gb_drew _ none) (fun _ e => by cases e))); (first | done | fail)) (by decide) 7 (by decide)).mono ?_; rintro e u7 ⟨v7, ⟨q, rfl, lq, uq⟩, rfl, r7, g⟩; have m7 : u3.heap.size ≤ u7.heap.size := (@World.grownBy.size u3 u7 (some b) (gbt (by (repeat (with_reducible first | exact World.grownBy.refl _ _ | refine gbt ?_ (World.grownBy_alloc _ _ _) | refine gbt ?_ (gb_drew _ _))); (first | done | fail)) g)); obtain ⟨y, hy, ly, uy⟩ : ∃ y, ([0, 0, 0, 0, 1, 2, 3] : List Int).getD q.toNat 0 = y ∧ 0 ≤ y ∧ y ≤ 3 := ⟨_, rfl, lit7_in _ (by omega)⟩; have uq' : q < 7 := (by omega); have uy' : y < 4 := (by omega); obtain ⟨m, hm⟩ : ∃ m, ([p, 4096, 4097, -1] : List Int).getD y.toNat 0 = m := ⟨_, rfl⟩; have ha7 := arr7 q.toNat (by omega); rw [hy] at ha7; have ha4 := arr4 p y.toNat (by omega); rw [hm] at ha4; have hb7 := ha7; have hb4 := ha4; simp only [List.getElem?_toArray] at hb7 hb4; have hc7 := at7 q.toNat (by omega); rw [hy] at hc7; have hc4 := at4 p y.toNat (by omega); rw [hm] at hc4; (first | (have L7' := L7; clear L7; have L7 : Lit7 u7 w1.heap.size := Lit7.kept (by (repeat (with_reducible first | exact L7' | exact Lit7.new _ 0 (by simp; (first | done | fail)) | refine Lit7.alloc ?_ _ | refine Lit7.drew ?_)); (first | done | fail)) g (by omega); clear L7'; have i7 := L7.1; have c7 := L7.2 q.toNat (by omega); rw [hy] at c7; clear L7) | (have L7' := L7; clear L7; have L7 : Lit7 u7 u1.heap.size := Lit7.kept (by (repeat (with_reducible first | exact L7' | exact Lit7.new _ 0 (by simp; (first | done | fail)) | refine Lit7.alloc ?_ _ | refine Lit7.drew ?_)); (first | done | fail)) g (by omega); clear L7'; have i7 := L7.1; have c7 := L7.2 q.toNat (by omega); rw [hy] at c7; clear L7) | (have L7 : Lit7 u7 (u3.heap.size) := Lit7.kept (by (repeat (with_reducible first | exact Lit7.new _ (u3.heap.size) (by simp; (first | done | fail)) | refine Lit7.alloc ?_ _ | refine Lit7.drew ?_)); (first | done | fail)) g (by omega); have i7 := L7.1; have c7 := L7.2 q.toNat (by omega); rw [hy] at c7; clear L7) | (have L7 : Lit7 u7 (u3.heap.size + 1) := Lit7.kept (by (repeat (with_reducible first | exact Lit7.new _ (u3.heap.size + 1) (by simp; (first | done | fail)) | refine Lit7.alloc ?_ _ | refine Lit7.drew ?_)); (first | done | fail)) g (by omega); have i7 := L7.1; have c7 := L7.2 q.toNat (by omega); rw [hy] at c7; clear L7) | skip); (first | (have L4 : Lit4 u7 (u3.heap.size) p := Lit4.kept (by (repeat (with_reducible first | exact Lit4.new _ (u3.heap.size) _ (by simp; (first | done | fail)) | refine Lit4.alloc ?_ _ | refine Lit4.drew ?_)); (first | done | fail)) g (by omega); have i4 := L4.1; have c4 := L4.2 y.toNat (by omega); rw [hm] at c4; clear L4) | (have L4 : Lit4 u7 (u3.heap.size + 1) p := Lit4.kept (by (repeat (with_reducible first | exact Lit4.new _ (u3.heap.size + 1) _ (by simp; (first | done | fail)) | refine Lit4.alloc ?_ _ | refine Lit4.drew ?_)); (first | done | fail)) g (by omega); have i4 := L4.1; have c4 := L4.2 y.toNat (by omega); rw [hm] at c4; clear L4) | skip); clear g))
  all_goals go_wp2_with fail
  all_goals go_ret2
  all_goals exact ⟨_, _, rfl, below_gb (Rd.below (a := a) (n := n') (cap := cap) (w0 := w) (b := b) (P := 5) (by (repeat (with_reducible first | exact r7 | refine Rd.alloc ?_ _ | refine Rd.kept ?_ (gb_drew _ none) (fun _ e => by cases e))); (first | done | fail)))⟩
end Go.Proofs.Ythcochdkclmejaa
