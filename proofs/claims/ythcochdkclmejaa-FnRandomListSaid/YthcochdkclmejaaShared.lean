/- The contracts of the shared numbers' functions, of the program and of the reference: each returns what the plain definition says and makes new memory at most. Conditions: none beyond integers of 64 bits. -/
import Derived.Test.YthcochdkclmejaaRing
import Derived.Deep.RegionHeld3
namespace Go.Proofs.Ythcochdkclmejaa
open Go Go.RowKit

theorem bcell {W w1 : World} (hb : Below W.heap.size W w1) : (∀ b o, b < W.heap.size → w1.cell? ⟨b, o, none⟩ = W.cell? ⟨b, o, none⟩) ∧ (∀ b o, b < W.heap.size → w1.frozen? ⟨b, o, none⟩ = W.frozen? ⟨b, o, none⟩) :=
  ⟨fun b o h => hb.cell (p := ⟨b, o, none⟩) h, fun b o h => hb.frozen (p := ⟨b, o, none⟩) h⟩
theorem bt {w W w1 : World} (h : Below w.heap.size w W) (hb : Below W.heap.size W w1) : Below w.heap.size w w1 := h.trans (hb.mono h.size)

theorem gb_setNew {w W : World} {row : Option Nat} (h : w.grownBy W row) {B : Nat} (hB : w.heap.size ≤ B) (o : Nat) (v : Value) : w.grownBy (W.setCell ⟨B, o, none⟩ v) row :=
  ⟨h.os, h.tape, h.output, by simpa using h.size, fun k hk hne => (Below.heap_setCell _ _ _ k (fun e => by simp at e; omega)).trans (h.block k hk hne)⟩
theorem gb_below {w w' : World} (h : w.grownBy w' none) : Below w.heap.size w w' := ⟨h.os, h.tape, h.output, h.size, fun k hk => h.block k hk (by simp)⟩
theorem below_gb {w w' : World} (h : Below w.heap.size w w') : w.grownBy w' none := ⟨h.os, h.tape, h.output, h.size, fun k hk _ => h.block k hk⟩

/-- A block of two cells of one's own. -/
structure Two (w : World) (B : Nat) (x y : Value) : Prop where
  c0 : w.cell? ⟨B, 0, none⟩ = some x
  c1 : w.cell? ⟨B, 1, none⟩ = some y
  f0 : w.frozen? ⟨B, 0, none⟩ = false
  f1 : w.frozen? ⟨B, 1, none⟩ = false
theorem Two.new (w : World) (x y : Value) (T : TypeId) : Two (w.alloc (.cells #[x, y] T)) w.heap.size x y :=
  ⟨by rw [World.cell?_alloc_at _ _ _ _ rfl]; rfl, by rw [World.cell?_alloc_at _ _ _ _ rfl]; rfl, World.frozen?_alloc_at _ _ _ _ rfl, World.frozen?_alloc_at _ _ _ _ rfl⟩
theorem Two.kept {w w' : World} {B : Nat} {x y : Value} {row : Option Nat} (h : Two w B x y) (hg : w.grownBy w' row) (hne : some B ≠ row) : Two w' B x y := by
  have hlt : B < w.heap.size := World.block_lt_of_cell? w _ h.c0
  exact ⟨hg.cell h.c0 hne, hg.cell h.c1 hne, (World.frozen?_of_block (w := w) (hg.block B hlt hne)).trans h.f0, (World.frozen?_of_block (w := w) (hg.block B hlt hne)).trans h.f1⟩
theorem Two.alloc {w : World} {B : Nat} {x y : Value} (h : Two w B x y) (o : Obj) : Two (w.alloc o) B x y := h.kept (World.grownBy_alloc w o none) (by simp)
theorem Two.lt {w : World} {B : Nat} {x y : Value} (h : Two w B x y) : B < w.heap.size := World.block_lt_of_cell? w _ h.c0

/-- What the walk is told of a slice of integers that came in: it is nil; or it leads to a row of 'cap' cells, the numbers 'zs' (the first 'len' are its elements), each fitting its kind. -/
def IsRow (k : IntKind) (w : World) (a : Option Addr) (len cap : Nat) (zs : List Int) : Prop :=
  (a = none ∧ len = 0 ∧ cap = 0 ∧ zs = []) ∨
  ∃ x, a = some x ∧ len ≤ cap ∧ cap ≤ maxLen ∧ zs.length = cap ∧ (∀ i, i < zs.length → w.cell? (x.add i) = some (.int k (zs.getD i 0))) ∧ ∀ n ∈ zs, (Lit.int k n).wf = true

theorem IsRow.kept {k : IntKind} {w w' : World} {a : Option Addr} {len cap : Nat} {zs : List Int} (h : IsRow k w a len cap zs) (hg : w.grownBy w' none) : IsRow k w' a len cap zs := by
  rcases h with h | ⟨x, e1, e2, e3, e4, e5, e6⟩
  · exact .inl h
  · exact .inr ⟨x, e1, e2, e3, e4, fun i hi => hg.cell (e5 i hi) (by simp), e6⟩

theorem sharedValid (a b : Int) (w : World) : Calls Try.prog 19 #[.agg #[.int .i64 a, .int .i64 b]] w fun e w' => e = .returned (.bool (rv a && rv b)) ∧ Below w.heap.size w w' := by
  by_cases ha : rv a = true
  · go_enter Try.func19, Try.ntmps19
    go_wp2_with (go_at_call 51; refine (ringValid _ _).mono ?_; rintro e w' ⟨rfl, rfl⟩)
    go_ret
    exact ⟨ret_bool (by simp [ha]), (Below.refl _ _).alloc (Nat.le_refl _) _⟩
  · have ha' : rv a = false := by simpa using ha
    go_enter Try.func19, Try.ntmps19
    go_wp2_with (go_at_call 51; refine (ringValid _ _).mono ?_; rintro e w' ⟨rfl, rfl⟩)
    go_ret
    exact ⟨ret_bool (by simp [ha']), (Below.refl _ _).alloc (Nat.le_refl _) _⟩
theorem joinShares (a b : Int) (w : World) : Calls Try.prog 18 #[.agg #[.int .i64 a, .int .i64 b]] w fun e w' => e = .returned (.int .i64 (addr a b)) ∧ Below w.heap.size w w' := by
  go_enter Try.func18, Try.ntmps18
  go_wp2_with (go_at_call 56; refine (addRing _ _ _).mono ?_; rintro e w' ⟨rfl, rfl⟩)
  go_ret
  exact ⟨rfl, (Below.refl _ _).alloc (Nat.le_refl _) _⟩
theorem joinShares_s (a b : Int) (w : World) : Calls Try.prog 22 #[.agg #[.int .i64 a, .int .i64 b]] w fun e w' => e = .returned (.int .i64 (addr a b)) ∧ Below w.heap.size w w' := by
  go_enter Try.func22, Try.ntmps22
  go_wp2_with (go_at_call 59; refine (addRing_s _ _ _).mono ?_; rintro e w' ⟨rfl, rfl⟩)
  go_ret
  exact ⟨rfl, (Below.refl _ _).alloc (Nat.le_refl _) _⟩
theorem noShares (w : World) : Calls Try.prog 52 #[] w fun e w' => e = .returned (.agg #[.int .i64 (-1), .int .i64 (-1)]) ∧ Below w.heap.size w w' := by
  go_enter Try.func52, Try.ntmps52
  go_wp2
  exact bodyPost_ret (v := .agg #[.int .i64 (-1), .int .i64 (-1)]) (by simp [results, Try.results52, go_sem]) rfl ⟨rfl, by repeat (first | exact Below.refl _ _ | (refine Below.alloc ?_ (by first | omega | (simp; done) | (simp; omega)) _) | (refine Below.setCell ?_ (by first | omega | (simp; done) | (simp; omega)) _))⟩
theorem splitNumber (x r : Int) (w : World) : Calls Try.prog 16 #[.int .i64 x, .int .i64 r] w fun e w' => e = .returned (.agg #[.int .i64 (splf x r), .int .i64 (subr x r)]) ∧ Below w.heap.size w w' := by
  by_cases ha : rv x = true
  · by_cases hb : rv r = true
    · have e1 : splf x r = r := by simp [splf, ha, hb]
      have e2 : subr x r = (x - r) % 4096 := by simp [subr, ha, hb]
      have hxb := rv_iff.1 ha
      have hrb := rv_iff.1 hb
      rw [e1, e2]
      have E2 : Hid (subr x r = (x - r) % 4096) := e2
      clear e1 e2
      go_enter Try.func16, Try.ntmps16
      go_wp2_with (first | (go_at_call 51; refine (ringValid _ _).mono ?_; rintro e w' ⟨rfl, rfl⟩) | (go_at_call 53; refine (subRing _ _ _).mono ?_; rintro e w' ⟨rfl, rfl⟩))
      exact bodyPost_ret (v := .agg #[.int .i64 r, .int .i64 ((x - r) % 4096)]) (by simp [results, Try.results16, go_sem, E2.out]) rfl ⟨rfl, by repeat (first | exact Below.refl _ _ | (refine Below.alloc ?_ (by first | omega | (simp; done) | (simp; omega)) _) | (refine Below.setCell ?_ (by first | omega | (simp; done) | (simp; omega)) _) | refine bt ?_ (by assumption))⟩
    · have hb' : rv r = false := by simpa using hb
      have e1 : splf x r = -1 := by simp [splf, hb']
      have e2 : subr x r = -1 := by simp [subr, hb']
      rw [e1, e2]
      clear e1 e2
      go_enter Try.func16, Try.ntmps16
      go_wp2_with (first | (go_at_call 51; refine (ringValid _ _).mono ?_; rintro e w' ⟨rfl, rfl⟩) | (go_at_call 52; refine (noShares _).mono ?_; rintro e w' ⟨rfl, hb1⟩; obtain ⟨hc, hf⟩ := bcell hb1; have hz := hb1.size; simp at hz))
      exact bodyPost_ret (v := .agg #[.int .i64 (-1), .int .i64 (-1)]) (by simp [results, Try.results16, go_sem, hc]) rfl ⟨rfl, by repeat (first | exact Below.refl _ _ | (refine Below.alloc ?_ (by first | omega | (simp; done) | (simp; omega)) _) | (refine Below.setCell ?_ (by first | omega | (simp; done) | (simp; omega)) _) | refine bt ?_ (by assumption))⟩
  · have ha' : rv x = false := by simpa using ha
    have e1 : splf x r = -1 := by simp [splf, ha']
    have e2 : subr x r = -1 := by simp [subr, ha']
    rw [e1, e2]
    clear e1 e2
    go_enter Try.func16, Try.ntmps16
    go_wp2_with (first | (go_at_call 51; refine (ringValid _ _).mono ?_; rintro e w' ⟨rfl, rfl⟩) | (go_at_call 52; refine (noShares _).mono ?_; rintro e w' ⟨rfl, hb1⟩; obtain ⟨hc, hf⟩ := bcell hb1; have hz := hb1.size; simp at hz))
    exact bodyPost_ret (v := .agg #[.int .i64 (-1), .int .i64 (-1)]) (by simp [results, Try.results16, go_sem, hc]) rfl ⟨rfl, by repeat (first | exact Below.refl _ _ | (refine Below.alloc ?_ (by first | omega | (simp; done) | (simp; omega)) _) | (refine Below.setCell ?_ (by first | omega | (simp; done) | (simp; omega)) _) | refine bt ?_ (by assumption))⟩
theorem splitNumber_s (x r : Int) (w : World) : Calls Try.prog 17 #[.int .i64 x, .int .i64 r] w fun e w' => e = .returned (.agg #[.int .i64 (splf x r), .int .i64 (subr x r)]) ∧ Below w.heap.size w w' := by
  by_cases ha : rv x = true
  · by_cases hb : rv r = true
    · have e1 : splf x r = r := by simp [splf, ha, hb]
      have e2 : subr x r = (x - r) % 4096 := by simp [subr, ha, hb]
      have hxb := rv_iff.1 ha
      have hrb := rv_iff.1 hb
      rw [e1, e2]
      have E2 : Hid (subr x r = (x - r) % 4096) := e2
      clear e1 e2
      go_enter Try.func17, Try.ntmps17
      go_wp2_with (first | (go_at_call 54; refine (ringValid_s _ _).mono ?_; rintro e w' ⟨rfl, rfl⟩) | (go_at_call 55; refine (l1Ring _ _).mono ?_; rintro e w' ⟨rfl, rfl⟩))
      exact bodyPost_ret (v := .agg #[.int .i64 r, .int .i64 ((x - r) % 4096)]) (by simp [results, Try.results17, go_sem]) rfl ⟨rfl, by repeat (first | exact Below.refl _ _ | (refine Below.alloc ?_ (by first | omega | (simp; done) | (simp; omega)) _) | (refine Below.setCell ?_ (by first | omega | (simp; done) | (simp; omega)) _) | refine bt ?_ (by assumption))⟩
    · have hb' : rv r = false := by simpa using hb
      have e1 : splf x r = -1 := by simp [splf, hb']
      have e2 : subr x r = -1 := by simp [subr, hb']
      rw [e1, e2]
      clear e1 e2
      go_enter Try.func17, Try.ntmps17
      go_wp2_with (go_at_call 54; refine (ringValid_s _ _).mono ?_; rintro e w' ⟨rfl, rfl⟩)
      exact bodyPost_ret (v := .agg #[.int .i64 (-1), .int .i64 (-1)]) (by simp [results, Try.results17, go_sem]) rfl ⟨rfl, by repeat (first | exact Below.refl _ _ | (refine Below.alloc ?_ (by first | omega | (simp; done) | (simp; omega)) _) | (refine Below.setCell ?_ (by first | omega | (simp; done) | (simp; omega)) _) | refine bt ?_ (by assumption))⟩
  · have ha' : rv x = false := by simpa using ha
    have e1 : splf x r = -1 := by simp [splf, ha']
    have e2 : subr x r = -1 := by simp [subr, ha']
    rw [e1, e2]
    clear e1 e2
    go_enter Try.func17, Try.ntmps17
    go_wp2_with (go_at_call 54; refine (ringValid_s _ _).mono ?_; rintro e w' ⟨rfl, rfl⟩)
    exact bodyPost_ret (v := .agg #[.int .i64 (-1), .int .i64 (-1)]) (by simp [results, Try.results17, go_sem]) rfl ⟨rfl, by repeat (first | exact Below.refl _ _ | (refine Below.alloc ?_ (by first | omega | (simp; done) | (simp; omega)) _) | (refine Below.setCell ?_ (by first | omega | (simp; done) | (simp; omega)) _) | refine bt ?_ (by assumption))⟩
end Go.Proofs.Ythcochdkclmejaa
