/- The contracts of the shared numbers' functions, of the program and of the reference: each returns what the plain definition says and makes new memory at most. Conditions: none beyond integers of 64 bits. -/
import Derived.Test.YtcgonoebkaloeaaRing
import Derived.Deep.RegionHeld3
namespace Go.Proofs.Ytcgonoebkaloeaa
open Go Go.RowKit

theorem bcell {W w1 : World} (hb : Below W.heap.size W w1) : (∀ b o, b < W.heap.size → w1.cell? ⟨b, o, none⟩ = W.cell? ⟨b, o, none⟩) ∧ (∀ b o, b < W.heap.size → w1.frozen? ⟨b, o, none⟩ = W.frozen? ⟨b, o, none⟩) :=
  ⟨fun b o h => hb.cell (p := ⟨b, o, none⟩) h, fun b o h => hb.frozen (p := ⟨b, o, none⟩) h⟩
theorem bt {w W w1 : World} (h : Below w.heap.size w W) (hb : Below W.heap.size W w1) : Below w.heap.size w w1 := h.trans (hb.mono h.size)

theorem gb_setNew {w W : World} {row : Option Nat} (h : w.grownBy W row) {B : Nat} (hB : w.heap.size ≤ B) (o : Nat) (v : Value) : w.grownBy (W.setCell ⟨B, o, none⟩ v) row :=
  ⟨h.os, h.tape, h.output, by simpa using h.size, fun k hk hne => (Below.heap_setCell _ _ _ k (fun e => by simp at e; omega)).trans (h.block k hk hne)⟩
theorem gb_below {w w' : World} (h : w.grownBy w' none) : Below w.heap.size w w' := ⟨h.os, h.tape, h.output, h.size, fun k hk => h.block k hk (by simp)⟩
theorem below_gb {w w' : World} (h : Below w.heap.size w w') : w.grownBy w' none := ⟨h.os, h.tape, h.output, h.size, fun k hk _ => h.block k hk⟩

/-- A block of two cells of one's own. -/
structure Two (w : World) (B : Nat) (x y : Value) : Prop where
  c0 : w.cell? ⟨B, 0, none⟩ = some x
  c1 : w.cell? ⟨B, 1, none⟩ = some y
  f0 : w.frozen? ⟨B, 0, none⟩ = false
  f1 : w.frozen? ⟨B, 1, none⟩ = false
theorem Two.new (w : World) (x y : Value) (T : TypeId) : Two (w.alloc (.cells #[x, y] T)) w.heap.size x y :=
  ⟨by rw [World.cell?_alloc_at _ _ _ _ rfl]; rfl, by rw [World.cell?_alloc_at _ _ _ _ rfl]; rfl, World.frozen?_alloc_at _ _ _ _ rfl, World.frozen?_alloc_at _ _ _ _ rfl⟩
theorem Two.kept {w w' : World} {B : Nat} {x y : Value} {row : Option Nat} (h : Two w B x y) (hg : w.grownBy w' row) (hne : some B ≠ row) : Two w' B x y := by
  have hlt : B < w.heap.size := World.block_lt_of_cell? w _ h.c0
  exact ⟨hg.cell h.c0 hne, hg.cell h.c1 hne, (World.frozen?_of_block (w := w) (hg.block B hlt hne)).trans h.f0, (World.frozen?_of_block (w := w) (hg.block B hlt hne)).trans h.f1⟩
theorem Two.alloc {w : World} {B : Nat} {x y : Value} (h : Two w B x y) (o : Obj) : Two (w.alloc o) B x y := h.kept (World.grownBy_alloc w o none) (by simp)
theorem Two.lt {w : World} {B : Nat} {x y : Value} (h : Two w B x y) : B < w.heap.size := World.block_lt_of_cell? w _ h.c0

/-- What the walk is told of a slice of integers that came in: it is nil; or it leads to a row of 'cap' cells, the numbers 'zs' (the first 'len' are its elements), each fitting its kind. -/
def IsRow (k : IntKind) (w : World) (a : Option Addr) (len cap : Nat) (zs : List Int) : Prop :=
  (a = none ∧ len = 0 ∧ cap = 0 ∧ zs = []) ∨
  ∃ x, a = some x ∧ len ≤ cap ∧ cap ≤ maxLen ∧ zs.length = cap ∧ (∀ i, i < zs.length → w.cell? (x.add i) = some (.int k (zs.getD i 0))) ∧ ∀ n ∈ zs, (Lit.int k n).wf = true

theorem IsRow.kept {k : IntKind} {w w' : World} {a : Option Addr} {len cap : Nat} {zs : List Int} (h : IsRow k w a len cap zs) (hg : w.grownBy w' none) : IsRow k w' a len cap zs := by
  rcases h with h | ⟨x, e1, e2, e3, e4, e5, e6⟩
  · exact .inl h
  · exact .inr ⟨x, e1, e2, e3, e4, fun i hi => hg.cell (e5 i hi) (by simp), e6⟩

theorem toShared (a b : Int) (w : World) : Calls Try.prog 18 #[.agg #[.int .i64 a, .int .i64 b]] w fun e w' => e = .returned (.agg #[.int .i64 a, .int .i64 b]) ∧ Below w.heap.size w w' := by
  go_enter Try.func18, Try.ntmps18
  go_wp2
  exact bodyPost_ret (v := .agg #[.int .i64 a, .int .i64 b]) (by simp [results, Try.results18, go_sem]) rfl ⟨rfl, by repeat (first | exact Below.refl _ _ | (refine Below.alloc ?_ (by first | omega | (simp; done) | (simp; omega)) _) | (refine Below.setCell ?_ (by first | omega | (simp; done) | (simp; omega)) _))⟩
theorem sharedValid (a b : Int) (w : World) : Calls Try.prog 30 #[.agg #[.int .i64 a, .int .i64 b]] w fun e w' => e = .returned (.bool (rv a && rv b)) ∧ Below w.heap.size w w' := by
  by_cases ha : rv a = true
  · go_enter Try.func30, Try.ntmps30
    go_wp2_with (go_at_call 24; refine (ringValid _ _).mono ?_; rintro e w' ⟨rfl, rfl⟩)
    go_ret
    exact ⟨ret_bool (by simp [ha]), (Below.refl _ _).alloc (Nat.le_refl _) _⟩
  · have ha' : rv a = false := by simpa using ha
    go_enter Try.func30, Try.ntmps30
    go_wp2_with (go_at_call 24; refine (ringValid _ _).mono ?_; rintro e w' ⟨rfl, rfl⟩)
    go_ret
    exact ⟨ret_bool (by simp [ha']), (Below.refl _ _).alloc (Nat.le_refl _) _⟩
theorem sharedValid_s (a b : Int) (w : World) : Calls Try.prog 31 #[.agg #[.int .i64 a, .int .i64 b]] w fun e w' => e = .returned (.bool (rv a && rv b)) ∧ Below w.heap.size w w' := by
  by_cases ha : rv a = true
  · go_enter Try.func31, Try.ntmps31
    go_wp2_with (go_at_call 28; refine (ringValid_s _ _).mono ?_; rintro e w' ⟨rfl, rfl⟩)
    go_ret
    exact ⟨ret_bool (by simp [ha]), (Below.refl _ _).alloc (Nat.le_refl _) _⟩
  · have ha' : rv a = false := by simpa using ha
    go_enter Try.func31, Try.ntmps31
    go_wp2_with (go_at_call 28; refine (ringValid_s _ _).mono ?_; rintro e w' ⟨rfl, rfl⟩)
    go_ret
    exact ⟨ret_bool (by simp [ha']), (Below.refl _ _).alloc (Nat.le_refl _) _⟩
theorem noShares (w : World) : Calls Try.prog 53 #[] w fun e w' => e = .returned (.agg #[.int .i64 (-1), .int .i64 (-1)]) ∧ Below w.heap.size w w' := by
  go_enter Try.func53, Try.ntmps53
  go_wp2
  exact bodyPost_ret (v := .agg #[.int .i64 (-1), .int .i64 (-1)]) (by simp [results, Try.results53, go_sem]) rfl ⟨rfl, by repeat (first | exact Below.refl _ _ | (refine Below.alloc ?_ (by first | omega | (simp; done) | (simp; omega)) _) | (refine Below.setCell ?_ (by first | omega | (simp; done) | (simp; omega)) _))⟩
theorem eqShared (a b : Int) (w : World) : Calls Try.prog 20 #[.agg #[.int .i64 a, .int .i64 b], .agg #[.int .i64 a, .int .i64 b]] w fun e w' => e = .returned (.bool true) ∧ Below w.heap.size w w' := by
  go_enter Try.func20, Try.ntmps20
  go_wp2
  go_ret
  exact ⟨rfl, by repeat (first | exact Below.refl _ _ | (refine Below.alloc ?_ (by first | omega | (simp; done) | (simp; omega)) _) | (refine Below.setCell ?_ (by first | omega | (simp; done) | (simp; omega)) _) | refine bt ?_ (by assumption))⟩
theorem l6Bad (w : World) : Calls Try.prog 52 #[] w fun e w' => e = .returned (.agg #[.int .i64 (-1), .int .i64 (-1)]) ∧ Below w.heap.size w w' := by
  go_enter Try.func52, Try.ntmps52
  go_wp2
  exact bodyPost_ret (v := .agg #[.int .i64 (-1), .int .i64 (-1)]) (by simp [results, Try.results52, go_sem]) rfl ⟨rfl, by repeat (first | exact Below.refl _ _ | assumption | (refine Below.alloc ?_ (by first | omega | (simp; done) | (simp; omega)) _) | (refine Below.setCell ?_ (by first | omega | (simp; done) | (simp; omega)) _) | refine bt ?_ (by assumption))⟩
theorem both_add (a b x : Int) (w : World) : Calls Try.prog 54 #[.agg #[.int .i64 a, .int .i64 b], .agg #[.int .i64 x, .int .i64 0], .func (.func 35) #[] #[]] w fun e w' => e = .returned (.agg #[.int .i64 (addr a x), .int .i64 (addr b 0)]) ∧ Below w.heap.size w w' := by
  go_enter Try.func54, Try.ntmps54
  go_wp2
  go_region_held3 (fun w' => w'.cell? ⟨w.heap.size, 0, none⟩ = some (.int .i64 a) ∧ w'.cell? ⟨w.heap.size, 1, none⟩ = some (.int .i64 b) ∧ w'.cell? ⟨w.heap.size + 1, 0, none⟩ = some (.int .i64 x) ∧ w'.cell? ⟨w.heap.size + 1, 1, none⟩ = some (.int .i64 0)) (go_keep)
    (first | (go_at_call 35; refine (addRing _ _ _).mono ?_; rintro e w' ⟨rfl, rfl⟩))
  go_wp2
  exact bodyPost_ret (v := .agg #[.int .i64 (addr a x), .int .i64 (addr b 0)]) (by simp [results, Try.results54, go_sem]) rfl ⟨rfl, by repeat (first | exact Below.refl _ _ | assumption | (refine Below.drew ?_) | (refine Below.alloc ?_ (by first | omega | (simp; done) | (simp; omega)) _) | (refine Below.setCell ?_ (by first | omega | (simp; done) | (simp; omega)) _) | refine bt ?_ (by assumption))⟩
set_option maxHeartbeats 400000 in
theorem addKnown (a b x : Int) (w : World) : Calls Try.prog 19 #[.agg #[.int .i64 a, .int .i64 b], .int .i64 x] w fun e w' => e = .returned (.agg #[.int .i64 (akf a b x), .int .i64 (aks a b x)]) ∧ Below w.heap.size w w' := by
  have T1 : Two ((w.alloc (.cells #[.int .i64 a, .int .i64 b] 26)).alloc (.cells #[.int .i64 0, .int .i64 0] 26)) w.heap.size (.int .i64 a) (.int .i64 b) := (Two.new w _ _ _).alloc _
  have T2 : Two ((w.alloc (.cells #[.int .i64 a, .int .i64 b] 26)).alloc (.cells #[.int .i64 0, .int .i64 0] 26)) (w.heap.size + 1) (.int .i64 0) (.int .i64 0) := by simpa using Two.new (w.alloc (.cells #[.int .i64 a, .int .i64 b] 26)) (.int .i64 0) (.int .i64 0) 26
  have B0 : Below w.heap.size w ((w.alloc (.cells #[.int .i64 a, .int .i64 b] 26)).alloc (.cells #[.int .i64 0, .int .i64 0] 26)) := ((Below.refl _ _).alloc (Nat.le_refl _) _).alloc (by simp) _
  by_cases hS : (rv a && rv b) = true
  · have hS' := hS
    simp at hS'
    by_cases hx : rv x = true
    · skip
      have e1 : akf a b x = addr a x := by simp [akf, addr, hS', hx]
      have e2 : aks a b x = addr b 0 := by
        have h0 : rv 0 = true := by decide
        have hb2 := rv_iff.1 hS'.2
        simp [aks, addr, hS', hx, h0]; omega
      rw [e1, e2]
      clear e1 e2
      go_enter Try.func19, Try.ntmps19
      go_wp2_with fail
      refine (sharedValid a b _).mono ?_
      rintro e w1 ⟨rfl, hb⟩
      replace T1 := T1.kept (below_gb hb) (by simp)
      replace T2 := T2.kept (below_gb hb) (by simp)
      replace B0 := bt B0 hb
      clear hb
      have p0 := T1.c0
      have p1 := T1.c1
      go_wp2_with (go_at_call 24; refine (ringValid _ _).mono ?_; rintro e w' ⟨rfl, rfl⟩)
      refine (both_add a b x _).mono ?_
      rintro e w2 ⟨rfl, hb⟩
      replace T2 := T2.kept (below_gb hb) (by simp)
      replace B0 := bt B0 hb
      clear hb
      obtain ⟨q0, q1, q2, q3⟩ := T2
      go_wp2
      exact bodyPost_ret (v := .agg #[.int .i64 (addr a x), .int .i64 (addr b 0)]) (by simp [results, Try.results19, go_sem, q0, q1]) rfl ⟨rfl, by repeat (first | exact B0 | (refine Below.drew ?_) | (refine Below.setCell ?_ (by simp) _))⟩
    · have hx' : rv x = false := by simpa using hx
      have e1 : akf a b x = -1 := by simp [akf, hx']
      have e2 : aks a b x = -1 := by simp [aks, hx']
      rw [e1, e2]
      clear e1 e2
      go_enter Try.func19, Try.ntmps19
      go_wp2_with fail
      refine (sharedValid a b _).mono ?_
      rintro e w1 ⟨rfl, hb⟩
      replace T1 := T1.kept (below_gb hb) (by simp)
      replace T2 := T2.kept (below_gb hb) (by simp)
      replace B0 := bt B0 hb
      clear hb
      have p4 := T1.c0
      go_wp2_with (go_at_call 24; refine (ringValid _ _).mono ?_; rintro e w' ⟨rfl, rfl⟩)
      refine (noShares _).mono ?_
      rintro e w2 ⟨rfl, hb⟩
      replace T2 := T2.kept (below_gb hb) (by simp)
      replace B0 := bt B0 hb
      clear hb
      obtain ⟨q0, q1, q2, q3⟩ := T2
      go_wp2
      exact bodyPost_ret (v := .agg #[.int .i64 (-1), .int .i64 (-1)]) (by simp [results, Try.results19, go_sem, q0, q1]) rfl ⟨rfl, by repeat (first | exact B0 | (refine Below.drew ?_) | (refine Below.setCell ?_ (by simp) _))⟩
  · have hS2 : (rv a && rv b) = false := by simpa using hS
    have e1 : akf a b x = -1 := by simp [akf, hS2]
    have e2 : aks a b x = -1 := by simp [aks, hS2]
    rw [e1, e2]
    clear e1 e2
    go_enter Try.func19, Try.ntmps19
    go_wp2_with fail
    refine (sharedValid a b _).mono ?_
    rintro e w1 ⟨rfl, hb⟩
    replace T1 := T1.kept (below_gb hb) (by simp)
    replace T2 := T2.kept (below_gb hb) (by simp)
    replace B0 := bt B0 hb
    clear hb
    have p4 := T1.c0
    go_wp2_with (go_at_call 24; refine (ringValid _ _).mono ?_; rintro e w' ⟨rfl, rfl⟩)
    refine (noShares _).mono ?_
    rintro e w2 ⟨rfl, hb⟩
    replace T2 := T2.kept (below_gb hb) (by simp)
    replace B0 := bt B0 hb
    clear hb
    obtain ⟨q0, q1, q2, q3⟩ := T2
    go_wp2
    exact bodyPost_ret (v := .agg #[.int .i64 (-1), .int .i64 (-1)]) (by simp [results, Try.results19, go_sem, q0, q1]) rfl ⟨rfl, by repeat (first | exact B0 | (refine Below.drew ?_) | (refine Below.setCell ?_ (by simp) _))⟩
set_option maxHeartbeats 400000 in
theorem addKnown_s (a b x : Int) (w : World) : Calls Try.prog 17 #[.agg #[.int .i64 a, .int .i64 b], .int .i64 x] w fun e w' => e = .returned (.agg #[.int .i64 (akf a b x), .int .i64 (aks a b x)]) ∧ Below w.heap.size w w' := by
  have T1 : Two ((w.alloc (.cells #[.int .i64 a, .int .i64 b] 26)).alloc (.cells #[.int .i64 0, .int .i64 0] 26)) w.heap.size (.int .i64 a) (.int .i64 b) := (Two.new w _ _ _).alloc _
  have T2 : Two ((w.alloc (.cells #[.int .i64 a, .int .i64 b] 26)).alloc (.cells #[.int .i64 0, .int .i64 0] 26)) (w.heap.size + 1) (.int .i64 0) (.int .i64 0) := by simpa using Two.new (w.alloc (.cells #[.int .i64 a, .int .i64 b] 26)) (.int .i64 0) (.int .i64 0) 26
  have B0 : Below w.heap.size w ((w.alloc (.cells #[.int .i64 a, .int .i64 b] 26)).alloc (.cells #[.int .i64 0, .int .i64 0] 26)) := ((Below.refl _ _).alloc (Nat.le_refl _) _).alloc (by simp) _
  by_cases hS : (rv a && rv b) = true
  · have hS' := hS
    simp at hS'
    by_cases hx : rv x = true
    · skip
      have e1 : akf a b x = (a + x) % 4096 := by simp [akf, hS', hx]
      have e2 : aks a b x = b := by simp [aks, hS', hx]
      have ha2 := rv_iff.1 hS'.1
      have hx2 := rv_iff.1 hx
      rw [e1, e2]
      clear e1 e2
      go_enter Try.func17, Try.ntmps17
      go_wp2_with fail
      refine (sharedValid_s a b _).mono ?_
      rintro e w1 ⟨rfl, hb⟩
      replace T1 := T1.kept (below_gb hb) (by simp)
      replace T2 := T2.kept (below_gb hb) (by simp)
      replace B0 := bt B0 hb
      clear hb
      obtain ⟨p0, p1, _, _⟩ := T1
      obtain ⟨q0, q1, q2, q3⟩ := T2
      go_wp2_with (go_at_call 28; refine (ringValid_s _ _).mono ?_; rintro e w' ⟨rfl, rfl⟩)
      have ew : IntKind.i64.wrap (a + x) = a + x := by rw [IntKind.wrap_i64]; omega
      go_region_held3 (fun w' => w'.cell? ⟨w.heap.size, 0, none⟩ = some (.int .i64 a) ∧ w'.cell? ⟨w.heap.size, 1, none⟩ = some (.int .i64 b)) (go_keep)
        (first | (go_at_call 50; refine (l1Ring _ _).mono ?_; rintro e w' ⟨rfl, rfl⟩))
      go_wp2
      exact bodyPost_ret (v := .agg #[.int .i64 ((a + x) % 4096), .int .i64 b]) (by simp [results, Try.results17, go_sem, q0, q1]) rfl ⟨rfl, by repeat (first | exact B0 | (refine Below.drew ?_) | (refine Below.setCell ?_ (by simp) _))⟩
    · have hx' : rv x = false := by simpa using hx
      have e1 : akf a b x = -1 := by simp [akf, hx']
      have e2 : aks a b x = -1 := by simp [aks, hx']
      rw [e1, e2]
      clear e1 e2
      go_enter Try.func17, Try.ntmps17
      go_wp2_with fail
      refine (sharedValid_s a b _).mono ?_
      rintro e w1 ⟨rfl, hb⟩
      replace T1 := T1.kept (below_gb hb) (by simp)
      replace T2 := T2.kept (below_gb hb) (by simp)
      replace B0 := bt B0 hb
      clear hb
      have p4 := T1.c0
      go_wp2_with (go_at_call 28; refine (ringValid_s _ _).mono ?_; rintro e w' ⟨rfl, rfl⟩)
      refine (l6Bad _).mono ?_
      rintro e w2 ⟨rfl, hb⟩
      replace T2 := T2.kept (below_gb hb) (by simp)
      replace B0 := bt B0 hb
      clear hb
      obtain ⟨q0, q1, q2, q3⟩ := T2
      go_wp2
      exact bodyPost_ret (v := .agg #[.int .i64 (-1), .int .i64 (-1)]) (by simp [results, Try.results17, go_sem, q0, q1]) rfl ⟨rfl, by repeat (first | exact B0 | (refine Below.drew ?_) | (refine Below.setCell ?_ (by simp) _))⟩
  · have hS2 : (rv a && rv b) = false := by simpa using hS
    have e1 : akf a b x = -1 := by simp [akf, hS2]
    have e2 : aks a b x = -1 := by simp [aks, hS2]
    rw [e1, e2]
    clear e1 e2
    go_enter Try.func17, Try.ntmps17
    go_wp2_with fail
    refine (sharedValid_s a b _).mono ?_
    rintro e w1 ⟨rfl, hb⟩
    replace T1 := T1.kept (below_gb hb) (by simp)
    replace T2 := T2.kept (below_gb hb) (by simp)
    replace B0 := bt B0 hb
    clear hb
    have p4 := T1.c0
    go_wp2_with (go_at_call 28; refine (ringValid_s _ _).mono ?_; rintro e w' ⟨rfl, rfl⟩)
    refine (l6Bad _).mono ?_
    rintro e w2 ⟨rfl, hb⟩
    replace T2 := T2.kept (below_gb hb) (by simp)
    replace B0 := bt B0 hb
    clear hb
    obtain ⟨q0, q1, q2, q3⟩ := T2
    go_wp2
    exact bodyPost_ret (v := .agg #[.int .i64 (-1), .int .i64 (-1)]) (by simp [results, Try.results17, go_sem, q0, q1]) rfl ⟨rfl, by repeat (first | exact B0 | (refine Below.drew ?_) | (refine Below.setCell ?_ (by simp) _))⟩
end Go.Proofs.Ytcgonoebkaloeaa
