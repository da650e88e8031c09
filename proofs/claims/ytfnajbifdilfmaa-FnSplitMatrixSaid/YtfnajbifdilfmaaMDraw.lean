/- The contracts of the drawing functions of matrices: each returns some matrix of at most 36 numbers of new memory and turns nothing that was there. Conditions: the code is a readable slice of bytes. -/
import Derived.Test.YtfnajbifdilfmaaDraw
import Derived.Test.YtfnajbifdilfmaaMatB
import Derived.Deep.RegionHeld3
import Derived.Deep.AppendLies
import Derived.Deep.RegionLaw
namespace Go.Proofs.Ytfnajbifdilfmaa
open Go Go.RowKit

theorem l20Side {a : Option Addr} {n cap : Nat} {w0 w : World} {b P : Nat} (hr : Rd a n cap w0 w b P) (hP : P < 900000) :
    Calls Try.prog 66 #[.pointer (some ⟨b, 0, none⟩)] w (Gives a n cap w0 w b (P + 2) (IntIn 1 5)) := by
  go_enter Try.func66, Try.ntmps66
  go_wp2_with fail
  refine (pick hr (by omega) 3 (by decide)).mono ?_
  rintro e w1 ⟨v1, ⟨x1, rfl, l1, u1⟩, rfl, hr1, hg1⟩
  go_wp2_with fail
  refine (pick (hr1.alloc _) (by omega) 12 (by decide)).mono ?_
  rintro e w2 ⟨v2, ⟨x2, rfl, l2, u2⟩, rfl, hr2, hg2⟩
  obtain ⟨x3, l3, u3, hc3⟩ := lit_cell w1 [1 + x1, 5] 3 1 5 (by intro x hx; simp at hx; omega) (x2 / 11) (by omega) (by simp; omega)
  have hc4 := hg2.cell hc3 (by have := hr1.b_lt; simp; omega)
  clear hc3
  have q1 : 0 ≤ x2 / 11 := by omega
  have q2 : x2 / 11 < 2 := by omega
  go_wp2_with fail
  go_ret
  exact ⟨_, ⟨_, rfl, l3, u3⟩, rfl, hr2, gb_trans hg1 (gb_trans (World.grownBy_alloc _ _ _) hg2)⟩
/-- A matrix in new memory behind the block b0: any sides, at most 36 numbers. -/
def IsMat (b0 : Nat) (w : World) (v : Value) : Prop := ∃ (r c : Int) (a : Option Addr) (cap : Nat) (xs : List Int), v = .agg #[.int .i64 r, .int .i64 c, .slice a xs.length cap] ∧ I64 r ∧ I64 c ∧ xs.length ≤ 36 ∧ 1 ≤ xs.length ∧ w.ownsRow b0 3 1 (.slice a xs.length cap) xs.length (ints xs)
def GivesMat (a : Option Addr) (n cap : Nat) (w0 w : World) (b P : Nat) (e : Ending) (w' : World) : Prop :=
  ∃ v, IsMat w.heap.size w' v ∧ e = .returned v ∧ Rd a n cap w0 w' b P ∧ w.grownBy w' (some b)

theorem gb_row {w W W' : World} {b : Nat} {row : Option Nat} (h : w.grownBy W (some b)) (hg : W.grownBy W' row) (hrow : ∀ k, row = some k → w.heap.size ≤ k) : w.grownBy W' (some b) :=
  ⟨hg.os.trans h.os, hg.tape.trans h.tape, hg.output.trans h.output, Nat.le_trans h.size hg.size, fun k hk hne => (hg.block k (Nat.lt_of_lt_of_le hk h.size) (fun e => by have := hrow k e.symm; omega)).trans (h.block k hk hne)⟩

/-- The state of the matrix that is drawn: k numbers so far. -/
structure MS (a : Option Addr) (n cap : Nat) (w0 w : World) (b P : Nat) (r c : Int) (W : World) (k : Nat) (sl : Value) (xs : List Int) : Prop where
  own : W.ownsRow (w.heap.size + 2) 3 1 sl k (ints xs)
  t9 : Three W (w.heap.size + 1) (.int .i64 r) (.int .i64 c) sl
  t8 : Three W w.heap.size (.int .i64 0) (.int .i64 0) (.slice none 0 0)
  rd : Rd a n cap w0 W b P
  g : w.grownBy W (some b)
  lt : b < w.heap.size
  le : w0.heap.size ≤ w.heap.size
section
variable {a : Option Addr} {n cap : Nat} {w0 w W W' : World} {b P : Nat} {r c : Int} {k : Nat} {sl : Value} {xs : List Int}
theorem MS.kept (h : MS a n cap w0 w b P r c W k sl xs) {P' : Nat} (hg : W.grownBy W' (some b)) (hr : Rd a n cap w0 W' b P') : MS a n cap w0 w b P' r c W' k sl xs := by
  have := h.lt
  refine ⟨h.own.kept hg ?_, h.t9.kept hg (by simp; omega), h.t8.kept hg (by simp; omega), hr, gb_trans h.g hg, h.lt, h.le⟩
  right
  intro e
  have := (h.own.lt b e).1
  omega
theorem MS.drew (h : MS a n cap w0 w b P r c W k sl xs) : MS a n cap w0 w b P r c W.drew k sl xs :=
  h.kept (gb_drew W _) (h.rd.kept (gb_drew W none) (fun _ e => by cases e))
theorem MS.alloc (h : MS a n cap w0 w b P r c W k sl xs) (o : Obj) : MS a n cap w0 w b P r c (W.alloc o) k sl xs :=
  h.kept (World.grownBy_alloc W o _) (h.rd.alloc o)
theorem MS.blk (h : MS a n cap w0 w b P r c W k sl xs) : w.heap.size + 2 ≤ W.heap.size := by have := h.t9.lt; omega
/-- Behind an append onto the numbers: the matrix' own cells, and the state behind the store. -/
theorem MS.app (h : MS a n cap w0 w b P r c W k sl xs) {w1 : World} {gg cap' : Nat} {x : Int} (ho : w1.ownsRow (w.heap.size + 2) 3 1 (.slice (some ⟨gg, 0, none⟩) (k + 1) cap') (k + 1) (ints xs ++ [.int .i64 x])) (hg : W.grownBy w1 sl.ownBlock) :
    Three w1 (w.heap.size + 1) (.int .i64 r) (.int .i64 c) sl ∧ MS a n cap w0 w b P r c (w1.setCell ⟨w.heap.size + 1, 2, none⟩ (.slice (some ⟨gg, 0, none⟩) (k + 1) cap')) (k + 1) (.slice (some ⟨gg, 0, none⟩) (k + 1) cap') (xs ++ [x]) := by
  have hlt := h.lt
  have hrow : ∀ j, sl.ownBlock = some j → w.heap.size + 2 ≤ j := fun j e => (h.own.lt j e).1
  have t9 := h.t9.kept hg (by intro e; have := hrow _ e.symm; omega)
  have t8 := h.t8.kept hg (by intro e; have := hrow _ e.symm; omega)
  have hb := h.le
  have rd := h.rd.kept hg (fun j e => by have := hrow j e; constructor <;> omega)
  have gs := gb_setCell w1 (w.heap.size + 1) 2 (.slice (some ⟨gg, 0, none⟩) (k + 1) cap')
  refine ⟨t9, ⟨?_, ?_, t8.kept gs (by simp), rd.kept gs (fun j e => by cases e; constructor <;> omega), gb_row (gb_row h.g hg (fun j e => by have := hrow j e; omega)) gs (fun j e => by cases e; omega), h.lt, h.le⟩⟩
  · have := ownsRow_setCell_below ho (a := ⟨w.heap.size + 1, 2, none⟩) (by show w.heap.size + 1 < w.heap.size + 2; omega) (.slice (some ⟨gg, 0, none⟩) (k + 1) cap')
    simpa [ints] using this
  · exact ⟨(World.cell?_setCell_other _ _ _ _ (by simp)).trans t9.c0, (World.cell?_setCell_other _ _ _ _ (by simp)).trans t9.c1, World.cell?_setCell_same _ _ _ t9.c2,
      (World.frozen?_setCell _ _ _ _).trans t9.f0, (World.frozen?_setCell _ _ _ _).trans t9.f1, (World.frozen?_setCell _ _ _ _).trans t9.f2⟩
/-- The state behind the store of the matrix into the result's cells. -/
structure MF (a : Option Addr) (n cap : Nat) (w0 w : World) (b P : Nat) (k : Nat) (sl : Value) (xs : List Int) (W : World) : Prop where
  own : W.ownsRow (w.heap.size + 2) 3 1 sl k (ints xs)
  rd : Rd a n cap w0 W b P
  g : w.grownBy W (some b)
theorem MF.set {a : Option Addr} {n cap : Nat} {w0 w : World} {b P : Nat} {k : Nat} {sl : Value} {xs : List Int} {W : World} (h : MF a n cap w0 w b P k sl xs W) (hb : b < w.heap.size) (hw : w0.heap.size ≤ w.heap.size) (o : Nat) (v : Value) : MF a n cap w0 w b P k sl xs (W.setCell ⟨w.heap.size, o, none⟩ v) :=
  ⟨ownsRow_setCell_below h.own (by show w.heap.size < w.heap.size + 2; omega) v, h.rd.setNew hw (by omega) _ _, gb_setNew h.g (Nat.le_refl _) _ _⟩
theorem MF.set1 {a : Option Addr} {n cap : Nat} {w0 w : World} {b P : Nat} {k : Nat} {sl : Value} {xs : List Int} {W : World} (h : MF a n cap w0 w b P k sl xs W) (hb : b < w.heap.size) (hw : w0.heap.size ≤ w.heap.size) (o : Nat) (v : Value) : MF a n cap w0 w b P k sl xs (W.setCell ⟨w.heap.size + 1, o, none⟩ v) :=
  ⟨ownsRow_setCell_below h.own (by show w.heap.size + 1 < w.heap.size + 2; omega) v, h.rd.setNew (by omega) (by omega) _ _, gb_setNew h.g (by omega) _ _⟩
/-- Behind a store into the numbers. -/
theorem MS.stored {a : Option Addr} {n cap : Nat} {w0 w W : World} {b P : Nat} {r c : Int} {k g sc : Nat} {xs : List Int} (h : MS a n cap w0 w b P r c W k (.slice (some ⟨g, 0, none⟩) k sc) xs) (j : Nat) (x : Int) :
    MS a n cap w0 w b P r c (W.setCell ⟨g, j, none⟩ (.int .i64 x)) k (.slice (some ⟨g, 0, none⟩) k sc) (xs.set j x) := by
  have hg := (h.own.lt g rfl).1
  have hlt := h.lt
  have hle := h.le
  obtain ⟨s1, s2⟩ := own_stored h.own j x
  exact ⟨s1, h.t9.kept s2 (by simp; omega), h.t8.kept s2 (by simp; omega), h.rd.kept s2 (fun q e => by cases e; constructor <;> omega), gb_row h.g s2 (fun q e => by cases e; omega), h.lt, h.le⟩
theorem MF.give {a : Option Addr} {n cap : Nat} {w0 w : World} {b P Q : Nat} {k : Nat} {sa : Option Addr} {sc : Nat} {xs : List Int} {W : World} {r c : Int} (h : MF a n cap w0 w b P k (.slice sa k sc) xs W) (hr : I64 r) (hc : I64 c) (hk : k ≤ 36) (hP : P ≤ Q) (hk1 : 1 ≤ k) :
    GivesMat a n cap w0 w b Q (.returned (.agg #[.int .i64 r, .int .i64 c, .slice sa k sc])) W := by
  have hl := own_len h.own
  refine ⟨_, ⟨r, c, sa, sc, xs, by rw [hl], hr, hc, by omega, by omega, by rw [hl]; exact own_base h.own (by omega)⟩, rfl, h.rd.le hP, h.g⟩
theorem MF.alloc {a : Option Addr} {n cap : Nat} {w0 w : World} {b P : Nat} {k : Nat} {sl : Value} {xs : List Int} {W : World} (h : MF a n cap w0 w b P k sl xs W) (o : Obj) : MF a n cap w0 w b P k sl xs (W.alloc o) :=
  ⟨own_kept h.own (World.grownBy_alloc W o none), h.rd.alloc o, gb_trans h.g (World.grownBy_alloc _ _ _)⟩
theorem MS.mf (h : MS a n cap w0 w b P r c W k sl xs) : MF a n cap w0 w b P k sl xs W := ⟨h.own, h.rd, h.g⟩
end
/-- One of two numbers. -/
def sel (i p q : Int) : Int := if i = 0 then p else q
theorem sel_cell (W : World) (T : TypeId) (i p q : Int) (h0 : 0 ≤ i) (h1 : i < 2) : (W.alloc (.cells #[.int .i64 p, .int .i64 q] T)).cell? ⟨W.heap.size, i.toNat, none⟩ = some (.int .i64 (sel i p q)) := by
  rw [World.cell?_alloc_at _ _ _ _ rfl]
  have : i = 0 ∨ i = 1 := by omega
  rcases this with rfl | rfl <;> rfl

set_option maxRecDepth 100000 in
set_option maxHeartbeats 3200000 in
theorem l20Matrix {a : Option Addr} {n cap : Nat} {w0 w : World} {b P : Nat} (hr : Rd a n cap w0 w b P) (hP : P < 800000) (r c m : Int) (hr1 : 1 ≤ r ∧ r ≤ 5) (hc1 : 1 ≤ c ∧ c ≤ 5) (hm : 0 ≤ m ∧ m ≤ 4294967296) :
    Calls Try.prog 67 #[.pointer (some ⟨b, 0, none⟩), .int .i64 r, .int .i64 c, .int .i64 m] w (GivesMat a n cap w0 w b (P + 400)) := by
  obtain ⟨i0, hi, hz0, hz1, hz2⟩ := info_parts info_int
  obtain ⟨r1, r2⟩ := hr1
  obtain ⟨c1, c2⟩ := hc1
  have rc := sq_bd (a := r) (b := c) (M := 5) (by omega) r2 (by omega) c2
  obtain ⟨K, hK⟩ : ∃ K : Nat, (K : Int) = r * c := ⟨(r * c).toNat, by omega⟩
  obtain ⟨W, hW⟩ : ∃ W, W = (w.alloc (.cells #[.int .i64 0, .int .i64 0, .slice none 0 0] 26)).alloc (.cells #[.int .i64 r, .int .i64 c, .slice none 0 0] 26) := ⟨_, rfl⟩
  have hMS : MS a n cap w0 w b P r c W 0 (.slice none 0 0) [] := by
    rw [hW]
    refine ⟨World.ownsRow_nil _ _ _ _, by simpa using Three.new (w.alloc (.cells #[.int .i64 0, .int .i64 0, .slice none 0 0] 26)) (.int .i64 r) (.int .i64 c) (.slice none 0 0) 26, (Three.new w _ _ _ _).alloc _, (hr.alloc _).alloc _, gb_trans (World.grownBy_alloc _ _ _) (World.grownBy_alloc _ _ _), hr.b_lt, hr.below.size⟩
  rw [hW] at hMS
  clear hW
  have HK : Hid ((K : Int) = r * c) := hK
  have hK25 : K ≤ 25 := by omega
  have hlt0 : ∀ k : Nat, k < K → (k : Int) < r * c := fun k hk => by rw [← hK]; omega
  have hge0 : ∀ k : Nat, ¬ k < K → ¬ (k : Int) < r * c := fun k hk => by rw [← hK]; omega
  have HL := Lib.hid hlt0
  have HG := Lib.hid hge0
  clear hK hlt0 hge0
  go_enter Try.func67, Try.ntmps67
  go_wp2_with fail
  go_loopw [10] (fun i wr => ∃ (k : Nat) (sl : Value) (xs : List Int), k ≤ K ∧ i = .int .i64 k ∧ MS a n cap w0 w b (P + 10 * k) r c wr k sl xs)
    (fun i _ => K - (intOf i).toNat)
  case atStart => exact ⟨0, _, _, Nat.zero_le _, rfl, hMS⟩
  case round =>
    obtain ⟨k, sl, xs, hk, rfl, hS⟩ := hrel
    clear hMS hr
    by_cases hlt : k < K
    · have hki := HL.out k hlt
      obtain ⟨sa, sc, rfl⟩ := own_slice hS.own
      have hA := hS.drew
      have hcA := hA.t9.c2
      have hzA := hA.t9.lt
      clear hS
      go_wp2_with fail
      go_region_law (first
        | (go_simp; go_at_call 82; have _t := hcA; refine (pick hA.rd (by omega) 64 (by decide)).mono ?_; rintro e wB ⟨vB, ⟨xB, rfl, lB, uB⟩, rfl, hrB, hgB⟩; have hB := hA.kept hgB hrB; have hcB := hB.t9.c2; have hzB := hB.t9.lt; have ewB : IntKind.i64.wrap (xB - 32) = xB - 32 := (by rw [IntKind.wrap_i64]; omega); clear hA hcA hzA hgB hrB)
        | (go_simp; go_at_call 50; refine (l1Ring _ _).mono ?_; rintro e w' ⟨rfl, rfl⟩)
        | (go_simp; go_at_call 83; refine (l20Ring hB.rd (by omega) 0 (by decide)).mono ?_; rintro e wC ⟨vC, ⟨xC, rfl, lC, uC⟩, rfl, hrC, hgC⟩; have hC := hB.kept hgC hrC; have hcC := hC.t9.c2; have hzC := hC.t9.lt; clear hB hcB hzB hgC hrC)
        | (go_simp; go_at_call 82; have _t := hcC; (with_reducible refine (pick (hC.alloc _).rd (by omega) 4 (by decide)).mono ?_); rintro e wD ⟨vD, ⟨xD, rfl, lD, uD⟩, rfl, hrD, hgD⟩; have hD := (hC.alloc (.cells #[.int .i64 ((xB - 32) % 4096), .int .i64 xC] 3)).kept hgD hrD; have hc9 := hgD.cell (sel_cell wC 3 (xD / 3) ((xB - 32) % 4096) xC (by omega) (by omega)) (by have := hC.blk; have := hC.lt; simp; omega); have hcD := hD.t9.c2; have hzD := hD.t9.lt; have hyD : w.heap.size < wD.heap.size := (by omega); have ewD : IntKind.i64.wrap (xD.tdiv 3) = xD / 3 := (by rw [Int.tdiv_eq_ediv_of_nonneg (by omega), IntKind.wrap_i64]; omega); have qD1 : 0 ≤ xD / 3 := (by omega); have qD2 : xD / 3 < 2 := (by omega); clear hC hcC hzC hgD hrD)
        | (go_simp; go_at_call 82; have _t := hcC; (with_reducible refine (pick hC.rd (by omega) 4 (by decide)).mono ?_); rintro e wD ⟨vD, ⟨xD, rfl, lD, uD⟩, rfl, hrD, hgD⟩; have hD := hC.kept hgD hrD; have hs9 := sel_cell wD 3 (xD / 3) ((xB - 32) % 4096) xC (by omega) (by omega); have hcD := hD.t9.c2; have hzD := hD.t9.lt; have hyD : w.heap.size < wD.heap.size := (by omega); have ewD : IntKind.i64.wrap (xD.tdiv 3) = xD / 3 := (by rw [Int.tdiv_eq_ediv_of_nonneg (by omega), IntKind.wrap_i64]; omega); have qD1 : 0 ≤ xD / 3 := (by omega); have qD2 : xD / 3 < 2 := (by omega); clear hC hcC hzC hgD hrD)
        | (have _t := hc9; refine step_append_lies _ (by rfl) _ _ 22 (by rfl) (w.heap.size + 2) 3 i0 (.int .i64 0) 1 8 Try.underlying22 hi hz0 hz1 hz2 rfl (by omega) (.slice sa k sc) k (ints xs) (by rfl) (hD.alloc (.cells #[.int .i64 (sel (xD / 3) ((xB - 32) % 4096) xC)] 3)).own ⟨wD.heap.size, 0, none⟩ 1 1 [.int .i64 (sel (xD / 3) ((xB - 32) % 4096) xC)] (by rfl) (by rfl) (World.news_of_block (by simpa using heap_alloc_new wD (.cells #[.int .i64 (sel (xD / 3) ((xB - 32) % 4096) xC)] 3))) (by simp [Value.oneCell']) (by omega) (by unfold maxLen; omega) (by omega) (by have := hD.blk; simp; omega) _ rfl ?_; intro gg cg w1 ho hg hat hlt1; obtain ⟨t9, hE⟩ := (hD.alloc (.cells #[.int .i64 (sel (xD / 3) ((xB - 32) % 4096) xC)] 3)).app ho hg; have hcE := t9.c2; have hfE := t9.f2; clear hD hcD hzD hyD ho hg hc9)
        | (have _t := hs9; refine step_append_lies _ (by rfl) _ _ 22 (by rfl) (w.heap.size + 2) 3 i0 (.int .i64 0) 1 8 Try.underlying22 hi hz0 hz1 hz2 rfl (by omega) (.slice sa k sc) k (ints xs) (by rfl) ((hD.alloc (.cells #[.int .i64 ((xB - 32) % 4096), .int .i64 xC] 3)).alloc (.cells #[.int .i64 (sel (xD / 3) ((xB - 32) % 4096) xC)] 3)).own ⟨wD.heap.size + 1, 0, none⟩ 1 1 [.int .i64 (sel (xD / 3) ((xB - 32) % 4096) xC)] (by rfl) (by rfl) (World.news_of_block (by simpa using heap_alloc_new (wD.alloc (.cells #[.int .i64 ((xB - 32) % 4096), .int .i64 xC] 3)) (.cells #[.int .i64 (sel (xD / 3) ((xB - 32) % 4096) xC)] 3))) (by simp [Value.oneCell']) (by omega) (by unfold maxLen; omega) (by omega) (by have := hD.blk; simp; omega) _ rfl ?_; intro gg cg w1 ho hg hat hlt1; obtain ⟨t9, hE⟩ := ((hD.alloc (.cells #[.int .i64 ((xB - 32) % 4096), .int .i64 xC] 3)).alloc (.cells #[.int .i64 (sel (xD / 3) ((xB - 32) % 4096) xC)] 3)).app ho hg; have hcE := t9.c2; have hfE := t9.f2; clear hD hcD hzD hyD ho hg hs9))
      all_goals go_wp2
      all_goals go_roundw
      all_goals first
        | exact ⟨k + 1, _, _, by omega, by go_num, hE.kept (World.grownBy.refl _ _) (hE.rd.le (by omega))⟩
        | (simp [intOf]; omega)
    · obtain rfl : k = K := by omega
      have hki := HG.out k hlt
      have hKpos : 1 ≤ k := by
        have h1 : (1 : Int) * 1 ≤ r * c := Int.mul_le_mul r1 c1 (by decide) (by omega)
        have h2 := HK.out
        omega
      obtain ⟨sa, sc, rfl⟩ := own_slice hS.own
      go_wp2_with fail
      refine (odd hS.rd (by omega) m hm).mono ?_
      rintro e wA ⟨vA, ⟨o, rfl⟩, rfl, hrA, hgA⟩
      have hA := hS.kept hgA hrA
      clear hS hgA hrA
      cases o with
      | false =>
        have hE := ((hA.mf.set hA.lt hA.le 0 (.int .i64 r)).set hA.lt hA.le 1 (.int .i64 c)).set hA.lt hA.le 2 (.slice sa k sc)
        have q0 := hA.t9.c0
        have q1 := hA.t9.c1
        have q2 := hA.t9.c2
        obtain ⟨p0, p1, p2, p3, p4, p5⟩ := hA.t8
        clear hA
        go_wp2_with fail
        exact bodyPost_ret (v := .agg #[.int .i64 r, .int .i64 c, .slice sa k sc]) (by simp [results, Try.results67, go_sem, p0, p1, p2]) rfl (hE.give (I64.mk (by omega) (by omega)) (I64.mk (by omega) (by omega)) (by omega) (by omega) (by omega))
      | true =>
        have q0 := hA.t9.c0
        go_wp2_with fail
        refine (pick hA.rd (by omega) 4 (by decide)).mono ?_
        rintro e wB ⟨vB, ⟨xB, rfl, lB, uB⟩, rfl, hrB, hgB⟩
        have hB := hA.kept hgB hrB
        clear hA hgB hrB q0
        have hlt := hB.lt
        have hle := hB.le
        have hx4 : xB = 0 ∨ xB = 1 ∨ xB = 2 ∨ xB = 3 := by omega
        rcases hx4 with rfl | rfl | rfl | rfl
        · go_wp2_with fail
          refine (pick (hB.alloc _).rd (by omega) 3 (by decide)).mono ?_
          rintro e wC ⟨vC, ⟨xC, rfl, lC, uC⟩, rfl, hrC, hgC⟩
          obtain ⟨x7, l7, u7, hc7⟩ := lit_cell wB [0, 6, -1] 3 (-1) 6 (by intro x hx; simp at hx; omega) xC lC (by simp; omega)
          have hc8 := hgC.cell hc7 (by have := hB.blk; simp; omega)
          have hC := (hB.alloc _).kept hgC hrC
          clear hc7 hB hgC hrC
          have uC' : xC < 3 := by omega
          obtain ⟨q0, q1, q2, q3, q4, q5⟩ := hC.t9
          obtain ⟨p0, p1, p2, p3, p4, p5⟩ := hC.t8
          have hE := hC.mf.set1 hlt hle 0 (.int .i64 x7)
          clear hC
          go_wp2_with fail
          exact bodyPost_ret (v := .agg #[.int .i64 x7, .int .i64 c, .slice sa k sc]) (by simp [results, Try.results67, go_sem, p0, p1, p2]) rfl (((((hE).set hlt hle 0 (.int .i64 x7)).set hlt hle 1 (.int .i64 c)).set hlt hle 2 (.slice sa k sc)).give (I64.mk (by omega) (by omega)) (I64.mk (by omega) (by omega)) (by omega) (by omega) (by omega))
        · obtain ⟨q0, q1, q2, q3, q4, q5⟩ := hB.t9
          obtain ⟨p0, p1, p2, p3, p4, p5⟩ := hB.t8
          have hE := hB.mf.set1 hlt hle 1 (.int .i64 (c + 1))
          clear hB
          go_wp2_with fail
          exact bodyPost_ret (v := .agg #[.int .i64 r, .int .i64 (c + 1), .slice sa k sc]) (by simp [results, Try.results67, go_sem, p0, p1, p2]) rfl (((((hE).set hlt hle 0 (.int .i64 r)).set hlt hle 1 (.int .i64 (c + 1))).set hlt hle 2 (.slice sa k sc)).give (I64.mk (by omega) (by omega)) (I64.mk (by omega) (by omega)) (by omega) (by omega) (by omega))
        · have hown1 := (hB.alloc (.cells #[.int .i64 1] 3)).own
          have hblk := hB.blk
          obtain ⟨q0, q1, q2, q3, q4, q5⟩ := hB.t9
          go_wp2_with (at_builtin; refine wpList_append_lies _ rfl _ _ 22 rfl (w.heap.size + 2) 3 i0 (.int .i64 0) 1 8 Try.underlying22 hi hz0 hz1 hz2 rfl (by decide) (.slice sa k sc) k (ints xs) rfl hown1 ⟨wB.heap.size, 0, none⟩ 1 1 [.int .i64 1] rfl rfl (World.news_of_block (cs := #[.int .i64 1]) (t := 3) (fr := (0, 0)) (heap_alloc_new wB _)) (by simp [Value.oneCell']) (by decide) (by unfold maxLen; omega) (by omega) (by simp; omega) _ rfl ?_)
          intro gg cg w1 ho hg hat hlt1
          obtain ⟨t9, hE⟩ := (hB.alloc (.cells #[.int .i64 1] 3)).app ho hg
          obtain ⟨p0, p1, p2, p3, p4, p5⟩ := hE.t8
          obtain ⟨q0, q1, q2, q3, q4, q5⟩ := t9
          have hF := hE.mf
          clear hB ho hg hE hown1
          go_wp2_with fail
          exact bodyPost_ret (v := .agg #[.int .i64 r, .int .i64 c, .slice (some ⟨gg, 0, none⟩) (k + 1) cg]) (by simp [results, Try.results67, go_sem, p0, p1, p2]) rfl (((((hF).set hlt hle 0 (.int .i64 r)).set hlt hle 1 (.int .i64 c)).set hlt hle 2 (.slice (some ⟨gg, 0, none⟩) (k + 1) cg)).give (I64.mk (by omega) (by omega)) (I64.mk (by omega) (by omega)) (by omega) (by omega) (by omega))
        · obtain ⟨g8, cp8, he8, hb81, hb82⟩ := own_form hB.own (by omega)
          obtain ⟨rfl, rfl⟩ : sa = some ⟨g8, 0, none⟩ ∧ sc = cp8 := by simpa using he8
          have hA0 := hB.drew
          have hA1 := (hB.alloc (.cells #[.int .i64 (-1), .int .i64 4096] 3)).drew
          have hblk := hB.blk
          have hcB := hB.t9.c2
          have hkp : 0 < k := by omega
          have hzB := hB.t9.lt
          clear hB he8
          go_wp2_with fail
          go_region_law (first
            | (go_simp; go_at_call 82; have _t := hA0; (with_reducible refine (pick hA1.rd (by omega) 2 (by decide)).mono ?_); rintro e wC ⟨vC, ⟨xC, rfl, lC, uC⟩, rfl, hrC, hgC⟩; have hC := hA1.kept hgC hrC; have hc9 := hgC.cell (sel_cell wB 3 xC (-1) 4096 (by omega) (by omega)) (by simp; omega); have hcC := hC.t9.c2; have hzC := hC.t9.lt; have hyC : w.heap.size < wC.heap.size := (by omega); have hold := own_cell hC.own 0 (by omega); have hfz := hC.own.frozenAt 0; have uC' : xC < 2 := (by omega); have hg8 : g8 < wC.heap.size := (hC.own.lt g8 rfl).2; have hG := (((hC.stored 0 (sel xC (-1) 4096)).mf.set hlt hle 0 (.int .i64 r)).set hlt hle 1 (.int .i64 c)).set hlt hle 2 (.slice (some ⟨g8, 0, none⟩) k sc); obtain ⟨q0, q1, q2, q3, q4, q5⟩ := hC.t9; obtain ⟨p0, p1, p2, p3, p4, p5⟩ := hC.t8; clear hA0 hA1 hgC hrC)
            | (go_simp; go_at_call 82; have _t := hA0; (with_reducible refine (pick hA0.rd (by omega) 2 (by decide)).mono ?_); rintro e wC ⟨vC, ⟨xC, rfl, lC, uC⟩, rfl, hrC, hgC⟩; have hC := hA0.kept hgC hrC; have hc9 := sel_cell wC 3 xC (-1) 4096 (by omega) (by omega); have hcC := hC.t9.c2; have hzC := hC.t9.lt; have hyC : w.heap.size < wC.heap.size := (by omega); have hold := own_cell hC.own 0 (by omega); have hfz := hC.own.frozenAt 0; have uC' : xC < 2 := (by omega); have hg8 : g8 < wC.heap.size := (hC.own.lt g8 rfl).2; have hG := ((((hC.stored 0 (sel xC (-1) 4096)).mf.set hlt hle 0 (.int .i64 r)).set hlt hle 1 (.int .i64 c)).set hlt hle 2 (.slice (some ⟨g8, 0, none⟩) k sc)).alloc (.cells #[.int .i64 (-1), .int .i64 4096] 3); obtain ⟨q0, q1, q2, q3, q4, q5⟩ := hC.t9; obtain ⟨p0, p1, p2, p3, p4, p5⟩ := hC.t8; clear hA0 hA1 hgC hrC))
          all_goals go_wp2_with fail
          all_goals exact bodyPost_ret (v := .agg #[.int .i64 r, .int .i64 c, .slice (some ⟨g8, 0, none⟩) k sc]) (by simp [results, Try.results67, go_sem, p0, p1, p2, hyC]) rfl (hG.give (I64.mk (by omega) (by omega)) (I64.mk (by omega) (by omega)) (by omega) (by omega) (by omega))
end Go.Proofs.Ytfnajbifdilfmaa
