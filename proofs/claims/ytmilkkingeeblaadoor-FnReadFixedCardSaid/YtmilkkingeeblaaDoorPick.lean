/- The contracts of the reader of codes: l20Open, pick, odd. A code is read byte by byte; each call returns a number in its range, moves the reader's count by one at most and turns nothing else. Conditions: the code is a readable slice of bytes; fewer than a million picks. -/
import Derived.Test.YtmilkkingeeblaaDoorRand
import Derived.Deep.QuietTactic
import Derived.BigQuiet
namespace Go.Proofs.YtmilkkingeeblaaDoor
open Go Go.RowKit

theorem gb_drewN (w : World) (n : Nat) (row : Option Nat) : w.grownBy (w.drewN n) row := ⟨rfl, rfl, rfl, Nat.le_refl _, fun _ _ _ => rfl⟩
theorem gb_trans {a b c : World} {row : Option Nat} (h : a.grownBy b row) (k : b.grownBy c row) : a.grownBy c row :=
  ⟨k.os.trans h.os, k.tape.trans h.tape, k.output.trans h.output, Nat.le_trans h.size k.size, fun i hi hne => (k.block i (Nat.lt_of_lt_of_le hi h.size) hne).trans (h.block i hi hne)⟩
theorem gb_setCell (w : World) (b o : Nat) (v : Value) : w.grownBy (w.setCell ⟨b, o, none⟩ v) (some b) :=
  ⟨rfl, rfl, rfl, by simp, fun k _ hk => Below.heap_setCell _ _ _ k (fun e => hk (by rw [e]))⟩

/-- The reader's state: a block of two cells: the code (n bytes, as it lay in the world w0) and a count of at most P. -/
structure Rd (a : Option Addr) (n cap : Nat) (w0 w : World) (b P : Nat) : Prop where
  row : ∃ z, IsRow .u8 w0 a n cap z
  n_le : n ≤ 2000
  below : Below w0.heap.size w0 w
  b_ge : w0.heap.size ≤ b
  b_lt : b < w.heap.size
  c0 : w.cell? ⟨b, 0, none⟩ = some (.slice a n cap)
  c1 : ∃ p : Nat, p ≤ P ∧ w.cell? ⟨b, 1, none⟩ = some (.int .i64 p)
  f1 : w.frozen? ⟨b, 1, none⟩ = false

theorem Rd.kept {a : Option Addr} {n cap : Nat} {w0 w w' : World} {b P : Nat} {row : Option Nat} (h : Rd a n cap w0 w b P) (hg : w.grownBy w' row) (hrow : ∀ k, row = some k → w0.heap.size ≤ k ∧ k ≠ b) : Rd a n cap w0 w' b P := by
  have hne : some b ≠ row := fun e => (hrow b e.symm).2 rfl
  obtain ⟨p, hp, hc⟩ := h.c1
  exact ⟨h.row, h.n_le, h.below.grown hg (Nat.le_trans h.b_ge (Nat.le_of_lt h.b_lt)) (fun k hk => (hrow k hk).1), h.b_ge, Nat.lt_of_lt_of_le h.b_lt hg.size,
    hg.cell h.c0 hne, ⟨p, hp, hg.cell hc hne⟩, (World.frozen?_of_block (hg.block b h.b_lt hne)).trans h.f1⟩
theorem Rd.alloc {a : Option Addr} {n cap : Nat} {w0 w : World} {b P : Nat} (h : Rd a n cap w0 w b P) (o : Obj) : Rd a n cap w0 (w.alloc o) b P :=
  h.kept (World.grownBy_alloc w o none) (fun _ e => by cases e)
theorem Rd.le {a : Option Addr} {n cap : Nat} {w0 w : World} {b P Q : Nat} (h : Rd a n cap w0 w b P) (hq : P ≤ Q) : Rd a n cap w0 w b Q := by
  obtain ⟨p, hp, hc⟩ := h.c1
  exact ⟨h.row, h.n_le, h.below, h.b_ge, h.b_lt, h.c0, ⟨p, Nat.le_trans hp hq, hc⟩, h.f1⟩
theorem Rd.next {a : Option Addr} {n cap : Nat} {w0 w : World} {b P p : Nat} (h : Rd a n cap w0 w b P) (hp : p ≤ P) (hc : w.cell? ⟨b, 1, none⟩ = some (.int .i64 p)) : Rd a n cap w0 (w.setCell ⟨b, 1, none⟩ (.int .i64 ((p : Int) + 1))) b (P + 1) :=
  ⟨h.row, h.n_le, h.below.setCell h.b_ge _, h.b_ge, by simpa using h.b_lt, (World.cell?_setCell_other _ _ _ _ (by simp)).trans h.c0,
    ⟨p + 1, by omega, World.cell?_setCell_same _ _ _ hc⟩, (World.frozen?_setCell _ _ _ _).trans h.f1⟩
theorem Rd.drewN {a : Option Addr} {n cap : Nat} {w0 w : World} {b P : Nat} (h : Rd a n cap w0 w b P) (k : Nat) : Rd a n cap w0 (w.drewN k) b P :=
  h.kept (gb_drewN w k none) (fun _ e => by cases e)

/-- A byte of the code, in the world as it stands. -/
theorem Rd.bytes {a : Option Addr} {n cap : Nat} {w0 w : World} {b P : Nat} (h : Rd a n cap w0 w b P) (hn : 0 < n) :
    ∃ blk off : Nat, a = some ⟨blk, off, none⟩ ∧ blk ≠ b ∧ ∀ i, i < n → ∃ y : Int, 0 ≤ y ∧ y ≤ 255 ∧ w.cell? ⟨blk, off + i, none⟩ = some (.int .u8 y) := by
  obtain ⟨z, hz⟩ := h.row
  rcases hz with ⟨_, h0, _⟩ | ⟨x, rfl, hl, _, hzl, hcell, hwf⟩
  · omega
  · obtain ⟨blk, off, spot⟩ := x
    have h0 := hcell 0 (by omega)
    have hspot : spot = none := by simpa [Addr.add] using World.cell?_spot h0
    subst hspot
    have hblk : blk < w0.heap.size := World.block_lt_of_cell? w0 _ h0
    refine ⟨blk, off, rfl, fun e => by have := h.b_ge; omega, fun i hi => ?_⟩
    have hi' : i < z.length := by omega
    have hc := hcell i hi'
    have hw := hwf (z.getD i 0) (by rw [List.getD_eq_getElem?_getD, List.getElem?_eq_getElem hi']; exact List.getElem_mem _)
    have hc' : w0.cell? ⟨blk, off + i, none⟩ = some (.int .u8 (z.getD i 0)) := by
      rcases Nat.eq_zero_or_pos i with rfl | hp
      · simpa [Addr.add] using hc
      · simpa [Addr.add, Nat.ne_of_gt hp] using hc
    simp only [Lit.wf, IntKind.min, IntKind.max, IntKind.signed, IntKind.bits] at hw
    generalize z.getD i 0 = y at hw hc'
    simp at hw
    exact ⟨y, by omega, by omega, (h.below.cell (p := ⟨blk, off + i, none⟩) hblk).trans hc'⟩

theorem Rd.setNew {a : Option Addr} {n cap : Nat} {w0 w : World} {b P : Nat} (h : Rd a n cap w0 w b P) {B : Nat} (hB : w0.heap.size ≤ B) (hne : B ≠ b) (o : Nat) (v : Value) : Rd a n cap w0 (w.setCell ⟨B, o, none⟩ v) b P :=
  h.kept (gb_setCell w B o v) (fun k e => by cases e; exact ⟨hB, hne⟩)

/-- What a drawing function leaves: a value with V, the reader moved by at most so many picks, new memory, nothing else. -/
def Gives (a : Option Addr) (n cap : Nat) (w0 w : World) (b P : Nat) (V : Value → Prop) (e : Ending) (w' : World) : Prop :=
  ∃ v, V v ∧ e = .returned v ∧ Rd a n cap w0 w' b P ∧ w.grownBy w' (some b)
/-- An integer in a range. -/
def IntIn (lo hi : Int) (v : Value) : Prop := ∃ x : Int, v = .int .i64 x ∧ lo ≤ x ∧ x ≤ hi
def IsBool (v : Value) : Prop := ∃ x : Bool, v = .bool x

theorem xor_bd (x y : Int) (hx : 0 ≤ x ∧ x < 1099511627776) (hy : 0 ≤ y ∧ y < 1099511627776) : 0 ≤ bits .xor .i64 x y ∧ bits .xor .i64 x y < 1099511627776 := by
  obtain ⟨n, rfl⟩ := Int.eq_ofNat_of_zero_le hx.1
  obtain ⟨m, rfl⟩ := Int.eq_ofNat_of_zero_le hy.1
  have h : bits .xor .i64 (n : Int) (m : Int) = IntKind.i64.wrap ((n ^^^ m : Nat) : Int) := by
    show IntKind.i64.wrap ((BitVec.ofInt 64 (n : Int) ^^^ BitVec.ofInt 64 (m : Int)).toNat : Int) = _
    rw [BitVec.toNat_xor, BitVec.ofInt_natCast, BitVec.ofInt_natCast, BitVec.toNat_ofNat, BitVec.toNat_ofNat, Nat.mod_eq_of_lt (by omega), Nat.mod_eq_of_lt (by omega)]
  have hlt : n ^^^ m < 2 ^ 40 := Nat.xor_lt_two_pow (by omega) (by omega)
  rw [h, IntKind.wrap_i64]
  omega

theorem xor_tmod (x m : Int) (hx : 0 ≤ x ∧ x < 1099511627776) (hm : 1 ≤ m) : 0 ≤ (bits .xor .i64 x (x / 64)).tmod m ∧ (bits .xor .i64 x (x / 64)).tmod m ≤ m - 1 := by
  have h := xor_bd x (x / 64) hx (by omega)
  rw [Int.tmod_eq_emod_of_nonneg h.1]
  have h1 := Int.emod_nonneg (bits .xor .i64 x (x / 64)) (show m ≠ 0 by omega)
  have h2 := Int.emod_lt_of_pos (bits .xor .i64 x (x / 64)) (show 0 < m by omega)
  omega

/-- The opened reader. -/
theorem l20Open (a : Option Addr) (n cap : Nat) (z : List Int) (w : World) (h : IsRow .u8 w a n cap z) : Calls Tryd.prog 21 #[.slice a n cap] w fun e w' =>
    ∃ n' b : Nat, e = .returned (.pointer (some ⟨b, 0, none⟩)) ∧ Rd a n' cap w w' b 0 ∧ w.grownBy w' none := by
  have hcap : n ≤ cap := by
    rcases h with ⟨_, h1, h2, _⟩ | ⟨_, _, h1, _⟩ <;> omega
  have fin : ∀ n' : Nat, n' ≤ 2000 → n' ≤ n → Rd a n' cap w (w.alloc (.cells #[.slice a n' cap, .int .i64 0] 46)) w.heap.size 0 := fun n' h1 h2 => by
    refine ⟨⟨z, ?_⟩, h1, (Below.refl _ _).alloc (Nat.le_refl _) _, Nat.le_refl _, by simp, by rw [World.cell?_alloc_at _ _ _ _ rfl]; rfl, ⟨0, Nat.le_refl _, by rw [World.cell?_alloc_at _ _ _ _ rfl]; rfl⟩, World.frozen?_alloc_at _ _ _ _ rfl⟩
    rcases h with ⟨e1, e2, e3, e4⟩ | ⟨x, e1, e2, e3, e4, e5, e6⟩
    · exact .inl ⟨e1, by omega, e3, e4⟩
    · exact .inr ⟨x, e1, by omega, e3, e4, e5, e6⟩
  by_cases hn : 2000 < n
  · have h1 : (2000 : Int) < (n : Int) := by omega
    have h2 : (2000 : Int) ≤ (cap : Int) := by omega
    go_enter Tryd.func21, Tryd.ntmps21
    go_wp2
    go_ret
    exact ⟨2000, _, rfl, fin 2000 (Nat.le_refl _) (by omega), World.grownBy_alloc _ _ _⟩
  · have h1 : (n : Int) ≤ 2000 := by omega
    go_enter Tryd.func21, Tryd.ntmps21
    go_wp2
    go_ret
    exact ⟨n, _, rfl, fin n (by omega) (Nat.le_refl _), World.grownBy_alloc _ _ _⟩
theorem pick {a : Option Addr} {n cap : Nat} {w0 w : World} {b P : Nat} (hr : Rd a n cap w0 w b P) (hP : P < 1000000) (m : Int) (hm : 1 ≤ m ∧ m ≤ 4294967296) :
    Calls Tryd.prog 30 #[.pointer (some ⟨b, 0, none⟩), .int .i64 m] w (Gives a n cap w0 w b (P + 1) (IntIn 0 (m - 1))) := by
  obtain ⟨p, hp, hc1⟩ := hr.c1
  have hc0 := hr.c0
  have hf1 := hr.f1
  obtain ⟨m1, m2⟩ := hm
  have hnx := hr.next hp hc1
  have hgb : w.grownBy (w.setCell ⟨b, 1, none⟩ (.int .i64 ((p : Int) + 1))) (some b) := gb_setCell _ _ _ _
  rcases Nat.eq_zero_or_pos n with rfl | hn
  · go_enter Tryd.func30, Tryd.ntmps30
    go_wp2
    go_ret
    exact ⟨_, ⟨0, rfl, by omega, by omega⟩, rfl, hnx, hgb⟩
  · obtain ⟨blk, off, rfl, hne, hby⟩ := hnx.bytes hn
    have hn0 : ((n : Int) == 0) = false := by simp; omega
    by_cases hlt : p < n
    · obtain ⟨y, y0, y1, hy⟩ := hby p hlt
      clear hby
      go_enter Tryd.func30, Tryd.ntmps30
      go_wp2
      go_ret
      have h1 := Int.emod_nonneg y (show m ≠ 0 by omega)
      have h2 := Int.emod_lt_of_pos y (show 0 < m by omega)
      exact ⟨_, ⟨_, rfl, h1, by omega⟩, rfl, hnx, hgb⟩
    · have hi1 : p % n < n := Nat.mod_lt _ hn
      have hi2 : (p * 7 + 3) % n < n := Nat.mod_lt _ hn
      obtain ⟨y, y0, y1, hy⟩ := hby (p % n) hi1
      obtain ⟨z, z0, z1, hz⟩ := hby ((p * 7 + 3) % n) hi2
      clear hby
      have hge : ¬ (p : Int) < (n : Int) := by omega
      have g2 : 0 ≤ ((p : Int) * 7 + 3) % (n : Int) := Int.emod_nonneg _ (by omega)
      have l2 : ((p : Int) * 7 + 3) % (n : Int) < (n : Int) := Int.emod_lt_of_pos _ (by omega)
      have q1 : 0 ≤ (p : Int) / (n : Int) := Int.ediv_nonneg (by omega) (by omega)
      have q2 : (p : Int) / (n : Int) ≤ (p : Int) := Int.ediv_le_self _ (by omega)
      have l1 : ((p % n : Nat) : Int) < (n : Int) := by omega
      go_enter Tryd.func30, Tryd.ntmps30
      go_wp2
      go_quiet (fail)
      go_wp2
      go_ret
      have hb := xor_tmod (y * 131 + z * 1117 + (p : Int) * 29 + (p : Int) / (n : Int) * 53) m (by omega) m1
      exact ⟨_, ⟨_, rfl, hb.1, hb.2⟩, rfl, hnx.drewN _, gb_trans hgb (gb_drewN _ _ _)⟩
end Go.Proofs.YtmilkkingeeblaaDoor
