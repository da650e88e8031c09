/- Plain arithmetic of the ring numbers, no program in sight: the mask is the remainder, the sign bit's exclusive-or is the shift by half the ring, and the definitions that the contracts speak of. -/
import Derived.WalkKit
namespace Go.Proofs.YtmilkkingeeblaaDoor
open Go Go.RowKit

theorem and_mask (n : Int) : bits .and .i64 n 4095 = n % 4096 := by
  show IntKind.i64.wrap ((BitVec.ofInt 64 n &&& BitVec.ofInt 64 4095).toNat : Int) = _
  have h : (BitVec.ofInt 64 n &&& BitVec.ofInt 64 4095).toNat = (n % 18446744073709551616).toNat % 4096 := by
    rw [BitVec.toNat_and, BitVec.toNat_ofInt]
    have : (BitVec.ofInt 64 4095).toNat = 2 ^ 12 - 1 := by decide
    rw [this, Nat.and_two_pow_sub_one_eq_mod]
    rfl
  rw [h, IntKind.wrap_i64]
  omega

theorem and_15 (n : Int) : bits .and .i64 n 15 = n % 16 := by
  show IntKind.i64.wrap ((BitVec.ofInt 64 n &&& BitVec.ofInt 64 15).toNat : Int) = _
  have h : (BitVec.ofInt 64 n &&& BitVec.ofInt 64 15).toNat = (n % 18446744073709551616).toNat % 16 := by
    rw [BitVec.toNat_and, BitVec.toNat_ofInt]
    have : (BitVec.ofInt 64 15).toNat = 2 ^ 4 - 1 := by decide
    rw [this, Nat.and_two_pow_sub_one_eq_mod]
    rfl
  rw [h, IntKind.wrap_i64]
  omega

theorem xor_nat_parts : ∀ a < 64, ∀ b < 64, (64 * a + b) ^^^ 2048 = if 64 * a + b < 2048 then 64 * a + b + 2048 else 64 * a + b - 2048 := by decide +kernel
theorem xor_nat_sign (x : Nat) (h : x < 4096) : x ^^^ 2048 = if x < 2048 then x + 2048 else x - 2048 := by
  have := xor_nat_parts (x / 64) (by omega) (x % 64) (by omega)
  rwa [Nat.div_add_mod] at this

theorem xor_sign (x : Int) (h0 : 0 ≤ x) (h1 : x ≤ 4095) : bits .xor .i64 x 2048 = if x < 2048 then x + 2048 else x - 2048 := by
  obtain ⟨n, rfl⟩ := Int.eq_ofNat_of_zero_le h0
  show IntKind.i64.wrap ((BitVec.ofInt 64 (n : Int) ^^^ BitVec.ofInt 64 2048).toNat : Int) = _
  have h : (BitVec.ofInt 64 (n : Int) ^^^ BitVec.ofInt 64 2048).toNat = n ^^^ 2048 := by
    rw [BitVec.toNat_xor, BitVec.ofInt_natCast, BitVec.toNat_ofNat, Nat.mod_eq_of_lt (by omega)]
    have : (BitVec.ofInt 64 2048).toNat = 2048 := by decide
    rw [this]
  rw [h, xor_nat_sign n (by omega), IntKind.wrap_i64]
  split <;> split <;> omega

/-- A ring number: 0 to 4095. -/
def rv (x : Int) : Bool := decide (0 ≤ x ∧ x ≤ 4095)
theorem rv_iff {x : Int} : rv x = true ↔ 0 ≤ x ∧ x ≤ 4095 := by simp [rv]
theorem rv_no {x : Int} : rv x = false ↔ x < 0 ∨ 4095 < x := by simp [rv]; omega
theorem rv_mod (n : Int) : rv (n % 4096) = true := rv_iff.2 (by omega)
/-- The signed number of a ring number; -4096 for other numbers. -/
def sgn (x : Int) : Int := if rv x then (if x < 2048 then x else x - 4096) else -4096
theorem sgn_bd (x : Int) : -4096 ≤ sgn x ∧ sgn x ≤ 2047 := by
  unfold sgn rv; split <;> (simp at *; try split) <;> omega
def addr (a b : Int) : Int := if rv a && rv b then (a + b) % 4096 else -1
def subr (a b : Int) : Int := if rv a && rv b then (a - b) % 4096 else -1
def mulr (a b : Int) : Int := if rv a && rv b then a * b % 4096 else -1
/-- The first share of a split number. -/
def splf (x r : Int) : Int := if rv x && rv r then r else -1
/-- The shares of a sum with a known number. -/
def akf (a b x : Int) : Int := if rv a && rv b && rv x then (a + x) % 4096 else -1
def aks (a b x : Int) : Int := if rv a && rv b && rv x then b else -1
def cutr (x : Int) : Int := if rv x then sgn x / 16 % 4096 else -1
def mulf (a b : Int) : Int := if rv a && rv b then sgn a * sgn b / 16 % 4096 else -1
/-- A seed: 1 to 2147483646. -/
def sv (x : Int) : Bool := decide (1 ≤ x ∧ x ≤ 2147483646)
theorem sv_iff {x : Int} : sv x = true ↔ 1 ≤ x ∧ x ≤ 2147483646 := by simp [sv]
theorem sv_no {x : Int} : sv x = false ↔ x < 1 ∨ 2147483646 < x := by simp [sv]; omega
/-- The next seed. -/
def nxt (s : Int) : Int := 48271 * s % 2147483647
theorem nxt_bd (s : Int) : 0 ≤ nxt s ∧ nxt s ≤ 2147483646 := by unfold nxt; omega
theorem nxt_pos (s : Int) (h : sv s = true) : sv (nxt s) = true := by
  rw [sv_iff] at *; unfold nxt; omega

/-- The ring number behind a seed, -1 for other numbers; the seed behind it, 0 for other numbers. -/
def rnum (s : Int) : Int := if sv s then nxt s / 8 % 4096 else -1
def rnx (s : Int) : Int := if sv s then nxt s else 0
/-- The seed behind k steps, and the ring numbers behind a seed. -/
def rseed (s : Int) : Nat → Int
  | 0 => s
  | k + 1 => nxt (rseed s k)
def rlist (s : Int) (k : Nat) : List Int := (List.range k).map fun i => rseed s (i + 1) / 8 % 4096
theorem rseed_bd (s : Int) (h : 0 ≤ s ∧ s ≤ 2147483646) (k : Nat) : 0 ≤ rseed s k ∧ rseed s k ≤ 2147483646 := by
  cases k with
  | zero => exact h
  | succ k => exact nxt_bd _
theorem rseed_sv (s : Int) (h : sv s = true) (k : Nat) : sv (rseed s k) = true := by
  induction k with
  | zero => exact h
  | succ k ih => exact nxt_pos _ ih
theorem rlist_len (s : Int) (k : Nat) : (rlist s k).length = k := by simp [rlist]
theorem rlist_succ (s : Int) (k : Nat) : rlist s (k + 1) = rlist s k ++ [rseed s (k + 1) / 8 % 4096] := by
  simp [rlist, List.range_succ]
theorem rseed_add (s : Int) (j k : Nat) : rseed s (j + k) = rseed (rseed s j) k := by
  induction k with
  | zero => rfl
  | succ k ih => show nxt (rseed s (j + k)) = _; rw [ih]; rfl
theorem rlist_add (s : Int) (j k : Nat) : rlist s (j + k) = rlist s j ++ rlist (rseed s j) k := by
  induction k with
  | zero => simp [rlist]
  | succ k ih => rw [← Nat.add_assoc, rlist_succ, ih, rlist_succ, ← rseed_add, List.append_assoc]; rfl
theorem rlist_rv (s : Int) (k : Nat) : ∀ x ∈ rlist s k, rv x = true := by
  intro x hx; simp [rlist] at hx; obtain ⟨i, _, rfl⟩ := hx; exact rv_mod _

theorem i64_bd {a : Int} (h : (Lit.int .i64 a).wf = true) : -9223372036854775808 ≤ a ∧ a ≤ 9223372036854775807 := by
  simpa [Lit.wf, IntKind.min, IntKind.max, IntKind.signed, IntKind.bits] using h
theorem i64_wf {a : Int} (h1 : -9223372036854775808 ≤ a) (h2 : a ≤ 9223372036854775807) : (Lit.int .i64 a).wf = true := by
  simp [Lit.wf, IntKind.min, IntKind.max, IntKind.signed, IntKind.bits]; omega

theorem sq_bd {a b M : Int} (ha : 0 ≤ a) (ha' : a ≤ M) (hb : 0 ≤ b) (hb' : b ≤ M) : 0 ≤ a * b ∧ a * b ≤ M * M :=
  ⟨Int.mul_nonneg ha hb, Int.mul_le_mul ha' hb' hb (by omega)⟩
theorem sgn_mul_bd (a b : Int) : -16777216 ≤ sgn a * sgn b ∧ sgn a * sgn b ≤ 16777216 := by
  have h1 := sgn_bd a
  have h2 := sgn_bd b
  have hA : (sgn a).natAbs ≤ 4096 := by omega
  have hB : (sgn b).natAbs ≤ 4096 := by omega
  have h3 : (sgn a * sgn b).natAbs ≤ 4096 * 4096 := by rw [Int.natAbs_mul]; exact Nat.mul_le_mul hA hB
  omega

theorem tm (n : Int) : -4096 < n.tmod 4096 ∧ n.tmod 4096 < 4096 ∧ (n.tmod 4096 + 4096) % 4096 = n % 4096 := by
  rcases Int.le_total 0 n with h | h
  · rw [Int.tmod_eq_emod_of_nonneg h]; omega
  · obtain ⟨m, rfl⟩ : ∃ m, n = -m := ⟨-n, by omega⟩
    rw [Int.neg_tmod, Int.tmod_eq_emod_of_nonneg (by omega)]; omega
theorem l1ring_eq (n : Int) : (wrap64 (n.tmod 4096 + 4096)).tmod 4096 = n % 4096 := by
  have h := tm n
  have e : wrap64 (n.tmod 4096 + 4096) = n.tmod 4096 + 4096 := by unfold wrap64; omega
  rw [e, Int.tmod_eq_emod_of_nonneg (by omega)]; omega
/-! ### The laws of the ring numbers, in the tests' own spelling -/
theorem rv_eq (x : Int) : (rv x == (x % 4096 == x)) = true := by
  cases h : rv x with
  | true => have := rv_iff.1 h; simp; omega
  | false => have := rv_no.1 h; simp; omega
theorem sgn_ring (n : Int) : (sgn (n % 4096) % 4096 == n % 4096) = true := by
  simp only [sgn, rv_mod, if_true]
  split <;> simp <;> omega
theorem sgn_yes {x : Int} (h : rv x = true) : -4096 ≤ 2 * sgn x ∧ 2 * sgn x < 4096 ∧ (sgn x % 4096 == x) = true := by
  have h1 := rv_iff.1 h
  simp only [sgn, h, if_true]
  split <;> simp <;> omega
theorem sgn_bad {x : Int} (h : rv x = false) : (sgn x == -4096) = true := by simp [sgn, h]
theorem addr_yes {a b : Int} (ha : rv a = true) (hb : rv b = true) : 0 ≤ addr a b ∧ (subr (addr a b) b == a) = true ∧ (addr a 0 == a) = true ∧ rv (addr a b) = true := by
  have h1 := rv_iff.1 ha
  have h2 := rv_iff.1 hb
  have h0 : rv 0 = true := by decide
  simp only [addr, subr, ha, hb, h0, rv_mod, Bool.and_self, if_true, beq_iff_eq, and_true]
  omega
theorem addr_comm' (a b : Int) : (addr a b != addr b a) = false := by simp [addr, Bool.and_comm, Int.add_comm]
theorem addr_bad {a b : Int} (h : rv a = false ∨ rv b = false) : addr a b = -1 := by rcases h with h | h <;> simp [addr, h]
theorem subr_bad {a b : Int} (h : rv a = false ∨ rv b = false) : subr a b = -1 := by rcases h with h | h <;> simp [subr, h]
theorem mulr_bad {a b : Int} (h : rv a = false ∨ rv b = false) : mulr a b = -1 := by rcases h with h | h <;> simp [mulr, h]
theorem mulf_bad {a b : Int} (h : rv a = false ∨ rv b = false) : mulf a b = -1 := by rcases h with h | h <;> simp [mulf, h]
theorem subr_yes {a b : Int} (ha : rv a = true) (hb : rv b = true) : 0 ≤ subr a b ∧ (addr (subr a b) b == a) = true ∧ (subr a a == 0) = true := by
  have h1 := rv_iff.1 ha
  have h2 := rv_iff.1 hb
  simp only [addr, subr, ha, hb, rv_mod, Bool.and_self, if_true, beq_iff_eq]
  omega
theorem mulr_comm' (a b : Int) : (mulr a b != mulr b a) = false := by simp [mulr, Bool.and_comm, Int.mul_comm]
theorem mulr_yes {a b : Int} (ha : rv a = true) (hb : rv b = true) : 0 ≤ mulr a b ∧ (mulr a (addr b 77) == addr (mulr a b) (mulr a 77)) = true ∧ (mulr a 1 == a) = true := by
  have h1 := rv_iff.1 ha
  have h7 : rv 77 = true := by decide
  have h8 : rv 1 = true := by decide
  simp only [mulr, addr, ha, hb, h7, h8, rv_mod, Bool.and_self, if_true, beq_iff_eq]
  refine ⟨by omega, ?_, by omega⟩
  rw [← Int.add_emod, Int.mul_emod, Int.emod_emod, ← Int.mul_emod, Int.mul_add]
theorem cutr_yes {x : Int} (h : rv x = true) : 0 ≤ cutr x ∧ 0 ≤ sgn x - 16 * sgn (cutr x) ∧ sgn x - 16 * sgn (cutr x) < 16 := by
  have h1 := rv_iff.1 h
  simp only [cutr, sgn, h, rv_mod, if_true]
  refine ⟨by omega, ?_, ?_⟩ <;> repeat' split
  all_goals omega
theorem cutr_bad {x : Int} (h : rv x = false) : cutr x = -1 := by simp [cutr, h]
theorem mulf_comm' (a b : Int) : (mulf a b != mulf b a) = false := by simp [mulf, Bool.and_comm, Int.mul_comm]
theorem mulf_yes {a b : Int} (ha : rv a = true) (hb : rv b = true) : 0 ≤ mulf a b ∧ (mulf a 16 == a) = true ∧ (mulf a 0 == 0) = true := by
  have h1 := rv_iff.1 ha
  have h7 : rv 16 = true := by decide
  have h8 : rv 0 = true := by decide
  have s16 : sgn 16 = 16 := by decide
  have s0 : sgn 0 = 0 := by decide
  simp only [mulf, ha, hb, h7, h8, s16, s0, Bool.and_self, if_true, beq_iff_eq]
  refine ⟨by omega, ?_, by simp⟩
  rw [Int.mul_ediv_cancel _ (by decide)]
  simp only [sgn, ha, if_true]
  split <;> omega
theorem rnum_yes {s : Int} (h : sv s = true) : 0 ≤ rnum s ∧ rv (rnum s) = true ∧ 1 ≤ rnx s ∧ rnx s ≤ 2147483646 := by
  have h1 := sv_iff.1 (nxt_pos s h)
  simp only [rnum, rnx, h, if_true, rv_mod, true_and]
  omega
theorem rnum_bad {s : Int} (h : sv s = false) : rnum s = -1 ∧ rnx s = 0 := by simp [rnum, rnx, h]
end Go.Proofs.YtmilkkingeeblaaDoor
