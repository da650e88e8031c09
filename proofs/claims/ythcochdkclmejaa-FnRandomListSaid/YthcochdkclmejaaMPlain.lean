/- Plain laws of matrices as lists of numbers, row by row: no program in sight. -/
import Derived.Test.YthcochdkclmejaaPlain
namespace Go.Proofs.Ythcochdkclmejaa
open Go

/-- A side: 1 to 5. -/
def sd (n : Int) : Bool := decide (1 ≤ n ∧ n ≤ 5)
theorem sd_iff {x : Int} : sd x = true ↔ 1 ≤ x ∧ x ≤ 5 := by simp [sd]
theorem sd_no {x : Int} : sd x = false ↔ x < 1 ∨ 5 < x := by simp [sd]; omega
/-- A valid matrix. -/
def mv (r c : Int) (xs : List Int) : Bool := sd r && sd c && decide ((xs.length : Int) = r * c) && xs.all rv
theorem mv_iff {r c : Int} {xs : List Int} : mv r c xs = true ↔ sd r = true ∧ sd c = true ∧ (xs.length : Int) = r * c ∧ ∀ x ∈ xs, rv x = true := by
  simp [mv, and_assoc]

def sumTo (f : Nat → Int) : Nat → Int
  | 0 => 0
  | k + 1 => sumTo f k + f k
theorem sumTo_congr {f g : Nat → Int} {n : Nat} (h : ∀ k, k < n → f k = g k) : sumTo f n = sumTo g n := by
  induction n with
  | zero => rfl
  | succ n ih => simp only [sumTo]; rw [ih (fun k hk => h k (by omega)), h n (by omega)]
theorem sumTo_bd {f : Nat → Int} {M : Int} {n : Nat} (h : ∀ k, k < n → 0 ≤ f k ∧ f k ≤ M) : 0 ≤ sumTo f n ∧ sumTo f n ≤ n * M := by
  induction n with
  | zero => simp [sumTo]
  | succ n ih =>
    have h1 := ih (fun k hk => h k (by omega))
    have h2 := h n (by omega)
    simp only [sumTo]
    rw [Int.natCast_add, Int.add_mul]
    omega

/-- The sum of a row times a column; the product; the turned matrix (R rows, C columns before). -/
def mulS (xs ys : List Int) (K C r c : Nat) : Nat → Int := sumTo fun k => xs.getD (r * K + k) 0 * ys.getD (k * C + c) 0
def mulE (xs ys : List Int) (K C i : Nat) : Int := mulS xs ys K C (i / C) (i % C) K % 4096
def mulL (xs ys : List Int) (R K C : Nat) : List Int := (List.range (R * C)).map (mulE xs ys K C)
def turnE (xs : List Int) (R C i : Nat) : Int := xs.getD (i % R * C + i / R) 0
def turnL (xs : List Int) (R C : Nat) : List Int := (List.range (R * C)).map (turnE xs R C)
theorem mulL_len (xs ys : List Int) (R K C : Nat) : (mulL xs ys R K C).length = R * C := by simp [mulL]
theorem turnL_len (xs : List Int) (R C : Nat) : (turnL xs R C).length = R * C := by simp [turnL]
theorem getD_range {f : Nat → Int} {n i : Nat} (h : i < n) : ((List.range n).map f).getD i 0 = f i := by
  simp [List.getD_eq_getElem?_getD, h]
theorem mulL_at {xs ys : List Int} {R K C i : Nat} (h : i < R * C) : (mulL xs ys R K C).getD i 0 = mulE xs ys K C i := getD_range h
theorem turnL_at {xs : List Int} {R C i : Nat} (h : i < R * C) : (turnL xs R C).getD i 0 = turnE xs R C i := getD_range h
theorem ext_getD {xs ys : List Int} (h : xs.length = ys.length) (hi : ∀ i, i < xs.length → xs.getD i 0 = ys.getD i 0) : xs = ys := by
  apply List.ext_getElem h
  intro i h1 h2
  have := hi i h1
  simpa [List.getD_eq_getElem?_getD, h1, h2] using this
theorem div_of (a b C : Nat) (h : b < C) : (a * C + b) / C = a := by
  rw [Nat.mul_comm, Nat.mul_add_div (by omega), Nat.div_eq_of_lt h]; rfl
theorem mod_of (a b C : Nat) (h : b < C) : (a * C + b) % C = b := by
  rw [Nat.mul_comm, Nat.mul_add_mod, Nat.mod_eq_of_lt h]
theorem lt_of (a b R C : Nat) (ha : a < R) (hb : b < C) : a * C + b < R * C := by
  have : (a + 1) * C ≤ R * C := Nat.mul_le_mul_right C ha
  rw [Nat.add_mul] at this; omega
theorem turn_turn (xs : List Int) (R C : Nat) (h : xs.length = R * C) (hC : 0 < C) : turnL (turnL xs R C) C R = xs := by
  apply ext_getD (by rw [turnL_len, h, Nat.mul_comm])
  intro i hi
  rw [turnL_len] at hi
  rw [turnL_at hi]
  unfold turnE
  have h1 : i / C < R := Nat.div_lt_of_lt_mul hi
  have h2 : i % C < C := Nat.mod_lt _ hC
  rw [turnL_at (by rw [Nat.mul_comm R C]; exact lt_of _ _ _ _ h2 h1)]
  unfold turnE
  rw [mod_of _ _ _ h1, div_of _ _ _ h1, Nat.mul_comm, Nat.div_add_mod]
theorem turn_mul (xs ys : List Int) (R K C : Nat) (hR : 0 < R) : turnL (mulL xs ys R K C) R C = mulL (turnL ys K C) (turnL xs R K) C K R := by
  apply ext_getD (by rw [turnL_len, mulL_len, Nat.mul_comm])
  intro i hi
  rw [turnL_len] at hi
  rw [turnL_at hi, mulL_at (by rw [Nat.mul_comm]; exact hi)]
  unfold turnE
  have h1 : i / R < C := Nat.div_lt_of_lt_mul hi
  have h2 : i % R < R := Nat.mod_lt _ hR
  rw [mulL_at (lt_of _ _ _ _ h2 h1)]
  unfold mulE
  rw [div_of _ _ _ h1, mod_of _ _ _ h1]
  unfold mulS
  rw [sumTo_congr (g := fun k => (turnL ys K C).getD (i / R * K + k) 0 * (turnL xs R K).getD (k * R + i % R) 0)]
  intro k hk
  rw [turnL_at (by rw [Nat.mul_comm K C]; exact lt_of _ _ _ _ h1 hk), turnL_at (by rw [Nat.mul_comm R K]; exact lt_of _ _ _ _ hk h2)]
  unfold turnE
  rw [mod_of _ _ _ hk, div_of _ _ _ hk, mod_of _ _ _ h2, div_of _ _ _ h2, Int.mul_comm]

/-- Value by value. -/
def addL (xs ys : List Int) : List Int := List.zipWith addr xs ys
def subL (xs ys : List Int) : List Int := List.zipWith subr xs ys
theorem addL_comm (xs ys : List Int) : addL xs ys = addL ys xs := by
  unfold addL; rw [List.zipWith_comm]; congr 1; funext a b; unfold addr; rw [Bool.and_comm, Int.add_comm]
theorem addr_subr {a b : Int} (ha : rv a = true) (hb : rv b = true) : subr (addr a b) b = a := by
  have h1 := rv_iff.1 ha
  have h2 := rv_iff.1 hb
  simp only [addr, subr, ha, hb, rv_mod, Bool.and_self, if_true]; omega
theorem subr_addr {a b : Int} (ha : rv a = true) (hb : rv b = true) : addr (subr a b) b = a := by
  have h1 := rv_iff.1 ha
  have h2 := rv_iff.1 hb
  simp only [addr, subr, ha, hb, rv_mod, Bool.and_self, if_true]; omega
theorem subL_addL {xs ys : List Int} (h : xs.length = ys.length) (hx : ∀ x ∈ xs, rv x = true) (hy : ∀ y ∈ ys, rv y = true) : subL (addL xs ys) ys = xs := by
  induction xs generalizing ys with
  | nil => rfl
  | cons x xs ih =>
    cases ys with
    | nil => simp at h
    | cons y ys =>
      have := ih (ys := ys) (by simpa using h) (fun z hz => hx z (by simp [hz])) (fun z hz => hy z (by simp [hz]))
      unfold subL addL at this ⊢
      simp only [List.zipWith_cons_cons]
      rw [addr_subr (hx x (by simp)) (hy y (by simp)), this]
theorem addL_subL {xs ys : List Int} (h : xs.length = ys.length) (hx : ∀ x ∈ xs, rv x = true) (hy : ∀ y ∈ ys, rv y = true) : addL (subL xs ys) ys = xs := by
  induction xs generalizing ys with
  | nil => rfl
  | cons x xs ih =>
    cases ys with
    | nil => simp at h
    | cons y ys =>
      have := ih (ys := ys) (by simpa using h) (fun z hz => hx z (by simp [hz])) (fun z hz => hy z (by simp [hz]))
      unfold subL addL at this ⊢
      simp only [List.zipWith_cons_cons]
      rw [subr_addr (hx x (by simp)) (hy y (by simp)), this]
theorem addr_rv {a b : Int} (ha : rv a = true) (hb : rv b = true) : rv (addr a b) = true := by
  simp only [addr, ha, hb, Bool.and_self, if_true, rv_mod]
theorem subr_rv {a b : Int} (ha : rv a = true) (hb : rv b = true) : rv (subr a b) = true := by
  simp only [subr, ha, hb, Bool.and_self, if_true, rv_mod]
end Go.Proofs.Ythcochdkclmejaa
