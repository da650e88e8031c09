/- FixedText and ReadFixed as plain functions on lists of bytes, no program in sight: the text of a ring number, what the program's and the reference's readers make of a text, and that both read back just the texts of ring numbers. Conditions: none. -/
import Derived.Test.YtmilkkingeeblaaDoorPlain
import Derived.Lib.ItoaNum
import Derived.Lib.TrimByte
import Derived.Lib.IndexMore
namespace Go.Proofs.YtmilkkingeeblaaDoor
open Go Go.RowKit

/-- A digit's byte. -/
def dgb (n : Nat) : UInt8 := UInt8.ofNat (48 + n)
/-- The decimal digits of a number below 1000. -/
def d3 (n : Nat) : List UInt8 := if n < 10 then [dgb n] else if n < 100 then [dgb (n / 10), dgb (n % 10)] else [dgb (n / 100), dgb (n / 10 % 10), dgb (n % 10)]
theorem dec_small {n : Nat} (h : n < 10) : Lib.decDigits n = [dgb n] := by rw [Lib.decDigits, dif_pos h]; rfl
theorem dec_big {n : Nat} (h : ¬ n < 10) : Lib.decDigits n = Lib.decDigits (n / 10) ++ [dgb (n % 10)] := by rw [Lib.decDigits, dif_neg h]; rfl
theorem dec_d3 {n : Nat} (h : n < 1000) : Lib.decDigits n = d3 n := by
  unfold d3
  by_cases h1 : n < 10
  · rw [if_pos h1, dec_small h1]
  · rw [if_neg h1, dec_big h1]
    by_cases h2 : n < 100
    · rw [if_pos h2, dec_small (by omega)]; rfl
    · rw [if_neg h2, dec_big (by omega), dec_small (by omega), Nat.div_div_eq_div_mul]; rfl
/-- The digits of 10000 and a number below 10000. -/
theorem dec_d5 {n : Nat} (h : n < 10000) : Lib.decDigits (10000 + n) = [dgb 1, dgb (n / 1000), dgb (n / 100 % 10), dgb (n / 10 % 10), dgb (n % 10)] := by
  rw [dec_big (by omega), dec_big (by omega), dec_big (by omega), dec_big (by omega), dec_small (by omega)]
  simp only [Nat.div_div_eq_div_mul, List.cons_append, List.nil_append]
  rw [show (10000 + n) / (10 * 10 * 10 * 10) = 1 by omega, show (10000 + n) / (10 * 10 * 10) % 10 = n / 1000 by omega, show (10000 + n) / (10 * 10) % 10 = n / 100 % 10 by omega, show (10000 + n) / 10 % 10 = n / 10 % 10 by omega, show (10000 + n) % 10 = n % 10 by omega]

/-- The digits of so many sixteenths behind the point. -/
def frac (r : Nat) : List UInt8 := Lib.trimRightB [dgb (r * 625 / 1000), dgb (r * 625 / 100 % 10), dgb (r * 625 / 10 % 10), dgb (r * 625 % 10)] 48
/-- The text of the number n sixteenths. -/
def numT (n : Nat) : List UInt8 := d3 (n / 16) ++ (if n % 16 = 0 then [] else 46 :: frac (n % 16))
/-- FixedText. -/
def fixT (x : Int) : List UInt8 := if rv x then (if sgn x < 0 then 45 :: numT (sgn x).natAbs else numT (sgn x).natAbs) else []
theorem fixT_no {x : Int} (h : rv x = false) : fixT x = [] := by simp [fixT, h]
theorem fixT_neg {x : Int} (h : rv x = true) (h2 : sgn x < 0) : fixT x = 45 :: numT (sgn x).natAbs := by simp [fixT, h, h2]
theorem fixT_pos {x : Int} (h : rv x = true) (h2 : ¬ sgn x < 0) : fixT x = numT (sgn x).natAbs := by simp [fixT, h, h2]

/-- What is left behind k steps of the reference's long division, and its digits so far. -/
def rest (r k : Nat) : Nat := 10 ^ k * r % 16
def digs (r k : Nat) : List UInt8 := (List.range k).map fun i => dgb (10 * rest r i / 16)
theorem rest_zero {r : Nat} (h : r < 16) : rest r 0 = r := by simp [rest, Nat.mod_eq_of_lt h]
theorem rest_succ (r k : Nat) : 10 * rest r k % 16 = rest r (k + 1) := by
  unfold rest; rw [Nat.pow_succ]; rw [Nat.mul_mod, Nat.mod_mod, ← Nat.mul_mod]; congr 1; rw [← Nat.mul_assoc, Nat.mul_comm 10]
theorem digs_succ (r k : Nat) : digs r (k + 1) = digs r k ++ [dgb (10 * rest r k / 16)] := by simp [digs, List.range_succ]
theorem rest_lt (r k : Nat) : rest r k < 16 := Nat.mod_lt _ (by decide)
theorem rest_four : ∀ r < 16, rest r 4 = 0 := by decide +kernel
theorem digs_end : ∀ r < 16, ∀ k < 5, rest r k = 0 → (∀ j < k, rest r j ≠ 0) → digs r k = if r = 0 then [] else frac r := by decide +kernel

/-- A byte that is a decimal digit. -/
def isDg (c : UInt8) : Bool := decide (48 ≤ c.toNat ∧ c.toNat ≤ 57)
def allDg (l : List UInt8) : Bool := l.all isDg
def decOf (l : List UInt8) : Int := l.foldl (fun (n : Int) c => n * 10 + ((c.toNat : Int) - 48)) 0
theorem decOf_snoc (l : List UInt8) (c : UInt8) : decOf (l ++ [c]) = decOf l * 10 + ((c.toNat : Int) - 48) := by simp [decOf, List.foldl_append]
theorem allDg_snoc (l : List UInt8) (c : UInt8) : allDg (l ++ [c]) = (allDg l && isDg c) := by simp [allDg, List.all_append]
/-- What decimalOf returns. -/
def dofN (l : List UInt8) : Int := if allDg l then decOf l else 0
def dofB (l : List UInt8) : Bool := allDg l && !l.isEmpty

/-- The program's reader: the parts of a text, whether it goes on to the end, and the number that it then takes. -/
def body1 (l : List UInt8) : List UInt8 := Lib.trimPrefix l [45]
def whole1 (l : List UInt8) : List UInt8 := (Lib.cut (body1 l) [46]).1
def digits1 (l : List UInt8) : List UInt8 := (Lib.cut (body1 l) [46]).2.1
def full1 (l : List UInt8) : List UInt8 := digits1 l ++ [48, 48, 48, 48].drop (digits1 l).length
def goes1 (l : List UInt8) : Bool := decide ((whole1 l).length ≤ 3) && decide ((digits1 l).length ≤ 4) && dofB (whole1 l) && dofB (full1 l)
def num1 (l : List UInt8) : Int := decOf (whole1 l) * 16 + decOf (full1 l) / 625
def cand1 (l : List UInt8) : Int := (if Lib.hasPrefix l [45] then -num1 l else num1 l) % 4096

/-- The reference's reader: up to four digits; then, behind a point, up to four more. -/
def rd1 : Nat → List UInt8 → Int → Int × List UInt8
  | f + 1, c :: t, n => if isDg c then rd1 f t (10 * n + ((c.toNat : Int) - 48)) else (n, c :: t)
  | _, l, n => (n, l)
def rd2 : Nat → List UInt8 → Int → Int → Int
  | f + 1, c :: t, s, p => if isDg c then rd2 f t (s / 10) (p + s / 10 * ((c.toNat : Int) - 48)) else p
  | _, _, _, p => p
def body2 : List UInt8 → List UInt8
  | 45 :: t => t
  | l => l
def sign2 : List UInt8 → Int
  | 45 :: _ => -1
  | _ => 1
def part2 : List UInt8 → Int
  | 46 :: t => rd2 4 t 10000 0
  | _ => 0
def num2 (l : List UInt8) : Int := (rd1 4 (body2 l) 0).1 * 16 + part2 (rd1 4 (body2 l) 0).2 / 625
def cand2 (l : List UInt8) : Int := sign2 l * num2 l % 4096

/-- ReadFixed: whether the text is a ring number's, and which. -/
def rdB (l : List UInt8) : Bool := !l.isEmpty && decide (fixT (cand2 l) = l)
def rdN (l : List UInt8) : Int := if rdB l then cand2 l else 0

def okAt (n : Nat) : Bool := decide (cand2 (fixT n) = n) && !(fixT n).isEmpty && goes1 (fixT n) && decide (cand1 (fixT n) = n) && ((fixT n).getLast? != some 32)
theorem ok_0 : ∀ a < 4, ∀ b < 64, okAt (64 * (0 + a) + b) = true := by decide +kernel
theorem ok_1 : ∀ a < 4, ∀ b < 64, okAt (64 * (4 + a) + b) = true := by decide +kernel
theorem ok_2 : ∀ a < 4, ∀ b < 64, okAt (64 * (8 + a) + b) = true := by decide +kernel
theorem ok_3 : ∀ a < 4, ∀ b < 64, okAt (64 * (12 + a) + b) = true := by decide +kernel
theorem ok_4 : ∀ a < 4, ∀ b < 64, okAt (64 * (16 + a) + b) = true := by decide +kernel
theorem ok_5 : ∀ a < 4, ∀ b < 64, okAt (64 * (20 + a) + b) = true := by decide +kernel
theorem ok_6 : ∀ a < 4, ∀ b < 64, okAt (64 * (24 + a) + b) = true := by decide +kernel
theorem ok_7 : ∀ a < 4, ∀ b < 64, okAt (64 * (28 + a) + b) = true := by decide +kernel
theorem ok_8 : ∀ a < 4, ∀ b < 64, okAt (64 * (32 + a) + b) = true := by decide +kernel
theorem ok_9 : ∀ a < 4, ∀ b < 64, okAt (64 * (36 + a) + b) = true := by decide +kernel
theorem ok_10 : ∀ a < 4, ∀ b < 64, okAt (64 * (40 + a) + b) = true := by decide +kernel
theorem ok_11 : ∀ a < 4, ∀ b < 64, okAt (64 * (44 + a) + b) = true := by decide +kernel
theorem ok_12 : ∀ a < 4, ∀ b < 64, okAt (64 * (48 + a) + b) = true := by decide +kernel
theorem ok_13 : ∀ a < 4, ∀ b < 64, okAt (64 * (52 + a) + b) = true := by decide +kernel
theorem ok_14 : ∀ a < 4, ∀ b < 64, okAt (64 * (56 + a) + b) = true := by decide +kernel
theorem ok_15 : ∀ a < 4, ∀ b < 64, okAt (64 * (60 + a) + b) = true := by decide +kernel
theorem ok_of {m n : Nat} (h : ∀ a < 4, ∀ b < 64, okAt (64 * (m + a) + b) = true) (h1 : 64 * m ≤ n) (h2 : n < 64 * m + 256) : okAt n = true := by
  have := h (n / 64 - m) (by omega) (n % 64) (by omega)
  rwa [show 64 * (m + (n / 64 - m)) + n % 64 = n by omega] at this
theorem ok_all (n : Nat) (h : n < 4096) : okAt n = true := by
  by_cases h0 : n < 256
  · exact ok_of ok_0 (by omega) (by omega)
  by_cases h1 : n < 512
  · exact ok_of ok_1 (by omega) (by omega)
  by_cases h2 : n < 768
  · exact ok_of ok_2 (by omega) (by omega)
  by_cases h3 : n < 1024
  · exact ok_of ok_3 (by omega) (by omega)
  by_cases h4 : n < 1280
  · exact ok_of ok_4 (by omega) (by omega)
  by_cases h5 : n < 1536
  · exact ok_of ok_5 (by omega) (by omega)
  by_cases h6 : n < 1792
  · exact ok_of ok_6 (by omega) (by omega)
  by_cases h7 : n < 2048
  · exact ok_of ok_7 (by omega) (by omega)
  by_cases h8 : n < 2304
  · exact ok_of ok_8 (by omega) (by omega)
  by_cases h9 : n < 2560
  · exact ok_of ok_9 (by omega) (by omega)
  by_cases h10 : n < 2816
  · exact ok_of ok_10 (by omega) (by omega)
  by_cases h11 : n < 3072
  · exact ok_of ok_11 (by omega) (by omega)
  by_cases h12 : n < 3328
  · exact ok_of ok_12 (by omega) (by omega)
  by_cases h13 : n < 3584
  · exact ok_of ok_13 (by omega) (by omega)
  by_cases h14 : n < 3840
  · exact ok_of ok_14 (by omega) (by omega)
  exact ok_of ok_15 (by omega) (by omega)

theorem fixT_read {x : Int} (h : rv x = true) : cand2 (fixT x) = x ∧ (fixT x).isEmpty = false ∧ goes1 (fixT x) = true ∧ cand1 (fixT x) = x ∧ (fixT x).getLast? ≠ some 32 := by
  have hx := rv_iff.1 h
  obtain ⟨n, rfl⟩ := Int.eq_ofNat_of_zero_le hx.1
  have := ok_all n (by omega)
  simp only [okAt, Bool.and_eq_true, decide_eq_true_eq, Bool.not_eq_true', bne_iff_ne] at this
  obtain ⟨⟨⟨⟨a, b⟩, c⟩, d⟩, e⟩ := this
  exact ⟨a, b, c, d, e⟩
theorem rdB_text {x : Int} (h : rv x = true) : rdB (fixT x) = true ∧ rdN (fixT x) = x := by
  obtain ⟨a, b, _, _, _⟩ := fixT_read h
  have : rdB (fixT x) = true := by simp [rdB, a, b]
  exact ⟨this, by simp [rdN, this, a]⟩
theorem cand2_rv (l : List UInt8) : rv (cand2 l) = true := rv_mod _
theorem cand1_rv (l : List UInt8) : rv (cand1 l) = true := rv_mod _
theorem rdB_yes {l : List UInt8} (h : rdB l = true) : fixT (rdN l) = l ∧ rv (rdN l) = true := by
  have h' := h
  simp only [rdB, Bool.and_eq_true, decide_eq_true_eq] at h'
  unfold rdN; rw [if_pos h]; exact ⟨h'.2, cand2_rv l⟩
/-- What the program takes is what the reference takes. -/
theorem rd_prog_yes {l : List UInt8} (h : fixT (cand1 l) = l) : rdB l = true ∧ rdN l = cand1 l := by
  have := rdB_text (cand1_rv l)
  rwa [h] at this
theorem rd_prog_no {l : List UInt8} (h : goes1 l = true → fixT (cand1 l) ≠ l) : rdB l = false ∧ rdN l = 0 := by
  have hb : rdB l = false := by
    cases hb : rdB l with
    | false => rfl
    | true =>
      obtain ⟨h1, h2⟩ := rdB_yes hb
      obtain ⟨_, _, c, d, _⟩ := fixT_read h2
      rw [h1] at c d
      exact absurd (by rw [d, h1]) (h c)
  exact ⟨hb, by simp [rdN, hb]⟩
theorem rd_more (l : List UInt8) : rdB (l ++ [32]) = false := by
  cases hb : rdB (l ++ [32]) with
  | false => rfl
  | true =>
    obtain ⟨h1, h2⟩ := rdB_yes hb
    have := (fixT_read h2).2.2.2.2
    rw [h1, List.getLast?_concat] at this
    exact absurd rfl this
end Go.Proofs.YtmilkkingeeblaaDoor
