/- The contract of the reference's ReadFixed: it returns the ring number whose text the argument is, or 0 and false; behind the call all that was there stands. Conditions: the text is not longer than 2000000 bytes. -/
import Derived.Test.YtmilkkingeeblaaDoorFxD
import Derived.Deep.LoopGhost
import Derived.Deep.CutRange
import Derived.Deep.CutBlock
namespace Go.Proofs.YtmilkkingeeblaaDoor
open Go Go.RowKit

theorem rd1_nil (f : Nat) (n : Int) : rd1 f [] n = (n, []) := by cases f <;> rfl
theorem rd1_zero (l : List UInt8) (n : Int) : rd1 0 l n = (n, l) := by cases l <;> rfl
theorem rd1_yes (f : Nat) (c : UInt8) (t : List UInt8) (n : Int) (h : isDg c = true) : rd1 (f + 1) (c :: t) n = rd1 f t (10 * n + ((c.toNat : Int) - 48)) := by simp [rd1, h]
theorem rd1_no (f : Nat) (c : UInt8) (t : List UInt8) (n : Int) (h : isDg c = false) : rd1 (f + 1) (c :: t) n = (n, c :: t) := by simp [rd1, h]
theorem rd2_nil (f : Nat) (s p : Int) : rd2 f [] s p = p := by cases f <;> rfl
theorem rd2_zero (l : List UInt8) (s p : Int) : rd2 0 l s p = p := by cases l <;> rfl
theorem rd2_yes (f : Nat) (c : UInt8) (t : List UInt8) (s p : Int) (h : isDg c = true) : rd2 (f + 1) (c :: t) s p = rd2 f t (s / 10) (p + s / 10 * ((c.toNat : Int) - 48)) := by simp [rd2, h]
theorem rd2_no (f : Nat) (c : UInt8) (t : List UInt8) (s p : Int) (h : isDg c = false) : rd2 (f + 1) (c :: t) s p = p := by simp [rd2, h]
theorem drop_at (s : ByteArray) (k : Nat) (h : k < s.size) : s.data.toList.drop k = s[k] :: s.data.toList.drop (k + 1) := by
  rw [List.drop_eq_getElem_cons (by simpa using h)]; rfl
theorem drop_end (s : ByteArray) (k : Nat) (h : s.size ≤ k) : s.data.toList.drop k = [] := List.drop_eq_nil_of_le (by rw [← Lib.size_eq]; exact h)
/-- A text that begins with a sign. -/
def isNeg : List UInt8 → Bool
  | 45 :: _ => true
  | _ => false
theorem isNeg_cons (c : UInt8) (t : List UInt8) : isNeg (c :: t) = decide (c = 45) := by
  by_cases h : c = 45
  · subst h; rfl
  · simp [isNeg, h]
theorem neg_yes {l : List UInt8} (h : isNeg l = true) : ∃ t, l = 45 :: t ∧ body2 l = t ∧ sign2 l = -1 := by
  cases l with
  | nil => cases h
  | cons c t => rw [isNeg_cons] at h; have := of_decide_eq_true h; subst this; exact ⟨t, rfl, rfl, rfl⟩
theorem neg_no {l : List UInt8} (h : isNeg l = false) : body2 l = l ∧ sign2 l = 1 := by
  cases l with
  | nil => exact ⟨rfl, rfl⟩
  | cons c t => rw [isNeg_cons] at h; have := of_decide_eq_false h; exact ⟨by simp [body2, this], by simp [sign2, this]⟩
/-- A rest that begins with a point. -/
def isDot : List UInt8 → Bool
  | 46 :: _ => true
  | _ => false
theorem isDot_cons (c : UInt8) (t : List UInt8) : isDot (c :: t) = decide (c = 46) := by
  by_cases h : c = 46
  · subst h; rfl
  · simp [isDot, h]

theorem byte_eq (c : UInt8) (d : Nat) (hd : d < 256) : ((c.toNat : Int) == (d : Int)) = decide (c = UInt8.ofNat d) := by
  by_cases h : c = UInt8.ofNat d
  · rw [decide_eq_true h, h, UInt8.toNat_ofNat', Nat.mod_eq_of_lt (by simpa using hd)]; simp
  · rw [decide_eq_false h]
    have : c.toNat ≠ d := fun e => h (by rw [← e]; simp)
    simp; omega
theorem isNeg_of {s : ByteArray} (h : 0 < s.size) : ((s[0].toNat : Int) == 45) = isNeg s.data.toList := by
  have := drop_at s 0 h
  rw [List.drop_zero] at this
  rw [this, isNeg_cons]
  exact byte_eq s[0] 45 (by decide)
theorem isDot_of {s : ByteArray} {k : Nat} (h : k < s.size) : ((s[k].toNat : Int) == 46) = isDot (s.data.toList.drop k) := by
  rw [drop_at s k h, isDot_cons]
  exact byte_eq s[k] 46 (by decide)
theorem body2_len (l : List UInt8) : (body2 l).length ≤ l.length := by
  cases h : isNeg l with
  | true => obtain ⟨t, h1, h2, _⟩ := neg_yes h; rw [h2, h1]; simp
  | false => rw [(neg_no h).1]; exact Nat.le_refl _
theorem dot_no {l : List UInt8} (h : isDot l = false) : part2 l = 0 := by
  cases l with
  | nil => rfl
  | cons c t => rw [isDot_cons] at h; have := of_decide_eq_false h; simp [part2, this]
theorem dot_yes {l : List UInt8} (h : isDot l = true) : ∃ t, l = 46 :: t ∧ part2 l = rd2 4 t 10000 0 := by
  cases l with
  | nil => cases h
  | cons c t => rw [isDot_cons] at h; have := of_decide_eq_true h; subst this; exact ⟨t, rfl, rfl⟩
theorem prod_bd {S d : Int} (hS : 0 ≤ S) (h0 : 0 ≤ d) (h9 : d ≤ 9) : 0 ≤ S * d ∧ S * d ≤ S * 9 := ⟨Int.mul_nonneg hS h0, Int.mul_le_mul_of_nonneg_left h9 hS⟩
theorem ten_le {N : Int} {k : Nat} (h : N < 10 ^ k) (hk : k ≤ 4) : N < 10000 := by
  have : k = 0 ∨ k = 1 ∨ k = 2 ∨ k = 3 ∨ k = 4 := by omega
  rcases this with rfl | rfl | rfl | rfl | rfl <;> omega

set_option maxRecDepth 100000 in
set_option maxHeartbeats 4000000 in
theorem readS (s : ByteArray) (l : List UInt8) (HS : Hid (s.data.toList = l)) (hl : s.size ≤ 2000000) (w : World) : Calls Tryd.prog 7 #[.string s] w fun e w' => e = .returned (.tuple #[.int .i64 (rdN l), .bool (rdB l)]) ∧ Below w.heap.size w w' := by
  go_enter Tryd.func7, Tryd.ntmps7
  go_upto_region 3 with fail
  go_cut [19] from 12 to 19 (fun b w' => b = .bool (isNeg l) ∧ w' = w)
  case first =>
    cases he : s.toList.isEmpty with
    | true =>
      go_wp2_with fail
      go_meet
      case rel =>
        rw [Lib.toList_data, HS.out] at he
        cases l with
        | nil => exact ⟨rfl, rfl⟩
        | cons c t => cases he
    | false =>
      have h0 : 0 < s.size := by
        rw [Lib.toList_data] at he
        rw [Lib.size_eq]
        cases h : s.data.toList with
        | nil => rw [h] at he; cases he
        | cons c t => simp
      go_wp2_with fail
      go_meet
      case rel => exact ⟨by rw [isNeg_of h0, HS.out], rfl⟩
  case rest =>
    obtain ⟨rfl, rfl⟩ := hcut
    go_upto_if 19 with fail
    go_cut [4, 5] from 12 to 21 (fun b g w' => ∃ B : ByteArray, b = .string B ∧ B.data.toList = body2 l ∧ g = .int .i64 (sign2 l) ∧ w' = wc)
    case first =>
      cases hn : isNeg l with
      | true =>
        obtain ⟨t, e1, e2, e3⟩ := neg_yes hn
        have h1 : (1 : Int) ≤ (s.size : Int) := by rw [Lib.size_eq, HS.out, e1]; simp; omega
        have E1 := Lib.hid e1
        have E2 := Lib.hid e2
        have E3 := Lib.hid e3
        clear e1 e2 e3
        go_wp2_with fail
        go_meet
        case rel => exact ⟨_, rfl, by rw [Lib.extract_data, Lib.size_eq, HS.out, E2.out, E1.out]; simp, by rw [E3.out], rfl⟩
      | false =>
        obtain ⟨e2, e3⟩ := neg_no hn
        have E2 := Lib.hid e2
        have E3 := Lib.hid e3
        clear e2 e3
        go_wp2_with fail
        go_meet
        case rel => exact ⟨s, rfl, by rw [HS.out, E2.out], by rw [E3.out], rfl⟩
    case rest =>
      obtain ⟨B, rfl, hB, rfl, rfl⟩ := hcut
      have zB : B.size ≤ 2000000 := by
        have := body2_len l
        rw [Lib.size_eq, hB]; rw [Lib.size_eq, HS.out] at hl; omega
      have HB := Lib.hid hB
      clear hB
      go_upto_block 0 with (fail)
      go_cut [6, 7] from 22 to 51 (fun n k w' => ∃ (N : Int) (kk : Nat), n = .int .i64 N ∧ k = .int .i64 kk ∧ 0 ≤ N ∧ N < 10000 ∧ rd1 4 (body2 l) 0 = (N, B.data.toList.drop kk) ∧ kk ≤ 4 ∧ w' = wc)
      case first =>
        go_wp2_with fail
        go_loop [6, 7] (fun n k => ∃ (N : Int) (kk : Nat), n = .int .i64 N ∧ k = .int .i64 kk ∧ 0 ≤ N ∧ N < 10 ^ kk ∧ kk ≤ 4 ∧ rd1 4 (body2 l) 0 = rd1 (4 - kk) (B.data.toList.drop kk) N) (fun _ k => 4 - (intOf k).toNat)
        case atStart => exact ⟨0, 0, rfl, rfl, by decide, by decide, by decide, by rw [List.drop_zero, HB.out]⟩
        case round =>
          obtain ⟨N, kk, rfl, rfl, n0, n1, k4, hr⟩ := hrel
          have n2 := ten_le n1 k4
          have HR := Lib.hid hr
          have H1 := Lib.hid n1
          clear hr n1
          by_cases hlt : kk < B.size
          · have c1 : (kk : Int) < (B.size : Int) := by omega
            by_cases h4 : kk < 4
            · have c2 : (kk : Int) < 4 := by omega
              have HDR := Lib.hid (drop_at B kk hlt)
              have HFU : Hid (4 - kk = (4 - (kk + 1)) + 1) := Lib.hid (by omega)
              by_cases hd : isDg B[kk] = true
              · have h2 := (isDg_iff _).1 hd
                have HD := Lib.hid hd
                clear hd
                go_wp2_with fail
                exact ⟨⟨_, kk + 1, rfl, by go_num, by omega, by have := H1.out; rw [Int.pow_succ]; omega, by omega, by rw [HR.out, HDR.out, HFU.out, rd1_yes _ _ _ _ HD.out]⟩, by simp [intOf]; omega⟩
              · have hd' : isDg B[kk] = false := by simpa using hd
                have HD : Hid (rd1 (4 - kk) (B.data.toList.drop kk) N = (N, B.data.toList.drop kk)) := by
                  rw [HDR.out, HFU.out, rd1_no _ _ _ _ hd']; exact Lib.hid rfl
                have h2 : B[kk].toNat < 48 ∨ 57 < B[kk].toNat := by
                  have := mt (isDg_iff B[kk]).2 hd
                  omega
                clear hd hd'
                rcases h2 with h2 | h2
                · go_wp2_with fail
                  go_meet
                  case rel => exact ⟨N, kk, rfl, rfl, n0, n2, by rw [HR.out, HD.out], k4, rfl⟩
                · have h3 : ¬ B[kk].toNat < 48 := by omega
                  go_wp2_with fail
                  go_meet
                  case rel => exact ⟨N, kk, rfl, rfl, n0, n2, by rw [HR.out, HD.out], k4, rfl⟩
            · obtain rfl : kk = 4 := by omega
              go_wp2_with fail
              go_meet
              case rel => exact ⟨N, 4, rfl, rfl, n0, n2, by rw [HR.out, Nat.sub_self, rd1_zero], k4, rfl⟩
          · have c1 : ¬ (kk : Int) < (B.size : Int) := by omega
            have HE := Lib.hid (drop_end B kk (by omega))
            go_wp2_with fail
            go_meet
            case rel => exact ⟨N, kk, rfl, rfl, n0, n2, by rw [HR.out, HE.out, rd1_nil], k4, rfl⟩
      case rest =>
        obtain ⟨N, kk, rfl, rfl, n0, n1, hr, k4, rfl⟩ := hcut
        have HR := Lib.hid hr
        clear hr
        go_upto_region 13 with fail
        go_cut [61] from 22 to 61 (fun b w' => b = .bool (isDot (B.data.toList.drop kk)) ∧ w' = wc)
        case first =>
          by_cases hlt : kk < B.size
          · have c1 : (kk : Int) < (B.size : Int) := by omega
            have HI := Lib.hid (isDot_of hlt)
            go_wp2_with fail
            go_meet
            case rel => exact ⟨by rw [HI.out], rfl⟩
          · have c1 : ¬ (kk : Int) < (B.size : Int) := by omega
            have HE := Lib.hid (drop_end B kk (by omega))
            go_wp2_with fail
            go_meet
            case rel => exact ⟨by rw [HE.out]; rfl, rfl⟩
        case rest =>
          obtain ⟨rfl, rfl⟩ := hcut
          go_upto_if 61 with fail
          go_cut [8] from 22 to 98 (fun p w' => ∃ P : Int, p = .int .i64 P ∧ 0 ≤ P ∧ P ≤ 10000 ∧ P = part2 (B.data.toList.drop kk) ∧ w' = wc)
          case first =>
            cases hdot : isDot (B.data.toList.drop kk) with
            | false =>
              have HD := Lib.hid (dot_no hdot)
              go_wp2_with fail
              go_meet
              case rel => exact ⟨0, rfl, by decide, by decide, HD.out.symm, rfl⟩
            | true =>
              obtain ⟨t, et, ep⟩ := dot_yes hdot
              have hlt : kk < B.size := by
                rcases Nat.lt_or_ge kk B.size with h | h
                · exact h
                · rw [drop_end B kk h] at et; cases et
              have et' : t = B.data.toList.drop (kk + 1) := by
                rw [drop_at B kk hlt] at et; exact (List.cons.inj et).2.symm
              have EP : Hid (part2 (B.data.toList.drop kk) = rd2 4 (B.data.toList.drop (kk + 1)) 10000 0) := by rw [← et']; exact Lib.hid ep
              have b1 : (kk : Int) ≤ 4 := by omega
              clear et ep et' hlt
              go_wp2_with fail
              go_loop [7, 8, 9, 10] (fun k p sc j => ∃ (kj jj : Nat) (S P : Int), k = .int .i64 kj ∧ j = .int .i64 jj ∧ sc = .int .i64 S ∧ p = .int .i64 P ∧ jj ≤ 4 ∧ kj ≤ 5 + jj ∧ 0 ≤ P ∧ 0 ≤ S ∧ P + S ≤ 10000 ∧ rd2 (4 - jj) (B.data.toList.drop kj) S P = part2 (B.data.toList.drop kk)) (fun _ _ _ j => 4 - (intOf j).toNat)
              case atStart => exact ⟨kk + 1, 0, 10000, 0, by go_num, rfl, rfl, rfl, by decide, by omega, by decide, by decide, by decide, EP.out.symm⟩
              case round =>
                obtain ⟨kj, jj, S, P, rfl, rfl, rfl, rfl, j4, k9, p0, s0, ps, hr⟩ := hrel
                have HR := Lib.hid hr
                clear hr EP
                by_cases h4 : jj < 4
                · have c2 : (jj : Int) < 4 := by omega
                  by_cases hlt : kj < B.size
                  · have c1 : (kj : Int) < (B.size : Int) := by omega
                    have HDR := Lib.hid (drop_at B kj hlt)
                    have HFU : Hid (4 - jj = (4 - (jj + 1)) + 1) := Lib.hid (by omega)
                    by_cases hd : isDg B[kj] = true
                    · have h2 := (isDg_iff _).1 hd
                      have HD := Lib.hid hd
                      clear hd
                      obtain ⟨q0, q1⟩ := prod_bd (S := S / 10) (d := (B[kj].toNat : Int) - 48) (by omega) (by omega) (by omega)
                      have q2 : S / 10 * ((B[kj].toNat : Int) - 48) ≤ 10000 := by omega
                      have q3 : P + S / 10 * ((B[kj].toNat : Int) - 48) ≤ 10000 := by omega
                      have HQ : Hid (P + S / 10 * ((B[kj].toNat : Int) - 48) + S / 10 ≤ 10000) := Lib.hid (by omega)
                      clear q1
                      go_wp2_with fail
                      exact ⟨⟨kj + 1, jj + 1, S / 10, _, by go_num, by go_num, rfl, rfl, by omega, by omega, by omega, by omega, HQ.out, by rw [← HR.out, HDR.out, HFU.out, rd2_yes _ _ _ _ _ HD.out]⟩, by simp [intOf]; omega⟩
                    · have hd' : isDg B[kj] = false := by simpa using hd
                      have HD : Hid (P = rd2 (4 - jj) (B.data.toList.drop kj) S P) := by
                        rw [HDR.out, HFU.out, rd2_no _ _ _ _ _ hd']; exact Lib.hid rfl
                      have h2 : B[kj].toNat < 48 ∨ 57 < B[kj].toNat := by
                        have := mt (isDg_iff B[kj]).2 hd
                        omega
                      clear hd hd'
                      rcases h2 with h2 | h2
                      · go_wp2_with fail
                        go_meet
                        case rel => exact ⟨P, rfl, p0, by omega, HD.out.trans HR.out, rfl⟩
                      · have h3 : ¬ B[kj].toNat < 48 := by omega
                        go_wp2_with fail
                        go_meet
                        case rel => exact ⟨P, rfl, p0, by omega, HD.out.trans HR.out, rfl⟩
                  · have c1 : ¬ (kj : Int) < (B.size : Int) := by omega
                    have HD : Hid (P = rd2 (4 - jj) (B.data.toList.drop kj) S P) := by
                      rw [drop_end B kj (by omega), rd2_nil]; exact Lib.hid rfl
                    go_wp2_with fail
                    go_meet
                    case rel => exact ⟨P, rfl, p0, by omega, HD.out.trans HR.out, rfl⟩
                · obtain rfl : jj = 4 := by omega
                  have HD : Hid (P = rd2 (4 - 4) (B.data.toList.drop kj) S P) := by
                    rw [Nat.sub_self, rd2_zero]; exact Lib.hid rfl
                  go_wp2_with fail
                  go_meet
                  case rel => exact ⟨P, rfl, p0, by omega, HD.out.trans HR.out, rfl⟩
          case rest =>
            obtain ⟨P, rfl, p0, p1, ep, rfl⟩ := hcut
            have hN : num2 l = N * 16 + P / 625 := by unfold num2; rw [HR.out, ep]
            have hV : 0 ≤ num2 l ∧ num2 l ≤ 200000 := by omega
            have hs2 : sign2 l = 1 ∨ sign2 l = -1 := by
              cases h : isNeg l with
              | true => obtain ⟨_, _, _, h3⟩ := neg_yes h; exact .inr h3
              | false => exact .inl (neg_no h).2
            have hb : -200000 ≤ sign2 l * (N * 16 + P / 625) ∧ sign2 l * (N * 16 + P / 625) ≤ 200000 := by
              rw [← hN]; rcases hs2 with h | h <;> rw [h] <;> omega
            have hc : sign2 l * (N * 16 + P / 625) % 4096 = cand2 l := by unfold cand2; rw [hN]
            obtain ⟨b1, b2⟩ := hb
            have HC := Lib.hid hc
            clear hN hV hs2 hc ep
            go_wp2_with fail
            refine (l1Ring _ _).mono ?_
            rintro e w' ⟨rfl, rfl⟩
            rw [HC.out]
            obtain rfl : s = bs l := ba_eq (by rw [bs_list, HS.out])
            by_cases he : l = []
            · have he1 : (bs l).toList.isEmpty = true := by rw [Lib.toList_data, bs_list, he]; rfl
              have R1 : rdB l = false := by rw [he]; rfl
              have R2 : rdN l = 0 := by simp [rdN, R1]
              clear he
              go_wp2_with fail
              go_ret2
              exact ⟨ret_pair R2.symm R1.symm, Below.refl _ _⟩
            · have he1 : (bs l).toList.isEmpty = false := by
                rw [Lib.toList_data, bs_list]; cases l with
                | nil => exact absurd rfl he
                | cons c t => rfl
              by_cases h : fixT (cand2 l) = l
              · have R1 : Hid (rdB l = true) := by unfold rdB; rw [h]; cases l with
                  | nil => exact absurd rfl he
                  | cons c t => exact Lib.hid (by simp)
                have R2 : Hid (rdN l = cand2 l) := by unfold rdN; rw [R1.out]; exact Lib.hid rfl
                clear he
                have cT : ∀ w, Calls Tryd.prog 11 #[.int .i64 (cand2 l)] w fun e w' => e = .returned (.string (bs l)) ∧ Below w.heap.size w w' := fun w => by
                  have := fixedText_s (cand2 l) w
                  rwa [h] at this
                clear h
                go_wp2_with fail
                refine (cT _).mono ?_
                rintro e w2 ⟨rfl, hb2⟩
                go_wp2_with fail
                go_ret2
                exact ⟨ret_pair R2.out.symm R1.out.symm, hb2⟩
              · have R1 : Hid (rdB l = false) := by unfold rdB; rw [decide_eq_false h, Bool.and_false]; exact Lib.hid rfl
                have R2 : Hid (rdN l = 0) := by unfold rdN; rw [R1.out]; exact Lib.hid rfl
                have hne := bs_ne h
                clear he h
                go_wp2_with fail
                refine (fixedText_s (cand2 l) _).mono ?_
                rintro e w2 ⟨rfl, hb2⟩
                go_wp2_with fail
                go_ret2
                exact ⟨ret_pair R2.out.symm R1.out.symm, hb2⟩

theorem readFixed_s (l : List UInt8) (hl : l.length ≤ 2000000) (w : World) : Calls Tryd.prog 7 #[.string (bs l)] w fun e w' => e = .returned (.tuple #[.int .i64 (rdN l), .bool (rdB l)]) ∧ Below w.heap.size w w' :=
  readS (bs l) l (Lib.hid (bs_list l)) (by rw [bs_size]; exact hl) w
end Go.Proofs.YtmilkkingeeblaaDoor
