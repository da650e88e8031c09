/- The contracts of the program's decimalOf, of strings.Cut at a point, and of the program's ReadFixed: it returns the ring number whose text the argument is, or 0 and false; behind the call all that was there stands. Conditions: the library's table of powers of ten holds what its initialiser lays; the text fits an int. -/
import Derived.Test.YtmilkkingeeblaaDoorFxB
import Derived.Lib.CutLaws
import Derived.RegionTactic
import Derived.ChangeAlike
import Derived.BigQuiet
import Derived.Deep.QuietTactic
namespace Go.Proofs.YtmilkkingeeblaaDoor
open Go Go.RowKit

theorem ret_pair {a b : Int} {c d : Bool} (h : a = b) (h' : c = d) : Ending.returned (.tuple #[.int .i64 a, .bool c]) = .returned (.tuple #[.int .i64 b, .bool d]) := by rw [h, h']
theorem isDg_iff (c : UInt8) : isDg c = true ↔ 48 ≤ c.toNat ∧ c.toNat ≤ 57 := by simp [isDg]
theorem decOf_from : ∀ (l : List UInt8) (a : Int), 0 ≤ a → allDg l = true → 0 ≤ l.foldl (fun (n : Int) c => n * 10 + ((c.toNat : Int) - 48)) a ∧ l.foldl (fun (n : Int) c => n * 10 + ((c.toNat : Int) - 48)) a < (a + 1) * 10 ^ l.length
  | [], a, ha, _ => by simp; omega
  | c :: t, a, ha, h => by
    simp only [allDg, List.all_cons, Bool.and_eq_true] at h
    have h3 := (isDg_iff c).1 h.1
    obtain ⟨h1, h2⟩ := decOf_from t (a * 10 + ((c.toNat : Int) - 48)) (by omega) h.2
    refine ⟨h1, Int.lt_of_lt_of_le h2 ?_⟩
    have hp : (0 : Int) ≤ 10 ^ t.length := Int.pow_nonneg (by decide)
    rw [List.length_cons, Int.pow_succ, Int.mul_comm ((10 : Int) ^ t.length) 10, ← Int.mul_assoc]
    exact Int.mul_le_mul_of_nonneg_right (by omega) hp
theorem decOf_bd (l : List UInt8) (h : allDg l = true) : 0 ≤ decOf l ∧ decOf l < 10 ^ l.length := by
  have := decOf_from l 0 (by decide) h
  simpa [decOf] using this
theorem decOf_small {l : List UInt8} (h : allDg l = true) (hl : l.length ≤ 8) : 0 ≤ decOf l ∧ decOf l < 100000000 := by
  obtain ⟨h1, h2⟩ := decOf_bd l h
  have : (10 : Int) ^ l.length ≤ 10 ^ 8 := by
    have := Nat.pow_le_pow_right (n := 10) (by decide) hl
    exact_mod_cast this
  omega
theorem take_snoc (s : ByteArray) (k : Nat) (h : k < s.size) : s.data.toList.take (k + 1) = s.data.toList.take k ++ [s[k]] := by
  rw [List.take_succ_eq_append_getElem (by simpa using h)]; rfl

set_option maxHeartbeats 1000000 in
theorem decimalOf (s : ByteArray) (hs : s.size ≤ 8) (w : World) : Calls Tryd.prog 18 #[.string s] w fun e w' => e = .returned (.tuple #[.int .i64 (dofN s.data.toList), .bool (dofB s.data.toList)]) ∧ w = w' := by
  go_enter Tryd.func18, Tryd.ntmps18
  go_wp2_with fail
  go_loop [4, 8] (fun n i => ∃ k : Nat, k ≤ s.size ∧ i = .int .i64 k ∧ n = .int .i64 (decOf (s.data.toList.take k)) ∧ allDg (s.data.toList.take k) = true) (fun _ i => s.size - (intOf i).toNat)
  case atStart => exact ⟨0, Nat.zero_le _, rfl, rfl, rfl⟩
  case round =>
    obtain ⟨k, hk, rfl, rfl, ha⟩ := hrel
    have hb := decOf_small ha (by have := List.length_take_le k s.data.toList; omega)
    have HA := Lib.hid ha
    clear ha
    by_cases hlt : k < s.size
    · have HS := Lib.hid (take_snoc s k hlt)
      have lt1 : (k : Int) < (s.size : Int) := by omega
      obtain ⟨D, eD⟩ : ∃ D, decOf (s.data.toList.take k) = D := ⟨_, rfl⟩
      rw [eD] at hb ⊢
      have ED := Lib.hid eD
      clear eD
      by_cases hd : isDg s[k] = true
      · have h2 := (isDg_iff _).1 hd
        have HD := Lib.hid hd
        clear hd
        go_wp2_with fail
        exact ⟨⟨k + 1, by omega, by go_num, by rw [HS.out, decOf_snoc, ED.out], by rw [HS.out, allDg_snoc, HA.out, HD.out]; rfl⟩, by simp [intOf]; omega⟩
      · have hd' : isDg s[k] = false := by simpa using hd
        have hn : allDg s.data.toList = false := by
          rw [allDg, List.all_eq_false]
          exact ⟨s[k], by exact Array.mem_toList_iff.2 (Array.getElem_mem _), by simp [hd']⟩
        have r1 : dofN s.data.toList = 0 := by simp [dofN, hn]
        have r2 : dofB s.data.toList = false := by simp [dofB, hn]
        have R1 := Lib.hid r1
        have R2 := Lib.hid r2
        clear r1 r2 hn hd' 
        have h2 : s[k].toNat < 48 ∨ 57 < s[k].toNat := by
          have := mt (isDg_iff s[k]).2 hd
          omega
        clear hd
        rcases h2 with h2 | h2
        · go_wp2_with fail
          go_ret2
          exact ⟨ret_pair R1.out.symm R2.out.symm, rfl⟩
        · have h3 : ¬ s[k].toNat < 48 := by omega
          go_wp2_with fail
          go_ret2
          exact ⟨ret_pair R1.out.symm R2.out.symm, rfl⟩
    · have hk' : k = s.size := by omega
      have h1 : s.data.toList.take k = s.data.toList := by rw [hk', List.take_of_length_le (by rw [← Lib.size_eq]; exact Nat.le_refl _)]
      have HA' : Hid (allDg s.data.toList = true) := by rw [← h1]; exact HA
      rw [h1]
      have r1 : dofN s.data.toList = decOf s.data.toList := by simp [dofN, HA'.out]
      have R1 := Lib.hid r1
      clear r1 h1 hk'
      cases he : s.toList.isEmpty with
      | true =>
        have R2 : Hid (dofB s.data.toList = false) := by
          rw [Lib.toList_data] at he
          simp only [dofB, he]; exact Lib.hid (by simp)
        go_wp2_with fail
        go_ret2
        exact ⟨ret_pair R1.out.symm R2.out.symm, rfl⟩
      | false =>
        have R2 : Hid (dofB s.data.toList = true) := by
          rw [Lib.toList_data] at he
          simp only [dofB, he, HA'.out]; exact Lib.hid (by simp)
        go_wp2_with fail
        go_ret2
        exact ⟨ret_pair R1.out.symm R2.out.symm, rfl⟩

theorem index_dot (s : ByteArray) (v : Int) (h : Lib.indexB s ⟨#[46]⟩ = v) (w : World) :
    Calls Tryd.prog 39 #[.string s, .string ⟨#[46]⟩] w fun e w' => e = .returned (.int .i64 v) ∧ w = w' := by
  have c : Calls Tryd.prog 39 #[.string s, .string ⟨#[46]⟩] w fun e w' => e = .returned (.int .i64 (Lib.indexByte s.data.toList 46)) ∧ w' = w := Any.stringslite_Index_one Tryd.lays219 s 46 w
  rw [← h]
  exact c.mono fun e w' ⟨he, hw⟩ => ⟨by rw [he]; exact ret_int (Lib.index_one _ _).symm, hw.symm⟩
/-- What Cut at a point leaves. -/
def CutDot (s : ByteArray) (w : World) (e : Ending) (w' : World) : Prop :=
  ∃ f : Bool, e = .returned (.tuple #[.string (bs (Lib.cut s.data.toList [46]).1), .string (bs (Lib.cut s.data.toList [46]).2.1), .bool f]) ∧ ∃ n, w' = w.drewN n
theorem cut_in (s : ByteArray) (hs : s.size ≤ 4000000) (w : World) : Calls Tryd.prog 32 #[.string s, .string ⟨#[46]⟩] w (CutDot s w) := by
  rcases Lib.indexB_cases s ⟨#[46]⟩ with hix | ⟨i, hix, hroom⟩
  · obtain ⟨e1, e2, e3⟩ := Lib.cutB_miss s ⟨#[46]⟩ hix
    have cI := index_dot s _ hix
    have E1 : Hid (bs (Lib.cut s.data.toList [46]).1 = s) := e1
    have E2 : Hid (bs (Lib.cut s.data.toList [46]).2.1 = ByteArray.empty) := e2
    clear hix e1 e2 e3
    go_enter Tryd.func32, Tryd.ntmps32
    go_wp2_with (go_at_call 39; refine (cI _).mono ?_; rintro e w' ⟨rfl, rfl⟩)
    go_ret3
    exact ⟨false, by rw [E1.out, E2.out]; rfl, 0, rfl⟩
  · obtain ⟨e1, e2, e3⟩ := Lib.cutB_hit s ⟨#[46]⟩ i hix
    have cI := index_dot s _ hix
    have hroom' : i + 1 ≤ s.size := hroom
    have E1 : Hid (bs (Lib.cut s.data.toList [46]).1 = s.extract 0 i) := e1
    have E2 : Hid (bs (Lib.cut s.data.toList [46]).2.1 = s.extract (i + 1) s.size) := e2
    clear hix e1 e2 e3 hroom
    have c1 : (0 : Int) ≤ ↑i := by omega
    have c2 : (↑i : Int) ≤ ↑s.size := by omega
    have c3 : (0 : Int) ≤ ↑i + 1 := by omega
    have c4 : (↑i + 1 : Int) ≤ ↑s.size := by omega
    have c5 : (↑i : Int) + 1 ≤ 4000000 := by omega
    go_enter Tryd.func32, Tryd.ntmps32
    go_wp2_with (go_at_call 39; refine (cI _).mono ?_; rintro e w' ⟨rfl, rfl⟩)
    go_region
    go_wp2
    go_ret3
    exact ⟨true, by rw [E1.out, E2.out]; rfl, 1, rfl⟩
theorem cutDot (s : ByteArray) (hs : s.size ≤ 4000000) (w : World) : Calls Tryd.prog 17 #[.string s, .string ⟨#[46]⟩] w (CutDot s w) := by
  go_enter Tryd.func17, Tryd.ntmps17
  go_wp2_with (go_at_call 32; refine (cut_in s hs _).mono ?_; rintro e w' ⟨f, rfl, n, rfl⟩)
  go_ret3
  exact ⟨f, rfl, n, rfl⟩
end Go.Proofs.YtmilkkingeeblaaDoor
