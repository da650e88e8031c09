/- The contract of the program's ReadFixed: it returns the ring number whose text the argument is, or 0 and false; behind the call all that was there stands. Conditions: the library's table of powers of ten holds what its initialiser lays; the text is not longer than 2000000 bytes. -/
import Derived.Test.YtmilkkingeeblaaDoorFxC
namespace Go.Proofs.YtmilkkingeeblaaDoor
open Go Go.RowKit

theorem below_drawn (w : World) (n : Nat) : Below w.heap.size w (w.drewN n) := ⟨rfl, rfl, rfl, Nat.le_refl _, fun _ _ => rfl⟩
theorem Tab.drawn {w : World} (h : Tab w) (n : Nat) : Tab (w.drewN n) := h.stays (below_drawn w n)
theorem cutPrefix (l : List UInt8) (w : World) : Calls Tryd.prog 16 #[.string (bs l), .string ⟨#[45]⟩] w fun e w' => e = .returned (.tuple #[.string (bs (body1 l)), .bool (Lib.hasPrefix l [45])]) ∧ w = w' := by
  have c := Tryd.strings_CutPrefix (bs l) ⟨#[45]⟩ w
  rw [bs_list] at c
  exact c.mono fun e w' ⟨he, hw⟩ => ⟨he, hw.symm⟩
theorem body1_len (l : List UInt8) : (body1 l).length ≤ l.length := by unfold body1 Lib.trimPrefix; split <;> simp
theorem cut_body (l : List UInt8) (hl : l.length ≤ 2000000) (w : World) : Calls Tryd.prog 17 #[.string (bs (body1 l)), .string ⟨#[46]⟩] w fun e w' => ∃ f : Bool, e = .returned (.tuple #[.string (bs (whole1 l)), .string (bs (digits1 l)), .bool f]) ∧ ∃ n, w' = w.drewN n := by
  have := cutDot (bs (body1 l)) (by rw [bs_size]; have := body1_len l; omega) w
  unfold CutDot at this
  rw [bs_list] at this
  exact this

theorem bs_ne {a b : List UInt8} (h : a ≠ b) : ((bs a).toList == (bs b).toList) = false := by
  rw [Lib.toList_data, Lib.toList_data, bs_list, bs_list]; simpa using h
set_option maxHeartbeats 1000000 in
theorem read_no (l : List UInt8) (hl : l.length ≤ 2000000) (w : World) (hg : ¬ ((whole1 l).length ≤ 3 ∧ (digits1 l).length ≤ 4)) : Calls Tryd.prog 8 #[.string (bs l)] w fun e w' => e = .returned (.tuple #[.int .i64 0, .bool false]) ∧ Below w.heap.size w w' := by
  have s1 := bs_size (whole1 l)
  have s2 := bs_size (digits1 l)
  have S1 := Lib.hid s1
  have S2 := Lib.hid s2
  by_cases h1 : (whole1 l).length ≤ 3
  · have c1 : ((bs (whole1 l)).size : Int) ≤ 3 := by omega
    have c2 : (4 : Int) < ((bs (digits1 l)).size : Int) := by omega
    clear s1 s2 hg h1
    go_enter Tryd.func8, Tryd.ntmps8
    go_wp2_with (first | (go_at_call 16; refine (cutPrefix l _).mono ?_; rintro e w' ⟨rfl, rfl⟩) | (go_at_call 17; refine (cut_body l hl _).mono ?_; rintro e w' ⟨f, rfl, n, rfl⟩))
    go_ret2
    exact ⟨rfl, below_drawn _ _⟩
  · have c1 : (3 : Int) < ((bs (whole1 l)).size : Int) := by omega
    clear s1 s2 hg h1
    go_enter Tryd.func8, Tryd.ntmps8
    go_wp2_with (first | (go_at_call 16; refine (cutPrefix l _).mono ?_; rintro e w' ⟨rfl, rfl⟩) | (go_at_call 17; refine (cut_body l hl _).mono ?_; rintro e w' ⟨f, rfl, n, rfl⟩))
    go_ret2
    exact ⟨rfl, below_drawn _ _⟩

theorem dec_whole (l : List UInt8) (h : l.length ≤ 8) (w : World) : Calls Tryd.prog 18 #[.string (bs l)] w fun e w' => e = .returned (.tuple #[.int .i64 (dofN l), .bool (dofB l)]) ∧ w = w' := by
  have := decimalOf (bs l) (by rw [bs_size]; exact h) w
  rwa [bs_list] at this

theorem full_eq (l : List UInt8) : bs (digits1 l) ++ (⟨#[48, 48, 48, 48]⟩ : ByteArray).extract (bs (digits1 l)).size 4 = bs (full1 l) := by
  apply ba_eq
  rw [bs_list, bs_size]
  unfold full1
  have h : (⟨#[48, 48, 48, 48]⟩ : ByteArray) = bs [48, 48, 48, 48] := rfl
  rw [h]
  have h2 : ∀ a b : ByteArray, (a ++ b).data.toList = a.data.toList ++ b.data.toList := fun a b => by simp
  rw [h2, bs_list, bs_extract, List.take_of_length_le (by simp)]
theorem dofN_bd (l : List UInt8) (h : l.length ≤ 8) : 0 ≤ dofN l ∧ dofN l < 100000000 := by
  unfold dofN
  split
  · exact decOf_small ‹_› h
  · decide

set_option maxHeartbeats 1000000 in
theorem read_yes (l : List UInt8) (hl : l.length ≤ 2000000) (w : World) (ht : Tab w) (hw : (whole1 l).length ≤ 3) (hd : (digits1 l).length ≤ 4) (hn : goes1 l = false ∨ fixT (cand1 l) ≠ l → rdB l = false ∧ rdN l = 0) : Calls Tryd.prog 8 #[.string (bs l)] w fun e w' => e = .returned (.tuple #[.int .i64 (rdN l), .bool (rdB l)]) ∧ Below w.heap.size w w' := by
  have s1 := bs_size (whole1 l)
  have s2 := bs_size (digits1 l)
  have c1 : ((bs (whole1 l)).size : Int) ≤ 3 := by omega
  have c2 : ((bs (digits1 l)).size : Int) ≤ 4 := by omega
  have lf : (full1 l).length ≤ 8 := by unfold full1; simp; omega
  have b1 := dofN_bd (whole1 l) (by omega)
  have b2 := dofN_bd (full1 l) lf
  obtain ⟨nw, bw, cW, EN, EB, b1⟩ : ∃ n b, (∀ w, Calls Tryd.prog 18 #[.string (bs (whole1 l))] w fun e w' => e = .returned (.tuple #[.int .i64 n, .bool b]) ∧ w = w') ∧ Hid (dofN (whole1 l) = n) ∧ Hid (dofB (whole1 l) = b) ∧ 0 ≤ n ∧ n < 100000000 := ⟨_, _, fun w => dec_whole _ (by omega) w, Lib.hid rfl, Lib.hid rfl, b1⟩
  obtain ⟨nf, bf, cF, FN, FB, b2⟩ : ∃ n b, (∀ w, Calls Tryd.prog 18 #[.string (bs (digits1 l) ++ (⟨#[48, 48, 48, 48]⟩ : ByteArray).extract (bs (digits1 l)).size 4)] w fun e w' => e = .returned (.tuple #[.int .i64 n, .bool b]) ∧ w = w') ∧ Hid (dofN (full1 l) = n) ∧ Hid (dofB (full1 l) = b) ∧ 0 ≤ n ∧ n < 100000000 := ⟨_, _, fun w => by rw [full_eq]; exact dec_whole _ lf w, Lib.hid rfl, Lib.hid rfl, b2⟩
  have hg : Hid (goes1 l = (bw && bf)) := by
    unfold goes1; rw [EB.out, FB.out, decide_eq_true hw, decide_eq_true hd]; exact Lib.hid (by simp)
  obtain ⟨b3, b4⟩ := b1
  obtain ⟨b5, b6⟩ := b2
  have HW := Lib.hid hw
  have HD := Lib.hid hd
  have HN := Lib.hid hn
  clear s1 s2 hw hd lf hn
  go_enter Tryd.func8, Tryd.ntmps8
  go_wp2_with (first | (go_at_call 16; refine (cutPrefix l _).mono ?_; rintro e w' ⟨rfl, rfl⟩) | (go_at_call 17; refine (cut_body l hl _).mono ?_; rintro e w' ⟨f, rfl, n, rfl⟩))
  refine (cW _).mono ?_
  rintro e w1 ⟨rfl, rfl⟩
  go_wp2_with fail
  refine (cF _).mono ?_
  rintro e w1 ⟨rfl, rfl⟩
  cases bw with
  | false =>
    obtain ⟨R1, R2⟩ := HN.out (.inl hg.out)
    go_wp2_with fail
    go_ret2
    exact ⟨ret_pair R2.symm R1.symm, below_drawn _ _⟩
  | true =>
    cases bf with
    | false =>
      obtain ⟨R1, R2⟩ := HN.out (.inl hg.out)
      go_wp2_with fail
      go_ret2
      exact ⟨ret_pair R2.symm R1.symm, below_drawn _ _⟩
    | true =>
      have hN : nw = decOf (whole1 l) := by
        have h := EB.out; unfold dofB at h; rw [Bool.and_eq_true] at h
        rw [← EN.out, dofN, if_pos h.1]
      have hF : nf = decOf (full1 l) := by
        have h := FB.out; unfold dofB at h; rw [Bool.and_eq_true] at h
        rw [← FN.out, dofN, if_pos h.1]
      have hX : Hid (cand1 l = (if Lib.hasPrefix l [45] then -(nw * 16 + nf / 625) else nw * 16 + nf / 625) % 4096) := by
        unfold cand1 num1; rw [hN, hF]; exact Lib.hid rfl
      clear hN hF
      cases hneg : Lib.hasPrefix l [45] with
      | false =>
        rw [hneg] at hX
        have hX' : Hid ((nw * 16 + nf / 625) % 4096 = cand1 l) := hX.out.symm
        clear hX
        go_wp2_with (go_at_call 19; refine (ringOf _ _).mono ?_; rintro e w' ⟨rfl, rfl⟩)
        rw [hX'.out]
        refine (fixedText (cand1 l) _ (ht.drawn n)).mono ?_
        rintro e w2 ⟨rfl, hb2⟩
        by_cases h : fixT (cand1 l) = l
        · obtain ⟨R1, R2⟩ := rd_prog_yes h
          rw [h]
          go_wp2_with fail
          go_ret2
          exact ⟨ret_pair R2.symm R1.symm, below_then (below_drawn w n) hb2⟩
        · obtain ⟨R1, R2⟩ := HN.out (.inr h)
          have hne := bs_ne h
          go_wp2_with fail
          go_ret2
          exact ⟨ret_pair R2.symm R1.symm, below_then (below_drawn w n) hb2⟩
      | true =>
        rw [hneg] at hX
        have hX' : Hid ((-(nw * 16 + nf / 625)) % 4096 = cand1 l) := hX.out.symm
        clear hX
        go_wp2_with (go_at_call 19; refine (ringOf _ _).mono ?_; rintro e w' ⟨rfl, rfl⟩)
        rw [hX'.out]
        refine (fixedText (cand1 l) _ (ht.drawn n)).mono ?_
        rintro e w2 ⟨rfl, hb2⟩
        by_cases h : fixT (cand1 l) = l
        · obtain ⟨R1, R2⟩ := rd_prog_yes h
          rw [h]
          go_wp2_with fail
          go_ret2
          exact ⟨ret_pair R2.symm R1.symm, below_then (below_drawn w n) hb2⟩
        · obtain ⟨R1, R2⟩ := HN.out (.inr h)
          have hne := bs_ne h
          go_wp2_with fail
          go_ret2
          exact ⟨ret_pair R2.symm R1.symm, below_then (below_drawn w n) hb2⟩

theorem readFixed (l : List UInt8) (hl : l.length ≤ 2000000) (w : World) (ht : Tab w) : Calls Tryd.prog 8 #[.string (bs l)] w fun e w' => e = .returned (.tuple #[.int .i64 (rdN l), .bool (rdB l)]) ∧ Below w.heap.size w w' := by
  by_cases hg : (whole1 l).length ≤ 3 ∧ (digits1 l).length ≤ 4
  · refine read_yes l hl w ht hg.1 hg.2 (fun h => rd_prog_no (fun h1 => ?_))
    rcases h with h | h
    · rw [h] at h1; cases h1
    · exact h
  · obtain ⟨R1, R2⟩ := rd_prog_no (l := l) (fun h1 => by
      unfold goes1 at h1
      simp only [Bool.and_eq_true, decide_eq_true_eq] at h1
      exact absurd ⟨h1.1.1.1, h1.1.1.2⟩ hg)
    rw [R1, R2]
    exact read_no l hl w hg
end Go.Proofs.YtmilkkingeeblaaDoor
