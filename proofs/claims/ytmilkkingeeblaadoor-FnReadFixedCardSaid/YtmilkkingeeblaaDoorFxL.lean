/- The walks of the four laws FnExactFixedText, FnExactReadFixed, FnFixedText, FnReadFixed: each returns true and turns nothing that was there. Conditions: the library's table of powers of ten holds what its initialiser lays. -/
import Derived.Test.YtmilkkingeeblaaDoorFxF
namespace Go.Proofs.YtmilkkingeeblaaDoor
open Go Go.RowKit

theorem walkExactFixedText (a0 : Int) (w : World) (ht : Tab w) : Calls Tryd.prog 6 #[.int .i64 a0] w fun e w' => e = .returned (.bool true) ∧ Below w.heap.size w w' := by
  go_enter Tryd.func6, Tryd.ntmps6
  go_wp2_with fail
  refine (fixedText_s a0 _).mono ?_
  rintro e w1 ⟨rfl, hb1⟩
  go_wp2_with fail
  refine (fixedText a0 _ (ht.stays hb1)).mono ?_
  rintro e w2 ⟨rfl, hb2⟩
  go_wp2_with fail
  go_ret
  exact ⟨rfl, below_then hb1 hb2⟩

theorem walkExactReadFixed (a0 : ByteArray) (w : World) (ht : Tab w) : Calls Tryd.prog 3 #[.string a0] w fun e w' => e = .returned (.bool true) ∧ Below w.heap.size w w' := by
  by_cases hl : 1048576 < a0.size
  · have h1 : (1048576 : Int) < (a0.size : Int) := by omega
    go_enter Tryd.func3, Tryd.ntmps3
    go_wp2_with fail
    go_ret
    exact ⟨rfl, Below.refl _ _⟩
  · have h1 : (a0.size : Int) ≤ 1048576 := by omega
    have e0 := bs_of a0
    obtain ⟨l, el⟩ : ∃ l, a0.data.toList = l := ⟨_, rfl⟩
    rw [el] at e0
    have h2 : l.length ≤ 2000000 := by rw [← el, ← Lib.size_eq]; omega
    subst e0
    clear el hl
    go_enter Tryd.func3, Tryd.ntmps3
    go_wp2_with fail
    refine (readFixed_s l h2 _).mono ?_
    rintro e w1 ⟨rfl, hb1⟩
    go_wp2_with fail
    refine (readFixed l h2 _ (ht.stays hb1)).mono ?_
    rintro e w2 ⟨rfl, hb2⟩
    go_wp2_with fail
    go_ret
    exact ⟨rfl, below_then hb1 hb2⟩

theorem walkFixedText (a0 : Option Addr) (len0 cap0 : Nat) (z0 : List Int) (w : World) (w0 : IsRow .u8 w a0 len0 cap0 z0) (ht : Tab w) : Calls Tryd.prog 4 #[.slice a0 len0 cap0] w fun e w' => e = .returned (.bool true) ∧ Below w.heap.size w w' := by
  by_cases hl : 1048576 < len0
  · have h1 : (1048576 : Int) < (len0 : Int) := by omega
    go_enter Tryd.func4, Tryd.ntmps4
    go_wp2_with fail
    go_ret
    exact ⟨rfl, Below.refl _ _⟩
  · have h1 : (len0 : Int) ≤ 1048576 := by omega
    go_enter Tryd.func4, Tryd.ntmps4
    go_wp2_with fail
    refine (drawFixedText _ _ _ _ _ w0).mono ?_
    rintro e w1 ⟨v, ⟨x, rfl, hx⟩, rfl, hb1⟩
    go_wp2_with fail
    refine (fixedText x _ (ht.stays hb1)).mono ?_
    rintro e w2 ⟨rfl, hb2⟩
    go_wp2_with fail
    refine (fixedText_s x _).mono ?_
    rintro e w3 ⟨rfl, hb3⟩
    have hb := below_then (below_then hb1 hb2) hb3
    by_cases hv : rv x = true
    · obtain ⟨R1, R2⟩ := rdB_text hv
      have he : (bs (fixT x)).toList.isEmpty = false := by rw [Lib.toList_data, bs_list]; exact (fixT_read hv).2.1
      have hlen := fixT_len x
      have ht3 := ht.stays hb
      go_wp2_with (go_at_call 12; refine (ringValid_s _ _).mono ?_; rintro e w' ⟨rfl, rfl⟩)
      refine (readFixed (fixT x) (by omega) _ ht3).mono ?_
      rintro e w4 ⟨rfl, hb4⟩
      rw [R1, R2]
      go_wp2_with fail
      go_ret
      exact ⟨rfl, below_then hb hb4⟩
    · have hv' : rv x = false := by simpa using hv
      have he : (bs (fixT x)).toList.isEmpty = true := by rw [Lib.toList_data, bs_list, fixT_no hv']; rfl
      go_wp2_with (first | (go_at_call 12; refine (ringValid_s _ _).mono ?_; rintro e w' ⟨rfl, rfl⟩) | (go_at_call 13; refine (alive _).mono ?_; rintro e w' ⟨rfl, rfl⟩))
      go_ret
      exact ⟨rfl, hb⟩

theorem walkReadFixed (a0 : Option Addr) (len0 cap0 : Nat) (z0 : List Int) (w : World) (w0 : IsRow .u8 w a0 len0 cap0 z0) (ht : Tab w) : Calls Tryd.prog 5 #[.slice a0 len0 cap0] w fun e w' => e = .returned (.bool true) ∧ Below w.heap.size w w' := by
  by_cases hl : 1048576 < len0
  · have h1 : (1048576 : Int) < (len0 : Int) := by omega
    go_enter Tryd.func5, Tryd.ntmps5
    go_wp2_with fail
    go_ret
    exact ⟨rfl, Below.refl _ _⟩
  · have h1 : (len0 : Int) ≤ 1048576 := by omega
    go_enter Tryd.func5, Tryd.ntmps5
    go_wp2_with fail
    refine (drawReadFixed _ _ _ _ _ w0).mono ?_
    rintro e w1 ⟨v, ⟨l, rfl, hl⟩, rfl, hb1⟩
    have ht1 := ht.stays hb1
    go_wp2_with fail
    refine (readFixed l (by omega) _ ht1).mono ?_
    rintro e w2 ⟨rfl, hb2⟩
    go_wp2_with fail
    refine (readFixed_s l (by omega) _).mono ?_
    rintro e w3 ⟨rfl, hb3⟩
    have hb := below_then (below_then hb1 hb2) hb3
    cases hr : rdB l with
    | false =>
      have R2 : rdN l = 0 := by simp [rdN, hr]
      go_wp2_with (go_at_call 13; refine (alive _).mono ?_; rintro e w' ⟨rfl, rfl⟩)
      go_ret
      exact ⟨rfl, hb⟩
    | true =>
      have R3 := rd_more l
      have R4 : rdN (l ++ [32]) = 0 := by simp [rdN, R3]
      obtain ⟨R1, _⟩ := rdB_yes hr
      have ht3 := ht.stays hb
      have k1 : ∀ W, (Op.stringOp .add (bs l) ⟨#[32]⟩).run Tryd.prog W = .ok (.string (bs (l ++ [32]))) W := fun W => bs_add l [32] (by omega) (by simp) W
      have cM : ∀ w, Tab w → Calls Tryd.prog 8 #[.string (bs (l ++ [32]))] w fun e w' => e = .returned (.tuple #[.int .i64 0, .bool false]) ∧ Below w.heap.size w w' := fun w h => by
        have := readFixed (l ++ [32]) (by simp; omega) w h
        rwa [R3, R4] at this
      have cF : ∀ w, Tab w → Calls Tryd.prog 10 #[.int .i64 (rdN l)] w fun e w' => e = .returned (.string (bs l)) ∧ Below w.heap.size w w' := fun w h => by
        have := fixedText (rdN l) w h
        rwa [R1] at this
      clear R1 R3 R4
      go_wp2_with fail
      refine (cM _ ht3).mono ?_
      rintro e w4 ⟨rfl, hb4⟩
      go_wp2_with fail
      refine (cF _ (ht3.stays hb4)).mono ?_
      rintro e w5 ⟨rfl, hb5⟩
      go_wp2_with fail
      go_ret
      exact ⟨rfl, below_then hb (below_then hb4 hb5)⟩
end Go.Proofs.YtmilkkingeeblaaDoor
