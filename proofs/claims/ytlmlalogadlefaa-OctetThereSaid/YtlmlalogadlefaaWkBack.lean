/- The walk of OctetBack: what was put is got, and what was got is put as it was. -/
import Derived.Test.YtlmlalogadlefaaOctKnown
import Derived.Test.YtlmlalogadlefaaOctG
set_option linter.unusedVariables false
namespace Go.Proofs.Ytlmlalogadlefaa
open Go.RowKit

theorem lawsame_any (A : Option Addr) (n c : Nat) (l : List UInt8) (A' : Option Addr) (n' c' : Nat) (l' : List UInt8) (w : World) (h : Rd w A n c l) (h' : Rd w A' n' c' l') :
    Calls Try.prog 20 #[.slice A n c, .slice A' n' c'] w fun e w' => e = .returned (.bool (l == l')) ∧ w = w' := by
  have k1 := h.str (P := Try.prog) 23 5 9 Try.underlying23 Try.underlying5 Try.underlying9
  have k2 := h'.str (P := Try.prog) 23 5 9 Try.underlying23 Try.underlying5 Try.underlying9
  clear h h'
  go_enter Try.func20, Try.ntmps20
  go_wp2
  go_ret
  exact ⟨rfl, rfl⟩

set_option maxHeartbeats 3200000 in
theorem octetBack_walk (N : Nat) (s : Int) (A : Option Addr) (n c : Nat) (l : List UInt8) (w : World) (hN : N < 18446744073709551616) (hb : -9223372036854775808 ≤ s ∧ s ≤ 9223372036854775807) (h : Rd w A n c l) (hr : c ≤ 140737488351232) :
    Calls Try.prog 6 #[.int .u64 N, .int .i64 s, .slice A n c] w fun e w' => e = .returned (.bool true) ∧ Below w.heap.size w w' := by
  have hcm := h.cap
  have HLl := Lib.hid h.len
  have H := Lib.hid h
  clear h
  have hcase : (s < 1 ∨ 8 < s) ∨ (∃ k : Nat, s = k ∧ 1 ≤ k ∧ k < 8 ∧ N / 256 ^ k ≠ 0) ∨ (∃ k : Nat, s = k ∧ 1 ≤ k ∧ k ≤ 8 ∧ N / 256 ^ k = 0) := by
    by_cases hs : s < 1 ∨ 8 < s
    · exact .inl hs
    · obtain ⟨k, rfl⟩ := Int.eq_ofNat_of_zero_le (show 0 ≤ s by omega)
      by_cases ht : N / 256 ^ k = 0
      · exact .inr (.inr ⟨k, rfl, by omega, by omega, ht⟩)
      · have : k < 8 := by
          rcases Nat.lt_or_ge k 8 with h | h
          · exact h
          · exfalso
            obtain rfl : k = 8 := by omega
            exact ht (Nat.div_eq_of_lt (by simpa using hN))
        exact .inr (.inl ⟨k, rfl, by omega, this, ht⟩)
  clear hb
  have hmid : n ≤ 9223372036854775807 := by omega
  rcases hcase with hs | ⟨k, rfl, hk1, hk8, ht⟩ | ⟨k, rfl, hk1, hk8, ht⟩
  · go_enter Try.func6, Try.ntmps6
    go_wp2_with fail
    refine (put_arg N s w hs).mono ?_
    rintro e w1 ⟨rfl, hw1⟩
    have hb1 : Below w.heap.size w w1 := by rw [← hw1]; exact Below.refl _ _
    clear hw1
    have R1 := Lib.hid (H.out.below hb1)
    go_wp2_with fail
    by_cases hok : 1 ≤ n ∧ n ≤ 8
    · obtain ⟨h1, h8⟩ := hok
      refine (get_any A n c l w1 R1.out h1 h8).mono ?_
      rintro e w2 ⟨rfl, rfl⟩
      have hnl := num_lt8 l (by rw [← HLl.out]; exact h8)
      go_wp2_with fail
      refine (put_loop (num l) n w1 hnl h1 h8 (by intro _; rw [pow_256, HLl.out]; exact Nat.div_eq_of_lt (num_lt l))).mono ?_
      rintro e w2 ⟨A2, c2, rfl, hown, hb2⟩
      have R2 := Rd.of_own hown
      have E : be (num l) n = l := by rw [HLl.out]; exact be_num l
      rw [E] at R2
      have R2' := Lib.hid R2
      have R1' := Lib.hid (R1.out.below hb2)
      clear hown R2 E
      go_wp2_with fail
      refine (lawsame_any A2 n c2 l A n c l w2 R2'.out R1'.out).mono ?_
      rintro e w3 ⟨rfl, rfl⟩
      go_wp2_with fail
      refine (known_any w2).mono ?_
      rintro e w3 ⟨rfl, hb3⟩
      go_wp2
      go_ret
      exact ⟨rfl, (hb1.trans (hb2.mono hb1.size)).trans (hb3.mono (Nat.le_trans hb1.size hb2.size))⟩
    · have hbad : n < 1 ∨ 8 < n := by omega
      refine (get_bad A n c w1 hbad hmid).mono ?_
      rintro e w2 ⟨rfl, rfl⟩
      rcases hbad with hbad | hbad
      all_goals
        go_wp2_with (go_at_call 14; refine (known_any _).mono ?_; rintro e w3 ⟨rfl, hb3⟩)
        go_ret
        exact ⟨congrArg (fun b => Ending.returned (Value.bool b)) (by first | rfl | (rw [Bool.or_eq_true, decide_eq_true_eq, decide_eq_true_eq]; omega)), hb1.trans (hb3.mono hb1.size)⟩
  · go_enter Try.func6, Try.ntmps6
    go_wp2_with fail
    refine (put_range N k w hN hk1 hk8 (by rw [pow_256]; exact ht)).mono ?_
    rintro e w1 ⟨rfl, hw1⟩
    have hb1 : Below w.heap.size w w1 := by rw [← hw1]; exact Below.refl _ _
    clear hw1 ht
    have R1 := Lib.hid (H.out.below hb1)
    go_wp2_with fail
    by_cases hok : 1 ≤ n ∧ n ≤ 8
    · obtain ⟨h1, h8⟩ := hok
      refine (get_any A n c l w1 R1.out h1 h8).mono ?_
      rintro e w2 ⟨rfl, rfl⟩
      have hnl := num_lt8 l (by rw [← HLl.out]; exact h8)
      go_wp2_with fail
      refine (put_loop (num l) n w1 hnl h1 h8 (by intro _; rw [pow_256, HLl.out]; exact Nat.div_eq_of_lt (num_lt l))).mono ?_
      rintro e w2 ⟨A2, c2, rfl, hown, hb2⟩
      have R2 := Rd.of_own hown
      have E : be (num l) n = l := by rw [HLl.out]; exact be_num l
      rw [E] at R2
      have R2' := Lib.hid R2
      have R1' := Lib.hid (R1.out.below hb2)
      clear hown R2 E
      go_wp2_with fail
      refine (lawsame_any A2 n c2 l A n c l w2 R2'.out R1'.out).mono ?_
      rintro e w3 ⟨rfl, rfl⟩
      go_wp2_with fail
      refine (known_any w2).mono ?_
      rintro e w3 ⟨rfl, hb3⟩
      go_wp2
      go_ret
      exact ⟨rfl, (hb1.trans (hb2.mono hb1.size)).trans (hb3.mono (Nat.le_trans hb1.size hb2.size))⟩
    · have hbad : n < 1 ∨ 8 < n := by omega
      refine (get_bad A n c w1 hbad hmid).mono ?_
      rintro e w2 ⟨rfl, rfl⟩
      rcases hbad with hbad | hbad
      all_goals
        go_wp2_with (go_at_call 14; refine (known_any _).mono ?_; rintro e w3 ⟨rfl, hb3⟩)
        go_ret
        exact ⟨congrArg (fun b => Ending.returned (Value.bool b)) (by first | rfl | (rw [Bool.or_eq_true, decide_eq_true_eq, decide_eq_true_eq]; omega)), hb1.trans (hb3.mono hb1.size)⟩
  · go_enter Try.func6, Try.ntmps6
    go_wp2_with fail
    refine (put_loop N k w hN hk1 hk8 (by intro _; rw [pow_256]; exact ht)).mono ?_
    rintro e w1 ⟨A0, c0, rfl, hown0, hb1⟩
    have R0 := Lib.hid (Rd.of_own hown0)
    clear hown0
    have R1 := Lib.hid (H.out.below hb1)
    have HNn : Hid (num (be N k) = N) := num_be_lt N k (by
      have hp : 0 < 256 ^ k := Nat.pow_pos (by omega)
      exact (Nat.div_eq_zero_iff_lt hp).1 ht)
    clear ht
    go_wp2_with fail
    refine (get_any A0 k c0 (be N k) w1 R0.out hk1 hk8).mono ?_
    rintro e w2 ⟨rfl, rfl⟩
    rw [HNn.out]
    go_wp2_with fail
    by_cases hok : 1 ≤ n ∧ n ≤ 8
    · obtain ⟨h1, h8⟩ := hok
      refine (get_any A n c l w1 R1.out h1 h8).mono ?_
      rintro e w2 ⟨rfl, rfl⟩
      have hnl := num_lt8 l (by rw [← HLl.out]; exact h8)
      go_wp2_with fail
      refine (put_loop (num l) n w1 hnl h1 h8 (by intro _; rw [pow_256, HLl.out]; exact Nat.div_eq_of_lt (num_lt l))).mono ?_
      rintro e w2 ⟨A2, c2, rfl, hown, hb2⟩
      have R2 := Rd.of_own hown
      have E : be (num l) n = l := by rw [HLl.out]; exact be_num l
      rw [E] at R2
      have R2' := Lib.hid R2
      have R1' := Lib.hid (R1.out.below hb2)
      clear hown R2 E
      go_wp2_with fail
      refine (lawsame_any A2 n c2 l A n c l w2 R2'.out R1'.out).mono ?_
      rintro e w3 ⟨rfl, rfl⟩
      go_wp2_with fail
      refine (known_any w2).mono ?_
      rintro e w3 ⟨rfl, hb3⟩
      go_wp2
      go_ret
      exact ⟨rfl, (hb1.trans (hb2.mono hb1.size)).trans (hb3.mono (Nat.le_trans hb1.size hb2.size))⟩
    · have hbad : n < 1 ∨ 8 < n := by omega
      refine (get_bad A n c w1 hbad hmid).mono ?_
      rintro e w2 ⟨rfl, rfl⟩
      rcases hbad with hbad | hbad
      all_goals
        go_wp2_with (go_at_call 14; refine (known_any _).mono ?_; rintro e w3 ⟨rfl, hb3⟩)
        go_ret
        exact ⟨congrArg (fun b => Ending.returned (Value.bool b)) (by first | rfl | (rw [Bool.or_eq_true, decide_eq_true_eq, decide_eq_true_eq]; omega)), hb1.trans (hb3.mono hb1.size)⟩
end Go.Proofs.Ytlmlalogadlefaa
