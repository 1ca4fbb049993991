/- The walk of OctetNumbers: a number put, here and by the reference. -/
import Derived.Test.YtlmlalogadlefaaOctKnown
import Derived.Test.YtlmlalogadlefaaOctG
set_option linter.unusedVariables false
namespace Go.Proofs.Ytlmlalogadlefaa
open Go.RowKit
set_option maxHeartbeats 1600000 in
theorem octetNumbers_walk (N : Nat) (s : Int) (w : World) (hN : N < 18446744073709551616) (hb : -9223372036854775808 ≤ s ∧ s ≤ 9223372036854775807) :
    Calls Try.prog 3 #[.int .u64 N, .int .i64 s] w fun e w' => e = .returned (.bool true) ∧ Below w.heap.size w w' := by
  by_cases hs : s < 1 ∨ 8 < s
  · go_enter Try.func3, Try.ntmps3
    go_wp2_with fail
    refine (put_arg N s w hs).mono ?_
    rintro e w1 ⟨rfl, rfl⟩
    go_wp2_with fail
    refine (refput_arg N s w hs).mono ?_
    rintro e w1 ⟨rfl, rfl⟩
    go_wp2_with fail
    refine (same_any none 0 0 [] none 0 0 [] w (Rd.none_ w) (Rd.none_ w)).mono ?_
    rintro e w1 ⟨rfl, rfl⟩
    go_wp2_with fail
    refine (known_any w).mono ?_
    rintro e w1 ⟨rfl, hb1⟩
    go_wp2
    go_ret
    exact ⟨rfl, hb1⟩
  · obtain ⟨s, rfl⟩ := Int.eq_ofNat_of_zero_le (show 0 ≤ s by omega)
    have h1 : 1 ≤ s := by omega
    have h8 : s ≤ 8 := by omega
    clear hs hb
    by_cases ht : N / 256 ^ s = 0
    · have HT := Lib.hid ht
      clear ht
      go_enter Try.func3, Try.ntmps3
      go_wp2_with fail
      refine (put_loop N s w hN h1 h8 (by intro _; rw [pow_256]; exact HT.out)).mono ?_
      rintro e w1 ⟨A, c, rfl, hown, hb1⟩
      have H1 := Lib.hid (Rd.of_own hown)
      clear hown
      go_wp2_with fail
      refine (refput_ok N s w1 hN h1 h8 HT.out).mono ?_
      rintro e w2 ⟨A2, c2, rfl, hown, hb2⟩
      have H2 := Lib.hid (Rd.of_own hown)
      clear hown
      have H1' := Lib.hid (H1.out.below hb2)
      go_wp2_with fail
      refine (same_any A s c (be N s) A2 s c2 (be N s) w2 H1'.out H2.out).mono ?_
      rintro e w3 ⟨rfl, rfl⟩
      go_wp2_with fail
      refine (known_any w2).mono ?_
      rintro e w3 ⟨rfl, hb3⟩
      go_wp2
      go_ret
      exact ⟨rfl, (hb1.trans (hb2.mono hb1.size)).trans (hb3.mono (Nat.le_trans hb1.size hb2.size))⟩
    · have HT := Lib.hid ht
      have h8' : s < 8 := by
        rcases Nat.lt_or_ge s 8 with h | h
        · exact h
        · exfalso
          obtain rfl : s = 8 := by omega
          exact ht (Nat.div_eq_of_lt (by simpa using hN))
      clear ht
      go_enter Try.func3, Try.ntmps3
      go_wp2_with fail
      refine (put_range N s w hN h1 h8' (by rw [pow_256]; exact HT.out)).mono ?_
      rintro e w1 ⟨rfl, rfl⟩
      go_wp2_with fail
      refine (refput_range N s w hN h1 h8 HT.out).mono ?_
      rintro e w2 ⟨rfl, hb2⟩
      go_wp2_with fail
      refine (same_any none 0 0 [] none 0 0 [] w2 (Rd.none_ w2) (Rd.none_ w2)).mono ?_
      rintro e w3 ⟨rfl, rfl⟩
      go_wp2_with fail
      refine (known_any w2).mono ?_
      rintro e w3 ⟨rfl, hb3⟩
      go_wp2
      go_ret
      exact ⟨rfl, hb2.trans (hb3.mono hb2.size)⟩
end Go.Proofs.Ytlmlalogadlefaa
