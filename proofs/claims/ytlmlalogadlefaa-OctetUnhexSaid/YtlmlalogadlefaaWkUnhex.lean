/- The walk of OctetUnhex: the bytes of digits, here and by the reference. -/
import Derived.Test.YtlmlalogadlefaaOctKnown
import Derived.Test.YtlmlalogadlefaaOctH
set_option linter.unusedVariables false
namespace Go.Proofs.Ytlmlalogadlefaa
open Go.RowKit
set_option maxHeartbeats 1600000 in
theorem octetUnhex_walk (s : ByteArray) (w : World) (hm : s.data.toList.length ≤ 140737488351232) :
    Calls Try.prog 7 #[.string s] w fun e w' => e = .returned (.bool true) ∧ Below w.heap.size w w' := by
  have hs : s.size ≤ 140737488351232 := by simpa using hm
  clear hm
  rcases digs_or s.data.toList s.size with hd | ⟨i, hi, hd, hb⟩
  · rcases Nat.mod_two_eq_zero_or_one s.size with ho | ho
    · have hn : s.size = 2 * (s.size / 2) := by omega
      obtain ⟨n, Hn⟩ : ∃ n, Hid (s.size = 2 * n) := ⟨_, hn⟩
      have HD := Lib.hid hd
      clear hd hn ho
      go_enter Try.func7, Try.ntmps7
      go_wp2_with fail
      refine (unhex_ok s n w hs HD.out Hn.out).mono ?_
      rintro e w1 ⟨A, c, rfl, hown, hb1⟩
      have R1 := Lib.hid (Rd.of_own hown)
      clear hown
      go_wp2_with fail
      refine (refunhex_ok s n w1 hs HD.out Hn.out).mono ?_
      rintro e w2 ⟨A2, c2, rfl, hown, hb2⟩
      have R2 := Lib.hid (Rd.of_own hown)
      have R1' := Lib.hid (R1.out.below hb2)
      clear hown
      obtain ⟨L, HL⟩ : ∃ L, Hid (L = unhexN s.data.toList n) := ⟨_, rfl⟩
      rw [← HL.out] at R1' R2
      go_wp2_with fail
      refine (same_any A n c L A2 n c2 L w2 R1'.out R2.out).mono ?_
      rintro e w3 ⟨rfl, rfl⟩
      go_wp2_with fail
      refine (known_any w2).mono ?_
      rintro e w3 ⟨rfl, hb3⟩
      go_wp2
      go_ret
      exact ⟨rfl, (hb1.trans (hb2.mono hb1.size)).trans (hb3.mono (Nat.le_trans hb1.size hb2.size))⟩
    · have HD := Lib.hid hd
      have HO := Lib.hid ho
      clear hd ho
      go_enter Try.func7, Try.ntmps7
      go_wp2_with fail
      refine (unhex_odd s w hs HD.out HO.out).mono ?_
      rintro e w1 ⟨rfl, rfl⟩
      go_wp2_with fail
      refine (refunhex_odd s w hs HD.out HO.out).mono ?_
      rintro e w1 ⟨rfl, rfl⟩
      go_wp2_with fail
      refine (same_any none 0 0 [] none 0 0 [] w (Rd.none_ w) (Rd.none_ w)).mono ?_
      rintro e w3 ⟨rfl, rfl⟩
      go_wp2_with fail
      refine (known_any w).mono ?_
      rintro e w3 ⟨rfl, hb3⟩
      go_wp2
      go_ret
      exact ⟨rfl, hb3⟩
  · have HD := Lib.hid hd
    have HB := Lib.hid hb
    clear hd hb
    go_enter Try.func7, Try.ntmps7
    go_wp2_with fail
    refine (unhex_bad s i w hs hi HD.out HB.out).mono ?_
    rintro e w1 ⟨rfl, rfl⟩
    go_wp2_with fail
    refine (refunhex_bad s i w hs hi HD.out HB.out).mono ?_
    rintro e w1 ⟨rfl, rfl⟩
    go_wp2_with fail
    refine (same_any none 0 0 [] none 0 0 [] w (Rd.none_ w) (Rd.none_ w)).mono ?_
    rintro e w3 ⟨rfl, rfl⟩
    go_wp2_with fail
    refine (known_any w).mono ?_
    rintro e w3 ⟨rfl, hb3⟩
    go_wp2
    go_ret
    exact ⟨rfl, hb3⟩
end Go.Proofs.Ytlmlalogadlefaa
