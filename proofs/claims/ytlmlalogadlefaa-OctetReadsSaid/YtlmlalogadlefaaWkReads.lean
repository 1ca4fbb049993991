/- The walk of OctetReads: a copy, both readings of the number. -/
import Derived.Test.YtlmlalogadlefaaOctKnown
set_option linter.unusedVariables false
namespace Go.Proofs.Ytlmlalogadlefaa
open Go.RowKit
set_option maxHeartbeats 800000 in
theorem octetReads_walk (A : Option Addr) (n c : Nat) (l : List UInt8) (w : World) (h : Rd w A n c l) (hr : c ≤ 140737488351232) :
    Calls Try.prog 4 #[.slice A n c] w fun e w' => e = .returned (.bool true) ∧ Below w.heap.size w w' := by
  have hcm := h.cap
  have HL := Lib.hid h.len
  have H := Lib.hid h
  clear h
  go_enter Try.func4, Try.ntmps4
  go_wp2_with fail
  refine (copy_any A n c l w H.out (by omega)).mono ?_
  rintro e w1 ⟨A1, c1, rfl, hown, hb1⟩
  have R1 := Lib.hid (Rd.of_own hown)
  have R2 := Lib.hid (H.out.below hb1)
  clear hown
  by_cases hok : 1 ≤ n ∧ n ≤ 8
  · obtain ⟨h1, h8⟩ := hok
    go_wp2_with fail
    refine (get_any A1 n c1 l w1 R1.out h1 h8).mono ?_
    rintro e w2 ⟨rfl, rfl⟩
    go_wp2_with fail
    refine (refget_any A n c l w1 R2.out h1 h8).mono ?_
    rintro e w2 ⟨rfl, rfl⟩
    go_wp2_with (go_at_call 14; refine (known_any _).mono ?_; rintro e w3 ⟨rfl, hb3⟩)
    go_ret
    exact ⟨rfl, hb1.trans (hb3.mono hb1.size)⟩
  · have hbad : n < 1 ∨ 8 < n := by omega
    go_wp2_with fail
    refine (get_bad A1 n c1 w1 hbad (by omega)).mono ?_
    rintro e w2 ⟨rfl, rfl⟩
    go_wp2_with fail
    refine (refget_bad A n c w1 hbad (by omega)).mono ?_
    rintro e w2 ⟨rfl, rfl⟩
    go_wp2_with (go_at_call 14; refine (known_any _).mono ?_; rintro e w3 ⟨rfl, hb3⟩)
    go_ret
    exact ⟨rfl, hb1.trans (hb3.mono hb1.size)⟩
end Go.Proofs.Ytlmlalogadlefaa
