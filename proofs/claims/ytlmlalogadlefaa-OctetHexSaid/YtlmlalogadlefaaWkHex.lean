/- The walk of OctetHex: the digits of bytes, here and by the reference. -/
import Derived.Test.YtlmlalogadlefaaOctKnown
import Derived.Test.YtlmlalogadlefaaOctG
set_option linter.unusedVariables false
namespace Go.Proofs.Ytlmlalogadlefaa
open Go.RowKit
set_option maxHeartbeats 1600000 in
theorem octetHex_walk (A : Option Addr) (n c : Nat) (l : List UInt8) (w : World) (h : Rd w A n c l) (hr : c ≤ 140737488351232) :
    Calls Try.prog 5 #[.slice A n c] w fun e w' => e = .returned (.bool true) ∧ Below w.heap.size w w' := by
  have hcm := h.cap
  have H := Lib.hid h
  clear h
  by_cases hn : (4096 : Int) < n
  · go_enter Try.func5, Try.ntmps5
    go_wp2_with (go_at_call 14; refine (known_any _).mono ?_; rintro e w1 ⟨rfl, hb1⟩)
    go_ret
    exact ⟨rfl, hb1⟩
  · go_enter Try.func5, Try.ntmps5
    go_wp2_with fail
    refine (copy_any A n c l w H.out (by omega)).mono ?_
    rintro e w1 ⟨A1, c1, rfl, hown, hb1⟩
    have R1 := Lib.hid (Rd.of_own hown)
    have R2 := Lib.hid (H.out.below hb1)
    clear hown
    go_wp2_with fail
    refine (hex_any A1 n c1 l w1 R1.out (by omega)).mono ?_
    rintro e w2 ⟨rfl, hb2⟩
    have R3 := Lib.hid (R2.out.below hb2)
    obtain ⟨S, HS⟩ : ∃ S : ByteArray, Hid (S = ⟨(hex l).toArray⟩) := ⟨_, rfl⟩
    rw [← HS.out]
    go_wp2_with fail
    refine (refhex_any A n c l w2 R3.out (by omega)).mono ?_
    rintro e w3 ⟨rfl, m, rfl⟩
    rw [← HS.out]
    go_wp2_with (go_at_call 14; refine (known_any _).mono ?_; rintro e w4 ⟨rfl, hb4⟩)
    go_ret
    refine ⟨rfl, (hb1.trans (hb2.mono hb1.size)).trans ?_⟩
    have hb5 : Below w2.heap.size w2 w4 := (below_drewN (Below.refl _ w2) m).trans hb4
    exact hb5.mono (Nat.le_trans hb1.size hb2.size)
end Go.Proofs.Ytlmlalogadlefaa
