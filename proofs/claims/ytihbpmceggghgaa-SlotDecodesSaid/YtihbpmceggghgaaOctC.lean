/- Contracts: noughts as the reference has it; the same bytes as octet has it; two bytes bit by bit; digits. -/
import Derived.Test.YtihbpmceggghgaaOctB
set_option linter.unusedVariables false
set_option linter.unusedSimpArgs false
namespace Go.Proofs.Ytihbpmceggghgaa
open Go.RowKit

theorem nat_beq0 (a : Nat) : ((a : Int) == 0) = (a == 0) := by rw [Bool.eq_iff_iff]; simp

set_option maxHeartbeats 400000 in
theorem refnought_any (A : Option Addr) (n c : Nat) (l : List UInt8) (w : World) (h : Rd w A n c l) :
    Calls Try.prog 66 #[.slice A n c] w fun e w' => e = .returned (.bool (zeros l)) ∧ w = w' := by
  have HL := Lib.hid h.len
  have hcm := h.cap
  have hcx := h.max
  unfold maxLen at hcx
  have HA := Lib.hid h.at_
  clear h
  go_enter Try.func66, Try.ntmps66
  go_wp2
  go_loop [3] (fun i => ∃ k : Nat, k ≤ n ∧ i = .int .i64 k ∧ zeros (l.take k) = true) (fun i => n - (intOf i).toNat)
  case atStart => exact ⟨0, Nat.zero_le _, rfl, rfl⟩
  case round =>
    obtain ⟨k, hk, rfl, hz⟩ := hrel
    have HZ := Lib.hid hz
    clear hz
    by_cases hlt : k < n
    · obtain ⟨b, o, rfl, hc⟩ := HA.out (by omega)
      have HC := Lib.hid hc
      clear hc
      obtain ⟨x, HX, hcell, hx⟩ := Rd.cellx HC k hlt
      have hnext := zeros_step l k x (by rw [← HL.out]; exact hlt) HX.out
      rw [HZ.out] at hnext
      by_cases hx0 : x = 0
      · subst hx0
        have HF := Lib.hid hnext
        clear hnext
        have h0 : ((UInt8.toNat 0 : Nat) : Int) = 0 := rfl
        rw [h0] at hcell
        clear h0
        go_wp2
        go_round
        case rel => exact ⟨k + 1, by omega, by go_num, by rw [HF.out]; rfl⟩
        case measure => simp [intOf]; omega
      · have hne : x.toNat ≠ 0 := by intro e; apply hx0; rw [← UInt8.toNat_inj]; exact e
        have hne' : ((x.toNat : Int) != 0) = true := by rw [bne_iff_ne]; omega
        have HF : Hid (zeros l = false) := by
          cases hzl : zeros l with
          | false => rfl
          | true =>
            exfalso
            have hall : ∀ y ∈ l, (y == 0) = true := by simpa [zeros] using hzl
            have hm : x ∈ l := by
              have hkl : k < l.length := by rw [← HL.out]; exact hlt
              have hX := HX.out
              rw [List.getD_eq_getElem?_getD, List.getElem?_eq_getElem hkl] at hX
              have : l[k] = x := hX
              rw [← this]; exact List.getElem_mem _
            have := hall x hm
            simp at this; exact hx0 this
        clear hnext hne hx0
        go_wp2
        go_ret
        exact ⟨by rw [HF.out]; rfl, rfl⟩
    · obtain rfl : k = n := by omega
      have HN : Hid (l.take k = l) := by rw [HL.out]; exact List.take_length
      go_wp2
      go_ret
      have := HZ.out
      rw [HN.out] at this
      exact ⟨by rw [this]; rfl, rfl⟩




end Go.Proofs.Ytihbpmceggghgaa
