/- Contracts: a number as bytes as the reference puts it; the digits of bytes as the reference tells them. -/
import Derived.Test.YtlmlalogadlefaaOctF
import Derived.WalkSpells
set_option linter.unusedVariables false
namespace Go.Proofs.Ytlmlalogadlefaa
open Go.RowKit

theorem refput_arg (N : Nat) (s : Int) (w : World) (h : s < 1 ∨ 8 < s) :
    Calls Try.prog 12 #[.int .u64 N, .int .i64 s] w fun e w' => e = .returned (.tuple #[.slice none 0 0, .int .i64 2]) ∧ w = w' := by
  rcases h with h | h
  · go_enter Try.func12, Try.ntmps12
    go_wp2
    go_ret2
    exact ⟨rfl, rfl⟩
  · have h' : 1 ≤ s := by omega
    go_enter Try.func12, Try.ntmps12
    go_wp2
    go_ret2
    exact ⟨rfl, rfl⟩
theorem refput_range (N s : Nat) (w : World) (hN : N < 18446744073709551616) (h1 : 1 ≤ s) (h8 : s ≤ 8) (ht : N / 256 ^ s ≠ 0) :
    Calls Try.prog 12 #[.int .u64 N, .int .i64 s] w fun e w' => e = .returned (.tuple #[.slice none 0 0, .int .i64 6]) ∧ Below w.heap.size w w' := by
  have k := of_any N s w hN h8
  have hz : (N / 256 ^ s == 0) = false := by simp [ht]
  rw [hz] at k
  have K := Lib.hid k
  clear k ht hz
  go_enter Try.func12, Try.ntmps12
  go_wp2_with (go_at_call 28; refine K.out.mono ?_; rintro e w1 ⟨A, c, rfl, hown, hb⟩)
  go_ret2
  exact ⟨rfl, hb⟩
theorem refput_ok (N s : Nat) (w : World) (hN : N < 18446744073709551616) (h1 : 1 ≤ s) (h8 : s ≤ 8) (ht : N / 256 ^ s = 0) :
    Calls Try.prog 12 #[.int .u64 N, .int .i64 s] w fun e w' => ∃ A c, e = .returned (.tuple #[.slice A s c, .int .i64 0]) ∧ w'.ownsRow w.heap.size 5 1 (.slice A s c) s ((be N s).map B8) ∧ Below w.heap.size w w' := by
  have k := of_any N s w hN h8
  have hz : (N / 256 ^ s == 0) = true := by simp [ht]
  rw [hz] at k
  have K := Lib.hid k
  clear k ht hz
  go_enter Try.func12, Try.ntmps12
  go_wp2_with (go_at_call 28; refine K.out.mono ?_; rintro e w1 ⟨A, c, rfl, hown, hb⟩)
  go_ret2
  exact ⟨A, c, rfl, hown, hb⟩

/-- One digit cut out of the text of digits. -/
theorem cut_dig (W : World) (z : Int) (i : Nat) (hz : z = (i : Int)) (hi : i < 16) :
    (Instr.slice 9 (.string ⟨#[48, 49, 50, 51, 52, 53, 54, 55, 56, 57, 97, 98, 99, 100, 101, 102]⟩) (some (.int .u8 z)) (some (.int .u8 (z + 1))) none).run Try.prog W = .ok (.string ⟨#[dig i]⟩) W := by
  subst hz
  rw [run_slice_string (P := Try.prog) W 9 _ .u8 .u8 (i : Int) ((i : Int) + 1) Try.underlying9 (by omega) (by omega) (by show ((i : Int) + 1) ≤ 16; omega)]
  have e := dig_cut ⟨i, hi⟩
  have e1 : (i : Int).toNat = i := by omega
  have e2 : ((i : Int) + 1).toNat = i + 1 := by omega
  rw [e1, e2, e]
set_option maxHeartbeats 1600000 in
theorem refhex_any (A : Option Addr) (n c : Nat) (l : List UInt8) (w : World) (h : Rd w A n c l) (hn : n ≤ 35184372088832) :
    Calls Try.prog 19 #[.slice A n c] w fun e w' => e = .returned (.string ⟨(hex l).toArray⟩) ∧ ∃ m, w' = w.drewN m := by
  have HL := Lib.hid h.len
  have hcm := h.cap
  have hcx := h.max
  unfold maxLen at hcx
  have HA := Lib.hid h.at_
  clear h
  go_enter Try.func19, Try.ntmps19
  go_wp2
  go_loopw [3, 4] (fun s i wr => ∃ k q0 : Nat, k ≤ n ∧ i = .int .i64 (k : Int) ∧ s = .string ⟨(hex (l.take k)).toArray⟩ ∧ wr = w.drewN q0)
    (fun _ i _ => n - (intOf i).toNat)
  case atStart => exact ⟨0, 0, Nat.zero_le _, rfl, rfl, rfl⟩
  case round =>
    obtain ⟨k, q0, hk, rfl, rfl, rfl⟩ := hrel
    by_cases hlt : k < n
    · obtain ⟨b, o, rfl, hc⟩ := HA.out (by omega)
      have HC := Lib.hid hc
      clear hc
      obtain ⟨x, HX, hcell, hx⟩ := Rd.cellx HC k hlt
      obtain ⟨S, HS⟩ : ∃ S : ByteArray, Hid (S = ⟨(hex (l.take k)).toArray⟩) := ⟨_, rfl⟩
      rw [← HS.out]
      have h1 : (0 : Int) ≤ (x.toNat : Int) / 16 ∧ (x.toNat : Int) / 16 < 16 := by omega
      have h2 : (0 : Int) ≤ (x.toNat : Int) % 16 ∧ (x.toNat : Int) % 16 < 16 := by omega
      have w1 : IntKind.u8.wrap ((x.toNat : Int) / 16) = (x.toNat : Int) / 16 := IntWalk.u8_in _ (by omega)
      have w2 : IntKind.u8.wrap ((x.toNat : Int) / 16 + 1) = (x.toNat : Int) / 16 + 1 := IntWalk.u8_in _ (by omega)
      have w3 : (x.toNat : Int).tmod 16 = (x.toNat : Int) % 16 := Int.tmod_eq_emod_of_nonneg (by omega)
      have w4 : IntKind.u8.wrap ((x.toNat : Int) % 16 + 1) = (x.toNat : Int) % 16 + 1 := IntWalk.u8_in _ (by omega)
      have s1 := fun W : World => cut_dig W ((x.toNat : Int) / 16) (x.toNat / 16) (by omega) (by omega)
      have s2 := fun W : World => cut_dig W ((x.toNat : Int) % 16) (x.toNat % 16) (by omega) (by omega)
      have hS : S.size ≤ 70368744177664 := by
        rw [HS.out]
        show (hex (l.take k)).toArray.size ≤ _
        rw [List.size_toArray, hex_length, List.length_take]; omega
      have a1 := fun W : World => run_string_add_sum (P := Try.prog) W S ⟨#[dig (x.toNat / 16)]⟩ (by show S.size + 1 ≤ _; omega)
      have a2 := fun W : World => run_string_add_sum (P := Try.prog) W (S ++ ⟨#[dig (x.toNat / 16)]⟩) ⟨#[dig (x.toNat % 16)]⟩ (by rw [ByteArray.size_append]; show S.size + 1 + 1 ≤ _; omega)
      go_wp2
      go_quiet (fail)
      go_wp2
      go_roundw
      case rel =>
        refine ⟨k + 1, _, by omega, by go_num, ?_, rfl⟩
        have hs := hex_step l k x (by rw [← HL.out]; exact hlt) HX.out
        rw [hs, HS.out]
        apply congrArg Value.string
        apply ByteArray.ext
        simp
      case measure => first | (simp [intOf]; done) | (simp [intOf]; omega)
    · obtain rfl : k = n := by omega
      have HN : Hid (l.take k = l) := by rw [HL.out]; exact List.take_length
      rw [HN.out]
      go_wp2
      go_ret
      exact ⟨rfl, _, rfl⟩
end Go.Proofs.Ytlmlalogadlefaa
