/- Contracts: the reference's inverse, power, substitute and the way back. -/
import Derived.Test.YtfmgpnaahkpmiaaGalC
set_option linter.unusedVariables false
namespace Go.Proofs.Ytfmgpnaahkpmiaa
open Go.RowKit Gal

set_option maxRecDepth 20000 in
set_option maxHeartbeats 1600000 in
theorem refinv_any (a : Nat) (ha : a < 256) (w : World) : Calls Try.prog 17 #[.int .u8 a] w fun e w' => e = .returned (.int .u8 (inv a)) ∧ w = w' := by
  have HI0 : Hid (a = 0 → inv a = 0) := by rintro rfl; exact inv_zero
  have HIn : Hid (a ≠ 0 → gm a (inv a) = 1) := fun h => gm_inv a ha h
  have HIl : Hid (inv a < 256) := inv_lt a ha
  have HIu : Hid (∀ k, k < 256 → gm a k = 1 → k = inv a) := fun k hk h => inv_unique a k ha hk h
  obtain ⟨v, HV⟩ : ∃ v, Hid (inv a = v) := ⟨_, rfl⟩
  rw [HV.out] at HI0 HIn HIl HIu ⊢
  go_enter Try.func17, Try.ntmps17
  go_wp2
  go_loop [3] (fun i => ∃ k : Nat, k ≤ 256 ∧ i = .int .i64 k ∧ ∀ j, j < k → gm a j ≠ 1) (fun i => 256 - (intOf i).toNat)
  case atStart => exact ⟨0, by omega, rfl, fun j hj => by omega⟩
  case round =>
    obtain ⟨k, hk, rfl, hall⟩ := hrel
    have HA := Lib.hid hall
    clear hall
    by_cases hlt : k < 256
    · have M := Lib.hid (refmul_any a k ha hlt w)
      by_cases h1 : gm a k = 1
      · have HU := Lib.hid (HIu.out k hlt h1)
        have M1 : Hid (Calls Try.prog 14 #[.int .u8 a, .int .u8 k] w fun e w' => e = .returned (.int .u8 1) ∧ w = w') := by
          have := M.out
          rw [h1] at this
          exact this
        clear M h1
        go_wp2_with fail
        refine M1.out.mono ?_
        rintro e w' ⟨rfl, rfl⟩
        go_wp2
        go_ret
        exact ⟨ret_int (by rw [← HU.out]), rfl⟩
      · have hne : ((gm a k : Int) == 1) = false := by rw [beq_eq_false_iff_ne]; omega
        have HN := Lib.hid h1
        clear h1
        go_wp2_with fail
        refine M.out.mono ?_
        rintro e w' ⟨rfl, rfl⟩
        go_wp2
        go_round
        case rel =>
          refine ⟨k + 1, by omega, by go_num, fun j hj => ?_⟩
          rcases Nat.lt_or_ge j k with h | h
          · exact HA.out j h
          · obtain rfl : j = k := by omega
            exact HN.out
        case measure => simp [intOf]; omega
    · obtain rfl : k = 256 := by omega
      have h0 : Hid (v = 0) := by
        by_cases h : a = 0
        · exact HI0.out h
        · exact absurd (HIn.out h) (HA.out _ HIl.out)
      go_wp2
      go_ret
      exact ⟨ret_int (by rw [h0.out]; rfl), rfl⟩
set_option maxHeartbeats 800000 in
theorem refpower_any (a n : Nat) (ha : a < 256) (hn : n < 4294967296) (w : World) : Calls Try.prog 19 #[.int .u8 a, .int .u32 n] w fun e w' => e = .returned (.int .u8 (pw a n)) ∧ w = w' := by
  by_cases hn0 : n = 0
  · subst hn0
    go_enter Try.func19, Try.ntmps19
    go_wp2
    go_ret
    exact ⟨rfl, rfl⟩
  · have hne : ((n : Int) == 0) = false := by rw [beq_eq_false_iff_ne]; omega
    by_cases ha0 : a = 0
    · subst ha0
      have HP : Hid (pw 0 n = 0) := by
        obtain ⟨m, rfl⟩ : ∃ m, n = m + 1 := ⟨n - 1, by omega⟩
        exact zero_pw m
      go_enter Try.func19, Try.ntmps19
      go_wp2
      go_ret
      exact ⟨ret_int (by rw [HP.out]; rfl), rfl⟩
    · have hne2 : ((a : Int) == 0) = false := by rw [beq_eq_false_iff_ne]; omega
      have HP : Hid (pw a n = pw a (n % 255)) := pw_mod a ha ha0 n
      clear ha0 hn0
      go_enter Try.func19, Try.ntmps19
      go_wp2
      go_loop [5, 6] (fun c i => ∃ k : Nat, k ≤ n % 255 ∧ i = .int .u32 k ∧ c = .int .u8 (pw a k)) (fun _ i => n % 255 - (intOf i).toNat)
      case atStart => exact ⟨0, Nat.zero_le _, rfl, rfl⟩
      case round =>
        obtain ⟨k, hk, rfl, rfl⟩ := hrel
        have hc := pw_lt a ha k
        obtain ⟨c, Hc⟩ : ∃ c, Hid (c = pw a k) := ⟨_, rfl⟩
        rw [← Hc.out] at hc ⊢
        by_cases hlt : k < n % 255
        · have M := Lib.hid (refmul_any c a hc ha w)
          have HN : Hid (gm c a = pw a (k + 1)) := by show gm c a = _; rw [Hc.out]; rfl
          go_wp2_with fail
          refine M.out.mono ?_
          rintro e w' ⟨rfl, rfl⟩
          go_wp2
          go_round
          case rel => exact ⟨k + 1, by omega, by go_num, by rw [HN.out]⟩
          case measure => simp [intOf]; omega
        · have hk' : k = n % 255 := by omega
          have HK := Lib.hid hk'
          clear hk'
          go_wp2
          go_ret
          exact ⟨ret_int (by rw [Hc.out, HP.out, ← HK.out]), rfl⟩
theorem rbit_le (a i : Nat) : rbit a i ≤ 1 := by unfold rbit; omega
theorem raff_lt (b : Nat) : ∀ k, raff b k < 2 ^ k
  | 0 => by simp [raff]
  | k + 1 => by
    have := raff_lt b k
    simp only [raff]
    rw [Nat.pow_succ]
    omega
set_option maxHeartbeats 1600000 in
theorem refsub_any (a : Nat) (ha : a < 256) (w : World) : Calls Try.prog 21 #[.int .u8 a] w fun e w' => e = .returned (.int .u8 (sub a)) ∧ w = w' := by
  have hb := inv_lt a ha
  have hi := refinv_any a ha w
  have HS : Hid (sub a = raff (inv a) 8) := (raff_eq _ hb).symm
  obtain ⟨b, Hb⟩ : ∃ b, Hid (b = inv a) := ⟨_, rfl⟩
  rw [← Hb.out] at hb hi HS
  have HI := Lib.hid hi
  clear hi
  go_enter Try.func21, Try.ntmps21
  go_wp2_with fail
  refine HI.out.mono ?_
  rintro e w' ⟨rfl, rfl⟩
  go_wp2_with fail
  go_loop [4, 5] (fun s i => ∃ k : Nat, k ≤ 8 ∧ i = .int .i64 (7 - (k : Int)) ∧ s = .int .i64 (raff b k)) (fun _ i => (intOf i + 1).toNat)
  case atStart => exact ⟨0, by omega, rfl, rfl⟩
  case round =>
    obtain ⟨k, hk, rfl, rfl⟩ := hrel
    have hs : raff b k < 256 := Nat.lt_of_lt_of_le (raff_lt b k) (by have := Nat.pow_le_pow_right (n := 2) (by omega) hk; omega)
    obtain ⟨s, Hs⟩ : ∃ s, Hid (s = raff b k) := ⟨_, rfl⟩
    rw [← Hs.out] at hs ⊢
    by_cases hlt : k < 8
    · obtain ⟨i, hik⟩ : ∃ i, i + k = 7 := ⟨7 - k, by omega⟩
      have e7 : (7 : Int) - (k : Int) = (i : Int) := by omega
      rw [e7]
      clear e7
      obtain ⟨r1, f1⟩ : ∃ r, rbit b i = r := ⟨_, rfl⟩
      obtain ⟨r2, f2⟩ : ∃ r, rbit b (i + 4) = r := ⟨_, rfl⟩
      obtain ⟨r3, f3⟩ : ∃ r, rbit b (i + 5) = r := ⟨_, rfl⟩
      obtain ⟨r4, f4⟩ : ∃ r, rbit b (i + 6) = r := ⟨_, rfl⟩
      obtain ⟨r5, f5⟩ : ∃ r, rbit b (i + 7) = r := ⟨_, rfl⟩
      obtain ⟨r6, f6⟩ : ∃ r, rbit 99 i = r := ⟨_, rfl⟩
      have l1 := rbit_le b i
      have l2 := rbit_le b (i + 4)
      have l3 := rbit_le b (i + 5)
      have l4 := rbit_le b (i + 6)
      have l5 := rbit_le b (i + 7)
      have l6 := rbit_le 99 i
      rw [f1] at l1
      rw [f2] at l2
      rw [f3] at l3
      rw [f4] at l4
      rw [f5] at l5
      rw [f6] at l6
      have M1 := Lib.hid (bit_lit b i r1 i hb (by omega) rfl f1 w)
      have M2 := Lib.hid (bit_lit b (i + 4) r2 ((i : Int) + 4) hb (by omega) rfl f2 w)
      have M3 := Lib.hid (bit_lit b (i + 5) r3 ((i : Int) + 5) hb (by omega) rfl f3 w)
      have M4 := Lib.hid (bit_lit b (i + 6) r4 ((i : Int) + 6) hb (by omega) rfl f4 w)
      have M5 := Lib.hid (bit_lit b (i + 7) r5 ((i : Int) + 7) hb (by omega) rfl f5 w)
      have M6 : Hid (Calls Try.prog 29 #[.int .u8 99, .int .i64 i] w fun e w' => e = .returned (.int .i64 r6) ∧ w = w') := bit_lit 99 i r6 i (by omega) (by omega) rfl f6 w
      have HN : Hid (raff b (k + 1) = 2 * s + (r1 + r2 + r3 + r4 + r5 + r6) % 2) := by
        show raff b (k + 1) = _
        simp only [raff]
        rw [← Hs.out, show 7 - k = i by omega, f1, f2, f3, f4, f5, f6]
      clear f1 f2 f3 f4 f5 f6
      go_wp2_with fail
      refine M1.out.mono ?_
      rintro e w' ⟨rfl, rfl⟩
      go_wp2_with fail
      refine M2.out.mono ?_
      rintro e w' ⟨rfl, rfl⟩
      go_wp2_with fail
      refine M3.out.mono ?_
      rintro e w' ⟨rfl, rfl⟩
      go_wp2_with fail
      refine M4.out.mono ?_
      rintro e w' ⟨rfl, rfl⟩
      go_wp2_with fail
      refine M5.out.mono ?_
      rintro e w' ⟨rfl, rfl⟩
      go_wp2_with fail
      refine M6.out.mono ?_
      rintro e w' ⟨rfl, rfl⟩
      go_wp2
      go_round
      case rel => exact ⟨k + 1, by omega, by go_num, by rw [HN.out]; go_num⟩
      case measure => first | (simp [intOf]; done) | (simp [intOf]; omega)
    · obtain rfl : k = 8 := by omega
      go_wp2
      go_ret
      exact ⟨ret_int (by rw [HS.out, ← Hs.out]), rfl⟩
set_option maxRecDepth 20000 in
set_option maxHeartbeats 1600000 in
theorem refback_any (a : Nat) (ha : a < 256) (w : World) : Calls Try.prog 23 #[.int .u8 a] w fun e w' => e = .returned (.int .u8 (back a)) ∧ w = w' := by
  go_enter Try.func23, Try.ntmps23
  go_wp2
  go_loop [3] (fun i => ∃ k : Nat, k ≤ 256 ∧ i = .int .i64 k ∧ ∀ j, j < k → sub j ≠ a) (fun i => 256 - (intOf i).toNat)
  case atStart => exact ⟨0, by omega, rfl, fun j hj => by omega⟩
  case round =>
    obtain ⟨k, hk, rfl, hall⟩ := hrel
    have HA := Lib.hid hall
    clear hall
    by_cases hlt : k < 256
    · have M := Lib.hid (refsub_any k hlt w)
      by_cases h1 : sub k = a
      · have hu : k = back a := by rw [← h1, back_sub k hlt]
        have HU := Lib.hid hu
        rw [h1] at M
        clear hu h1
        go_wp2_with fail
        refine M.out.mono ?_
        rintro e w' ⟨rfl, rfl⟩
        go_wp2
        go_ret
        exact ⟨ret_int (by rw [← HU.out]), rfl⟩
      · have hne : ((sub k : Int) == (a : Int)) = false := by rw [beq_eq_false_iff_ne]; omega
        have HN := Lib.hid h1
        clear h1
        go_wp2_with fail
        refine M.out.mono ?_
        rintro e w' ⟨rfl, rfl⟩
        go_wp2
        go_round
        case rel =>
          refine ⟨k + 1, by omega, by go_num, fun j hj => ?_⟩
          rcases Nat.lt_or_ge j k with h | h
          · exact HA.out j h
          · obtain rfl : j = k := by omega
            exact HN.out
        case measure => first | (simp [intOf]; done) | (simp [intOf]; omega)
    · obtain rfl : k = 256 := by omega
      exact absurd (sub_back a ha) (HA.out _ (back_lt a ha))
end Go.Proofs.Ytfmgpnaahkpmiaa
