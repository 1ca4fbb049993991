/- Contracts: a number as bytes, as octet puts it and as the reference does. -/
import Derived.Test.YtihbpmceggghgaaOctC
set_option linter.unusedVariables false
set_option linter.unusedSimpArgs false
namespace Go.Proofs.Ytihbpmceggghgaa
open Go.RowKit

theorem infoU8 : (Try.prog.info? 5).map (fun i => (i.zero, i.size, i.bytes)) = some (some (.int .u8 0), 1, 1) := by kernel_rfl

set_option maxHeartbeats 800000 in
theorem put_loop (N s : Nat) (w : World) (hN : N < 18446744073709551616) (h1 : 1 ≤ s) (h8 : s ≤ 8) (ht : s < 8 → N / 2 ^ (8 * s) = 0) :
    Calls Try.prog 63 #[.int .u64 N, .int .i64 s] w fun e w' => ∃ A c, e = .returned (.tuple #[.slice A s c, .int .i64 0]) ∧ w'.ownsRow w.heap.size 5 1 (.slice A s c) s ((be N s).map B8) ∧ Below w.heap.size w w' := by
  obtain ⟨i0, hi, hz0, hz1, hz2⟩ := info_parts infoU8
  have HT := Lib.hid ht
  clear ht
  have HE : Hid (s < 8 → ((N : Int) / 2 ^ (8 * s)) = 0) := by
    intro hs
    have h0 := HT.out hs
    have e1 : ((N : Int) / 2 ^ (8 * s) : Int) = 0 := by
      have : ((N : Int) / 2 ^ (8 * s)) = ((N / 2 ^ (8 * s) : Nat) : Int) := by simp
      rw [this, h0]; rfl
    exact e1
  clear HT
  by_cases hs : s < 8
  all_goals
    (try have e1 := HE.out hs)
    go_enter Try.func63, Try.ntmps63
    go_wp2_with (at_make; refine wpList_make_full _ rfl (.tmp 23) (.tmp 23) 34 rfl w.heap.size 5 i0 (.int .u8 0) 1 Try.underlying34 hi hz0 hz1 .i64 .i64 _ _ s rfl rfl rfl rfl (by rw [hz2]; omega) (by unfold maxLen; omega) (Nat.le_refl _) ?_; intro w1 hown hgrow)
    rw [made_bytes] at hown
    have hb1 : Below w.heap.size w w1 := (Below.refl _ _).grown hgrow (Nat.le_refl _) (by intro k hk; cases hk)
    go_loopw [0, 7] (fun m i wr => ∃ k : Nat, k ≤ s ∧ i = .int .i64 ((k : Int) - 1) ∧ m = .int .u64 (N / 256 ^ (s - k) : Nat) ∧
        wr.ownsRow w.heap.size 5 1 (.slice (some ⟨w.heap.size, 0, none⟩) s s) s ((List.replicate k (0 : UInt8) ++ be N (s - k)).map B8) ∧ Below w.heap.size w wr)
      (fun _ i _ => (intOf i + 1).toNat)
    case atStart => exact ⟨s, Nat.le_refl _, rfl, by rw [Nat.sub_self]; simp, by rw [Nat.sub_self]; simpa [be] using hown, hb1⟩
    case round =>
      clear hown hb1 hgrow
      obtain ⟨k, hk, rfl, rfl, hown, hbel⟩ := hrel
      have HO := Lib.hid hown
      clear hown
      rcases Nat.eq_zero_or_pos k with h0 | h0
      · subst h0
        go_wp2
        go_ret2
        refine ⟨_, _, rfl, ?_, hbel⟩
        simpa using HO.out
      · obtain ⟨k, rfl⟩ : ∃ j, k = j + 1 := ⟨k - 1, by omega⟩
        have e2 : ((k + 1 : Nat) : Int) - 1 = k := by omega
        rw [e2]
        clear e2
        have hcell : wr.cell? ⟨w.heap.size, k, none⟩ = some _ := own_cell HO.out k (by omega)
        have hfr := HO.out.frozenAt k
        have hM : N / 256 ^ (s - (k + 1)) < 18446744073709551616 := Nat.lt_of_le_of_lt (Nat.div_le_self _ _) hN
        obtain ⟨M, HM⟩ : ∃ M, Hid (M = N / 256 ^ (s - (k + 1))) := ⟨_, rfl⟩
        have hM' : M < 18446744073709551616 := by rw [HM.out]; exact hM
        rw [← HM.out]
        clear hM
        go_wp2
        go_roundw
        case rel =>
          refine ⟨k, by omega, rfl, ?_, ?_, hbel.setCell (Nat.le_refl _) _⟩
          · rw [show s - k = (s - (k + 1)) + 1 by omega, ← div256, ← HM.out]; go_num
          · have hs' := own_set HO.out k (UInt8.ofNat M)
            rw [set_zeros] at hs'
            rw [show s - k = (s - (k + 1)) + 1 by omega, be_succ, ← HM.out]
            exact hs'
        case measure => first | (simp [intOf]; done) | (simp [intOf]; omega)
end Go.Proofs.Ytihbpmceggghgaa
