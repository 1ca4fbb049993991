/- Contracts: slices.Grow of nil, slices.Concat of slices of bytes. -/
import Derived.Test.YtihbpmceggghgaaOwn
set_option linter.unusedVariables false
set_option linter.unusedSimpArgs false
namespace Go.Proofs.Ytihbpmceggghgaa
open Go.RowKit

theorem below_new1 (w : World) (o : Obj) : Below w.heap.size w (w.alloc o) := (Below.refl _ _).alloc (Nat.le_refl _) _
set_option maxHeartbeats 800000 in
theorem grow_nil (n : Nat) (w : World) (hn : n ≤ 140737488355328) :
    Calls Try.prog 68 #[.slice none 0 0, .int .i64 n] w fun e w' => ∃ A c, e = .returned (.slice A 0 c) ∧ Own w' w.heap.size A 0 c [] ∧ Below w.heap.size w w' := by
  obtain ⟨i0, hi, hz0, hz1, hz2⟩ := info_parts infoU8
  rcases Nat.eq_zero_or_pos n with h0 | h0
  · subst h0
    clear hi hz0 hz1 hz2
    go_enter Try.func68, Try.ntmps68
    go_wp2
    go_ret
    exact ⟨none, 0, rfl, Own.nil _ _, Below.refl _ _⟩
  · have HR := fun W : World => Lib.run_append_nil_zeros (P := Try.prog) W 34 3 34 5 i0 (.int .u8 0) .i64 .i64 Try.underlying34 Try.underlying3 hi hz0 n h0 (by rw [hz1]; decide) (by omega) (by rw [hz2]; omega)
    have HH := Lib.hid HR
    have hd : decide ((n : Int) > 0) = true := by simp; omega
    have hd0 : decide ((n : Int) < 0) = false := by simp
    clear hi hz0 hz1 hz2 HR
    go_enter Try.func68, Try.ntmps68
    go_wp2_with (at_builtin; refine Lib.wpList_append_run _ rfl (.tmp 20) (.tmp 21) 34 3 rfl _ _ rfl rfl _ _ (HH.out _) ?_)
    go_ret
    refine ⟨_, _, rfl, ?_, (below_new1 w _).drew⟩
    have hg := grownCap_ge w n 0 5
    have hm := grownCap_le_maxLen w n 0 5 (by unfold maxLen; omega)
    have hsz : (Builtin.zeroCells #[Value.int .u8 0] n ++ Builtin.zeroCells #[Value.int .u8 0] (grownCap w n 0 5 - n)).size = grownCap w n 0 5 * 1 := by
      rw [Array.size_append, size_zeroCells, size_zeroCells]
      show n * 1 + (grownCap w n 0 5 - n) * 1 = _
      omega
    have := World.ownsRow_made (base := w.heap.size) (e := 5) (size := 1) w _ _ (Nat.le_refl _) hm hsz
    exact this

/-- slices.Concat of slices of bytes: all of them, one behind the other, in memory of its own. -/
theorem concat_any (A : Option Addr) (k c : Nat) (ls : List (List UInt8)) (w : World) (h : RdS w A k c ls) (hn : ls.flatten.length ≤ 140737488355328) :
    Calls Try.prog 64 #[.slice A k c] w fun e w' => ∃ A' c', e = .returned (.slice A' ls.flatten.length c') ∧ Own w' w.heap.size A' ls.flatten.length c' ls.flatten ∧ Below w.heap.size w w' := by
  have HR := Lib.hid h
  have hcap := h.cap
  have hmax := h.max
  unfold maxLen at hmax
  obtain ⟨N, HN⟩ : ∃ N, Hid (N = ls.flatten.length) := ⟨_, rfl⟩
  rw [← HN.out] at hn ⊢
  have HL : Hid (k = ls.length) := h.len
  clear h
  go_enter Try.func64, Try.ntmps64
  go_wp2
  go_loop [3, 11] (fun z i => ∃ j : Nat, j ≤ k ∧ i = .int .i64 j ∧ z = .int .i64 (tot ls j : Nat)) (fun _ i => k - (intOf i).toNat)
  case atStart => exact ⟨0, Nat.zero_le _, rfl, rfl⟩
  case round =>
    obtain ⟨j, hj, rfl, rfl⟩ := hrel
    by_cases hlt : j < k
    · obtain ⟨b, o, rfl, hc⟩ := HR.out.at_ (by omega)
      obtain ⟨A1, n1, c1, hcell, hrd⟩ := hc j hlt
      have HT := Lib.hid (tot_succ ls j (by rw [← HL.out]; exact hlt))
      have h1 := tot_le ls (j + 1)
      rw [HT.out, ← HN.out, ← hrd.len] at h1
      have HE := Lib.hid hrd.len
      clear hc hrd
      obtain ⟨t, Ht⟩ : ∃ t, Hid (t = tot ls j) := ⟨_, rfl⟩
      rw [← Ht.out] at h1 ⊢
      have hw : IntKind.i64.wrap ((t : Int) + (n1 : Int)) = (t : Int) + (n1 : Int) := IntWalk.i64_in _ (by omega)
      have hd : decide ((t : Int) + (n1 : Int) < 0) = false := decide_eq_false (by omega)
      go_wp2
      go_round
      case rel => exact ⟨j + 1, by omega, by go_num, by rw [HT.out, ← HE.out, ← Ht.out]; go_num⟩
      case measure => first | (simp [intOf]; done) | (simp [intOf]; omega)
    · obtain rfl : k = j := by omega
      have HK : Hid (tot ls k = N) := by
        show _ = _
        unfold tot
        rw [HL.out, List.take_length, HN.out]
      rw [HK.out]
      go_wp2_with (go_at_call 68; refine (grow_nil N _ hn).mono ?_; rintro e w1 ⟨A1, c1, rfl, hown, hb1⟩)
      go_loopw [6, 27] (fun z i wr => ∃ (j : Nat) (A2 : Option Addr) (c2 : Nat), j ≤ k ∧ i = .int .i64 j ∧ z = .slice A2 (tot ls j) c2 ∧ Own wr w.heap.size A2 (tot ls j) c2 (ls.take j).flatten ∧ Below w.heap.size w wr) (fun _ i _ => k - (intOf i).toNat)
      case atStart => exact ⟨0, A1, c1, Nat.zero_le _, rfl, rfl, hown, hb1⟩
      case round =>
        clear hown hb1
        obtain ⟨j, A2, c2, hj, rfl, rfl, hown, hbel⟩ := hrel
        have HO := Lib.hid hown
        clear hown
        by_cases hlt : j < k
        · obtain ⟨b, o, rfl, hc⟩ := HR.out.at_ (by omega)
          obtain ⟨A3, n1, c3, hcell, hrd⟩ := hc j hlt
          have HT := Lib.hid (tot_succ ls j (by rw [← HL.out]; exact hlt))
          have h1 := tot_le ls (j + 1)
          rw [HT.out, ← HN.out, ← hrd.len] at h1
          have HE := Lib.hid hrd
          have HF := Lib.hid (take_flatten_succ ls j (by rw [← HL.out]; exact hlt))
          have hcell2 := (hbel.cell (World.block_lt_of_cell? w _ hcell)).trans hcell
          clear hc hrd hcell
          obtain ⟨t, Ht⟩ : ∃ t, Hid (t = tot ls j) := ⟨_, rfl⟩
          rw [← Ht.out] at h1 HO ⊢
          go_wp2_with (at_builtin; refine wpList_app 34 Try.underlying34 rfl (.tmp 31) (.tmp 32) rfl rfl rfl HO.out (HE.out.below hbel) hbel.size (by omega) ?_; intro A4 c4 w4 hown4 hg4 hb4)
          have HO4 := Lib.hid hown4
          have HB4 := Lib.hid hb4
          clear hown4 hg4 hb4
          go_wp2
          go_roundw
          case rel =>
            refine ⟨j + 1, A4, c4, by omega, by go_num, ?_, ?_, hbel.trans HB4.out⟩
            · rw [HT.out, ← HE.out.len, ← Ht.out]
            · rw [HT.out, ← HE.out.len, ← Ht.out, HF.out]
              exact HO4.out
          case measure => first | (simp [intOf]; done) | (simp [intOf]; omega)
        · obtain rfl : k = j := by omega
          rw [HK.out] at HO ⊢
          have HF : Hid ((ls.take k).flatten = ls.flatten) := by rw [HL.out, List.take_length]; rfl
          go_wp2
          go_ret
          refine ⟨A2, c2, rfl, ?_, hbel⟩
          have := HO.out
          rw [HF.out] at this
          exact this
end Go.Proofs.Ytihbpmceggghgaa
