/- Contracts: what may not be put; a number as the reference puts it; a copy with room behind it. -/
import Derived.Test.YtihbpmceggghgaaOctD
set_option linter.unusedVariables false
set_option linter.unusedSimpArgs false
namespace Go.Proofs.Ytihbpmceggghgaa
open Go.RowKit

theorem put_arg (N : Nat) (s : Int) (w : World) (h : s < 1 ∨ 8 < s) :
    Calls Try.prog 63 #[.int .u64 N, .int .i64 s] w fun e w' => e = .returned (.tuple #[.slice none 0 0, .int .i64 2]) ∧ w = w' := by
  rcases h with h | h
  · go_enter Try.func63, Try.ntmps63
    go_wp2
    go_ret2
    exact ⟨rfl, rfl⟩
  · have h' : 1 ≤ s := by omega
    go_enter Try.func63, Try.ntmps63
    go_wp2
    go_ret2
    exact ⟨rfl, rfl⟩
theorem put_range (N s : Nat) (w : World) (hN : N < 18446744073709551616) (h1 : 1 ≤ s) (h8 : s < 8) (ht : N / 2 ^ (8 * s) ≠ 0) :
    Calls Try.prog 63 #[.int .u64 N, .int .i64 s] w fun e w' => e = .returned (.tuple #[.slice none 0 0, .int .i64 6]) ∧ w = w' := by
  have e1 : ((N : Int) / 2 ^ (8 * s) != 0) = true := by
    have : ((N : Int) / 2 ^ (8 * s)) = ((N / 2 ^ (8 * s) : Nat) : Int) := by simp
    rw [this, bne_iff_ne]; omega
  clear ht
  go_enter Try.func63, Try.ntmps63
  go_wp2
  go_ret2
  exact ⟨rfl, rfl⟩

set_option maxHeartbeats 800000 in
theorem of_any (N s : Nat) (w : World) (hN : N < 18446744073709551616) (h8 : s ≤ 8) :
    Calls Try.prog 65 #[.int .u64 N, .int .i64 s] w fun e w' => ∃ A c, e = .returned (.tuple #[.slice A s c, .bool (N / 256 ^ s == 0)]) ∧ w'.ownsRow w.heap.size 5 1 (.slice A s c) s ((be N s).map B8) ∧ Below w.heap.size w w' := by
  obtain ⟨i0, hi, hz0, hz1, hz2⟩ := info_parts infoU8
  go_enter Try.func65, Try.ntmps65
  go_wp2_with (at_make; refine wpList_make_full _ rfl (.tmp 8) (.tmp 8) 34 rfl w.heap.size 5 i0 (.int .u8 0) 1 Try.underlying34 hi hz0 hz1 .i64 .i64 _ _ s rfl rfl rfl rfl (by rw [hz2]; omega) (by unfold maxLen; omega) (Nat.le_refl _) ?_; intro w1 hown hgrow)
  rw [made_bytes] at hown
  have hb1 : Below w.heap.size w w1 := (Below.refl _ _).grown hgrow (Nat.le_refl _) (by intro k hk; cases hk)
  go_loopw [0, 7] (fun m i wr => ∃ k : Nat, k ≤ s ∧ i = .int .i64 (k : Int) ∧ m = .int .u64 (N / 256 ^ k : Nat) ∧
      wr.ownsRow w.heap.size 5 1 (.slice (some ⟨w.heap.size, 0, none⟩) s s) s ((List.replicate (s - k) (0 : UInt8) ++ be N k).map B8) ∧ Below w.heap.size w wr)
    (fun _ i _ => s - (intOf i).toNat)
  case atStart => exact ⟨0, Nat.zero_le _, rfl, by simp, by simpa [be] using hown, hb1⟩
  case round =>
    clear hown hb1 hgrow
    obtain ⟨k, hk, rfl, rfl, hown, hbel⟩ := hrel
    have HO := Lib.hid hown
    clear hown
    have hM : N / 256 ^ k < 18446744073709551616 := Nat.lt_of_le_of_lt (Nat.div_le_self _ _) hN
    obtain ⟨M, HM⟩ : ∃ M, Hid (M = N / 256 ^ k) := ⟨_, rfl⟩
    have hM' : M < 18446744073709551616 := by rw [HM.out]; exact hM
    rw [← HM.out]
    clear hM
    by_cases hlt : k < s
    · have hcell : wr.cell? ⟨w.heap.size, s - 1 - k, none⟩ = some _ := own_cell HO.out (s - 1 - k) (by omega)
      have hfr := HO.out.frozenAt (s - 1 - k)
      go_wp2
      go_roundw
      case rel =>
        refine ⟨k + 1, by omega, by go_num, ?_, ?_, hbel.setCell (Nat.le_refl _) _⟩
        · rw [← div256, ← HM.out]; go_num
        · have hs' := own_set HO.out (s - 1 - k) (UInt8.ofNat M)
          rw [show s - k = (s - 1 - k) + 1 by omega, set_zeros] at hs'
          rw [show s - (k + 1) = s - 1 - k by omega, be_succ, ← HM.out]
          have e3 : (B8 (UInt8.ofNat M)) = Value.int .u8 ((M : Int) % 256) := by
            show Value.int .u8 _ = _
            congr 1
          rw [e3] at hs'
          exact hs'
      case measure => first | (simp [intOf]; done) | (simp [intOf]; omega)
    · obtain rfl : k = s := by omega
      go_wp2
      go_ret2
      refine ⟨some ⟨w.heap.size, 0, none⟩, k, ?_, ?_, hbel⟩
      · rw [← HM.out, ← nat_beq0]; rfl
      · simpa using HO.out

set_option maxHeartbeats 800000 in
theorem copy_any (A : Option Addr) (n c : Nat) (l : List UInt8) (w : World) (h : Rd w A n c l) (hn : n ≤ 140737488355328) :
    Calls Try.prog 21 #[.slice A n c] w fun e w' => ∃ A' c', e = .returned (.slice A' n c') ∧ w'.ownsRow w.heap.size 5 1 (.slice A' n c') n (l.map B8) ∧ Below w.heap.size w w' := by
  obtain ⟨i0, hi, hz0, hz1, hz2⟩ := info_parts infoU8
  obtain ⟨Z, HZ⟩ : ∃ Z, Hid (Z = (List.replicate (n + 3) (0 : UInt8)).map B8) := ⟨_, rfl⟩
  have hmk : ∀ W : World, (Instr.makeSlice 34 (.int .i64 (n : Int)) (.int .i64 ((n : Int) + 3))).run Try.prog W = .ok (.slice (some ⟨W.heap.size, 0, none⟩) n (n + 3)) (W.alloc (.cells Z.toArray 5)) := by
    intro W
    have := run_make_rowN (P := Try.prog) 34 5 i0 (.int .u8 0) Try.underlying34 hi hz0 .i64 .i64 n (n + 3) (by omega) (by rw [hz2]; omega) (by omega) W
    rw [hz1] at this
    rw [HZ.out, ← made_bytes (n + 3)]
    exact this
  have HR := Lib.hid h
  clear h hi hz0 hz1 hz2
  have hL := Lib.hid HR.out.len
  have hsz : (Try.prog.info? 5).map (·.size) = some 1 := by kernel_rfl
  have HS := Lib.hid hsz
  clear hsz
  have HB : Hid (Below w.heap.size w (w.alloc (.cells Z.toArray 5))) := (Below.refl _ _).alloc (Nat.le_refl _) _
  obtain ⟨cs, Hcs⟩ : ∃ cs, Hid (cs = l.map B8) := ⟨_, rfl⟩
  have hcl : cs.length = n := by rw [Hcs.out, hL.out]; simp
  have hZl : Z.length = n + 3 := by rw [HZ.out]; simp
  have HC1 : Hid (cs.length = n) := hcl
  have HZ1 : Hid (Z.length = n + 3) := hZl
  clear hcl hZl
  go_enter Try.func21, Try.ntmps21
  go_wp2_with (with_reducible refine wpList_copy_splice rfl (.tmp 10) (.tmp 11) 34 34 rfl 5 Try.underlying34 HS.out _ _ _ _ _ _ rfl rfl w.heap.size 0 Z 5 ?_ cs ?_ ?_ ?_ ?_ w.heap.size w HB.out (Nat.le_refl _) ?_)
  · exact heap_alloc_new w _
  · rw [HC1.out]; simp
  · intro h0
    obtain ⟨b, o, rfl, hc⟩ := HR.out.at_ (by rw [← HC1.out]; exact h0)
    first | refine ⟨rfl, ⟨b, o, none⟩, rfl, ?_⟩ | refine ⟨⟨b, o, none⟩, rfl, ?_⟩
    intro j v hj
    have hjl : j < n := by rw [← HC1.out]; exact (List.getElem?_eq_some_iff.1 hj).1
    have hb : b < w.heap.size := World.block_lt_of_cell? w _ (hc 0 (by omega))
    have hjl' : j < l.length := by rw [← hL.out]; exact hjl
    rw [Addr.add_lit, World.cell?_alloc_lt w _ _ hb, hc j hjl]
    rw [Hcs.out] at hj
    simpa [List.getD, List.getElem?_eq_getElem hjl'] using hj
  · rw [HC1.out, HZ1.out]; omega
  · intro v hv
    rw [Hcs.out] at hv
    obtain ⟨_, _, rfl⟩ := List.mem_map.1 hv
    rfl
  intro w2 HG hB
  go_wp2
  go_ret
  refine ⟨_, _, rfl, ?_, hB⟩
  refine own_of_heap HG.out (Nat.le_refl _) (by omega) (by unfold maxLen; omega) ?_ ?_ hL.out
  · rw [length_splice _ _ _ (by rw [HC1.out, HZ1.out]; omega), HZ1.out]
  · rw [← Hcs.out]
    show (splice Z 0 cs).take n = cs
    simp [splice, ← HC1.out]
end Go.Proofs.Ytihbpmceggghgaa
