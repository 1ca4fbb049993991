/- Contracts: digits of bytes, as octet tells them and as the reference does. -/
import Derived.Test.YtlmlalogadlefaaOctE
import Derived.Deep.AppendLies
import Derived.Deep.RegionLaw
set_option linter.unusedVariables false
namespace Go.Proofs.Ytlmlalogadlefaa
open Go.RowKit

set_option maxHeartbeats 1600000 in
theorem hex_any (A : Option Addr) (n c : Nat) (l : List UInt8) (w : World) (h : Rd w A n c l) (hn : n ≤ 35184372088832) :
    Calls Try.prog 18 #[.slice A n c] w fun e w' => e = .returned (.string ⟨(hex l).toArray⟩) ∧ Below w.heap.size w w' := by
  obtain ⟨i0, hi, hz0, hz1, hz2⟩ := info_parts infoU8
  have HR := Lib.hid h
  have HL := Lib.hid h.len
  have hcm := h.cap
  have hcx := h.max
  unfold maxLen at hcx
  have HA := Lib.hid h.at_
  clear h
  go_enter Try.func18, Try.ntmps18
  go_wp2_with (at_make; refine wpList_make_own _ rfl (.const (.int .i64 0)) (.tmp 8) 23 rfl w.heap.size 5 i0 (.int .u8 0) 1 Try.underlying23 hi hz0 hz1 .i64 .i64 _ (2 * n) rfl rfl (by go_num) (by rw [hz2]; omega) (by unfold maxLen; omega) (Nat.le_refl _) ?_; intro w1 hown hgrow)
  have hb1 : Below w.heap.size w w1 := (Below.refl _ _).grown hgrow (Nat.le_refl _) (by intro k hk; cases hk)
  go_loopw [3, 12] (fun s i wr => ∃ (k : Nat) (A' : Option Addr) (c' : Nat), k ≤ n ∧ i = .int .i64 (k : Int) ∧ s = .slice A' (2 * k) c' ∧
      wr.ownsRow w.heap.size 5 1 (.slice A' (2 * k) c') (2 * k) ((hex (l.take k)).map B8) ∧ Below w.heap.size w wr)
    (fun _ i _ => n - (intOf i).toNat)
  case atStart => exact ⟨0, some ⟨w.heap.size, 0, none⟩, 2 * n, Nat.zero_le _, rfl, rfl, hown, hb1⟩
  case round =>
    clear hown hb1 hgrow
    obtain ⟨k, A', c', hk, rfl, rfl, hown, hbel⟩ := hrel
    have HO := Lib.hid hown
    clear hown
    by_cases hlt : k < n
    · obtain ⟨b, o, rfl, hc⟩ := HA.out (by omega)
      have HC := Lib.hid hc
      clear hc
      obtain ⟨x, HX, hcell, hx⟩ := Rd.cellx HC k hlt
      have hcell' := (hbel.cell (World.block_lt_of_cell? w _ hcell)).trans hcell
      clear hcell
      have h1 : (0 : Int) ≤ (x.toNat : Int) / 16 ∧ (x.toNat : Int) / 16 < 16 := by omega
      have h2 : (0 : Int) ≤ (x.toNat : Int) % 16 ∧ (x.toNat : Int) % 16 < 16 := by omega
      have hand : bits .and .u8 (x.toNat : Int) 15 = (x.toNat : Int) % 16 := by
        have := u8_and_nat x.toNat 15 (by omega) (by omega)
        rw [nat_mask4] at this
        exact this
      go_wp2
      go_region_law (refine step_append_lies (w := _) rfl (.tmp 16) (.tmp 23) 23 rfl w.heap.size 5 i0 (.int .u8 0) 1 1 Try.underlying23 hi hz0 hz1 hz2 rfl (by decide) (.slice A' (2 * k) c') (2 * k) _ rfl (HO.out.drew.alloc _) ⟨wr.heap.size, 0, none⟩ 2 2 _ rfl rfl (news_new _ [_, _] _) (by intro u hu; simp at hu; rcases hu with rfl | rfl <;> rfl) (by decide) (by unfold maxLen; omega) (by omega) (by have := hbel.size; simp; omega) _ rfl ?_; intro g c2 w2 hown2 hgrow2 hat2 hlt2; have HO2 := Lib.hid hown2; have HG2 := Lib.hid hgrow2; clear hown2 hgrow2 hat2)
      all_goals
        go_wp2
        go_roundw
        case rel =>
          have hsz := hbel.size
          refine ⟨k + 1, some ⟨g, 0, none⟩, c2, by omega, by go_num, rfl, ?_, ?_⟩
          · have hs := hex_step l k x (by rw [← HL.out]; exact hlt) HX.out
            rw [hs, List.map_append]
            have := HO2.out
            rw [dig_atI _ (x.toNat / 16) (by omega) (by omega), dig_atI _ (x.toNat % 16) (by omega) (by omega)] at this
            exact this
          · exact (((hbel.drew).alloc (by simpa using hsz) _).trans ((Below.refl _ _).grown HG2.out (by simp; omega) (fun b' hb' => (HO.out.lt b' hb').1)))
        case measure => first | (simp [intOf]; done) | (simp [intOf]; omega)
    · obtain rfl : k = n := by omega
      have HN : Hid (l.take k = l) := by rw [HL.out]; exact List.take_length
      have hrd := (Rd.of_own HO.out).str (P := Try.prog) 23 5 9 Try.underlying23 Try.underlying5 Try.underlying9
      rw [HN.out] at hrd
      go_wp2
      go_ret
      exact ⟨rfl, hbel⟩
end Go.Proofs.Ytlmlalogadlefaa
