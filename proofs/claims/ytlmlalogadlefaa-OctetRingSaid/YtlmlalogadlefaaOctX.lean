/- Contracts: two rows of bytes, bit by bit, as octet makes them and as the reference does. -/
import Derived.Test.YtlmlalogadlefaaOctG
import Derived.Deep.RegionHeld3
set_option linter.unusedVariables false
namespace Go.Proofs.Ytlmlalogadlefaa
open Go.RowKit

theorem xor_ne (A : Option Addr) (n c : Nat) (A' : Option Addr) (n' c' : Nat) (w : World) (hn : n ≠ n') (hm : n ≤ 9223372036854775807) (hm' : n' ≤ 9223372036854775807) :
    Calls Try.prog 23 #[.slice A n c, .slice A' n' c'] w fun e w' => e = .returned (.tuple #[.slice none 0 0, .int .i64 2]) ∧ w = w' := by
  have h1 : ((n : Int) != (n' : Int)) = true := by rw [bne_iff_ne]; omega
  clear hn
  go_enter Try.func23, Try.ntmps23
  go_wp2
  go_ret2
  exact ⟨rfl, rfl⟩
theorem set_zeros' (L : List UInt8) (k m : Nat) (x : UInt8) (hL : L.length = k) : (L ++ List.replicate (m + 1) (0 : UInt8)).set k x = (L ++ [x]) ++ List.replicate m 0 := by
  subst hL
  rw [List.set_append_right _ _ (Nat.le_refl _), Nat.sub_self, List.replicate_succ, List.set_cons_zero, List.append_assoc]
  rfl
set_option maxHeartbeats 1600000 in
theorem xor_eq (A : Option Addr) (n c : Nat) (l : List UInt8) (A' : Option Addr) (c' : Nat) (l' : List UInt8) (w : World) (h : Rd w A n c l) (h' : Rd w A' n c' l') (hn : n ≤ 140737488355328) :
    Calls Try.prog 23 #[.slice A n c, .slice A' n c'] w fun e w' => ∃ B d, e = .returned (.tuple #[.slice B n d, .int .i64 0]) ∧ w'.ownsRow w.heap.size 5 1 (.slice B n d) n ((xors l l').map B8) ∧ Below w.heap.size w w' := by
  obtain ⟨i0, hi, hz0, hz1, hz2⟩ := info_parts infoU8
  have HL := Lib.hid h.len
  have HL' := Lib.hid h'.len
  have hcm := h.cap
  have hcx := h.max
  unfold maxLen at hcx
  have HA := Lib.hid h.at_
  have HA' := Lib.hid h'.at_
  clear h h'
  have h1 : ((n : Int) != (n : Int)) = false := by simp
  go_enter Try.func23, Try.ntmps23
  go_wp2_with (at_make; refine wpList_make_full _ rfl (.tmp 14) (.tmp 14) 23 rfl w.heap.size 5 i0 (.int .u8 0) 1 Try.underlying23 hi hz0 hz1 .i64 .i64 _ _ n rfl rfl rfl rfl (by rw [hz2]; omega) (by unfold maxLen; omega) (Nat.le_refl _) ?_; intro w1 hown hgrow)
  rw [made_bytes] at hown
  have hb1 : Below w.heap.size w w1 := (Below.refl _ _).grown hgrow (Nat.le_refl _) (by intro k hk; cases hk)
  go_loopw [18] (fun i wr => ∃ k : Nat, k ≤ n ∧ i = .int .i64 (k : Int) ∧
      wr.ownsRow w.heap.size 5 1 (.slice (some ⟨w.heap.size, 0, none⟩) n n) n ((xors (l.take k) (l'.take k) ++ List.replicate (n - k) (0 : UInt8)).map B8) ∧ Below w.heap.size w wr)
    (fun i _ => n - (intOf i).toNat)
  case atStart => exact ⟨0, Nat.zero_le _, rfl, by simpa [xors] using hown, hb1⟩
  case round =>
    clear hown hb1 hgrow
    obtain ⟨k, hk, rfl, hown, hbel⟩ := hrel
    have HO := Lib.hid hown
    clear hown
    by_cases hlt : k < n
    · obtain ⟨b, o, rfl, hc⟩ := HA.out (by omega)
      obtain ⟨b', o', rfl, hc'⟩ := HA'.out (by omega)
      have HC := Lib.hid hc
      have HC' := Lib.hid hc'
      clear hc hc'
      obtain ⟨x, HX, hcell0, hx⟩ := Rd.cellx HC k hlt
      obtain ⟨y, HY, hcell0', hy⟩ := Rd.cellx HC' k hlt
      have hlb := World.block_lt_of_cell? w _ hcell0
      have hlb' := World.block_lt_of_cell? w _ hcell0'
      have hcell := (hbel.cell hlb).trans hcell0
      have hcell' := (hbel.cell hlb').trans hcell0'
      clear hcell0 hcell0'
      have hcg : wr.cell? ⟨w.heap.size, k, none⟩ = some _ := own_cell HO.out k hlt
      have hfr := HO.out.frozenAt k
      have hxo := u8_xor_nat x.toNat y.toNat (by omega) (by omega)
      go_wp2
      go_region
      all_goals
        go_wp2
        go_roundw
        case rel =>
          refine ⟨k + 1, by omega, by go_num, ?_, ?_⟩
          · have hs := own_set HO.out k (x ^^^ y)
            rw [show n - k = (n - (k + 1)) + 1 by omega, set_zeros' _ k _ _ (by rw [xors_length, List.length_take, List.length_take, ← HL.out, ← HL'.out]; omega)] at hs
            rw [xors_step l l' k x y (by rw [← HL.out]; exact hlt) (by rw [← HL'.out]; exact hlt) HX.out HY.out]
            have e : B8 (x ^^^ y) = Value.int .u8 ((x.toNat ^^^ y.toNat : Nat) : Int) := by
              show Value.int .u8 _ = _
              rw [UInt8.toNat_xor]
            rw [e] at hs
            exact hs
          · exact Below.drew (hbel.setCell (Nat.le_refl _) _)
        case measure => first | (simp [intOf]; done) | (simp [intOf]; omega)
    · obtain rfl : k = n := by omega
      have HN : Hid (l.take k = l) := by rw [HL.out]; exact List.take_length
      have HN' : Hid (l'.take k = l') := by rw [HL'.out]; exact List.take_length
      go_wp2
      go_ret2
      refine ⟨some ⟨w.heap.size, 0, none⟩, k, rfl, ?_, hbel⟩
      have := HO.out
      rw [HN.out, HN'.out, Nat.sub_self] at this
      simpa using this


set_option maxHeartbeats 1600000 in
theorem refxor_any (A : Option Addr) (n c : Nat) (l : List UInt8) (A' : Option Addr) (n' c' : Nat) (l' : List UInt8) (w : World) (h : Rd w A n c l) (h' : Rd w A' n' c' l') (hn : n ≤ 140737488355327) (hnn : n ≤ n') :
    Calls Try.prog 27 #[.slice A n c, .slice A' n' c'] w fun e w' => ∃ B d, e = .returned (.slice B n d) ∧ w'.ownsRow w.heap.size 5 1 (.slice B n d) n ((xors l (l'.take n)).map B8) ∧ Below w.heap.size w w' := by
  obtain ⟨i0, hi, hz0, hz1, hz2⟩ := info_parts infoU8
  have HL := Lib.hid h.len
  have HL' := Lib.hid h'.len
  have hcm := h.cap
  have hcx := h.max
  unfold maxLen at hcx
  have hcm' := h'.cap
  have hcx' := h'.max
  unfold maxLen at hcx'
  have HA := Lib.hid h.at_
  have HA' := Lib.hid h'.at_
  clear h h'
  go_enter Try.func27, Try.ntmps27
  go_wp2
  go_loopw [5, 6] (fun v z wr => ∃ (k : Nat) (B : Option Addr) (d : Nat), k ≤ n ∧ z = .int .i64 (k : Int) ∧ v = .slice B k d ∧
      wr.ownsRow w.heap.size 5 1 (.slice B k d) k ((xors (l.take k) (l'.take k)).map B8) ∧ Below w.heap.size w wr)
    (fun _ z _ => n - (intOf z).toNat)
  case atStart => exact ⟨0, none, 0, Nat.zero_le _, rfl, rfl, World.ownsRow_nil _ _ _ _, Below.refl _ _⟩
  case round =>
    obtain ⟨k, B, d, hk, rfl, rfl, hown, hbel⟩ := hrel
    have HO := Lib.hid hown
    clear hown
    by_cases hlt : k < n
    · obtain ⟨b, o, rfl, hc⟩ := HA.out (by omega)
      obtain ⟨b', o', rfl, hc'⟩ := HA'.out (by omega)
      have HC := Lib.hid hc
      have HC' := Lib.hid hc'
      clear hc hc'
      obtain ⟨x, HX, hcell0, hx⟩ := Rd.cellx HC k hlt
      obtain ⟨y, HY, hcell0', hy⟩ := Rd.cellx HC' k (by omega)
      have hlb := World.block_lt_of_cell? w _ hcell0
      have hlb' := World.block_lt_of_cell? w _ hcell0'
      have hcell := (hbel.cell hlb).trans hcell0
      have hcell' := (hbel.cell hlb').trans hcell0'
      clear hcell0 hcell0'
      have hlt' : k < n' := by omega
      go_wp2
      go_region_law (first
        | (refine step_append_lies (w := _) rfl (.tmp 13) (.tmp 23) 23 rfl w.heap.size 5 i0 (.int .u8 0) 1 1 Try.underlying23 hi hz0 hz1 hz2 rfl (by decide) (.slice B k d) k _ rfl (by first | exact (HO.out.drew.alloc _) | exact HO.out.alloc _) _ 1 1 _ rfl rfl (news_new _ [_] _) (by intro u hu; simp at hu; rcases hu with rfl; rfl) (by decide) (by unfold maxLen; omega) (by omega) (by have := hbel.size; first | (simp; done) | (simp; omega)) _ rfl ?_; intro g c2 w2 hown2 hgrow2 hat2 hlt2; have HO2 := Lib.hid hown2; have HG2 := Lib.hid hgrow2; clear hown2 hgrow2 hat2)
        | (go_simp; go_at_call 32; refine (bits_any _ _ _).mono ?_; rintro e w' ⟨rfl, m, rfl⟩))
      all_goals
        go_wp2
        go_roundw
        case rel =>
          have hsz := hbel.size
          refine ⟨k + 1, some ⟨g, 0, none⟩, c2, by omega, by go_num, rfl, ?_, ?_⟩
          · rw [xors_step l l' k x y (by rw [← HL.out]; exact hlt) (by rw [← HL'.out]; exact hlt') HX.out HY.out, List.map_append]
            have e : B8 (x ^^^ y) = Value.int .u8 ((x.toNat ^^^ y.toNat : Nat) : Int) := by
              show Value.int .u8 _ = _
              rw [UInt8.toNat_xor]
            have := HO2.out
            rw [← e] at this
            exact this
          · exact (((below_drewN hbel _).alloc (by simpa using hsz) _).trans ((Below.refl _ _).grown HG2.out (by first | (simp; done) | (simp; omega)) (fun b' hb' => (HO.out.lt b' hb').1)))
        case measure => first | (simp [intOf]; done) | (simp [intOf]; omega)
    · obtain rfl : k = n := by omega
      have HN : Hid (l.take k = l) := by rw [HL.out]; exact List.take_length
      go_wp2
      go_ret
      refine ⟨B, d, rfl, ?_, hbel⟩
      have := HO.out
      rw [HN.out] at this
      exact this
end Go.Proofs.Ytlmlalogadlefaa
