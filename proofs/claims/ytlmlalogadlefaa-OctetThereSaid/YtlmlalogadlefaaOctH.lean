/- Contracts: bytes out of digits, as octet reads them and as the reference does. -/
import Derived.Test.YtlmlalogadlefaaOctG
import Derived.Deep.RegionHeld3
set_option linter.unusedVariables false
namespace Go.Proofs.Ytlmlalogadlefaa
open Go.RowKit

theorem b8_pair (a b : Nat) (ha : a ≤ 15) (hb : b ≤ 15) : B8 (UInt8.ofNat (16 * a + b)) = Value.int .u8 (16 * (a : Int) + (b : Int)) := by
  have e3 : (UInt8.ofNat (16 * a + b)).toNat = 16 * a + b := by rw [UInt8.toNat_ofNat']; exact Nat.mod_eq_of_lt (by omega)
  show Value.int .u8 ((UInt8.ofNat (16 * a + b)).toNat : Int) = _
  rw [e3]
  rfl

set_option maxHeartbeats 800000 in
theorem unhex_bad (s : ByteArray) (i : Nat) (w : World) (hm : s.size ≤ 140737488351232) (hi : i < s.size) (hd : digs s.data.toList i) (hb : 15 < undig (s.data.toList.getD i 0)) :
    Calls Try.prog 21 #[.string s] w fun e w' => e = .returned (.tuple #[.slice none 0 0, .int .i64 5, .int .i64 i]) ∧ w = w' := by
  have HD := Lib.hid hd
  have HB := Lib.hid hb
  clear hd hb
  go_enter Try.func21, Try.ntmps21
  go_wp2
  go_loop [5] (fun z => ∃ k : Nat, k ≤ i ∧ z = .int .i64 k) (fun z => i - (intOf z).toNat)
  case atStart => exact ⟨0, Nat.zero_le _, rfl⟩
  case round =>
    obtain ⟨k, hk, rfl⟩ := hrel
    obtain ⟨x, HX⟩ : ∃ x, Hid (s.data.toList.getD k 0 = x) := ⟨_, rfl⟩
    have hx := str_index (P := Try.prog) 9 Try.underlying9 s k k rfl (by omega) x HX.out
    by_cases hlt : k < i
    · have hle : undig x ≤ 15 := by rw [← HX.out]; exact HD.out k hlt
      go_wp2_with (go_at_call 30; refine (digit_any x w).mono ?_; rintro e w' ⟨rfl, rfl⟩)
      go_round
      case rel => exact ⟨k + 1, by omega, by go_num⟩
      case measure => simp [intOf]; omega
    · obtain rfl : k = i := by omega
      have hgt : 15 < undig x := by rw [← HX.out]; exact HB.out
      go_wp2_with (go_at_call 30; refine (digit_any x w).mono ?_; rintro e w' ⟨rfl, rfl⟩)
      go_ret3
      exact ⟨rfl, rfl⟩
set_option maxHeartbeats 800000 in
theorem unhex_odd (s : ByteArray) (w : World) (hm : s.size ≤ 140737488351232) (hd : digs s.data.toList s.size) (ho : s.size % 2 = 1) :
    Calls Try.prog 21 #[.string s] w fun e w' => e = .returned (.tuple #[.slice none 0 0, .int .i64 4, .int .i64 s.size]) ∧ w = w' := by
  have HD := Lib.hid hd
  clear hd
  have hne : ((s.size : Int) % 2 != 0) = true := by rw [bne_iff_ne]; omega
  have HO := Lib.hid ho
  clear ho
  go_enter Try.func21, Try.ntmps21
  go_wp2
  go_loop [5] (fun z => ∃ k : Nat, k ≤ s.size ∧ z = .int .i64 k) (fun z => s.size - (intOf z).toNat)
  case atStart => exact ⟨0, Nat.zero_le _, rfl⟩
  case round =>
    obtain ⟨k, hk, rfl⟩ := hrel
    by_cases hlt : k < s.size
    · obtain ⟨x, HX⟩ : ∃ x, Hid (s.data.toList.getD k 0 = x) := ⟨_, rfl⟩
      have hx := str_index (P := Try.prog) 9 Try.underlying9 s k k rfl (by omega) x HX.out
      have hle : undig x ≤ 15 := by rw [← HX.out]; exact HD.out k hlt
      go_wp2_with (go_at_call 30; refine (digit_any x w).mono ?_; rintro e w' ⟨rfl, rfl⟩)
      go_round
      case rel => exact ⟨k + 1, by omega, by go_num⟩
      case measure => simp [intOf]; omega
    · have hk' : k = s.size := by omega
      clear hk
      subst hk'
      go_wp2
      go_ret3
      exact ⟨rfl, rfl⟩
theorem unhex_or (a b : Nat) (ha : a ≤ 15) (hb : b ≤ 15) : bits .or .u8 ((a : Int) * 16) (b : Int) = ((16 * a + b : Nat) : Int) := by
  have e : ((a : Int) * 16) = ((16 * a : Nat) : Int) := by omega
  rw [e, u8_or_nat (16 * a) b (by omega) (by omega)]
  congr 1
  exact nat_join 4 (16 * a) b (by omega) (by omega)
set_option maxHeartbeats 1600000 in
theorem unhex_ok (s : ByteArray) (n : Nat) (w : World) (hm : s.size ≤ 140737488351232) (hd : digs s.data.toList s.size) (hn : s.size = 2 * n) :
    Calls Try.prog 21 #[.string s] w fun e w' => ∃ A c, e = .returned (.tuple #[.slice A n c, .int .i64 0, .int .i64 0]) ∧ w'.ownsRow w.heap.size 5 1 (.slice A n c) n ((unhexN s.data.toList n).map B8) ∧ Below w.heap.size w w' := by
  obtain ⟨i0, hi, hz0, hz1, hz2⟩ := info_parts infoU8
  have HD := Lib.hid hd
  clear hd
  have hne : ((s.size : Int) % 2 != 0) = false := by rw [bne_eq_false_iff_eq]; omega
  have HN := Lib.hid hn
  have hn1 : s.size ≤ 2 * n := by omega
  have hn2 : 2 * n ≤ s.size := by omega
  clear hn
  go_enter Try.func21, Try.ntmps21
  go_wp2
  go_loop [2, 3, 4, 5] (fun v e a z => ∃ k : Nat, k ≤ s.size ∧ z = .int .i64 k ∧ v = .slice none 0 0 ∧ e = .int .i64 0 ∧ a = .int .i64 0) (fun _ _ _ z => s.size - (intOf z).toNat)
  case atStart => exact ⟨0, Nat.zero_le _, rfl, rfl, rfl, rfl⟩
  case round =>
    obtain ⟨k, hk, rfl, rfl, rfl, rfl⟩ := hrel
    by_cases hlt : k < s.size
    · obtain ⟨x, HX⟩ : ∃ x, Hid (s.data.toList.getD k 0 = x) := ⟨_, rfl⟩
      have hx := str_index (P := Try.prog) 9 Try.underlying9 s k k rfl (by omega) x HX.out
      have hle : undig x ≤ 15 := by rw [← HX.out]; exact HD.out k hlt
      go_wp2_with (go_at_call 30; refine (digit_any x w).mono ?_; rintro e w' ⟨rfl, rfl⟩)
      go_round
      case rel => exact ⟨k + 1, by omega, by go_num, rfl, rfl, rfl⟩
      case measure => simp [intOf]; omega
    · go_wp2
      clear hlt hk
      go_loopw [2, 6] (fun v z wr => ∃ (k : Nat) (A : Option Addr) (c : Nat), k ≤ n ∧ z = .int .i64 (2 * k : Nat) ∧ v = .slice A k c ∧
          wr.ownsRow w.heap.size 5 1 (.slice A k c) k ((unhexN s.data.toList k).map B8) ∧ Below w.heap.size w wr)
        (fun _ z _ => s.size - (intOf z).toNat)
      case atStart => exact ⟨0, none, 0, Nat.zero_le _, rfl, rfl, World.ownsRow_nil _ _ _ _, Below.refl _ _⟩
      case round =>
        obtain ⟨k, A, c, hk, rfl, rfl, hown, hbel⟩ := hrel
        have HO := Lib.hid hown
        clear hown
        by_cases hlt : k < n
        · obtain ⟨x, HX⟩ : ∃ x, Hid (s.data.toList.getD (2 * k) 0 = x) := ⟨_, rfl⟩
          obtain ⟨y, HY⟩ : ∃ y, Hid (s.data.toList.getD (2 * k + 1) 0 = y) := ⟨_, rfl⟩
          have hx := str_index (P := Try.prog) 9 Try.underlying9 s (2 * k) (2 * (k : Int)) (by omega) (by omega) x HX.out
          have hy := str_index (P := Try.prog) 9 Try.underlying9 s (2 * k + 1) (2 * (k : Int) + 1) (by omega) (by omega) y HY.out
          have hxle : undig x ≤ 15 := by rw [← HX.out]; exact HD.out _ (by omega)
          have hyle : undig y ≤ 15 := by rw [← HY.out]; exact HD.out _ (by omega)
          have hw1 : IntKind.i64.wrap (2 * (k : Int) + 1) = 2 * (k : Int) + 1 := IntWalk.i64_in _ (by omega)
          have hw2 : IntKind.u8.wrap ((undig x : Int) * 16) = (undig x : Int) * 16 := IntWalk.u8_in _ (by omega)
          have hor := unhex_or (undig x) (undig y) hxle hyle
          rw [show (((2 * k : Nat) : Int)) = 2 * (k : Int) by omega]
          go_wp2
          go_region_law (first
            | (refine step_append_lies (w := _) rfl (.tmp 31) (.tmp 43) 23 rfl w.heap.size 5 i0 (.int .u8 0) 1 1 Try.underlying23 hi hz0 hz1 hz2 rfl (by decide) (.slice A k c) k _ rfl (HO.out.drew.alloc _) ⟨wr.heap.size, 0, none⟩ 1 1 _ rfl rfl (news_new _ [_] _) (by intro u hu; simp at hu; rcases hu with rfl; rfl) (by decide) (by unfold maxLen; omega) (by omega) (by have := hbel.size; first | (simp; done) | (simp; omega)) _ rfl ?_; intro g c2 w2 hown2 hgrow2 hat2 hlt2; have HO2 := Lib.hid hown2; have HG2 := Lib.hid hgrow2; clear hown2 hgrow2 hat2)
            | (go_simp; go_at_call 30; refine (digit_any _ _).mono ?_; rintro e w' ⟨rfl, rfl⟩))
          all_goals
            go_wp2
            go_roundw
            case rel =>
              have hsz := hbel.size
              refine ⟨k + 1, some ⟨g, 0, none⟩, c2, by omega, by go_num, rfl, ?_, ?_⟩
              · rw [unhexN_succ s.data.toList k x y HX.out HY.out, List.map_append]
                have e := b8_pair (undig x) (undig y) hxle hyle
                have := HO2.out
                rw [← e] at this
                exact this
              · exact (((hbel.drew).alloc (by simpa using hsz) _).trans ((Below.refl _ _).grown HG2.out (by simp; omega) (fun b' hb' => (HO.out.lt b' hb').1)))
            case measure => first | (simp [intOf]; done) | (simp [intOf]; omega)
        · obtain rfl : k = n := by omega
          go_wp2
          go_ret3
          exact ⟨A, c, rfl, HO.out, hbel⟩


set_option maxHeartbeats 800000 in
theorem refunhex_bad (s : ByteArray) (i : Nat) (w : World) (hm : s.size ≤ 140737488351232) (hi : i < s.size) (hd : digs s.data.toList i) (hb : 15 < undig (s.data.toList.getD i 0)) :
    Calls Try.prog 22 #[.string s] w fun e w' => e = .returned (.tuple #[.slice none 0 0, .int .i64 5, .int .i64 i]) ∧ w = w' := by
  have HD := Lib.hid hd
  have HB := Lib.hid hb
  clear hd hb
  go_enter Try.func22, Try.ntmps22
  go_wp2
  go_loop [5] (fun z => ∃ k : Nat, k ≤ i ∧ z = .int .i64 k) (fun z => i - (intOf z).toNat)
  case atStart => exact ⟨0, Nat.zero_le _, rfl⟩
  case round =>
    obtain ⟨k, hk, rfl⟩ := hrel
    obtain ⟨x, HX⟩ : ∃ x, Hid (s.data.toList.getD k 0 = x) := ⟨_, rfl⟩
    have hx := str_index (P := Try.prog) 9 Try.underlying9 s k k rfl (by omega) x HX.out
    have kd := refdigit_any x w
    by_cases hlt : k < i
    · have hle : undig x ≤ 15 := by rw [← HX.out]; exact HD.out k hlt
      have e : refdig x = (undig x : Int) := by unfold refdig; rw [if_pos hle]
      rw [e] at kd
      have KD := Lib.hid kd
      clear kd e
      go_wp2_with (go_at_call 31; refine KD.out.mono ?_; rintro e w' ⟨rfl, rfl⟩)
      go_round
      case rel => exact ⟨k + 1, by omega, by go_num⟩
      case measure => simp [intOf]; omega
    · obtain rfl : k = i := by omega
      have hgt : 15 < undig x := by rw [← HX.out]; exact HB.out
      have e : refdig x = -1 := by unfold refdig; rw [if_neg (by omega)]
      rw [e] at kd
      have KD := Lib.hid kd
      clear kd e
      go_wp2_with (go_at_call 31; refine KD.out.mono ?_; rintro e w' ⟨rfl, rfl⟩)
      go_ret3
      exact ⟨rfl, rfl⟩
set_option maxHeartbeats 800000 in
theorem refunhex_odd (s : ByteArray) (w : World) (hm : s.size ≤ 140737488351232) (hd : digs s.data.toList s.size) (ho : s.size % 2 = 1) :
    Calls Try.prog 22 #[.string s] w fun e w' => e = .returned (.tuple #[.slice none 0 0, .int .i64 4, .int .i64 s.size]) ∧ w = w' := by
  have HD := Lib.hid hd
  clear hd
  have hne : ((s.size : Int) % 2 == 1) = true := by rw [beq_iff_eq]; omega
  have HO := Lib.hid ho
  clear ho
  go_enter Try.func22, Try.ntmps22
  go_wp2
  go_loop [5] (fun z => ∃ k : Nat, k ≤ s.size ∧ z = .int .i64 k) (fun z => s.size - (intOf z).toNat)
  case atStart => exact ⟨0, Nat.zero_le _, rfl⟩
  case round =>
    obtain ⟨k, hk, rfl⟩ := hrel
    by_cases hlt : k < s.size
    · obtain ⟨x, HX⟩ : ∃ x, Hid (s.data.toList.getD k 0 = x) := ⟨_, rfl⟩
      have hx := str_index (P := Try.prog) 9 Try.underlying9 s k k rfl (by omega) x HX.out
      have hle : undig x ≤ 15 := by rw [← HX.out]; exact HD.out k hlt
      have kd := refdigit_any x w
      have e : refdig x = (undig x : Int) := by unfold refdig; rw [if_pos hle]
      rw [e] at kd
      have KD := Lib.hid kd
      clear kd e
      go_wp2_with (go_at_call 31; refine KD.out.mono ?_; rintro e w' ⟨rfl, rfl⟩)
      go_round
      case rel => exact ⟨k + 1, by omega, by go_num⟩
      case measure => simp [intOf]; omega
    · have hk' : k = s.size := by omega
      clear hk
      subst hk'
      go_wp2
      go_ret3
      exact ⟨rfl, rfl⟩
theorem refdigit_ok (x : UInt8) (w : World) (hle : undig x ≤ 15) : Calls Try.prog 31 #[.int .u8 x.toNat] w fun e w' => e = .returned (.int .i64 (undig x)) ∧ w = w' := by
  have kd := refdigit_any x w
  have e : refdig x = (undig x : Int) := by unfold refdig; rw [if_pos hle]
  rw [e] at kd
  exact kd
set_option maxHeartbeats 1600000 in
theorem refunhex_ok (s : ByteArray) (n : Nat) (w : World) (hm : s.size ≤ 140737488351232) (hd : digs s.data.toList s.size) (hn : s.size = 2 * n) :
    Calls Try.prog 22 #[.string s] w fun e w' => ∃ A c, e = .returned (.tuple #[.slice A n c, .int .i64 0, .int .i64 0]) ∧ w'.ownsRow w.heap.size 5 1 (.slice A n c) n ((unhexN s.data.toList n).map B8) ∧ Below w.heap.size w w' := by
  obtain ⟨i0, hi, hz0, hz1, hz2⟩ := info_parts infoU8
  have HD := Lib.hid hd
  clear hd
  have hne : ((s.size : Int) % 2 == 1) = false := by rw [beq_eq_false_iff_ne]; omega
  have HN := Lib.hid hn
  have hn1 : s.size ≤ 2 * n := by omega
  have hn2 : 2 * n ≤ s.size := by omega
  clear hn
  go_enter Try.func22, Try.ntmps22
  go_wp2
  go_loop [2, 3, 4, 5] (fun v e a z => ∃ k : Nat, k ≤ s.size ∧ z = .int .i64 k ∧ v = .slice none 0 0 ∧ e = .int .i64 0 ∧ a = .int .i64 0) (fun _ _ _ z => s.size - (intOf z).toNat)
  case atStart => exact ⟨0, Nat.zero_le _, rfl, rfl, rfl, rfl⟩
  case round =>
    obtain ⟨k, hk, rfl, rfl, rfl, rfl⟩ := hrel
    by_cases hlt : k < s.size
    · obtain ⟨x, HX⟩ : ∃ x, Hid (s.data.toList.getD k 0 = x) := ⟨_, rfl⟩
      have hx := str_index (P := Try.prog) 9 Try.underlying9 s k k rfl (by omega) x HX.out
      have hle : undig x ≤ 15 := by rw [← HX.out]; exact HD.out k hlt
      go_wp2_with (go_at_call 31; refine (refdigit_ok x w hle).mono ?_; rintro e w' ⟨rfl, rfl⟩)
      go_round
      case rel => exact ⟨k + 1, by omega, by go_num, rfl, rfl, rfl⟩
      case measure => simp [intOf]; omega
    · go_wp2
      clear hlt hk
      go_loopw [6, 7] (fun v z wr => ∃ (k : Nat) (A : Option Addr) (c : Nat), k ≤ n ∧ z = .int .i64 (2 * k : Nat) ∧ v = .slice A k c ∧
          wr.ownsRow w.heap.size 5 1 (.slice A k c) k ((unhexN s.data.toList k).map B8) ∧ Below w.heap.size w wr)
        (fun _ z _ => s.size - (intOf z).toNat)
      case atStart => exact ⟨0, none, 0, Nat.zero_le _, rfl, rfl, World.ownsRow_nil _ _ _ _, Below.refl _ _⟩
      case round =>
        obtain ⟨k, A, c, hk, rfl, rfl, hown, hbel⟩ := hrel
        have HO := Lib.hid hown
        clear hown
        by_cases hlt : k < n
        · obtain ⟨x, HX⟩ : ∃ x, Hid (s.data.toList.getD (2 * k) 0 = x) := ⟨_, rfl⟩
          obtain ⟨y, HY⟩ : ∃ y, Hid (s.data.toList.getD (2 * k + 1) 0 = y) := ⟨_, rfl⟩
          have hx := str_index (P := Try.prog) 9 Try.underlying9 s (2 * k) (2 * (k : Int)) (by omega) (by omega) x HX.out
          have hy := str_index (P := Try.prog) 9 Try.underlying9 s (2 * k + 1) (2 * (k : Int) + 1) (by omega) (by omega) y HY.out
          have hxle : undig x ≤ 15 := by rw [← HX.out]; exact HD.out _ (by omega)
          have hyle : undig y ≤ 15 := by rw [← HY.out]; exact HD.out _ (by omega)
          have hw1 : IntKind.i64.wrap (2 * (k : Int) + 1) = 2 * (k : Int) + 1 := IntWalk.i64_in _ (by omega)
          have hw2 : IntKind.i64.wrap (16 * (undig x : Int)) = 16 * (undig x : Int) := IntWalk.i64_in _ (by omega)
          have hw3 : IntKind.i64.wrap (16 * (undig x : Int) + (undig y : Int)) = 16 * (undig x : Int) + (undig y : Int) := IntWalk.i64_in _ (by omega)
          have hw4 : IntKind.u8.wrap (16 * (undig x : Int) + (undig y : Int)) = 16 * (undig x : Int) + (undig y : Int) := IntWalk.u8_in _ (by omega)
          rw [show (((2 * k : Nat) : Int)) = 2 * (k : Int) by omega]
          go_wp2
          go_region_law (first
            | (refine step_append_lies (w := _) rfl (.tmp 32) (.tmp 45) 23 rfl w.heap.size 5 i0 (.int .u8 0) 1 1 Try.underlying23 hi hz0 hz1 hz2 rfl (by decide) (.slice A k c) k _ rfl (HO.out.drew.alloc _) ⟨wr.heap.size, 0, none⟩ 1 1 _ rfl rfl (news_new _ [_] _) (by intro u hu; simp at hu; rcases hu with rfl; rfl) (by decide) (by unfold maxLen; omega) (by omega) (by have := hbel.size; first | (simp; done) | (simp; omega)) _ rfl ?_; intro g c2 w2 hown2 hgrow2 hat2 hlt2; have HO2 := Lib.hid hown2; have HG2 := Lib.hid hgrow2; clear hown2 hgrow2 hat2)
            | (go_simp; go_at_call 31; refine (refdigit_ok _ _ (by assumption)).mono ?_; rintro e w' ⟨rfl, rfl⟩))
          all_goals
            go_wp2
            go_roundw
            case rel =>
              have hsz := hbel.size
              refine ⟨k + 1, some ⟨g, 0, none⟩, c2, by omega, by go_num, rfl, ?_, ?_⟩
              · rw [unhexN_succ s.data.toList k x y HX.out HY.out, List.map_append]
                have e := b8_pair (undig x) (undig y) hxle hyle
                have := HO2.out
                rw [← e] at this
                exact this
              · exact (((hbel.drew).alloc (by simpa using hsz) _).trans ((Below.refl _ _).grown HG2.out (by first | (simp; done) | (simp; omega)) (fun b' hb' => (HO.out.lt b' hb').1)))
            case measure => first | (simp [intOf]; done) | (simp [intOf]; omega)
        · obtain rfl : k = n := by omega
          go_wp2
          go_ret3
          exact ⟨A, c, rfl, HO.out, hbel⟩
end Go.Proofs.Ytlmlalogadlefaa
