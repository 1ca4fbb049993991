/- Contracts: the substitute and the way back; what every statement of the layer asks besides. -/
import Derived.Test.YtfmgpnaahkpmiaaGalA
set_option linter.unusedVariables false
namespace Go.Proofs.Ytfmgpnaahkpmiaa
open Go.RowKit Gal

theorem bxor (a b c : Nat) (ha : a < 256) (hb : b < 256) (h : a ^^^ b = c) : bits .xor .u8 (a : Int) (b : Int) = (c : Int) := by rw [u8_xor_nat a b ha hb, h]
theorem round_lit (b n x : Nat) (z : Int) (hb : b < 256) (hn : n ≤ 8) (hz : z = (n : Int)) (hx : rot b n = x) (W : World) :
    Calls Try.prog 30 #[.int .u8 b, .int .i64 z] W fun e w' => e = .returned (.int .u8 x) ∧ Drawn W w' := by
  subst hz; subst hx
  exact (round_any b n hb hn W).mono fun e w' ⟨he, m, hw⟩ => ⟨he, m, hw⟩

set_option maxHeartbeats 800000 in
theorem sub_any (a : Nat) (ha : a < 256) (w : World) : Calls Try.prog 20 #[.int .u8 a] w fun e w' => e = .returned (.int .u8 (sub a)) ∧ Drawn w w' := by
  have hb := inv_lt a ha
  have hi := inv_any a ha w
  have HS : Hid (sub a = aff (inv a)) := rfl
  obtain ⟨b, Hb⟩ : ∃ b, Hid (b = inv a) := ⟨_, rfl⟩
  rw [← Hb.out] at hb hi HS
  have HI := Lib.hid hi
  clear hi
  obtain ⟨x1, e1⟩ : ∃ x, rot b 1 = x := ⟨_, rfl⟩
  obtain ⟨x2, e2⟩ : ∃ x, rot b 2 = x := ⟨_, rfl⟩
  obtain ⟨x3, e3⟩ : ∃ x, rot b 3 = x := ⟨_, rfl⟩
  obtain ⟨x4, e4⟩ : ∃ x, rot b 4 = x := ⟨_, rfl⟩
  have l1 := rot_lt b 1 hb (by omega)
  have l2 := rot_lt b 2 hb (by omega)
  have l3 := rot_lt b 3 hb (by omega)
  have l4 := rot_lt b 4 hb (by omega)
  rw [e1] at l1
  rw [e2] at l2
  rw [e3] at l3
  rw [e4] at l4
  have R1 := Lib.hid (fun W => round_lit b 1 x1 1 hb (by omega) rfl e1 W)
  have R2 := Lib.hid (fun W => round_lit b 2 x2 2 hb (by omega) rfl e2 W)
  have R3 := Lib.hid (fun W => round_lit b 3 x3 3 hb (by omega) rfl e3 W)
  have R4 := Lib.hid (fun W => round_lit b 4 x4 4 hb (by omega) rfl e4 W)
  have HF : Hid (sub a = b ^^^ x1 ^^^ x2 ^^^ x3 ^^^ x4 ^^^ 99) := by show sub a = _; rw [HS.out]; unfold aff; rw [e1, e2, e3, e4]
  obtain ⟨y1, f1⟩ : ∃ y, b ^^^ x1 = y := ⟨_, rfl⟩
  have m1 : y1 < 256 := by rw [← f1]; exact xor_lt _ _ hb l1
  obtain ⟨y2, f2⟩ : ∃ y, y1 ^^^ x2 = y := ⟨_, rfl⟩
  have m2 : y2 < 256 := by rw [← f2]; exact xor_lt _ _ m1 l2
  obtain ⟨y3, f3⟩ : ∃ y, y2 ^^^ x3 = y := ⟨_, rfl⟩
  have m3 : y3 < 256 := by rw [← f3]; exact xor_lt _ _ m2 l3
  obtain ⟨y4, f4⟩ : ∃ y, y3 ^^^ x4 = y := ⟨_, rfl⟩
  have m4 : y4 < 256 := by rw [← f4]; exact xor_lt _ _ m3 l4
  have g1 := bxor b x1 y1 hb l1 f1
  have g2 := bxor y1 x2 y2 m1 l2 f2
  have g3 := bxor y2 x3 y3 m2 l3 f3
  have g4 := bxor y3 x4 y4 m3 l4 f4
  have g5 : bits .xor .u8 (y4 : Int) 99 = ((y4 ^^^ 99 : Nat) : Int) := u8_xor_nat y4 99 m4 (by omega)
  rw [f1, f2, f3, f4] at HF
  obtain ⟨y5, f5⟩ : ∃ y, y4 ^^^ 99 = y := ⟨_, rfl⟩
  rw [f5] at g5 HF
  clear e1 e2 e3 e4 f1 f2 f3 f4 f5
  go_enter Try.func20, Try.ntmps20
  go_wp2_with fail
  refine HI.out.mono ?_
  rintro e w0 ⟨rfl, rfl⟩
  go_wp2_with fail
  refine (R1.out w).mono ?_
  rintro e w1 ⟨rfl, d1⟩
  go_wp2_with fail
  refine (R2.out w1).mono ?_
  rintro e w2 ⟨rfl, d2⟩
  go_wp2_with fail
  refine (R3.out w2).mono ?_
  rintro e w3 ⟨rfl, d3⟩
  go_wp2_with fail
  refine (R4.out w3).mono ?_
  rintro e w4 ⟨rfl, d4⟩
  go_wp2
  go_ret
  exact ⟨ret_int (by rw [HF.out]), ((d1.trans d2).trans d3).trans d4⟩
set_option maxHeartbeats 800000 in
theorem back_any (a : Nat) (ha : a < 256) (w : World) : Calls Try.prog 22 #[.int .u8 a] w fun e w' => e = .returned (.int .u8 (back a)) ∧ Drawn w w' := by
  have hp := pre_lt a ha
  obtain ⟨x1, e1⟩ : ∃ x, rot a 1 = x := ⟨_, rfl⟩
  obtain ⟨x2, e2⟩ : ∃ x, rot a 3 = x := ⟨_, rfl⟩
  obtain ⟨x3, e3⟩ : ∃ x, rot a 6 = x := ⟨_, rfl⟩
  have l1 := rot_lt a 1 ha (by omega)
  have l2 := rot_lt a 3 ha (by omega)
  have l3 := rot_lt a 6 ha (by omega)
  rw [e1] at l1
  rw [e2] at l2
  rw [e3] at l3
  have R1 := Lib.hid (fun W => round_lit a 1 x1 1 ha (by omega) rfl e1 W)
  have R2 := Lib.hid (fun W => round_lit a 3 x2 3 ha (by omega) rfl e2 W)
  have R3 := Lib.hid (fun W => round_lit a 6 x3 6 ha (by omega) rfl e3 W)
  have HF : Hid (pre a = x1 ^^^ x2 ^^^ x3 ^^^ 5) := by show pre a = _; unfold pre; rw [e1, e2, e3]
  obtain ⟨y1, f1⟩ : ∃ y, x1 ^^^ x2 = y := ⟨_, rfl⟩
  have m1 : y1 < 256 := by rw [← f1]; exact xor_lt _ _ l1 l2
  obtain ⟨y2, f2⟩ : ∃ y, y1 ^^^ x3 = y := ⟨_, rfl⟩
  have m2 : y2 < 256 := by rw [← f2]; exact xor_lt _ _ m1 l3
  have g1 := bxor x1 x2 y1 l1 l2 f1
  have g2 := bxor y1 x3 y2 m1 l3 f2
  have g3 : bits .xor .u8 (y2 : Int) 5 = ((y2 ^^^ 5 : Nat) : Int) := u8_xor_nat y2 5 m2 (by omega)
  rw [f1, f2] at HF
  obtain ⟨y3, f3⟩ : ∃ y, y2 ^^^ 5 = y := ⟨_, rfl⟩
  rw [f3] at g3 HF
  have m3 : y3 < 256 := by rw [← HF.out]; exact hp
  have HB : Hid (back a = inv y3) := by show back a = _; unfold back; rw [HF.out]
  clear e1 e2 e3 f1 f2 f3
  go_enter Try.func22, Try.ntmps22
  go_wp2_with fail
  refine (R1.out w).mono ?_
  rintro e w1 ⟨rfl, d1⟩
  go_wp2_with fail
  refine (R2.out w1).mono ?_
  rintro e w2 ⟨rfl, d2⟩
  go_wp2_with fail
  refine (R3.out w2).mono ?_
  rintro e w3 ⟨rfl, d3⟩
  go_wp2_with fail
  refine (inv_any y3 m3 w3).mono ?_
  rintro e w4 ⟨rfl, rfl⟩
  go_wp2
  go_ret
  exact ⟨ret_int (by rw [HB.out]), (d1.trans d2).trans d3⟩
theorem known_m (w : World) : Calls Try.prog 13 #[.int .u8 87, .int .u8 131] w fun e w' => e = .returned (.int .u8 193) ∧ w = w' := by
  have := mul_any 87 131 (by omega) (by omega) w
  rw [show gm 87 131 = 193 by decide] at this
  exact this
theorem known_i (w : World) : Calls Try.prog 16 #[.int .u8 83] w fun e w' => e = .returned (.int .u8 202) ∧ w = w' := by
  have := inv_any 83 (by omega) w
  rw [show inv 83 = 202 by rw [inv_ps 83 (by omega)]; decide +kernel] at this
  exact this
theorem known_s (w : World) : Calls Try.prog 20 #[.int .u8 83] w fun e w' => e = .returned (.int .u8 237) ∧ Drawn w w' := by
  have := sub_any 83 (by omega) w
  rw [show sub 83 = 237 by unfold sub; rw [inv_ps 83 (by omega)]; decide +kernel] at this
  exact this
theorem known_any (w : World) : Calls Try.prog 15 #[] w fun e w' => e = .returned (.bool true) ∧ Drawn w w' := by
  go_enter Try.func15, Try.ntmps15
  go_wp2_with fail
  refine (known_m w).mono ?_
  rintro e w1 ⟨rfl, rfl⟩
  go_wp2_with fail
  refine (known_i w).mono ?_
  rintro e w1 ⟨rfl, rfl⟩
  go_wp2_with fail
  refine (known_s w).mono ?_
  rintro e w1 ⟨rfl, d1⟩
  go_wp2
  go_ret
  exact ⟨rfl, d1⟩
end Go.Proofs.Ytfmgpnaahkpmiaa
