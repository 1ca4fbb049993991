/- Contracts: how many pieces; a Ref's bytes. -/
import Derived.Test.YtbfcpapibenndaaSlc
set_option linter.unusedVariables false
namespace Go.Proofs.Ytbfcpapibenndaa
open Go.RowKit

def pcsN (x : Int) : Int := if x < 0 then 0 else if 1024 < x then 0 else (x + 207) / 208
def pcsE (x : Int) : Int := if x < 0 then 2 else if 1024 < x then 3 else 0

theorem pieces_any (x : Int) (w : World) (h1 : -9223372036854775808 ≤ x) (h2 : x ≤ 9223372036854775807) :
    Calls Try.prog 10 #[.int .i64 x] w fun e w' => e = .returned (.tuple #[.int .i64 (pcsN x), .int .i64 (pcsE x)]) ∧ w = w' := by
  by_cases hn : x < 0
  · have hd : decide (x < 0) = true := decide_eq_true hn
    have e1 : pcsN x = 0 := by rw [pcsN, if_pos hn]
    have e2 : pcsE x = 2 := by rw [pcsE, if_pos hn]
    rw [e1, e2]
    clear e1 e2
    go_enter Try.func10, Try.ntmps10
    go_wp2
    go_ret2
    exact ⟨rfl, rfl⟩
  · have hd : decide (x < 0) = false := decide_eq_false hn
    by_cases hg : 1024 < x
    · have hd2 : decide (x > 1024) = true := decide_eq_true hg
      have e1 : pcsN x = 0 := by rw [pcsN, if_neg hn, if_pos hg]
      have e2 : pcsE x = 3 := by rw [pcsE, if_neg hn, if_pos hg]
      rw [e1, e2]
      clear e1 e2
      go_enter Try.func10, Try.ntmps10
      go_wp2
      go_ret2
      exact ⟨rfl, rfl⟩
    · have hd2 : decide (x > 1024) = false := decide_eq_false (by omega)
      have e1 : Hid (pcsN x = (x + 207) / 208) := by show _ = _; rw [pcsN, if_neg hn, if_neg hg]
      have e2 : pcsE x = 0 := by rw [pcsE, if_neg hn, if_neg hg]
      rw [e2]
      clear e2
      have w1 : IntKind.i64.wrap (x + 208) = x + 208 := IntWalk.i64_in _ (by omega)
      have w2 : IntKind.i64.wrap (x + 208 - 1) = x + 208 - 1 := IntWalk.i64_in _ (by omega)
      have ht : Int.tdiv (x + 208 - 1) 208 = (x + 207) / 208 := by
        rw [show x + 208 - 1 = x + 207 by omega]
        exact Int.tdiv_eq_ediv_of_nonneg (by omega)
      have w3 : IntKind.i64.wrap ((x + 207) / 208) = (x + 207) / 208 := IntWalk.i64_in _ (by omega)
      go_enter Try.func10, Try.ntmps10
      go_wp2
      go_ret2
      refine ⟨?_, rfl⟩
      rw [e1.out]
      rfl

theorem refpieces_any (x : Int) (w : World) (h1 : -9223372036854775808 ≤ x) (h2 : x ≤ 9223372036854775807) :
    Calls Try.prog 11 #[.int .i64 x] w fun e w' => e = .returned (.tuple #[.int .i64 (pcsN x), .int .i64 (pcsE x)]) ∧ w = w' := by
  by_cases hn : x < 0
  · have hd : decide (x < 0) = true := decide_eq_true hn
    have e1 : pcsN x = 0 := by rw [pcsN, if_pos hn]
    have e2 : pcsE x = 2 := by rw [pcsE, if_pos hn]
    rw [e1, e2]
    clear e1 e2
    go_enter Try.func11, Try.ntmps11
    go_wp2
    go_ret2
    exact ⟨rfl, rfl⟩
  · have hd : decide (x < 0) = false := decide_eq_false hn
    by_cases hg : 1024 < x
    · have hd2 : decide (x > 1024) = true := decide_eq_true hg
      have e1 : pcsN x = 0 := by rw [pcsN, if_neg hn, if_pos hg]
      have e2 : pcsE x = 3 := by rw [pcsE, if_neg hn, if_pos hg]
      rw [e1, e2]
      clear e1 e2
      go_enter Try.func11, Try.ntmps11
      go_wp2
      go_ret2
      exact ⟨rfl, rfl⟩
    · have hd2 : decide (x > 1024) = false := decide_eq_false (by omega)
      have e1 : Hid (pcsN x = (x + 207) / 208) := by show _ = _; rw [pcsN, if_neg hn, if_neg hg]
      have e2 : pcsE x = 0 := by rw [pcsE, if_neg hn, if_neg hg]
      rw [e2]
      clear e2
      obtain ⟨n, rfl⟩ := Int.eq_ofNat_of_zero_le (show 0 ≤ x by omega)
      go_enter Try.func11, Try.ntmps11
      go_wp2
      go_loop [4] (fun z => ∃ k : Nat, z = .int .i64 k ∧ (k = 0 ∨ 208 * (k - 1) < n) ∧ k ≤ 5) (fun z => 5 - (intOf z).toNat)
      case atStart => exact ⟨0, rfl, .inl rfl, by omega⟩
      case round =>
        obtain ⟨k, rfl, hk, hk5⟩ := hrel
        have hw : IntKind.i64.wrap ((k : Int) * 208) = (k : Int) * 208 := IntWalk.i64_in _ (by omega)
        by_cases hlt : 208 * k < n
        · have hd3 : decide ((n : Int) > (k : Int) * 208) = true := decide_eq_true (by omega)
          go_wp2
          go_round
          case rel => exact ⟨k + 1, by go_num, .inr (by simpa using hlt), by omega⟩
          case measure => first | (simp [intOf]; done) | (simp [intOf]; omega)
        · have hd3 : decide ((n : Int) > (k : Int) * 208) = false := decide_eq_false (by omega)
          go_wp2
          go_ret2
          refine ⟨?_, rfl⟩
          have : ((n : Int) + 207) / 208 = (k : Int) := by omega
          rw [e1.out, this]
          rfl

/-- A Ref's bytes. -/
def refB (p c g : Nat) : List UInt8 := be p 4 ++ be c 8 ++ be g 2
theorem refB_length (p c g : Nat) : (refB p c g).length = 14 := by simp [refB, be_length]

set_option maxHeartbeats 800000 in
theorem refbytes_any (p c g : Nat) (hp : p < 4294967296) (hc : c < 18446744073709551616) (hg : g < 65536) (w : World) :
    Calls Try.prog 25 #[RefV p c g] w fun e w' => ∃ A k, e = .returned (.slice A 14 k) ∧ Own w' w.heap.size A 14 k (refB p c g) ∧ Below w.heap.size w w' := by
  have HK : Hid (Blk (w.alloc (.cells #[.int .u32 p, .int .u64 c, .int .u16 g] 32)) w.heap.size 32 #[.int .u32 p, .int .u64 c, .int .u16 g]) := Blk.new _ _ _
  have HB : Hid (Below w.heap.size w (w.alloc (.cells #[.int .u32 p, .int .u64 c, .int .u16 g] 32))) := below_new1 _ _
  go_enter Try.func25, Try.ntmps25
  go_wp2_with fail
  refine (of_any p 4 _ (by omega) (by omega)).mono ?_
  rintro e w1 ⟨A1, c1, rfl, hown1, hb1⟩
  have HK1 := Lib.hid (HK.out.below hb1 HK.out.lt)
  have HB1 := Lib.hid (HB.out.trans (hb1.mono HB.out.size))
  have HO1 : Hid (Own w1 w.heap.size A1 4 c1 (be p 4)) := Own.mono hown1 HB.out.size
  clear hown1 hb1
  have d1 : w1.cell? ⟨w.heap.size, 1, none⟩ = some (.int .u64 c) := HK1.out.cell 1
  go_wp2_with fail
  refine (of_any c 8 _ (by omega) (by omega)).mono ?_
  rintro e w2 ⟨A2, c2, rfl, hown2, hb2⟩
  have HK2 := Lib.hid (HK1.out.below hb2 HK1.out.lt)
  have HB2 := Lib.hid (HB1.out.trans (hb2.mono HB1.out.size))
  have HO12 := Lib.hid (HO1.out.below hb2)
  have HO2 : Hid (Own w2 w.heap.size A2 8 c2 (be c 8)) := Own.mono hown2 HB1.out.size
  clear hown2 hb2
  have d2 : w2.cell? ⟨w.heap.size, 2, none⟩ = some (.int .u16 g) := HK2.out.cell 2
  go_wp2_with fail
  refine (of_any g 2 _ (by omega) (by omega)).mono ?_
  rintro e w3 ⟨A3, c3, rfl, hown3, hb3⟩
  have HB3 := Lib.hid (HB2.out.trans (hb3.mono HB2.out.size))
  have HO13 := Lib.hid (HO12.out.below hb3)
  have HO23 := Lib.hid (HO2.out.below hb3)
  have HO3 : Hid (Own w3 w2.heap.size A3 2 c3 (be g 2)) := hown3
  clear hown3 hb3
  go_wp2_with (first
    | (at_builtin; refine wpList_app 27 Try.underlying27 rfl (.tmp 29) (.tmp 30) rfl rfl rfl HO13.out HO23.out.rd HB3.out.size (by omega) ?_; intro A4 c4 w4 hown4 hg4 hb4; have HO4 := Lib.hid hown4; have HO34 := Lib.hid (HO3.out.sep hg4 HO12.out.lt); have HB4 := Lib.hid hb4; clear hown4 hg4 hb4)
    | (at_builtin; refine wpList_app 27 Try.underlying27 rfl (.tmp 32) (.tmp 33) rfl rfl rfl HO4.out HO34.out.rd (Nat.le_trans HB3.out.size HB4.out.size) (by omega) ?_; intro A5 c5 w5 hown5 hg5 hb5; have HO5 := Lib.hid hown5; have HB5 := Lib.hid hb5; clear hown5 hg5 hb5))
  go_ret
  exact ⟨A5, c5, rfl, HO5.out, HB3.out.trans (HB4.out.trans HB5.out)⟩
end Go.Proofs.Ytbfcpapibenndaa
