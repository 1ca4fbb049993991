/- Contracts: chain's Page. -/
import Derived.Test.YtbfcpapibenndaaChA
set_option linter.unusedVariables false
namespace Go.Proofs.Ytbfcpapibenndaa
open Go.RowKit

/-- A page's bytes. -/
def pageB (l : List UInt8) (p c g : Nat) : List UInt8 := refB p c g ++ (be l.length 2 ++ (l ++ List.replicate (208 - l.length) 0))
theorem pageB_length (l : List UInt8) (p c g : Nat) (h : l.length ≤ 208) : (pageB l p c g).length = 224 := by
  simp [pageB, refB_length, be_length]; omega

theorem RdS.of_blk {w : World} {b : Nat} {T : TypeId} {cs : List Value} {ls : List (List UInt8)} (h : Blk w b T cs.toArray) (hl : ls.length = cs.length) (hm : cs.length ≤ maxLen)
    (he : ∀ j, j < cs.length → ∃ A n c, cs[j]? = some (.slice A n c) ∧ Rd w A n c (ls.getD j [])) : RdS w (some ⟨b, 0, none⟩) cs.length cs.length ls :=
  ⟨hl.symm, Nat.le_refl _, hm, fun _ => ⟨b, 0, rfl, fun j hj => by
    obtain ⟨A, n, c, h1, h2⟩ := he j hj
    refine ⟨A, n, c, ?_, h2⟩
    rw [Nat.zero_add, h.cell j]
    simpa using h1⟩⟩

theorem page_bad (A : Option Addr) (n c : Nat) (p q g : Nat) (w : World) (h : n < 1 ∨ 208 < n) (hm : n ≤ 9223372036854775807) :
    Calls Try.prog 14 #[.slice A n c, RefV p q g] w fun e w' => e = .returned (.tuple #[.slice none 0 0, .int .i64 2]) ∧ Below w.heap.size w w' := by
  have hb := below_new1 w (.cells #[.int .u32 p, .int .u64 q, .int .u16 g] 32)
  by_cases h1 : n < 1
  · have hd : decide ((n : Int) < 1) = true := decide_eq_true (by omega)
    go_enter Try.func14, Try.ntmps14
    go_wp2
    go_ret2
    exact ⟨rfl, hb⟩
  · have hd : decide ((n : Int) < 1) = false := decide_eq_false (by omega)
    have hd2 : decide ((n : Int) > 208) = true := decide_eq_true (by omega)
    go_enter Try.func14, Try.ntmps14
    go_wp2
    go_ret2
    exact ⟨rfl, hb⟩

set_option maxHeartbeats 1600000 in
theorem page_any (A : Option Addr) (n c : Nat) (l : List UInt8) (p q g : Nat) (w : World) (h : Rd w A n c l) (h1 : 1 ≤ n) (h2 : n ≤ 208) (hp : p < 4294967296) (hq : q < 18446744073709551616) (hg : g < 65536) :
    Calls Try.prog 14 #[.slice A n c, RefV p q g] w fun e w' => ∃ A' c', e = .returned (.tuple #[.slice A' 224 c', .int .i64 0]) ∧ Own w' w.heap.size A' 224 c' (pageB l p q g) ∧ Below w.heap.size w w' := by
  have hd : decide ((n : Int) < 1) = false := decide_eq_false (by omega)
  have hd2 : decide ((n : Int) > 208) = false := decide_eq_false (by omega)
  obtain ⟨m, hm⟩ : ∃ m, m = 208 - n := ⟨_, rfl⟩
  have HM := Lib.hid hm
  have hw2 : IntKind.i64.wrap (208 - (n : Int)) = (m : Int) := by rw [IntWalk.i64_in _ (by omega)]; omega
  have hw3 : IntKind.u64.wrap (n : Int) = (n : Int) := IntWalk.u64_in _ (by omega)
  obtain ⟨i0, hi, hz0, hz1, hz2⟩ := info_parts infoU8
  obtain ⟨Z, HZ⟩ : ∃ Z, Hid (Z = (List.replicate m (0 : UInt8)).map B8) := ⟨_, rfl⟩
  have hmk : ∀ W : World, (Instr.makeSlice 27 (.int .i64 (m : Int)) (.int .i64 (m : Int))).run Try.prog W = .ok (.slice (some ⟨W.heap.size, 0, none⟩) m m) (W.alloc (.cells Z.toArray 5)) := by
    intro W
    have := run_make_rowN (P := Try.prog) 27 5 i0 (.int .u8 0) Try.underlying27 hi hz0 .i64 .i64 m m (by omega) (by rw [hz2]; omega) (by omega) W
    rw [hz1] at this
    rw [HZ.out, ← made_bytes m]
    exact this
  clear hi hz0 hz1 hz2
  have HR := Lib.hid h
  have hcap := h.cap
  have HL : Hid (n = l.length) := h.len
  clear h hm
  have HK : Hid (Blk (w.alloc (.cells #[.int .u32 p, .int .u64 q, .int .u16 g] 32)) w.heap.size 32 #[.int .u32 p, .int .u64 q, .int .u16 g]) := Blk.new _ _ _
  have HB : Hid (Below w.heap.size w (w.alloc (.cells #[.int .u32 p, .int .u64 q, .int .u16 g] 32))) := below_new1 _ _
  go_enter Try.func14, Try.ntmps14
  go_wp2_with fail
  refine (put_loop p 4 _ (by omega) (by omega) (by omega) (by intro _; omega)).mono ?_
  rintro e w1 ⟨A1, c1, rfl, hown1, hb1⟩
  have HK1 := Lib.hid (HK.out.below hb1 HK.out.lt)
  have HB1 := Lib.hid (HB.out.trans (hb1.mono HB.out.size))
  have HO1 : Hid (Own w1 w.heap.size A1 4 c1 (be p 4)) := Own.mono hown1 HB.out.size
  clear hown1 hb1
  have d1 : w1.cell? ⟨w.heap.size, 1, none⟩ = some (.int .u64 q) := HK1.out.cell 1
  go_wp2_with fail
  refine (put_loop q 8 _ (by omega) (by omega) (by omega) (by omega)).mono ?_
  rintro e w2 ⟨A2, c2, rfl, hown2, hb2⟩
  have HK2 := Lib.hid (HK1.out.below hb2 HK1.out.lt)
  have HB2 := Lib.hid (HB1.out.trans (hb2.mono HB1.out.size))
  have HO12 := Lib.hid (HO1.out.below hb2)
  have HO2 : Hid (Own w2 w.heap.size A2 8 c2 (be q 8)) := Own.mono hown2 HB1.out.size
  clear hown2 hb2
  have d2 : w2.cell? ⟨w.heap.size, 2, none⟩ = some (.int .u16 g) := HK2.out.cell 2
  go_wp2_with fail
  refine (put_loop g 2 _ (by omega) (by omega) (by omega) (by intro _; omega)).mono ?_
  rintro e w3 ⟨A3, c3, rfl, hown3, hb3⟩
  have HB3 := Lib.hid (HB2.out.trans (hb3.mono HB2.out.size))
  have HO13 := Lib.hid (HO12.out.below hb3)
  have HO23 := Lib.hid (HO2.out.below hb3)
  have HO3 : Hid (Own w3 w.heap.size A3 2 c3 (be g 2)) := Own.mono hown3 HB2.out.size
  clear hown3 hb3
  go_wp2_with fail
  refine (put_loop n 2 _ (by omega) (by omega) (by omega) (by intro _; omega)).mono ?_
  rintro e w4 ⟨A4, c4, rfl, hown4, hb4⟩
  have HB4 := Lib.hid (HB3.out.trans (hb4.mono HB3.out.size))
  have HO14 := Lib.hid (HO13.out.below hb4)
  have HO24 := Lib.hid (HO23.out.below hb4)
  have HO34 := Lib.hid (HO3.out.below hb4)
  have HO4 : Hid (Own w4 w.heap.size A4 2 c4 (be n 2)) := Own.mono hown4 HB3.out.size
  clear hown4 hb4
  have HR4 := Lib.hid (HR.out.below HB4.out)
  have HZ4 : Hid (Rd (w4.alloc (.cells Z.toArray 5)) (some ⟨w4.heap.size, 0, none⟩) m m (List.replicate m 0)) := by
    rw [HZ.out]
    exact Rd.fresh w4 _ m (by simp) (by have := HM.out; omega)
  go_wp2_with fail
  have hflat : [be p 4, be q 8, be g 2, be n 2, l, List.replicate m 0].flatten = pageB l p q g := by
    simp [pageB, refB, ← HL.out, HM.out]
  have hlen : (pageB l p q g).length = 224 := pageB_length l p q g (by rw [← HL.out]; exact h2)
  have HS : RdS ((w4.alloc (.cells Z.toArray 5)).alloc (.cells #[.slice A1 4 c1, .slice A2 8 c2, .slice A3 2 c3, .slice A4 2 c4, .slice A n c, .slice (some ⟨w4.heap.size, 0, none⟩) m m] 27)) (some ⟨w4.heap.size + 1, 0, none⟩) 6 6 [be p 4, be q 8, be g 2, be n 2, l, List.replicate m 0] := by
    have bn : Below w4.heap.size w4 ((w4.alloc (.cells Z.toArray 5)).alloc (.cells #[.slice A1 4 c1, .slice A2 8 c2, .slice A3 2 c3, .slice A4 2 c4, .slice A n c, .slice (some ⟨w4.heap.size, 0, none⟩) m m] 27)) := (below_new1 _ _).alloc (by simp) _
    refine RdS.of_blk (cs := [.slice A1 4 c1, .slice A2 8 c2, .slice A3 2 c3, .slice A4 2 c4, .slice A n c, .slice (some ⟨w4.heap.size, 0, none⟩) m m]) (T := 27) (Blk.new' _ _ _ _ (by simp)) rfl (by unfold maxLen; simp) ?_
    intro j hj
    match j, hj with
    | 0, _ => exact ⟨_, _, _, rfl, HO14.out.rd.below bn⟩
    | 1, _ => exact ⟨_, _, _, rfl, HO24.out.rd.below bn⟩
    | 2, _ => exact ⟨_, _, _, rfl, HO34.out.rd.below bn⟩
    | 3, _ => exact ⟨_, _, _, rfl, HO4.out.rd.below bn⟩
    | 4, _ => exact ⟨_, _, _, rfl, HR4.out.below bn⟩
    | 5, _ => exact ⟨_, _, _, rfl, HZ4.out.below (below_new1 _ _)⟩
  refine (concat_any _ 6 6 _ _ HS (by rw [hflat, hlen]; omega)).mono ?_
  rw [hflat, hlen]
  rintro e w5 ⟨A5, c5, rfl, hown5, hb5⟩
  have bn : Below w.heap.size w ((w4.alloc (.cells Z.toArray 5)).alloc (.cells #[.slice A1 4 c1, .slice A2 8 c2, .slice A3 2 c3, .slice A4 2 c4, .slice A n c, .slice (some ⟨w4.heap.size, 0, none⟩) m m] 27)) := (HB4.out.alloc HB4.out.size _).alloc (by have := HB4.out.size; simp; omega) _
  have HB5 := Lib.hid (bn.trans (hb5.mono bn.size))
  have HO5 : Hid (Own w5 w.heap.size A5 224 c5 (pageB l p q g)) := Own.mono hown5 bn.size
  clear hown5 hb5 bn HS hflat hlen
  go_wp2
  go_ret2
  exact ⟨A5, c5, rfl, HO5.out, HB5.out⟩

theorem refpage_bad (A : Option Addr) (n c : Nat) (p q g : Nat) (w : World) (h : n < 1 ∨ 208 < n) (hm : n ≤ 9223372036854775807) :
    Calls Try.prog 15 #[.slice A n c, RefV p q g] w fun e w' => e = .returned (.tuple #[.slice none 0 0, .int .i64 2]) ∧ Below w.heap.size w w' := by
  have hb := below_new1 w (.cells #[.int .u32 p, .int .u64 q, .int .u16 g] 32)
  by_cases h1 : n < 1
  · have hd : decide ((n : Int) < 1) = true := decide_eq_true (by omega)
    go_enter Try.func15, Try.ntmps15
    go_wp2
    go_ret2
    exact ⟨rfl, hb⟩
  · have hd : decide ((n : Int) < 1) = false := decide_eq_false (by omega)
    have hd2 : decide ((n : Int) > 208) = true := decide_eq_true (by omega)
    go_enter Try.func15, Try.ntmps15
    go_wp2
    go_ret2
    exact ⟨rfl, hb⟩

theorem be2_small (n : Nat) (h : n ≤ 208) : [B8 0, B8 (UInt8.ofNat n)] = [Value.int .u8 0, Value.int .u8 (n : Int)] := by
  have e : (UInt8.ofNat n).toNat = n := by rw [UInt8.toNat_ofNat']; omega
  show [Value.int .u8 _, Value.int .u8 ((UInt8.ofNat n).toNat : Int)] = _
  rw [e]
  rfl
theorem be2_eq (n : Nat) (h : n ≤ 208) : be n 2 = [0, UInt8.ofNat n] := by
  have : n / 256 = 0 := by omega
  simp [be, this]

set_option maxHeartbeats 1600000 in
theorem refpage_any (A : Option Addr) (n c : Nat) (l : List UInt8) (p q g : Nat) (w : World) (h : Rd w A n c l) (h1 : 1 ≤ n) (h2 : n ≤ 208) (hp : p < 4294967296) (hq : q < 18446744073709551616) (hg : g < 65536) :
    Calls Try.prog 15 #[.slice A n c, RefV p q g] w fun e w' => ∃ A' c', e = .returned (.tuple #[.slice A' 224 c', .int .i64 0]) ∧ Own w' w.heap.size A' 224 c' (pageB l p q g) ∧ Below w.heap.size w w' := by
  have hd : decide ((n : Int) < 1) = false := decide_eq_false (by omega)
  have hd2 : decide ((n : Int) > 208) = false := decide_eq_false (by omega)
  have ht1 : Int.tdiv (n : Int) 256 = 0 := by rw [Int.tdiv_eq_ediv_of_nonneg (by omega)]; omega
  have ht2 : Int.tmod (n : Int) 256 = (n : Int) := by rw [Int.tmod_eq_emod_of_nonneg (by omega)]; omega
  have hw1 : IntKind.u8.wrap (n : Int) = (n : Int) := IntWalk.u8_in _ (by omega)
  have HR := Lib.hid h
  have hcap := h.cap
  have HL : Hid (n = l.length) := h.len
  clear h
  have HK : Hid (Blk (w.alloc (.cells #[.int .u32 p, .int .u64 q, .int .u16 g] 32)) w.heap.size 32 #[.int .u32 p, .int .u64 q, .int .u16 g]) := Blk.new _ _ _
  have HB : Hid (Below w.heap.size w (w.alloc (.cells #[.int .u32 p, .int .u64 q, .int .u16 g] 32))) := below_new1 _ _
  go_enter Try.func15, Try.ntmps15
  go_wp2_with fail
  refine (refbytes_any p q g hp hq hg _).mono ?_
  rintro e w1 ⟨A1, c1, rfl, hown1, hb1⟩
  have HB1 := Lib.hid (HB.out.trans (hb1.mono HB.out.size))
  have HO1 : Hid (Own w1 w.heap.size A1 14 c1 (refB p q g)) := Own.mono hown1 HB.out.size
  clear hown1 hb1
  have HR1 := Lib.hid (HR.out.below HB1.out)
  have HF1 : Hid (Rd (w1.alloc (.cells #[.int .u8 0, .int .u8 n] 5)) (some ⟨w1.heap.size, 0, none⟩) 2 2 [0, UInt8.ofNat n]) := by
    have := Rd.fresh w1 [0, UInt8.ofNat n] 2 rfl (by omega)
    rw [show [(0 : UInt8), UInt8.ofNat n].map B8 = [Value.int .u8 0, Value.int .u8 (n : Int)] from be2_small n h2] at this
    exact this
  have bs1 : w.heap.size ≤ w1.heap.size := HB1.out.size
  go_wp2_with (first
    | (at_builtin; refine wpList_app 27 Try.underlying27 rfl (.tmp 17) (.tmp 26) rfl rfl rfl (HO1.out.alloc _) HF1.out (by simp; omega) (by omega) ?_; intro A2 c2 w2 hown2 hg2 hb2; have HO2 := Lib.hid hown2; have HB2 : Hid (Below w.heap.size w w2) := (HB1.out.alloc bs1 _).trans hb2; have HR2 := Lib.hid (HR.out.below HB2.out); clear hown2 hg2 hb2)
    | (at_builtin; refine wpList_app 27 Try.underlying27 rfl (.tmp 28) (.tmp 29) rfl rfl rfl HO2.out HR2.out HB2.out.size (by omega) ?_; intro A3 c3 w3 hown3 hg3 hb3; have HO3 := Lib.hid hown3; have HB3 : Hid (Below w.heap.size w w3) := HB2.out.trans hb3; clear hown3 hg3 hb3))
  go_loopw [6] (fun z wr => ∃ (k : Nat) (A4 : Option Addr) (c4 : Nat), k ≤ 208 - n ∧ z = .slice A4 (16 + n + k) c4 ∧ Own wr w.heap.size A4 (16 + n + k) c4 (refB p q g ++ [0, UInt8.ofNat n] ++ l ++ List.replicate k 0) ∧ Below w.heap.size w wr)
    (fun z _ => 224 - lenV z)
  case atStart => exact ⟨0, A3, c3, by omega, rfl, by simpa using HO3.out, HB3.out⟩
  case round =>
    clear HO3 HB3
    obtain ⟨k, A4, c4, hk, rfl, hown, hbel⟩ := hrel
    have HO := Lib.hid hown
    clear hown
    have hbs := hbel.size
    by_cases hlt : k < 208 - n
    · have hd3 : decide (((16 + n + k : Nat) : Int) < 224) = true := decide_eq_true (by omega)
      have HF : Hid (Rd (wr.alloc (.cells #[.int .u8 0] 5)) (some ⟨wr.heap.size, 0, none⟩) 1 1 [0]) := Rd.fresh wr [0] 1 rfl (by omega)
      obtain ⟨N, HN⟩ : ∃ N, Hid (N = 16 + n + k) := ⟨_, rfl⟩
      rw [← HN.out] at HO hd3 ⊢
      have hN : N ≤ 223 := by have := HN.out; omega
      go_wp2_with (at_builtin; refine wpList_app 27 Try.underlying27 rfl (.tmp 34) (.tmp 35) rfl rfl rfl (HO.out.alloc _) HF.out (by simp; omega) (by omega) ?_; intro A5 c5 w5 hown5 hg5 hb5; have HO5 := Lib.hid hown5; have HB5 : Hid (Below w.heap.size w w5) := (hbel.alloc hbs _).trans hb5; clear hown5 hg5 hb5)
      go_roundw
      case rel =>
        refine ⟨k + 1, A5, c5, by omega, by rw [HN.out]; rfl, ?_, HB5.out⟩
        have := HO5.out
        rw [HN.out, List.append_assoc _ (List.replicate k 0)] at this
        rw [List.replicate_succ']
        exact this
      case measure => simp [lenV]; omega
    · obtain rfl : k = 208 - n := by omega
      have e224 : 16 + n + (208 - n) = 224 := by omega
      rw [e224] at HO ⊢
      go_wp2
      go_ret2
      refine ⟨A4, c4, rfl, ?_, hbel⟩
      have := HO.out
      have e2 : pageB l p q g = refB p q g ++ [0, UInt8.ofNat n] ++ l ++ List.replicate (208 - n) 0 := by
        rw [pageB, ← HL.out, be2_eq n h2]
        simp
      rw [e2]
      exact this
end Go.Proofs.Ytbfcpapibenndaa
