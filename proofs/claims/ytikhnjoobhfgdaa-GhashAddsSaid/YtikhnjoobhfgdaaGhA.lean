/- Contracts: ghash's elements out of bytes and into bytes, and their product. -/
import Derived.Test.YtikhnjoobhfgdaaOwn
import Derived.Test.YtikhnjoobhfgdaaArr
import Derived.Test.YtikhnjoobhfgdaaGhRef
set_option linter.unusedVariables false
namespace Go.Proofs.Ytikhnjoobhfgdaa
open Go.RowKit

/-- An element as a value; sixteen bytes as a value. -/
abbrev EV (h l : Nat) : Value := .agg #[.int .u64 h, .int .u64 l]
def hi (v : Nat) : Nat := v / 18446744073709551616
def lo (v : Nat) : Nat := v % 18446744073709551616
abbrev A16 (b : List UInt8) : Value := .agg (b.map B8).toArray
theorem below_new (w : World) (o : Obj) : Below w.heap.size w (w.alloc o) := (Below.refl _ _).alloc (Nat.le_refl _) _
theorem num_append (a b : List UInt8) : num (a ++ b) = num a * 256 ^ b.length + num b := by
  induction b using rev_ind with
  | h0 => simp [num]
  | h1 l x ih =>
    rw [← List.append_assoc, num_snoc, ih, num_snoc, List.length_append, List.length_singleton, Nat.pow_succ]
    rw [Nat.mul_add, ← Nat.add_assoc]
    congr 2
    rw [← Nat.mul_assoc, Nat.mul_comm 256, Nat.mul_assoc, Nat.mul_comm 256]
theorem hilo (b : List UInt8) (hb : b.length = 16) : num (b.take 8) = hi (num b) ∧ num (b.drop 8) = lo (num b) := by
  have e : num b = num (b.take 8) * 18446744073709551616 + num (b.drop 8) := by
    have := num_append (b.take 8) (b.drop 8)
    rw [List.take_append_drop, List.length_drop, hb] at this
    exact this
  have h2 := num_lt8 (b.drop 8) (by rw [List.length_drop, hb]; omega)
  unfold hi lo
  omega
theorem be_add (n : Nat) : ∀ j k, be n (j + k) = be (n / 256 ^ k) j ++ be n k := by
  intro j k
  induction j with
  | zero => simp [be]
  | succ j ih =>
    rw [show j + 1 + k = (j + k) + 1 by omega, be, ih, be, Nat.div_div_eq_div_mul, ← Nat.pow_add, Nat.add_comm k j]
    rfl
theorem be_mod256 (n : Nat) : ∀ k m, k ≤ m → be (n % 256 ^ m) k = be n k := by
  intro k
  induction k with
  | zero => intro m _; rfl
  | succ k ih =>
    intro m hm
    rw [be, be, ih m (by omega)]
    congr 1
    have e : n % 256 ^ m / 256 ^ k = (n / 256 ^ k) % 256 ^ (m - k) := by
      rw [show m = k + (m - k) by omega, Nat.pow_add, Nat.mod_mul_right_div_self]
      rw [show k + (m - k) - k = m - k by omega]
    rw [e]
    have e2 : 256 ^ (m - k) = 256 * 256 ^ (m - k - 1) := by
      rw [← Nat.pow_succ']; congr 1; omega
    apply UInt8.toNat_inj.1
    rw [UInt8.toNat_ofNat', UInt8.toNat_ofNat', e2]
    show _ % 256 = _ % 256
    rw [Nat.mod_mul_right_mod]
theorem be16 (v : Nat) : be v 16 = be (hi v) 8 ++ be (lo v) 8 := by
  have h1 := be_add v 8 8
  have h2 := be_mod256 v 8 8 (Nat.le_refl _)
  have e : (256 : Nat) ^ 8 = 18446744073709551616 := by decide
  rw [e] at h1 h2
  unfold hi lo
  rw [h2]
  exact h1
theorem hi_lt {v : Nat} (h : v < 2 ^ 128) : hi v < 18446744073709551616 := by unfold hi; omega
theorem lo_lt (v : Nat) : lo v < 18446744073709551616 := by unfold lo; omega

set_option maxHeartbeats 800000 in
theorem of_el (b : List UInt8) (hb : b.length = 16) (w : World) :
    Calls Try.prog 17 #[A16 b] w fun e w' => e = .returned (EV (hi (num b)) (lo (num b))) ∧ Below w.heap.size w w' := by
  obtain ⟨e1, e2⟩ := hilo b hb
  obtain ⟨cs, Hcs⟩ : ∃ cs, Hid (cs = b.map B8) := ⟨_, rfl⟩
  have hl : cs.length = 16 := by rw [Hcs.out]; simpa using hb
  obtain ⟨p, Hp⟩ : ∃ p, Hid (num (b.take 8) = p) := ⟨_, rfl⟩
  obtain ⟨q, Hq⟩ : ∃ p, Hid (num (b.drop 8) = p) := ⟨_, rfl⟩
  rw [← e1, ← e2, Hp.out, Hq.out, A16, ← Hcs.out]
  have HB : Hid (b.length = 16) := hb
  have HR : Hid (Rd (w.alloc (.cells cs.toArray 22)) (some ⟨w.heap.size, 0, none⟩) 16 16 b) := by
    refine ⟨HB.out.symm, Nat.le_refl _, by unfold maxLen; omega, fun _ => ⟨w.heap.size, 0, rfl, fun j hj => ?_⟩⟩
    rw [Nat.zero_add, (Blk.new w _ cs.toArray).cell j, Hcs.out]
    simp [List.getD, List.getElem?_eq_getElem (show j < b.length by rw [HB.out]; exact hj)]
  have HB2 : Hid (Below w.heap.size w ((w.alloc (.cells cs.toArray 22)).alloc (.cells #[.int .u64 0, .int .u64 0] 37))) := (below_new _ _).alloc (by simp) _
  clear e1 e2 hb
  go_enter Try.func17, Try.ntmps17
  go_wp2_with fail
  refine (get_any _ 8 16 (b.take 8) _ ((HR.out.below (below_new _ _)).part 0 8 16 _ (fun _ => rfl) (by omega) (by omega) (by unfold maxLen; omega)) (by omega) (by omega)).mono ?_
  rw [Hp.out]
  rintro e w' ⟨rfl, rfl⟩
  have HQ : Hid (Rd ((w.alloc (.cells cs.toArray 22)).alloc (.cells #[.int .u64 0, .int .u64 0] 37)) (some ⟨w.heap.size, 8, none⟩) 8 8 (b.drop 8)) := by
    have := (HR.out.below (below_new _ (.cells #[.int .u64 0, .int .u64 0] 37))).part 8 8 8 (some ⟨w.heap.size, 8, none⟩) (fun _ => rfl) (by omega) (by omega) (by unfold maxLen; omega)
    rwa [List.take_of_length_le (by rw [List.length_drop, HB.out]; omega)] at this
  go_wp2_with fail
  refine (get_any _ 8 8 (b.drop 8) _ HQ.out (by omega) (by omega)).mono ?_
  rw [Hq.out]
  rintro e w' ⟨rfl, rfl⟩
  go_wp2
  have hk : Blk ((w.alloc (.cells cs.toArray 22)).alloc (.cells #[.int .u64 p, .int .u64 q] 37)) (w.heap.size + 1) 37 #[.int .u64 p, .int .u64 q] := Blk.new' _ _ _ _ (by simp)
  have k0 := hk.cell 0
  have k1 := hk.cell 1
  refine bodyPost_ret (v := EV p q) ?_ rfl ⟨rfl, (below_new _ _).alloc (by simp) _⟩
  simp [results, Try.results17, go_sem, k0, k1]
theorem infoA16 : (Try.prog.info? 22).map (·.size) = some 16 := by kernel_rfl
theorem infoB1 : (Try.prog.info? 5).map (·.size) = some 1 := by kernel_rfl
set_option maxHeartbeats 1600000 in
theorem bytes_el (h l : Nat) (hh : h < 18446744073709551616) (hl : l < 18446744073709551616) (w : World) :
    Calls Try.prog 19 #[EV h l] w fun e w' => e = .returned (A16 (be h 8 ++ be l 8)) ∧ Below w.heap.size w w' := by
  obtain ⟨H, HH⟩ : ∃ H, Hid (w.heap.size = H) := ⟨_, rfl⟩
  obtain ⟨z, HZ⟩ : ∃ z, Hid (z = List.replicate 16 (Value.int .u8 0)) := ⟨_, rfl⟩
  have hu : Try.prog.underlying 22 = some (.array 16 5) := Try.underlying22
  go_enter Try.func19, Try.ntmps19
  go_wp2_with fail
  obtain ⟨W, hW⟩ : ∃ W, W = (((w.alloc (.cells #[.int .u64 h, .int .u64 l] 37)).alloc (.cells (List.replicate 16 (Value.int .u8 0)).toArray 22)).alloc (.cells (List.replicate 16 (Value.int .u8 0)).toArray 22)) := ⟨_, rfl⟩
  have KE : Hid (Blk W H 37 #[.int .u64 h, .int .u64 l]) := by rw [hW]; exact ((Blk.new' _ _ _ _ HH.out).alloc _).alloc _
  have KR : Hid (Blk W (H + 1) 22 z.toArray) := by rw [hW, HZ.out]; exact (Blk.new' _ _ _ _ (by simp [HH.out])).alloc _
  have KB : Hid (Blk W (H + 1 + 1) 22 z.toArray) := by rw [hW, HZ.out]; exact Blk.new' _ _ _ _ (by simp [HH.out])
  have HB : Hid (Below H w W) := by
    have := ((below_new w (.cells #[.int .u64 h, .int .u64 l] 37)).alloc (by simp) (.cells (List.replicate 16 (Value.int .u8 0)).toArray 22)).alloc (by simp; omega) (.cells (List.replicate 16 (Value.int .u8 0)).toArray 22)
    rw [hW]
    rw [HH.out] at this
    exact this
  simp only [List.replicate_succ, List.replicate_zero] at hW
  rw [← hW, HH.out]
  clear hW
  refine (put_loop h 8 _ (by omega) (by omega) (by omega) (by omega)).mono ?_
  rintro e w4 ⟨A4, c4, rfl, hown4, hb4⟩
  have KE4 := Lib.hid (KE.out.below hb4 KE.out.lt)
  have KR4 := Lib.hid (KR.out.below hb4 KR.out.lt)
  have KB4 := Lib.hid (KB.out.below hb4 KB.out.lt)
  have O4 : Hid (Own w4 W.heap.size A4 8 c4 (be h 8)) := hown4
  have HB4 := Lib.hid (HB.out.trans (hb4.mono (Nat.le_of_lt KE.out.lt)))
  clear hown4 hb4
  have d1 := KE4.out.cell 1
  go_wp2_with fail
  refine (put_loop l 8 _ (by omega) (by omega) (by omega) (by omega)).mono ?_
  rintro e w5 ⟨A5, c5, rfl, hown5, hb5⟩
  have KR5 := Lib.hid (KR4.out.below hb5 KR4.out.lt)
  have KB5 := Lib.hid (KB4.out.below hb5 KB4.out.lt)
  have O45 := Lib.hid (O4.out.below hb5)
  have O5 : Hid (Own w5 w4.heap.size A5 8 c5 (be l 8)) := hown5
  have HB5 := Lib.hid (HB4.out.trans (hb5.mono (Nat.le_of_lt KE4.out.lt)))
  have hlt5 : H + 1 + 1 < w4.heap.size := KB4.out.lt
  have hlt4 : H + 1 + 1 < W.heap.size := KB.out.lt
  clear hown5 hb5 d1
  have lz : z.length = 16 := by rw [HZ.out]; simp
  have lb4 : ((be h 8).map B8).length = 8 := by simp [be_length]
  have lb5 : ((be l 8).map B8).length = 8 := by simp [be_length]
  have LZ := Lib.hid lz
  have L4 := Lib.hid lb4
  have L5 := Lib.hid lb5
  clear lz lb4 lb5
  go_wp2_with (with_reducible refine wpList_copy_blk (off := 0) rfl (.tmp 20) (.tmp 21) 23 23 rfl 5 Try.underlying23 infoB1 _ _ _ _ _ _ rfl rfl KB5.out ((be h 8).map B8) ?_ ?_ ?_ ?_ ?_)
  · rw [L4.out]; rfl
  · intro _
    obtain ⟨g, rfl, hg⟩ := O45.out.split (by omega)
    exact ⟨_, rfl, fun j x hj => O45.out.rd.news j (B8 x) (by simp [hj])⟩
  · rw [L4.out, LZ.out]; omega
  · exact b8_one
  intro w6 hk6 hg6
  have KB6 := Lib.hid hk6
  have KR6 := Lib.hid (KR5.out.keep_grown hg6 (by simp))
  have O6 := Lib.hid (O5.out.kept hg6 (fun a ha => by have := O5.out.ge a ha; simp; omega))
  have HB6 : Hid (Below H w w6) := HB5.out.grown hg6 (by have := KB5.out.lt; omega) (by intro k hk; simp at hk; omega)
  clear hk6 hg6
  go_wp2_with (with_reducible refine wpList_copy_blk (off := 8) rfl (.tmp 23) (.tmp 24) 23 23 rfl 5 Try.underlying23 infoB1 _ _ _ _ _ _ rfl rfl KB6.out ((be l 8).map B8) ?_ ?_ ?_ ?_ ?_)
  · rw [L5.out]; rfl
  · intro _
    obtain ⟨g, rfl, hg⟩ := O6.out.split (by omega)
    exact ⟨_, rfl, fun j x hj => O6.out.rd.news j (B8 x) (by simp [hj])⟩
  · rw [L5.out, length_splice _ _ _ (by rw [L4.out, LZ.out]; omega), LZ.out]; omega
  · exact b8_one
  intro w7 hk7 hg7
  have KR7 := Lib.hid (KR6.out.keep_grown hg7 (by simp))
  have HB7 : Hid (Below H w w7) := HB6.out.grown hg7 (by have := KB6.out.lt; omega) (by intro k hk; simp at hk; omega)
  have hfin : splice (splice z 0 ((be h 8).map B8)) 8 ((be l 8).map B8) = (be h 8 ++ be l 8).map B8 := by
    have e1 : (List.map B8 (be h 8)).length = 8 := L4.out
    have e2 : (List.map B8 (be l 8)).length = 8 := L5.out
    simp only [splice, List.take_zero, List.nil_append, Nat.zero_add, e1, e2]
    rw [List.take_append_of_le_length (by omega), List.take_of_length_le (by omega), List.drop_append, List.drop_of_length_le (by omega), List.drop_of_length_le (by simp [LZ.out, be_length])]
    simp
  rw [hfin] at hk7
  have KB7 := Lib.hid hk7
  have L7 : Hid (((be h 8 ++ be l 8).map B8).length = 16) := by simp [be_length, Hid]
  clear hk7 hg7 hfin
  go_wp2_with (first
    | (with_reducible refine wpList_load_blk rfl 22 (.tmp 3) rfl rfl KB7.out _ hu rfl (by rw [L7.out]; exact infoA16) ?_)
    | (with_reducible refine wpList_store_blk rfl 22 (.tmp 2) (.tmp 26) rfl rfl rfl KR7.out (by rw [L7.out, LZ.out]) (by rw [L7.out]; exact infoA16) b8_one ?_; intro w8 hk8 hg8))
  refine bodyPost_ret (v := A16 (be h 8 ++ be l 8)) (ret_blk (p := 2) rfl rfl hk8 _ hu rfl (by rw [List.size_toArray, L7.out]; exact infoA16)) rfl ⟨rfl, ?_⟩
  rw [HH.out]
  exact HB7.out.grown hg8 (by have := KR7.out.lt; omega) (by intro k hk; simp at hk; omega)
theorem ofbytes (v : Nat) (hv : v < 2 ^ 128) (w : World) :
    Calls Try.prog 19 #[EV (hi v) (lo v)] w fun e w' => e = .returned (A16 (be v 16)) ∧ Below w.heap.size w w' := by
  rw [be16]
  exact bytes_el (hi v) (lo v) (hi_lt hv) (lo_lt v) w

/-- A word pair's steps. -/
theorem hi_xor (a b : Nat) : hi (a ^^^ b) = hi a ^^^ hi b := by
  have := Nat.xor_div_two_pow (a := a) (b := b) (n := 64)
  exact this
theorem lo_xor (a b : Nat) : lo (a ^^^ b) = lo a ^^^ lo b := Nat.xor_mod_two_pow (a := a) (b := b) (n := 64)
theorem hi_half (v : Nat) : hi (v / 2) = hi v / 2 := by unfold hi; omega
theorem lo_half (v : Nat) : lo (v / 2) = lo v / 2 + hi v % 2 * 9223372036854775808 := by unfold hi lo; omega
theorem hilo_join (v : Nat) : hi v * 18446744073709551616 + lo v = v := by unfold hi lo; omega
/-- Bit i of an element, as the words have it. -/
theorem gbit_word (v i : Nat) (h : i < 128) : gbit v i = decide ((if 63 < i then lo v else hi v) / 2 ^ (63 - i % 64) % 2 ≠ 0) := by
  unfold gbit
  rw [Nat.testBit_eq_decide_div_mod_eq]
  have e2 : v / 2 ^ (127 - i) % 2 = (if 63 < i then lo v else hi v) / 2 ^ (63 - i % 64) % 2 := by
    by_cases hi63 : 63 < i
    · rw [if_pos hi63]
      unfold lo
      rw [show 63 - i % 64 = 127 - i by omega]
      have e : (18446744073709551616 : Nat) = 2 ^ (127 - i) * 2 ^ (i - 63) := by
        rw [← Nat.pow_add, show 127 - i + (i - 63) = 64 by omega]
      rw [e, Nat.mod_mul_right_div_self]
      have e3 : 2 ^ (i - 63) = 2 * 2 ^ (i - 64) := by rw [← Nat.pow_succ']; congr 1; omega
      rw [e3, Nat.mod_mul_right_mod]
    · rw [if_neg hi63]
      unfold hi
      rw [show 63 - i % 64 = 63 - i by omega, Nat.div_div_eq_div_mul]
      have e : (18446744073709551616 : Nat) * 2 ^ (63 - i) = 2 ^ (127 - i) := by
        rw [show (18446744073709551616 : Nat) = 2 ^ 64 by rfl, ← Nat.pow_add, show 64 + (63 - i) = 127 - i by omega]
      rw [e]
  rw [e2]
  have := Nat.mod_lt ((if 63 < i then lo v else hi v) / 2 ^ (63 - i % 64)) (show 0 < 2 by omega)
  rw [Bool.eq_iff_iff]
  simp only [decide_eq_true_eq]
  omega
end Go.Proofs.Ytikhnjoobhfgdaa
