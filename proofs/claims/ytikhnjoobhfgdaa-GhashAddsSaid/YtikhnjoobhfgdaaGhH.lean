/- Contracts: a text filled up; the reference's hash of two texts. -/
import Derived.Test.YtikhnjoobhfgdaaGhG
set_option linter.unusedVariables false
namespace Go.Proofs.Ytikhnjoobhfgdaa
open Go.RowKit

def padN (n : Nat) : Nat := (16 - n % 16) % 16
def fullB (l : List UInt8) : List UInt8 := l ++ List.replicate (padN l.length) 0
theorem fullB_length (l : List UInt8) : (fullB l).length = l.length + padN l.length := by simp [fullB]
theorem full_mod (n : Nat) : (n + padN n) % 16 = 0 := by unfold padN; omega
/-- A filled up text, and what follows. -/
theorem ght_full (h : Nat) (rest : List UInt8) : ∀ (n s : Nat) (a : List UInt8), a.length ≤ n → ght h s (fullB a ++ rest) = ght h (ght h s a) rest := by
  intro n
  induction n with
  | zero =>
    intro s a ha
    have : a = [] := List.eq_nil_of_length_eq_zero (by omega)
    subst this
    rfl
  | succ n ih =>
    intro s a ha
    rcases Nat.eq_zero_or_pos a.length with h0 | h0
    · have : a = [] := List.eq_nil_of_length_eq_zero h0
      subst this
      rfl
    · have hfl := fullB_length a
      have hfm := full_mod a.length
      rw [ght_step h s (fullB a ++ rest) (by rw [List.length_append]; omega), ght_step h s a h0]
      have hp : pad16 (fullB a ++ rest) = pad16 a := by
        unfold pad16
        have e1 : 16 - (fullB a ++ rest).length = 0 := by rw [List.length_append, hfl]; omega
        rw [e1, List.replicate_zero, List.append_nil, List.take_append_of_le_length (by rw [hfl]; omega), fullB, List.take_append]
        congr 1
        rw [List.take_replicate]
        congr 1
        unfold padN
        omega
      rw [hp]
      have hd : (fullB a ++ rest).drop 16 = fullB (a.drop 16) ++ rest := by
        rw [List.drop_append_of_le_length (by rw [hfl]; omega)]
        congr 1
        rcases Nat.lt_or_ge a.length 16 with hl | hl
        · rw [List.drop_of_length_le (show a.length ≤ 16 by omega)]
          have : padN a.length = 16 - a.length := by unfold padN; omega
          rw [fullB, this, List.drop_of_length_le (by rw [List.length_append, List.length_replicate]; omega)]
          rfl
        · unfold fullB
          rw [List.drop_append_of_le_length hl]
          congr 2
          rw [List.length_drop]
          unfold padN
          omega
      rw [hd]
      exact ih _ _ (by rw [List.length_drop]; omega)
theorem num_lens (a t : Nat) (ha : 8 * a < 18446744073709551616) (ht : 8 * t < 18446744073709551616) : num (be (8 * a) 8 ++ be (8 * t) 8) = glens a t := by
  rw [num_append, be_length, num_be_lt _ _ (by simpa using ha), num_be_lt _ _ (by simpa using ht)]
  rfl
/-- All that the reference hashes. -/
def allB (a t : List UInt8) : List UInt8 := fullB a ++ (fullB t ++ (be (8 * a.length) 8 ++ be (8 * t.length) 8))
theorem allB_length (a t : List UInt8) : (allB a t).length = a.length + padN a.length + (t.length + padN t.length) + 16 := by
  simp [allB, fullB_length, be_length]; omega
theorem ght_all (h : Nat) (a t : List UInt8) (ha : 8 * a.length < 18446744073709551616) (ht : 8 * t.length < 18446744073709551616) : ght h 0 (allB a t) = gfin h a t := by
  unfold allB gfin
  rw [ght_full h _ a.length 0 a (Nat.le_refl _), ght_full h _ t.length _ t (Nat.le_refl _)]
  rw [ght_step _ _ _ (by simp [be_length])]
  have e1 : pad16 (be (8 * a.length) 8 ++ be (8 * t.length) 8) = be (8 * a.length) 8 ++ be (8 * t.length) 8 := by
    unfold pad16
    rw [List.take_of_length_le (by simp [be_length])]
    simp [be_length]
  rw [e1, num_lens _ _ ha ht, List.drop_of_length_le (by simp [be_length])]
  rfl

set_option maxRecDepth 100000 in
set_option maxHeartbeats 1600000 in
theorem full_any (A : Option Addr) (n c : Nat) (l : List UInt8) (w : World) (h : Rd w A n c l) (hn : n ≤ 140737488351232) :
    Calls Try.prog 20 #[.slice A n c] w fun e w' => ∃ A' c', e = .returned (.slice A' (n + padN n) c') ∧ Own w' w.heap.size A' (n + padN n) c' (fullB l) ∧ Below w.heap.size w w' := by
  have HR := Lib.hid h
  have HL := Lib.hid h.len
  have hp15 : padN n ≤ 15 := by unfold padN; omega
  have hfm := full_mod n
  obtain ⟨p, Hp⟩ : ∃ p, Hid (padN n = p) := ⟨_, rfl⟩
  rw [Hp.out] at hp15 hfm ⊢
  have HFM := Lib.hid hfm
  clear h hfm
  go_enter Try.func20, Try.ntmps20
  go_wp2_with fail
  refine (copy_any A n c l _ HR.out (by omega)).mono ?_
  rintro e w1 ⟨A1, c1, rfl, hown1, hb1⟩
  have O1 : Hid (Own w1 w.heap.size A1 n c1 l) := hown1
  have B1 := Lib.hid hb1
  clear hown1 hb1
  go_wp2_with fail
  go_loopw [3] (fun s3 wr => ∃ (k : Nat) (A' : Option Addr) (c' : Nat), k ≤ p ∧ s3 = .slice A' (n + k) c' ∧ Own wr w.heap.size A' (n + k) c' (l ++ List.replicate k 0) ∧ Below w.heap.size w wr) (fun s3 _ => n + p - lenV s3)
  case atStart => exact ⟨0, A1, c1, by omega, rfl, by simpa using O1.out, B1.out⟩
  case round =>
    clear O1 B1
    obtain ⟨k, A', c', hk, rfl, hown, hbel⟩ := hrel
    have HO := Lib.hid hown
    clear hown
    have hbs := hbel.size
    obtain ⟨N, HN⟩ : ∃ N, Hid (N = n + k) := ⟨_, rfl⟩
    rw [← HN.out] at HO ⊢
    have hN : N ≤ 140737488351300 := by have := HN.out; omega
    by_cases hlt : k < p
    · have hmod : ¬ N % 16 = 0 := by have h1 := HN.out; have h2 := HFM.out; have h3 := Hp.out; unfold padN at h3; omega
      have ht : Int.tmod (N : Int) 16 = ((N % 16 : Nat) : Int) := by rw [Int.tmod_eq_emod_of_nonneg (by omega)]; omega
      have hd : ((((N % 16 : Nat) : Int)) != 0) = true := by rw [bne_iff_ne]; omega
      have hd2 : (((N : Int) % 16) != 0) = true := by rw [bne_iff_ne]; omega
      have HF : Hid (Rd (wr.alloc (.cells #[.int .u8 0] 5)) (some ⟨wr.heap.size, 0, none⟩) 1 1 [0]) := Rd.fresh wr [0] 1 rfl (by omega)
      clear hmod ht
      go_wp2_with (at_builtin; refine wpList_app 23 Try.underlying23 rfl (.tmp 10) (.tmp 11) rfl rfl rfl (HO.out.alloc _) HF.out (by simp; omega) (by omega) ?_; intro A5 c5 w5 hown5 hg5 hb5; have HO5 := Lib.hid hown5; have HB5 : Hid (Below w.heap.size w w5) := (hbel.alloc hbs _).trans hb5; clear hown5 hg5 hb5)
      go_roundw
      case rel =>
        refine ⟨k + 1, A5, c5, by omega, by rw [HN.out]; rfl, ?_, HB5.out⟩
        have := HO5.out
        rw [HN.out, List.append_assoc, ← List.replicate_succ'] at this
        exact this
      case measure => simp [lenV]; have := HN.out; omega
    · obtain rfl : k = p := by omega
      have hd2 : (((N : Int) % 16) != 0) = false := by rw [bne_eq_false_iff_eq]; have h1 := HN.out; have h2 := HFM.out; omega
      go_wp2
      go_ret
      refine ⟨A', c', by rw [HN.out]; rfl, ?_, hbel⟩
      have := HO.out
      rw [HN.out] at this
      unfold fullB
      rw [← HL.out, Hp.out]
      exact this

/-- The first k of sixteen bytes from place b on, noughts behind them. -/
def cpy (l : List UInt8) (b k : Nat) : List UInt8 := (List.range 16).map fun t => if t < k then l.getD (b + t) 0 else 0
theorem cpy_length (l : List UInt8) (b k : Nat) : (cpy l b k).length = 16 := by simp [cpy]
theorem cpy_zero (l : List UInt8) (b : Nat) : cpy l b 0 = List.replicate 16 0 := by
  rw [List.eq_replicate_iff]
  refine ⟨cpy_length l b 0, fun x hx => ?_⟩
  simp only [cpy, List.mem_map] at hx
  obtain ⟨t, _, rfl⟩ := hx
  simp
theorem cpy_step (l : List UInt8) (b k : Nat) (h : k < 16) : (cpy l b k).set k (l.getD (b + k) 0) = cpy l b (k + 1) := by
  apply List.ext_getElem (by simp [cpy])
  intro t h1 h2
  rw [List.getElem_set]
  by_cases e : k = t
  · subst e; rw [if_pos rfl]; simp [cpy]
  · rw [if_neg e]
    simp only [cpy, List.getElem_map, List.getElem_range]
    by_cases h3 : t < k
    · rw [if_pos h3, if_pos (by omega)]
    · rw [if_neg h3, if_neg (by omega)]
theorem cpy_full (l : List UInt8) (b : Nat) (h : b + 16 ≤ l.length) : cpy l b 16 = pad16 (l.drop b) := by
  unfold pad16
  rw [show 16 - (l.drop b).length = 0 by rw [List.length_drop]; omega, List.replicate_zero, List.append_nil]
  apply List.ext_getElem (by rw [cpy_length, List.length_take, List.length_drop]; omega)
  intro t h1 h2
  have ht : t < 16 := by rw [cpy_length] at h1; exact h1
  simp [cpy, List.getD, List.getElem?_eq_getElem (show b + t < l.length by omega), ht]

theorem add_o (x y : List UInt8) (cx cy cr : List Value) (hcx : Hid (cx = x.map B8)) (hcy : Hid (cy = y.map B8)) (hcr : Hid (cr = (gadd x y).map B8)) (hx : x.length = 16) (hy : y.length = 16) (w : World) :
    Calls Try.prog 22 #[.agg cx.toArray, .agg cy.toArray] w fun e w' => e = .returned (.agg cr.toArray) ∧ Below w.heap.size w w' := by
  rw [hcx.out, hcy.out, hcr.out]
  exact add_any x y hx hy w
set_option maxRecDepth 100000 in
set_option maxHeartbeats 6400000 in
theorem refsum_any (hb : List UInt8) (hl : hb.length = 16) (A1 : Option Addr) (n1 c1 : Nat) (l1 : List UInt8) (A2 : Option Addr) (n2 c2 : Nat) (l2 : List UInt8) (w : World) (h1 : Rd w A1 n1 c1 l1) (h2 : Rd w A2 n2 c2 l2) (hn1 : n1 ≤ 1000000) (hn2 : n2 ≤ 1000000) :
    Calls Try.prog 12 #[A16 hb, .slice A1 n1 c1, .slice A2 n2 c2] w fun e w' => e = .returned (A16 (be (gfin (num hb) l1 l2) 16)) ∧ Below w.heap.size w w' := by
  obtain ⟨H, HH⟩ : ∃ H, Hid (w.heap.size = H) := ⟨_, rfl⟩
  obtain ⟨cx, Hcx⟩ : ∃ cs, Hid (cs = hb.map B8) := ⟨_, rfl⟩
  obtain ⟨z, HZ⟩ : ∃ z, Hid (z = List.replicate 16 (Value.int .u8 0)) := ⟨_, rfl⟩
  have lx : Hid (cx.length = 16) := by show _ = _; rw [Hcx.out]; simpa using hl
  have lz : Hid (z.length = 16) := by show _ = _; rw [HZ.out]; simp
  have HL := Lib.hid hl
  have HU : Hid (Try.prog.underlying 22 = some (.array 16 5)) := Try.underlying22
  have R1 := Lib.hid h1
  have R2 := Lib.hid h2
  have HL1 := Lib.hid h1.len
  have HL2 := Lib.hid h2.len
  have hz2 : ∀ W : World, (zeroValue 22).run Try.prog W = .ok (.agg z.toArray) W := fun W => by rw [HZ.out]; kernel_rfl
  have p1 : padN n1 ≤ 15 := by unfold padN; omega
  have p2 : padN n2 ≤ 15 := by unfold padN; omega
  obtain ⟨m1, Hm1⟩ : ∃ m, Hid (n1 + padN n1 = m) := ⟨_, rfl⟩
  obtain ⟨m2, Hm2⟩ : ∃ m, Hid (n2 + padN n2 = m) := ⟨_, rfl⟩
  have bm1 : m1 ≤ 1000015 := by have := Hm1.out; omega
  have bm2 : m2 ≤ 1000015 := by have := Hm2.out; omega
  have v1 : IntKind.u64.wrap (n1 : Int) = (n1 : Int) := IntWalk.u64_in _ (by omega)
  have v2 : IntKind.u64.wrap (n2 : Int) = (n2 : Int) := IntWalk.u64_in _ (by omega)
  obtain ⟨q1, Hq1⟩ : ∃ m, Hid (8 * n1 = m) := ⟨_, rfl⟩
  obtain ⟨q2, Hq2⟩ : ∃ m, Hid (8 * n2 = m) := ⟨_, rfl⟩
  have v3 : IntKind.u64.wrap (8 * (n1 : Int)) = (q1 : Int) := by rw [IntWalk.u64_in _ (by omega)]; have := Hq1.out; omega
  have v4 : IntKind.u64.wrap (8 * (n2 : Int)) = (q2 : Int) := by rw [IntWalk.u64_in _ (by omega)]; have := Hq2.out; omega
  have bq1 : q1 ≤ 8000000 := by have := Hq1.out; omega
  have bq2 : q2 ≤ 8000000 := by have := Hq2.out; omega
  clear h1 h2 hl p1 p2
  rw [A16, ← Hcx.out]
  go_enter Try.func12, Try.ntmps12
  go_wp2_with fail
  obtain ⟨W, hW⟩ : ∃ W, W = ((w.alloc (.cells cx.toArray 22)).alloc (.cells z.toArray 22)) := ⟨_, rfl⟩
  have KX : Hid (Blk W H 22 cx.toArray) := by rw [hW]; exact (Blk.new' _ _ _ _ HH.out).alloc _
  have KR : Hid (Blk W (H + 1) 22 z.toArray) := by rw [hW]; exact Blk.new' _ _ _ _ (by simp [HH.out])
  have hWs : W.heap.size = H + 1 + 1 := by rw [hW]; simp [HH.out]
  have HB : Hid (Below H w W) := by
    rw [hW, ← HH.out]
    exact (below_new _ _).alloc (by simp) _
  rw [← hW, HH.out]
  clear hW
  have HF1 := Lib.hid (full_any A1 n1 c1 l1 W (R1.out.below (by rw [HH.out]; exact HB.out)) (by omega))
  rw [Hm1.out] at HF1
  refine HF1.out.mono ?_
  rintro e w1 ⟨A3, c3, rfl, hown1, hb1⟩
  rw [hWs] at hown1 hb1
  have KX1 := Lib.hid (KX.out.below hb1 (by omega))
  have KR1 := Lib.hid (KR.out.below hb1 (by omega))
  have HB1 := Lib.hid (HB.out.trans (hb1.mono (by omega)))
  have O1 := Lib.hid hown1
  have s1 : H + 1 + 1 ≤ w1.heap.size := by have := hb1.size; omega
  clear hown1 hb1 HF1 KX KR HB hWs
  go_wp2_with fail
  have HF2 := Lib.hid (full_any A2 n2 c2 l2 w1 (R2.out.below (by rw [HH.out]; exact HB1.out)) (by omega))
  rw [Hm2.out] at HF2
  refine HF2.out.mono ?_
  rintro e w2 ⟨A4, c4, rfl, hown2, hb2⟩
  have KX2 := Lib.hid (KX1.out.below hb2 KX1.out.lt)
  have KR2 := Lib.hid (KR1.out.below hb2 KR1.out.lt)
  have HB2 := Lib.hid (HB1.out.trans (hb2.mono (by omega)))
  have O2 := Lib.hid (O1.out.below hb2)
  have F2 := Lib.hid (Own.rd hown2)
  have s2 : H + 1 + 1 ≤ w2.heap.size := by have := hb2.size; omega
  clear hown2 hb2 HF2
  go_wp2_with (at_builtin; refine wpList_app 23 Try.underlying23 rfl (.tmp 18) (.tmp 20) rfl rfl rfl O2.out F2.out s2 (by omega) ?_; intro A5 c5 w5 hown5 hg5 hb5; have O5 := Lib.hid hown5; have KX5 := Lib.hid (KX2.out.below hb5 (by omega)); have KR5 := Lib.hid (KR2.out.below hb5 (by omega)); have HB5 := Lib.hid (HB2.out.trans (hb5.mono (by omega))); have s5 : H + 1 + 1 ≤ w5.heap.size := Nat.le_trans s2 hb5.size; clear hown5 hg5 hb5)
  refine (of_any q1 8 _ (by omega) (by omega)).mono ?_
  rintro e w6 ⟨A6, c6, rfl, hown6, hb6⟩
  have P6 : Hid (Own w6 w5.heap.size A6 8 c6 (be q1 8)) := hown6
  have O6 := Lib.hid (O5.out.below hb6)
  have KX6 := Lib.hid (KX5.out.below hb6 KX5.out.lt)
  have KR6 := Lib.hid (KR5.out.below hb6 KR5.out.lt)
  have HB6 := Lib.hid (HB5.out.trans (hb6.mono (by omega)))
  have s6 : H + 1 + 1 ≤ w6.heap.size := Nat.le_trans s5 hb6.size
  have lt6 : Hid (∀ a, A5 = some a → a.block < w5.heap.size) := O5.out.lt
  clear hown6 hb6
  go_wp2_with fail
  refine (of_any q2 8 _ (by omega) (by omega)).mono ?_
  rintro e w7 ⟨A7, c7, rfl, hown7, hb7⟩
  have P7 := Lib.hid (P6.out.below hb7)
  have Q7 : Hid (Own w7 w6.heap.size A7 8 c7 (be q2 8)) := hown7
  have O7 := Lib.hid (O6.out.below hb7)
  have KX7 := Lib.hid (KX6.out.below hb7 KX6.out.lt)
  have KR7 := Lib.hid (KR6.out.below hb7 KR6.out.lt)
  have HB7 := Lib.hid (HB6.out.trans (hb7.mono (by omega)))
  have s7 : H + 1 + 1 ≤ w7.heap.size := Nat.le_trans s6 hb7.size
  have lt7 : Hid (∀ a, A5 = some a → a.block < w6.heap.size) := O6.out.lt
  clear hown7 hb7
  go_wp2_with (first
    | (at_builtin; refine wpList_app 23 Try.underlying23 rfl (.tmp 38) (.tmp 39) rfl rfl rfl O7.out P7.out.rd s7 (by omega) ?_; intro A8 c8 w8 hown8 hg8 hb8; have O8 := Lib.hid hown8; have Q8 := Lib.hid (Q7.out.sep hg8 lt7.out); have KX8 := Lib.hid (KX7.out.below hb8 (by omega)); have KR8 := Lib.hid (KR7.out.below hb8 (by omega)); have HB8 := Lib.hid (HB7.out.trans (hb8.mono (by omega))); have s8 : H + 1 + 1 ≤ w8.heap.size := Nat.le_trans s7 hb8.size; clear hown8 hg8 hb8)
    | (at_builtin; refine wpList_app 23 Try.underlying23 rfl (.tmp 41) (.tmp 42) rfl rfl rfl O8.out Q8.out.rd s8 (by omega) ?_; intro A9 c9 w9 hown9 hg9 hb9; have O9 := Lib.hid hown9; have KX9 := Lib.hid (KX8.out.below hb9 (by omega)); have KR9 := Lib.hid (KR8.out.below hb9 (by omega)); have HB9 := Lib.hid (HB8.out.trans (hb9.mono (by omega))); have s9 : H + 1 + 1 ≤ w9.heap.size := Nat.le_trans s8 hb9.size; clear hown9 hg9 hb9))
  obtain ⟨AL, HAL⟩ : ∃ a, Hid (allB l1 l2 = a) := ⟨_, rfl⟩
  obtain ⟨h, Hh⟩ : ∃ h, Hid (num hb = h) := ⟨_, rfl⟩
  obtain ⟨M, HM⟩ : ∃ M, Hid (m1 + m2 + 8 + 8 = M) := ⟨_, rfl⟩
  have hO : Own w9 (H + 1 + 1) A9 M c9 AL := by
    have := O9.out
    rw [HM.out] at this
    have e : AL = fullB l1 ++ fullB l2 ++ be q1 8 ++ be q2 8 := by
      rw [← HAL.out, allB, ← HL1.out, ← HL2.out, Hq1.out, Hq2.out]; simp
    rw [e]
    exact this
  have OA := Lib.hid hO
  clear hO O9
  have hMl := OA.out.len
  have HMl := Lib.hid hMl
  have hM16 : M % 16 = 0 := by
    have h1 := full_mod n1
    have h2 := full_mod n2
    have := HM.out
    have := Hm1.out
    have := Hm2.out
    omega
  have hMb : M ≤ 2000046 := by have := HM.out; omega
  have HM16 := Lib.hid hM16
  have hh128 := num_lt16 hb HL.out
  have HH128 : Hid (Lt128 h) := by rw [← Hh.out]; exact hh128
  have hga := ght_all h l1 l2 (by rw [← HL1.out]; omega) (by rw [← HL2.out]; omega)
  rw [HAL.out] at hga
  have HGA := Lib.hid hga
  have hcM : M ≤ c9 := OA.out.rd.cap
  have hcm : c9 ≤ 9223372036854775807 := by have := OA.out.rd.max; unfold maxLen at this; omega
  rw [HM.out]
  clear hMl hM16 hh128 hga v1 v2 v3 v4
  obtain ⟨b, o, rfl, _⟩ := OA.out.rd.at_ (by have := HM.out; omega)
  have RA := Lib.hid OA.out.rd
  have hbG : b < w9.heap.size := OA.out.lt _ rfl
  obtain ⟨G, hG⟩ : ∃ G, w9.heap.size = G := ⟨_, rfl⟩
  rw [hG] at hbG
  have KS : Hid (Blk (w9.alloc (.cells z.toArray 22)) G 22 ((be 0 16).map B8).toArray) := by
    have := Blk.new' w9 22 z.toArray G hG
    have e : z = (be 0 16).map B8 := HZ.out
    rw [e] at this ⊢
    exact this
  have HB10 : Hid (Below G w9 (w9.alloc (.cells z.toArray 22))) := (Below.refl _ _).alloc (by omega) _
  have hGH : H + 1 + 1 ≤ G := by rw [← hG]; exact s9
  have HG := Lib.hid hG
  clear OA
  go_wp2_with fail
  rw [HG.out]
  clear hG
  go_loopw [13] (fun s13 wr => ∃ (i S p : Nat), p = 16 * i ∧ p ≤ M ∧ s13 = .int .i64 p ∧ Lt128 S ∧ ght h 0 AL = ght h S (AL.drop p) ∧ Blk wr G 22 ((be S 16).map B8).toArray ∧ Below G w9 wr) (fun s13 _ => M - (intOf s13).toNat)
  case atStart => exact ⟨0, 0, 0, rfl, by omega, rfl, by show 0 < 2 ^ 128; decide, rfl, KS.out, HB10.out⟩
  case round =>
    clear KS HB10
    obtain ⟨i, S, p, hp, hpM, rfl, hS, hght, hs, hbel⟩ := hrel
    have HP := Lib.hid hp
    have LS := Lib.hid hS
    have EG := Lib.hid hght
    have BS := Lib.hid hs
    clear hp hS hght hs
    by_cases hlt : p < M
    · have hp16 : p + 16 ≤ M := by have := HP.out; have := HM16.out; omega
      have hd : decide ((p : Int) < (M : Int)) = true := decide_eq_true (by omega)
      go_wp2_with fail
      obtain ⟨B, hB⟩ : ∃ B, wr.heap.size = B := ⟨_, rfl⟩
      have hGB : G < B := by rw [← hB]; exact BS.out.lt
      have KB : Hid (Blk (wr.alloc (.cells z.toArray 22)) B 22 ((cpy AL p 0).map B8).toArray) := by
        have := Blk.new' wr 22 z.toArray B hB
        rw [cpy_zero, List.map_replicate]
        have e : z = List.replicate 16 (B8 0) := HZ.out
        rw [e] at this ⊢
        exact this
      have KS1 := Lib.hid (BS.out.alloc (.cells z.toArray 22))
      have HB1 : Hid (Below G w9 (wr.alloc (.cells z.toArray 22))) := hbel.alloc (by omega) _
      rw [hB]
      obtain ⟨wo, rfl⟩ : ∃ wo : World, wo = wr := ⟨_, rfl⟩
      clear hB
      go_loopw [15] (fun s15 wr => ∃ k : Nat, k ≤ 16 ∧ s15 = .int .i64 k ∧ Blk wr B 22 ((cpy AL p k).map B8).toArray ∧ Blk wr G 22 ((be S 16).map B8).toArray ∧ Below G w9 wr) (fun s15 _ => 16 - (intOf s15).toNat)
      case atStart => exact ⟨0, by omega, rfl, KB.out, KS1.out, HB1.out⟩
      case round =>
        clear KB KS1 HB1
        obtain ⟨k, hk, rfl, hx, hs, hbel2⟩ := hrel
        have BX := Lib.hid hx
        have CS := Lib.hid hs
        clear hx hs
        by_cases hlk : k < 16
        · obtain ⟨v, Hv⟩ : ∃ v, Hid (v = AL.getD (p + k) 0) := ⟨_, rfl⟩
          have hc : wr.cell? ⟨b, o + (p + k), none⟩ = some (.int .u8 (v.toNat : Int)) := by
            obtain ⟨b', o', e, hcc⟩ := (RA.out.keep (w' := wr) fun q u hu => by
              have hq := World.block_lt_of_cell? w9 _ hu
              rw [HG.out] at hq
              exact (hbel2.cell hq).trans hu).at_ (by omega)
            injection e with e; injection e with e1 e2
            subst e1; subst e2
            rw [hcc (p + k) (by omega), Hv.out]
          have hfx := BX.out.frozen k
          have hsw : IntKind.i64.wrap ((p : Int) + (k : Int)) = ((p + k : Nat) : Int) := by rw [IntWalk.i64_in _ (by omega)]; omega
          have hb1 : (0 : Int) ≤ ((p + k : Nat) : Int) := by omega
          have hb2 : ((p + k : Nat) : Int) < (M : Int) := by omega
          have hvb := v.toNat_lt
          have hcx : wr.cell? ⟨B, k, none⟩ = some (.int .u8 0) := by
            rw [BX.out.cell]
            simp [cpy, hlk]
          go_wp2
          go_roundw
          case rel =>
            refine ⟨k + 1, by omega, by go_num, ?_, CS.out.far (by simp; omega) _, hbel2.setCell (by simp; omega) _⟩
            have hs := BX.out.set_ k (B8 v)
            rw [List.setIfInBounds_toArray, ← List.map_set, Hv.out, cpy_step AL p k hlk] at hs
            rw [← Hv.out] at hs
            exact hs
          case measure => first | (simp [intOf]; done) | (simp [intOf]; omega)
        · obtain rfl : k = 16 := by omega
          have hcf : cpy AL p 16 = pad16 (AL.drop p) := cpy_full AL p (by rw [← HMl.out]; exact hp16)
          rw [hcf] at BX
          clear hcf
          obtain ⟨XB, HXB⟩ : ∃ x, Hid (pad16 (AL.drop p) = x) := ⟨_, rfl⟩
          rw [HXB.out] at BX
          have LXB : Hid (XB.length = 16) := by show _ = _; rw [← HXB.out]; exact pad16_length _
          obtain ⟨SB, HSB⟩ : ∃ x, Hid (be S 16 = x) := ⟨_, rfl⟩
          rw [HSB.out] at CS
          have LSB : Hid (SB.length = 16) := by show _ = _; rw [← HSB.out]; exact be_length S 16
          have hnS : Hid (num SB = S) := by show _ = _; rw [← HSB.out]; exact num_be16 S LS.out
          obtain ⟨ca, Hca⟩ : ∃ cs, Hid (cs = SB.map B8) := ⟨_, rfl⟩
          obtain ⟨cb, Hcb⟩ : ∃ cs, Hid (cs = XB.map B8) := ⟨_, rfl⟩
          obtain ⟨cd, Hcd⟩ : ∃ cs, Hid (cs = (gadd SB XB).map B8) := ⟨_, rfl⟩
          obtain ⟨ce, Hce⟩ : ∃ cs, Hid (cs = (be (gmul (num (gadd SB XB)) (num hb)) 16).map B8) := ⟨_, rfl⟩
          have la : Hid (ca.length = 16) := by show _ = _; rw [Hca.out]; simpa using LSB.out
          have lb : Hid (cb.length = 16) := by show _ = _; rw [Hcb.out]; simpa using LXB.out
          have le : Hid (ce.length = 16) := by show _ = _; rw [Hce.out]; simp [be_length]
          have BXc : Hid (Blk wr B 22 cb.toArray) := by rw [Hcb.out]; exact BX.out
          have CSc : Hid (Blk wr G 22 ca.toArray) := by rw [Hca.out]; exact CS.out
          have KXw : Hid (Blk wr H 22 cx.toArray) := KX9.out.below hbel2 (by omega)
          have ce1 : ∀ v ∈ ce, v.oneCell' = true := by rw [Hce.out]; exact b8_one
          clear BX CS
          go_wp2_with fail
          refine region_gate 5 (fun w' => Blk w' G 22 ca.toArray ∧ Blk w' B 22 cb.toArray ∧ Blk w' H 22 cx.toArray ∧ Below G w9 w') (by kernel_rfl) ?th1 (fun hHeld => ?tk1)
          case th1 => ((try dsimp only); exact ⟨CSc.out.drew, BXc.out.drew, KXw.out.drew, hbel2.drew⟩)
          refine' takeV 0 (oi := _) (d := _) (v := _) ?ti2 ?td2 (by kernel_rfl) (by kernel_rfl) (by kernel_rfl) (by kernel_rfl) (by decide) (fun _ _ _ _ _ h => h) ?tg2 ?ty2 (by assumption) ?tr2
          case ti2 => (simp only [List.getElem?_toArray, List.getElem?_cons_succ, List.getElem?_cons_zero]; rfl)
          case td2 => exact rfl
          case tg2 => exact rfl
          case ty2 => (intro w hSw; (try dsimp only at hSw); rw [exec_load_blk 22 (.tmp 12) rfl rfl hSw.1 _ HU.out rfl (by rw [la.out]; exact infoA16)])
          simp only [List.setIfInBounds_toArray, List.set_cons_zero, List.set_cons_succ]
          refine' takeV 1 (oi := _) (d := _) (v := _) ?ti3 ?td3 (by kernel_rfl) (by kernel_rfl) (by kernel_rfl) (by kernel_rfl) (by decide) (fun _ _ _ _ _ h => h) ?tg3 ?ty3 (by assumption) ?tr3
          case ti3 => (simp only [List.getElem?_toArray, List.getElem?_cons_succ, List.getElem?_cons_zero]; rfl)
          case td3 => exact rfl
          case tg3 => exact rfl
          case ty3 => (intro w hSw; (try dsimp only at hSw); rw [exec_load_blk 22 (.tmp 14) rfl rfl hSw.2.1 _ HU.out rfl (by rw [lb.out]; exact infoA16)])
          simp only [List.setIfInBounds_toArray, List.set_cons_zero, List.set_cons_succ]
          refine' takeV 3 (oi := _) (d := _) (v := _) ?ti4 ?td4 (by kernel_rfl) (by kernel_rfl) (by kernel_rfl) (by kernel_rfl) (by decide) (fun _ _ _ _ _ h => h) ?tg4 ?ty4 (by assumption) ?tr4
          case ti4 => (simp only [List.getElem?_toArray, List.getElem?_cons_succ, List.getElem?_cons_zero]; rfl)
          case td4 => exact rfl
          case tg4 => exact rfl
          case ty4 => (intro w hSw; (try dsimp only at hSw); rw [exec_load_blk 22 (.tmp 3) rfl rfl hSw.2.2.1 _ HU.out rfl (by rw [lx.out]; exact infoA16)])
          simp only [List.setIfInBounds_toArray, List.set_cons_zero, List.set_cons_succ]
          obtain ⟨k1, k2, k3, k4⟩ := hHeld
          refine stepG 2 (by kernel_rfl) (by simp only [List.getElem?_toArray, List.getElem?_cons_succ, List.getElem?_cons_zero]; rfl) (fun K hK => ?_)
          go_simp
          refine (add_o SB XB ca cb cd Hca Hcb Hcd LSB.out LXB.out _).mono ?_
          rintro e w1' ⟨rfl, hb1'⟩
          refine hK.out _ _ ?ts5 (fun hHeld => ?_)
          case ts5 => ((try dsimp only); exact ⟨k1.below hb1' k1.lt, k2.below hb1' k2.lt, k3.below hb1' k3.lt, k4.trans (hb1'.mono (Nat.le_of_lt k1.lt))⟩)
          clear hK K
          obtain ⟨m1', m2', m3', m4'⟩ := hHeld
          refine stepG 4 (by kernel_rfl) (by simp only [List.getElem?_toArray, List.getElem?_cons_succ, List.getElem?_cons_zero]; rfl) (fun K hK => ?_)
          go_simp
          refine (refmul_o (gadd SB XB) hb cd cx ce Hcd Hcx Hce (gadd_length SB XB) HL.out _).mono ?_
          rintro e w2' ⟨rfl, hb2'⟩
          refine hK.out _ _ ?ts6 (fun hHeld => ?_)
          case ts6 => ((try dsimp only); exact ⟨m1'.below hb2' m1'.lt, m2'.below hb2' m2'.lt, m3'.below hb2' m3'.lt, m4'.trans (hb2'.mono (Nat.le_of_lt m1'.lt))⟩)
          clear hK K
          obtain ⟨n1', n2', n3', n4'⟩ := hHeld
          refine stepGate 5 (by kernel_rfl) (by kernel_rfl) (by simp only [List.getElem?_toArray, List.getElem?_cons_succ, List.getElem?_cons_zero]; rfl) (fun K hK => ?_)
          refine step_store_blk rfl 22 (.tmp 12) (.tmp 66) rfl rfl rfl n1' (by rw [la.out, le.out]) (by rw [le.out]; exact infoA16) ce1 ?_
          intro w3' hk3' hg3'
          refine hK.out _ _ ?_
          clear hK K
          refine doneG (by kernel_rfl) ?_ _
          have hfin : Hid (ce = (be (gmul (S ^^^ num XB) h) 16).map B8) := by
            show _ = _
            rw [Hce.out, num_gadd SB XB LSB.out LXB.out, hnS.out, Hh.out]
          have KE := Lib.hid hk3'
          have HB3' : Hid (Below G w9 w3') := n4'.grown hg3' (by have := n1'.lt; omega) (by intro k hk; simp at hk; omega)
          clear hk3' hg3'
          go_wp2
          go_roundw
          case rel =>
            refine ⟨i + 1, gmul (S ^^^ num XB) h, p + 16, by have := HP.out; omega, hp16, by go_num, gmul_lt HH128.out, ?_, ?_, HB3'.out⟩
            · rw [EG.out, ght_step h S (AL.drop p) (by rw [List.length_drop, ← HMl.out]; omega), HXB.out, List.drop_drop]
            · have := KE.out
              rw [hfin.out] at this
              exact this
          case measure => first | (simp [intOf]; done) | (simp [intOf]; omega)
    · obtain rfl : p = M := by omega
      have hd : decide ((p : Int) < (p : Int)) = false := decide_eq_false (by omega)
      have hfin : Hid (gfin (num hb) l1 l2 = S) := by
        show _ = _
        rw [Hh.out, ← HGA.out, EG.out, List.drop_of_length_le (by rw [← HMl.out]; omega)]
        rfl
      have LR : Hid (((be S 16).map B8).length = 16) := by simp [be_length, Hid]
      have KRw : Hid (Blk wr (H + 1) 22 z.toArray) := KR9.out.below hbel (by omega)
      go_wp2_with (first
        | (with_reducible refine wpList_load_blk rfl 22 (.tmp 12) rfl rfl BS.out _ HU.out rfl (by rw [LR.out]; exact infoA16) ?_)
        | (with_reducible refine wpList_store_blk rfl 22 (.tmp 6) (.tmp 67) rfl rfl rfl KRw.out (by rw [LR.out, lz.out]) (by rw [LR.out]; exact infoA16) b8_one ?_; intro w8 hk8 hg8))
      refine bodyPost_ret (v := A16 (be S 16)) (ret_blk (p := 6) rfl rfl hk8 _ HU.out rfl (by rw [List.size_toArray, LR.out]; exact infoA16)) rfl ⟨by rw [hfin.out], ?_⟩
      rw [HH.out]
      exact (HB9.out.trans (hbel.mono (by omega))).grown hg8 (by have := KRw.out.lt; omega) (by intro k hk; simp at hk; omega)
end Go.Proofs.Ytikhnjoobhfgdaa
