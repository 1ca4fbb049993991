/- The walks of the statements ChainPieces, ChainPages. -/
import Derived.Test.YtbfcpapibenndaaChKnown
set_option linter.unusedVariables false
namespace Go.Proofs.Ytbfcpapibenndaa
open Go.RowKit

theorem chainPieces_walk (x : Int) (w : World) (b : -9223372036854775808 ≤ x ∧ x ≤ 9223372036854775807) :
    Calls Try.prog 3 #[.int .i64 x] w fun e w' => e = .returned (.bool true) ∧ Below w.heap.size w w' := by
  have h1 := pieces_any x w b.1 b.2
  have h2 := refpieces_any x w b.1 b.2
  obtain ⟨k, Hk⟩ : ∃ k, pcsN x = k := ⟨_, rfl⟩
  obtain ⟨m, Hm⟩ : ∃ k, pcsE x = k := ⟨_, rfl⟩
  rw [Hk, Hm] at h1 h2
  have M := Lib.hid h1
  have R := Lib.hid h2
  clear h1 h2 Hk Hm
  go_enter Try.func3, Try.ntmps3
  go_wp2_with fail
  refine M.out.mono ?_
  rintro e w1 ⟨rfl, rfl⟩
  go_wp2_with fail
  refine R.out.mono ?_
  rintro e w1 ⟨rfl, rfl⟩
  go_wp2_with (go_at_call 12; refine (known_any _).mono ?_; rintro e w3 ⟨rfl, hb3⟩)
  go_ret
  exact ⟨rfl, hb3⟩

/-- What both make of a page: bytes and an error. -/
theorem page_both (A : Option Addr) (n c : Nat) (l : List UInt8) (p q g : Nat) (w : World) (h : Rd w A n c l) (hn : n ≤ 4096) (hp : p < 4294967296) (hq : q < 18446744073709551616) (hg : g < 65536) :
    Calls Try.prog 14 #[.slice A n c, RefV p q g] w fun e w' => ∃ A' n' c', e = .returned (.tuple #[.slice A' n' c', .int .i64 (if 1 ≤ n ∧ n ≤ 208 then 0 else 2)]) ∧ Rd w' A' n' c' (if 1 ≤ n ∧ n ≤ 208 then pageB l p q g else []) ∧ Below w.heap.size w w' := by
  by_cases h1 : 1 ≤ n ∧ n ≤ 208
  · rw [if_pos h1, if_pos h1]
    exact (page_any A n c l p q g w h h1.1 h1.2 hp hq hg).mono fun e w' ⟨A', c', he, ho, hb⟩ => ⟨A', 224, c', he, ho.rd, hb⟩
  · rw [if_neg h1, if_neg h1]
    exact (page_bad A n c p q g w (by omega) (by omega)).mono fun e w' ⟨he, hb⟩ => ⟨none, 0, 0, he, Rd.none_ _, hb⟩
theorem refpage_both (A : Option Addr) (n c : Nat) (l : List UInt8) (p q g : Nat) (w : World) (h : Rd w A n c l) (hn : n ≤ 4096) (hp : p < 4294967296) (hq : q < 18446744073709551616) (hg : g < 65536) :
    Calls Try.prog 15 #[.slice A n c, RefV p q g] w fun e w' => ∃ A' n' c', e = .returned (.tuple #[.slice A' n' c', .int .i64 (if 1 ≤ n ∧ n ≤ 208 then 0 else 2)]) ∧ Rd w' A' n' c' (if 1 ≤ n ∧ n ≤ 208 then pageB l p q g else []) ∧ Below w.heap.size w w' := by
  by_cases h1 : 1 ≤ n ∧ n ≤ 208
  · rw [if_pos h1, if_pos h1]
    exact (refpage_any A n c l p q g w h h1.1 h1.2 hp hq hg).mono fun e w' ⟨A', c', he, ho, hb⟩ => ⟨A', 224, c', he, ho.rd, hb⟩
  · rw [if_neg h1, if_neg h1]
    exact (refpage_bad A n c p q g w (by omega) (by omega)).mono fun e w' ⟨he, hb⟩ => ⟨none, 0, 0, he, Rd.none_ _, hb⟩
theorem same_refl (A : Option Addr) (n c : Nat) (l : List UInt8) (A' : Option Addr) (n' c' : Nat) (w : World) (h : Rd w A n c l) (h' : Rd w A' n' c' l) :
    Calls Try.prog 16 #[.slice A n c, .slice A' n' c'] w fun e w' => e = .returned (.bool true) ∧ w = w' := by
  have := same_any A n c l A' n' c' l w h h'
  rwa [beq_self_eq_true] at this

set_option maxHeartbeats 800000 in
theorem chainPages_walk (A : Option Addr) (n c : Nat) (l : List UInt8) (p q g : Nat) (w : World) (h : Rd w A n c l) (hc : c ≤ 140737488351232) (hp : p < 4294967296) (hq : q < 18446744073709551616) (hg : g < 65536) :
    Calls Try.prog 4 #[.slice A n c, RefV p q g] w fun e w' => e = .returned (.bool true) ∧ Below w.heap.size w w' := by
  have hcap := h.cap
  have HB : Hid (Below w.heap.size w (w.alloc (.cells #[.int .u32 p, .int .u64 q, .int .u16 g] 32))) := below_new1 _ _
  by_cases hn : 4096 < n
  · have hd : decide ((n : Int) > 4096) = true := decide_eq_true (by omega)
    clear h
    go_enter Try.func4, Try.ntmps4
    go_wp2_with (go_at_call 12; refine (known_any _).mono ?_; rintro e w3 ⟨rfl, hb3⟩)
    go_ret
    exact ⟨rfl, HB.out.trans (hb3.mono HB.out.size)⟩
  · have hd : decide ((n : Int) > 4096) = false := decide_eq_false (by omega)
    have HK : Hid (Blk (w.alloc (.cells #[.int .u32 p, .int .u64 q, .int .u16 g] 32)) w.heap.size 32 #[.int .u32 p, .int .u64 q, .int .u16 g]) := Blk.new _ _ _
    have HR := Lib.hid h
    clear h
    go_enter Try.func4, Try.ntmps4
    go_wp2_with fail
    refine (copy_any A n c l _ (HR.out.below HB.out) (by omega)).mono ?_
    rintro e w1 ⟨A1, c1, rfl, hown1, hb1⟩
    have HB1 := Lib.hid (HB.out.trans (hb1.mono HB.out.size))
    have HI1 := Lib.hid (Own.rd hown1)
    have HK1 := Lib.hid (HK.out.below hb1 HK.out.lt)
    clear hown1 hb1
    have d10 : w1.cell? ⟨w.heap.size, 0, none⟩ = some (.int .u32 p) := HK1.out.cell 0
    have d11 : w1.cell? ⟨w.heap.size, 1, none⟩ = some (.int .u64 q) := HK1.out.cell 1
    have d12 : w1.cell? ⟨w.heap.size, 2, none⟩ = some (.int .u16 g) := HK1.out.cell 2
    obtain ⟨E, HE⟩ : ∃ E : Int, Hid (E = if 1 ≤ n ∧ n ≤ 208 then 0 else 2) := ⟨_, rfl⟩
    obtain ⟨L, HL⟩ : ∃ L : List UInt8, Hid (L = if 1 ≤ n ∧ n ≤ 208 then pageB l p q g else []) := ⟨_, rfl⟩
    go_wp2_with fail
    refine (page_both A1 n c1 l p q g _ HI1.out (by omega) hp hq hg).mono ?_
    rw [← HE.out, ← HL.out]
    rintro e w2 ⟨A2, n2, c2, rfl, hrd2, hb2⟩
    have HB2 := Lib.hid (HB1.out.trans (hb2.mono HB1.out.size))
    have HI2 := Lib.hid (HI1.out.below hb2)
    have HK2 := Lib.hid (HK1.out.below hb2 HK1.out.lt)
    have HP2 := Lib.hid hrd2
    have HR2 := Lib.hid (HR.out.below HB2.out)
    clear hb2 hrd2 d10 d11 d12
    have d10 : w2.cell? ⟨w.heap.size, 0, none⟩ = some (.int .u32 p) := HK2.out.cell 0
    have d11 : w2.cell? ⟨w.heap.size, 1, none⟩ = some (.int .u64 q) := HK2.out.cell 1
    have d12 : w2.cell? ⟨w.heap.size, 2, none⟩ = some (.int .u16 g) := HK2.out.cell 2
    go_wp2_with fail
    refine (refpage_both A n c l p q g _ HR2.out (by omega) hp hq hg).mono ?_
    rw [← HE.out, ← HL.out]
    rintro e w3 ⟨A3, n3, c3, rfl, hrd3, hb3⟩
    have HB3 := Lib.hid (HB2.out.trans (hb3.mono HB2.out.size))
    have HI3 := Lib.hid (HI2.out.below hb3)
    have HP3 := Lib.hid (HP2.out.below hb3)
    have HQ3 := Lib.hid hrd3
    have HR3 := Lib.hid (HR2.out.below hb3)
    clear hb3 hrd3 d10 d11 d12
    go_wp2_with (first
      | (go_at_call_of 16 (Value.slice A1 n c1); refine (same_refl A1 n c1 l A n c w3 HI3.out HR3.out).mono ?_; rintro e w' ⟨rfl, rfl⟩)
      | (go_at_call_of 16 (Value.slice A2 n2 c2); refine (same_refl A2 n2 c2 L A3 n3 c3 w3 HP3.out HQ3.out).mono ?_; rintro e w' ⟨rfl, rfl⟩)
      | (go_at_call 12; refine (known_any _).mono ?_; rintro e w4 ⟨rfl, hb4⟩))
    go_ret
    exact ⟨rfl, HB3.out.trans (hb4.mono HB3.out.size)⟩
end Go.Proofs.Ytbfcpapibenndaa
