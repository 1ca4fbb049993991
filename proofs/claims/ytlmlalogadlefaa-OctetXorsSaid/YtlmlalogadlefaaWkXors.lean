/- The walk of OctetXors: two rows of bytes bit by bit, whether they are the same, or noughts; what is handed in stays. -/
import Derived.Test.YtlmlalogadlefaaOctKnown
import Derived.Test.YtlmlalogadlefaaOctX
set_option linter.unusedVariables false
namespace Go.Proofs.Ytlmlalogadlefaa
open Go.RowKit

theorem same_refl (A : Option Addr) (n c : Nat) (A' : Option Addr) (n' c' : Nat) (l : List UInt8) (w : World) (h : Rd w A n c l) (h' : Rd w A' n' c' l) :
    Calls Try.prog 13 #[.slice A n c, .slice A' n' c'] w fun e w' => e = .returned (.bool true) ∧ w = w' :=
  (same_any A n c l A' n' c' l w h h').mono fun e w' ⟨he, hw⟩ => ⟨by rw [he]; simp, hw⟩
theorem same_neq (A : Option Addr) (n c : Nat) (l : List UInt8) (A' : Option Addr) (n' c' : Nat) (l' : List UInt8) (w : World) (h : Rd w A n c l) (h' : Rd w A' n' c' l') (hne : l ≠ l') :
    Calls Try.prog 13 #[.slice A n c, .slice A' n' c'] w fun e w' => e = .returned (.bool false) ∧ w = w' :=
  (same_any A n c l A' n' c' l' w h h').mono fun e w' ⟨he, hw⟩ => ⟨by rw [he]; simp [hne], hw⟩

set_option maxHeartbeats 3200000 in
theorem octetXors_ne (A : Option Addr) (n c : Nat) (l : List UInt8) (A' : Option Addr) (n' c' : Nat) (l' : List UInt8) (w : World) (h : Rd w A n c l) (hr : c ≤ 140737488351232) (h' : Rd w A' n' c' l') (hr' : c' ≤ 140737488351232) (hne : n ≠ n') :
    Calls Try.prog 9 #[.slice A n c, .slice A' n' c'] w fun e w' => e = .returned (.bool true) ∧ Below w.heap.size w w' := by
  have hcm := h.cap
  have hcm' := h'.cap
  have hll : Hid (l ≠ l') := by
    intro e
    exact hne (by rw [h.len, h'.len, e])
  have H := Lib.hid h
  have H' := Lib.hid h'
  clear h h'
  have htest : ((n : Int) != (n' : Int)) = true := by rw [bne_iff_ne]; omega
  have HN := Lib.hid hne
  clear hne
  obtain ⟨z, HZ⟩ : ∃ z, Hid (z = zeros l) := ⟨_, rfl⟩
  have hzz : (z != z) = false := by simp
  go_enter Try.func9, Try.ntmps9
  go_wp2_with fail
  refine (copy_any A n c l w H.out (by omega)).mono ?_
  rintro e w1 ⟨A1, c1, rfl, hown, hb1⟩
  have X1 := Lib.hid (Rd.of_own hown)
  have H1 := Lib.hid (H.out.below hb1)
  have H1' := Lib.hid (H'.out.below hb1)
  clear hown
  go_wp2_with fail
  refine (copy_any A' n' c' l' w1 H1'.out (by omega)).mono ?_
  rintro e w2 ⟨A2, c2, rfl, hown, hb2⟩
  have Y2 := Lib.hid (Rd.of_own hown)
  have X2 := Lib.hid (X1.out.below hb2)
  have H2 := Lib.hid (H1.out.below hb2)
  have H2' := Lib.hid (H1'.out.below hb2)
  clear hown
  go_wp2_with fail
  refine (xor_ne A1 n c1 A2 n' c2 w2 HN.out (by omega) (by omega)).mono ?_
  rintro e w3 ⟨rfl, rfl⟩
  go_wp2_with fail
  refine (octsame_ne A1 n c1 A2 n' c2 w2 HN.out (by omega) (by omega)).mono ?_
  rintro e w3 ⟨rfl, m, hw3⟩
  have hb3 : Below w2.heap.size w2 w3 := by rw [hw3]; exact below_drewN (Below.refl _ _) m
  clear hw3
  have X3 := Lib.hid (X2.out.below hb3)
  have Y3 := Lib.hid (Y2.out.below hb3)
  have H3 := Lib.hid (H2.out.below hb3)
  have H3' := Lib.hid (H2'.out.below hb3)
  go_wp2_with fail
  refine (nought_any A1 n c1 l w3 X3.out).mono ?_
  rintro e w4 ⟨rfl, rfl⟩
  rw [← HZ.out]
  go_wp2_with fail
  refine (same_refl A1 n c1 A n c l w3 X3.out H3.out).mono ?_
  rintro e w4 ⟨rfl, rfl⟩
  go_wp2_with fail
  refine (same_refl A2 n' c2 A' n' c' l' w3 Y3.out H3'.out).mono ?_
  rintro e w4 ⟨rfl, rfl⟩
  go_wp2_with fail
  refine (same_neq A n c l A' n' c' l' w3 H3.out H3'.out hll.out).mono ?_
  rintro e w4 ⟨rfl, rfl⟩
  go_wp2_with fail
  refine (refnought_any A n c l w3 H3.out).mono ?_
  rintro e w4 ⟨rfl, rfl⟩
  rw [← HZ.out]
  go_wp2_with fail
  refine (known_any w3).mono ?_
  rintro e w4 ⟨rfl, hb4⟩
  go_wp2
  go_ret
  have s1 := hb1.size
  have s2 := hb2.size
  have s3 := hb3.size
  exact ⟨rfl, ((hb1.trans (hb2.mono s1)).trans (hb3.mono (by omega))).trans (hb4.mono (by omega))⟩

set_option maxHeartbeats 3200000 in
theorem octetXors_eq (A : Option Addr) (n c : Nat) (l : List UInt8) (A' : Option Addr) (c' : Nat) (l' : List UInt8) (w : World) (h : Rd w A n c l) (hr : c ≤ 140737488351232) (h' : Rd w A' n c' l') (hr' : c' ≤ 140737488351232) :
    Calls Try.prog 9 #[.slice A n c, .slice A' n c'] w fun e w' => e = .returned (.bool true) ∧ Below w.heap.size w w' := by
  have hcm := h.cap
  have hcm' := h'.cap
  have HLl := Lib.hid h.len
  have HLl' := Lib.hid h'.len
  have H := Lib.hid h
  have H' := Lib.hid h'
  clear h h'
  have htest : ((n : Int) != (n : Int)) = false := by simp
  obtain ⟨z, HZ⟩ : ∃ z, Hid (z = zeros l) := ⟨_, rfl⟩
  have hzz : (z != z) = false := by simp
  obtain ⟨q, HQ⟩ : ∃ q, Hid (q = (l == l')) := ⟨_, rfl⟩
  have hqq : (q != q) = false := by simp
  have HT : Hid (l'.take n = l') := by show l'.take n = l'; rw [HLl'.out]; exact List.take_length
  go_enter Try.func9, Try.ntmps9
  go_wp2_with fail
  refine (copy_any A n c l w H.out (by omega)).mono ?_
  rintro e w1 ⟨A1, c1, rfl, hown, hb1⟩
  have X1 := Lib.hid (Rd.of_own hown)
  have H1 := Lib.hid (H.out.below hb1)
  have H1' := Lib.hid (H'.out.below hb1)
  clear hown
  go_wp2_with fail
  refine (copy_any A' n c' l' w1 H1'.out (by omega)).mono ?_
  rintro e w2 ⟨A2, c2, rfl, hown, hb2⟩
  have Y2 := Lib.hid (Rd.of_own hown)
  have X2 := Lib.hid (X1.out.below hb2)
  have H2 := Lib.hid (H1.out.below hb2)
  have H2' := Lib.hid (H1'.out.below hb2)
  clear hown
  go_wp2_with fail
  refine (xor_eq A1 n c1 l A2 c2 l' w2 X2.out Y2.out (by omega)).mono ?_
  rintro e w3 ⟨B, d, rfl, hown, hb3⟩
  have HO := Lib.hid hown
  clear hown
  have X3 := Lib.hid (X2.out.below hb3)
  have Y3 := Lib.hid (Y2.out.below hb3)
  have H3 := Lib.hid (H2.out.below hb3)
  have H3' := Lib.hid (H2'.out.below hb3)
  go_wp2_with fail
  refine (octsame_eq A1 n c1 l A2 c2 l' w3 X3.out Y3.out).mono ?_
  rintro e w4 ⟨rfl, m, hw4⟩
  rw [← HQ.out]
  have hb4 : Below w3.heap.size w3 w4 := by rw [hw4]; exact below_drewN (Below.refl _ _) m
  have HO4 : Hid (w4.ownsRow w2.heap.size 5 1 (.slice B n d) n ((xors l l').map B8)) := by show w4.ownsRow _ _ _ _ _ _; rw [hw4]; exact HO.out
  clear hw4
  have X4 := Lib.hid (X3.out.below hb4)
  have Y4 := Lib.hid (Y3.out.below hb4)
  have H4 := Lib.hid (H3.out.below hb4)
  have H4' := Lib.hid (H3'.out.below hb4)
  go_wp2_with fail
  refine (nought_any A1 n c1 l w4 X4.out).mono ?_
  rintro e w5 ⟨rfl, rfl⟩
  rw [← HZ.out]
  go_wp2_with fail
  refine (same_refl A1 n c1 A n c l w4 X4.out H4.out).mono ?_
  rintro e w5 ⟨rfl, rfl⟩
  go_wp2_with fail
  refine (same_refl A2 n c2 A' n c' l' w4 Y4.out H4'.out).mono ?_
  rintro e w5 ⟨rfl, rfl⟩
  go_wp2_with fail
  refine (same_any A n c l A' n c' l' w4 H4.out H4'.out).mono ?_
  rintro e w5 ⟨rfl, rfl⟩
  rw [← HQ.out]
  go_wp2_with fail
  refine (refnought_any A n c l w4 H4.out).mono ?_
  rintro e w5 ⟨rfl, rfl⟩
  rw [← HZ.out]
  go_wp2_with fail
  refine (refxor_any A n c l A' n c' l' w4 H4.out H4'.out (by omega) (Nat.le_refl _)).mono ?_
  rintro e w5 ⟨B5, d5, rfl, hown5, hb5⟩
  rw [HT.out] at hown5
  have Z5 := Lib.hid (Rd.of_own hown5)
  clear hown5
  have HO5 := Lib.hid (Rd.below (Rd.of_own HO4.out) hb5)
  go_wp2_with fail
  refine (same_refl B n d B5 n d5 (xors l l') w5 HO5.out Z5.out).mono ?_
  rintro e w6 ⟨rfl, rfl⟩
  have HOo := Lib.hid (own_below HO4.out hb5)
  go_wp2
  go_loopw [77] (fun i wr => ∃ (k : Nat) (L : List UInt8), k ≤ n ∧ i = .int .i64 (k : Int) ∧ wr.ownsRow w2.heap.size 5 1 (.slice B n d) n (L.map B8) ∧ Below w2.heap.size w5 wr)
    (fun i _ => n - (intOf i).toNat)
  case atStart => exact ⟨0, _, Nat.zero_le _, rfl, HOo.out, Below.refl _ _⟩
  case round =>
    obtain ⟨k, L, hk, rfl, hown, hbel⟩ := hrel
    have HOr := Lib.hid hown
    clear hown
    by_cases hlt : k < n
    · obtain ⟨g, cap, hv, hg2, hglt⟩ := HOr.out.form (by omega)
      injection hv with e1 e2 e3
      subst e1
      have hcell : wr.cell? ⟨g, k, none⟩ = some _ := own_cell HOr.out k hlt
      have hfr := HOr.out.frozenAt k
      have HG : Hid (d = cap) := e3
      clear e2 e3
      go_wp2
      go_roundw
      case rel =>
        refine ⟨k + 1, L.set k 7, by omega, by go_num, ?_, hbel.setCell hg2 _⟩
        exact own_set HOr.out k 7
      case measure => first | (simp [intOf]; done) | (simp [intOf]; omega)
    · have s1 := hb1.size
      have s2 := hb2.size
      have s3 := hb3.size
      have s4 := hb4.size
      have s5 := hb5.size
      have s6 := hbel.size
      have hbr : Below w2.heap.size w2 wr := ((hb3.trans (hb4.mono s3)).trans (hb5.mono (by omega))).trans hbel
      have X6 := Lib.hid (X2.out.below hbr)
      have Y6 := Lib.hid (Y2.out.below hbr)
      have H6 := Lib.hid (H2.out.below hbr)
      have H6' := Lib.hid (H2'.out.below hbr)
      go_wp2_with fail
      refine (same_refl A1 n c1 A n c l wr X6.out H6.out).mono ?_
      rintro e w7 ⟨rfl, rfl⟩
      go_wp2_with fail
      refine (same_refl A2 n c2 A' n c' l' wr Y6.out H6'.out).mono ?_
      rintro e w7 ⟨rfl, rfl⟩
      go_wp2_with fail
      refine (known_any wr).mono ?_
      rintro e w7 ⟨rfl, hb7⟩
      go_wp2
      go_ret
      exact ⟨rfl, ((hb1.trans (hb2.mono s1)).trans (hbr.mono (by omega))).trans (hb7.mono (by omega))⟩

theorem octetXors_walk (A : Option Addr) (n c : Nat) (l : List UInt8) (A' : Option Addr) (n' c' : Nat) (l' : List UInt8) (w : World) (h : Rd w A n c l) (hr : c ≤ 140737488351232) (h' : Rd w A' n' c' l') (hr' : c' ≤ 140737488351232) :
    Calls Try.prog 9 #[.slice A n c, .slice A' n' c'] w fun e w' => e = .returned (.bool true) ∧ Below w.heap.size w w' := by
  by_cases hne : n = n'
  · subst hne
    exact octetXors_eq A n c l A' c' l' w h hr h' hr'
  · exact octetXors_ne A n c l A' n' c' l' w h hr h' hr' hne
end Go.Proofs.Ytlmlalogadlefaa
