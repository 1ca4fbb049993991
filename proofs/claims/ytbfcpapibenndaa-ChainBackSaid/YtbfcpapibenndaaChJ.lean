/- Contracts: the reference's Join. -/
import Derived.Test.YtbfcpapibenndaaChI
set_option linter.unusedVariables false
namespace Go.Proofs.Ytbfcpapibenndaa
open Go.RowKit

set_option maxHeartbeats 3200000 in
theorem refjoin_any (A : Option Addr) (k c : Nat) (ls : List (List UInt8)) (x : Int) (w : World) (h : RdS w A k c ls) (hs : ∀ j, j < k → (ls.getD j []).length ≤ 4096) (h1 : -9223372036854775808 ≤ x) (h2 : x ≤ 9223372036854775807) :
    Calls Try.prog 20 #[.slice A k c, .int .i64 x] w fun e w' => ∃ A' n' c', e = .returned (.tuple #[.slice A' n' c', .int .i64 (jE ls x)]) ∧ Own w' w.heap.size A' n' c' (jV ls x) ∧ Below w.heap.size w w' := by
  have hp := refpieces_any x w h1 h2
  have HR := Lib.hid h
  have hkc := h.cap
  have hkm := h.max
  unfold maxLen at hkm
  have HL := Lib.hid h.len
  have HS := Lib.hid hs
  clear h hs
  by_cases he : pcsE x = 0
  · have hx : 0 ≤ x ∧ x ≤ 1024 := by
      unfold pcsE at he
      split at he
      · exact absurd he (by decide)
      · split at he
        · exact absurd he (by decide)
        · omega
    obtain ⟨L, rfl⟩ := Int.eq_ofNat_of_zero_le hx.1
    obtain ⟨K, hK⟩ : ∃ K, K = (L + 207) / 208 := ⟨_, rfl⟩
    have e1 : pcsN (L : Int) = (K : Int) := by rw [pcsN, if_neg (by omega), if_neg (by omega)]; omega
    rw [he, e1] at hp
    have M := Lib.hid hp
    have HE := Lib.hid he
    have HKK := Lib.hid hK
    have hLn : L ≤ 1024 := by omega
    have hK5 : K ≤ 5 := by omega
    clear hp he hK e1 hx
    by_cases hkk : k = K
    · obtain rfl : K = k := hkk.symm
      have hd : ((K : Int) != (K : Int)) = false := by simp
      go_enter Try.func20, Try.ntmps20
      go_wp2_with fail
      refine M.out.mono ?_
      rintro e w1 ⟨rfl, rfl⟩
      go_wp2_with fail
      go_loopw [8, 9] (fun v z wr => ∃ (i t c2 : Nat) (A2 : Option Addr), i ≤ K ∧ z = .int .i64 (i : Int) ∧ v = .slice A2 t c2 ∧ jTo ls L i = true ∧ t = min (208 * i) L ∧ Own wr w.heap.size A2 t c2 ((ls.take i).flatten) ∧ Below w.heap.size w wr)
        (fun _ z _ => K - (intOf z).toNat)
      case atStart => exact ⟨0, 0, 0, none, Nat.zero_le _, rfl, rfl, rfl, by simp, Own.nil _ _, Below.refl _ _⟩
      case round =>
        obtain ⟨i, t, c2, A2, hi, rfl, rfl, hj, ht, hown, hbel⟩ := hrel
        have HJ := Lib.hid hj
        have HO := Lib.hid hown
        have HB := Lib.hid hbel
        have HT := Lib.hid ht
        have ht2 : t ≤ 1024 := by omega
        have hbs := hbel.size
        by_cases hlt : i < K
        · obtain ⟨b, o, A', n', c', rfl, hcell0, hrd, hb⟩ := HR.out.piece i hlt
          have hcell := (hbel.cell hb).trans hcell0
          have HRD := Lib.hid hrd
          have hn4 : n' ≤ 4096 := by have := HS.out i hlt; rw [hrd.len]; exact this
          have hti : t = 208 * i := by have := HKK.out; omega
          obtain ⟨m, hm⟩ : ∃ m, m = min 208 (L - 208 * i) := ⟨_, rfl⟩
          have hm2 : m ≤ 208 := by omega
          have hat : jAt ls L i = (n' == m) := by rw [jAt, ← hrd.len, hm]
          have HAT := Lib.hid hat
          have hw1 : IntKind.i64.wrap ((K : Int) - 1) = (K : Int) - 1 := IntWalk.i64_in _ (by omega)
          have hw2 : IntKind.i64.wrap ((i : Int) * 208) = (i : Int) * 208 := IntWalk.i64_in _ (by omega)
          have hlast : i + 1 = K → (L : Int) - (i : Int) * 208 = (m : Int) := by intro e; have := HKK.out; omega
          have hrest : i + 1 ≠ K → m = 208 := by intro e; have := HKK.out; omega
          have HLA := Lib.hid hlast
          have HRE := Lib.hid hrest
          have i1 : (0 : Int) ≤ (i : Int) := by omega
          have i2 : (i : Int) < (K : Int) := by omega
          have HM := Lib.hid hm
          have HTI := Lib.hid hti
          clear hj hown hbel ht hti hm hat hrd hcell0 hlast hrest
          by_cases hil : i + 1 = K
          · have hb1 : ((i : Int) == (K : Int) - 1) = true := by rw [beq_iff_eq]; omega
            have hlm := HLA.out hil
            clear hil
            by_cases hnm : n' = m
            · obtain rfl : m = n' := hnm.symm
              have hd2 : ((m : Int) != (m : Int)) = false := by simp
              have HRB := Lib.hid (HRD.out.below HB.out)
              go_wp2_with (at_builtin; refine wpList_app 27 Try.underlying27 rfl (.tmp 43) (.tmp 47) rfl rfl rfl HO.out HRB.out hbs (by omega) ?_; intro A3 c3 w3 hown3 hg3 hb3)
              go_roundw
              case rel =>
                refine ⟨i + 1, t + m, c3, A3, by omega, by go_num, rfl, ?_, by have := HTI.out; have := HM.out; have := HKK.out; omega, hown3.flat rfl (by rw [← HL.out]; exact hlt), HB.out.trans hb3⟩
                rw [jTo, HJ.out, HAT.out, beq_self_eq_true]; rfl
              case measure => first | (simp [intOf]; done) | (simp [intOf]; omega)
            · have hd2 : ((n' : Int) != (m : Int)) = true := by rw [bne_iff_ne]; omega
              have HAF : Hid (jOk ls L = false) := by
                show _ = _
                rw [jOk, jTo_bad (i := i) (by rw [HAT.out]; exact beq_eq_false_iff_ne.2 hnm) _ (by rw [← HL.out]; exact hlt), Bool.and_false]
              have HF := Lib.hid (j_bad HE.out (by simpa using HAF.out))
              clear hnm
              go_wp2_with fail
              go_ret2
              exact ⟨none, 0, 0, by rw [HF.out.1]; rfl, by rw [HF.out.2]; exact Own.nil _ _, HB.out⟩
          · have hb1 : ((i : Int) == (K : Int) - 1) = false := by rw [beq_eq_false_iff_ne]; omega
            have hm208 := HRE.out hil
            obtain rfl : m = 208 := hm208
            clear hil
            by_cases hnm : n' = 208
            · obtain rfl : n' = 208 := hnm
              have hd2 : ((((208 : Nat) : Int)) != 208) = false := by simp
              have HRB := Lib.hid (HRD.out.below HB.out)
              go_wp2_with (at_builtin; refine wpList_app 27 Try.underlying27 rfl (.tmp 43) (.tmp 47) rfl rfl rfl HO.out HRB.out hbs (by omega) ?_; intro A3 c3 w3 hown3 hg3 hb3)
              go_roundw
              case rel =>
                refine ⟨i + 1, t + 208, c3, A3, by omega, by go_num, rfl, ?_, by have := HTI.out; have := HM.out; have := HKK.out; omega, hown3.flat rfl (by rw [← HL.out]; exact hlt), HB.out.trans hb3⟩
                rw [jTo, HJ.out, HAT.out, beq_self_eq_true]; rfl
              case measure => first | (simp [intOf]; done) | (simp [intOf]; omega)
            · have hd2 : ((n' : Int) != 208) = true := by rw [bne_iff_ne]; omega
              have HAF : Hid (jOk ls L = false) := by
                show _ = _
                rw [jOk, jTo_bad (i := i) (by rw [HAT.out]; exact beq_eq_false_iff_ne.2 hnm) _ (by rw [← HL.out]; exact hlt), Bool.and_false]
              have HF := Lib.hid (j_bad HE.out (by simpa using HAF.out))
              clear hnm
              go_wp2_with fail
              go_ret2
              exact ⟨none, 0, 0, by rw [HF.out.1]; rfl, by rw [HF.out.2]; exact Own.nil _ _, HB.out⟩
        · obtain rfl : i = K := by omega
          have HAF : Hid (jOk ls L = true) := by
            show _ = _
            rw [jOk, ← HL.out, HJ.out, HKK.out]; simp
          have HF := Lib.hid (j_ok HE.out (by simpa using HAF.out))
          have hfl := HO.out
          rw [HL.out, List.take_length] at hfl
          have HFL := Lib.hid hfl
          clear hj hown hbel ht hfl
          go_wp2_with fail
          go_ret2
          exact ⟨A2, t, c2, by rw [HF.out.1]; rfl, by rw [HF.out.2]; exact HFL.out, HB.out⟩
    · have hd : ((k : Int) != (K : Int)) = true := by rw [bne_iff_ne]; omega
      have HAF : Hid (jOk ls L = false) := by
        show _ = _
        rw [jOk, ← HL.out, ← HKK.out, decide_eq_false hkk, Bool.false_and]
      have HF := Lib.hid (j_bad HE.out (by simpa using HAF.out))
      clear hkk
      go_enter Try.func20, Try.ntmps20
      go_wp2_with fail
      refine M.out.mono ?_
      rintro e w1 ⟨rfl, rfl⟩
      go_wp2_with fail
      go_ret2
      exact ⟨none, 0, 0, by rw [HF.out.1]; rfl, by rw [HF.out.2]; exact Own.nil _ _, Below.refl _ _⟩
  · have HF := Lib.hid (j_badE (ls := ls) he)
    have hd : (pcsE x != 0) = true := by rw [bne_iff_ne]; exact he
    obtain ⟨N, HN⟩ : ∃ N, Hid (pcsN x = N) := ⟨_, rfl⟩
    obtain ⟨E, HE⟩ : ∃ E, Hid (pcsE x = E) := ⟨_, rfl⟩
    rw [HN.out, HE.out] at hp
    rw [HE.out] at hd HF
    have M := Lib.hid hp
    clear he hp
    go_enter Try.func20, Try.ntmps20
    go_wp2_with fail
    refine M.out.mono ?_
    rintro e w1 ⟨rfl, rfl⟩
    go_wp2_with fail
    go_ret2
    exact ⟨none, 0, 0, by rw [HF.out.1]; rfl, by rw [HF.out.2]; exact Own.nil _ _, Below.refl _ _⟩
end Go.Proofs.Ytbfcpapibenndaa
