/- Contracts: both Join's. -/
import Derived.Test.YtbfcpapibenndaaChH
set_option linter.unusedVariables false
namespace Go.Proofs.Ytbfcpapibenndaa
open Go.RowKit

/-- Has piece i the length that it must have? -/
def jAt (ls : List (List UInt8)) (L i : Nat) : Bool := (ls.getD i []).length == min 208 (L - 208 * i)
def jTo (ls : List (List UInt8)) (L : Nat) : Nat → Bool
  | 0 => true
  | i + 1 => jTo ls L i && jAt ls L i
def jOk (ls : List (List UInt8)) (L : Nat) : Bool := decide (ls.length = (L + 207) / 208) && jTo ls L ls.length
def jE (ls : List (List UInt8)) (x : Int) : Int := if pcsE x = 0 then (if jOk ls x.toNat then 0 else 5) else pcsE x
def jV (ls : List (List UInt8)) (x : Int) : List UInt8 := if pcsE x = 0 ∧ jOk ls x.toNat = true then ls.flatten else []
theorem jTo_low {ls : List (List UInt8)} {L : Nat} : ∀ {k : Nat}, jTo ls L k = true → ∀ j, j < k → jAt ls L j = true
  | 0, _, j, hj => by omega
  | k + 1, h, j, hj => by
    rw [jTo, Bool.and_eq_true] at h
    by_cases e : j = k
    · rw [e]; exact h.2
    · exact jTo_low h.1 j (by omega)
theorem jTo_bad {ls : List (List UInt8)} {L i : Nat} (h : jAt ls L i = false) : ∀ k, i < k → jTo ls L k = false
  | 0, hk => by omega
  | k + 1, hk => by
    rw [jTo]
    by_cases e : i = k
    · rw [← e, h, Bool.and_false]
    · rw [jTo_bad h k (by omega), Bool.false_and]
theorem tot_ok {ls : List (List UInt8)} {L : Nat} : ∀ {i : Nat}, jTo ls L i = true → i ≤ ls.length → ls.length = (L + 207) / 208 → tot ls i = min (208 * i) L
  | 0, _, _, _ => by simp [tot]
  | i + 1, h, hi, hk => by
    rw [jTo, Bool.and_eq_true] at h
    rw [tot_succ ls i (by omega), tot_ok h.1 (by omega) hk]
    have := h.2
    rw [jAt, beq_iff_eq] at this
    omega
theorem j_badE {ls : List (List UInt8)} {x : Int} (h : pcsE x ≠ 0) : jE ls x = pcsE x ∧ jV ls x = [] := ⟨by rw [jE, if_neg h], by rw [jV, if_neg (by intro e; exact h e.1)]⟩
theorem j_bad {ls : List (List UInt8)} {x : Int} (h : pcsE x = 0) (h2 : jOk ls x.toNat = false) : jE ls x = 5 ∧ jV ls x = [] := ⟨by rw [jE, if_pos h, h2]; rfl, by rw [jV, if_neg (by rw [h2]; intro e; cases e.2)]⟩
theorem j_ok {ls : List (List UInt8)} {x : Int} (h : pcsE x = 0) (h2 : jOk ls x.toNat = true) : jE ls x = 0 ∧ jV ls x = ls.flatten := ⟨by rw [jE, if_pos h, h2]; rfl, by rw [jV, if_pos ⟨h, h2⟩]⟩

/-- What the loops of both need to know of piece i. -/
theorem RdS.piece {w : World} {A : Option Addr} {k c : Nat} {ls : List (List UInt8)} (h : RdS w A k c ls) (i : Nat) (hi : i < k) :
    ∃ b o A' n' c', A = some ⟨b, o, none⟩ ∧ w.cell? ⟨b, o + i, none⟩ = some (.slice A' n' c') ∧ Rd w A' n' c' (ls.getD i []) ∧ b < w.heap.size := by
  obtain ⟨b, o, e, hc⟩ := h.at_ (by omega)
  obtain ⟨A', n', c', h1, h2⟩ := hc i hi
  exact ⟨b, o, A', n', c', e, h1, h2, World.block_lt_of_cell? w _ h1⟩
theorem Own.flat {w : World} {H : Nat} {A : Option Addr} {n c : Nat} {ls : List (List UInt8)} {i : Nat} {l : List UInt8} (h : Own w H A n c ((ls.take i).flatten ++ l)) (hl : l = ls.getD i []) (hi : i < ls.length) : Own w H A n c ((ls.take (i + 1)).flatten) := by
  rw [take_flatten_succ ls i hi, ← hl]
  exact h

set_option maxHeartbeats 3200000 in
theorem join_any (A : Option Addr) (k c : Nat) (ls : List (List UInt8)) (x : Int) (w : World) (h : RdS w A k c ls) (hs : ∀ j, j < k → (ls.getD j []).length ≤ 4096) (h1 : -9223372036854775808 ≤ x) (h2 : x ≤ 9223372036854775807) :
    Calls Try.prog 19 #[.slice A k c, .int .i64 x] w fun e w' => ∃ A' n' c', e = .returned (.tuple #[.slice A' n' c', .int .i64 (jE ls x)]) ∧ Own w' w.heap.size A' n' c' (jV ls x) ∧ Below w.heap.size w w' := by
  have hp := pieces_any x w h1 h2
  have HR := Lib.hid h
  have hkc := h.cap
  have hkm := h.max
  unfold maxLen at hkm
  have HL := Lib.hid h.len
  have HS := Lib.hid hs
  clear h hs
  by_cases he : pcsE x = 0
  · have hx : 0 ≤ x ∧ x ≤ 1024 := by
      unfold pcsE at he
      split at he
      · exact absurd he (by decide)
      · split at he
        · exact absurd he (by decide)
        · omega
    obtain ⟨L, rfl⟩ := Int.eq_ofNat_of_zero_le hx.1
    obtain ⟨K, hK⟩ : ∃ K, K = (L + 207) / 208 := ⟨_, rfl⟩
    have e1 : pcsN (L : Int) = (K : Int) := by rw [pcsN, if_neg (by omega), if_neg (by omega)]; omega
    rw [he, e1] at hp
    have M := Lib.hid hp
    have HE := Lib.hid he
    have HKK := Lib.hid hK
    have hLn : L ≤ 1024 := by omega
    have hK5 : K ≤ 5 := by omega
    clear hp he hK e1 hx
    by_cases hkk : k = K
    · obtain rfl : K = k := hkk.symm
      have hd : ((K : Int) != (K : Int)) = false := by simp
      go_enter Try.func19, Try.ntmps19
      go_wp2_with fail
      refine M.out.mono ?_
      rintro e w1 ⟨rfl, rfl⟩
      go_wp2_with fail
      go_loopw [8, 25] (fun v z wr => ∃ (i t c2 : Nat) (A2 : Option Addr), i ≤ K ∧ z = .int .i64 (i : Int) ∧ v = .slice A2 t c2 ∧ jTo ls L i = true ∧ t = min (208 * i) L ∧ Own wr w.heap.size A2 t c2 ((ls.take i).flatten) ∧ Below w.heap.size w wr)
        (fun _ z _ => K - (intOf z).toNat)
      case atStart => exact ⟨0, 0, 0, none, Nat.zero_le _, rfl, rfl, rfl, by simp, Own.nil _ _, Below.refl _ _⟩
      case round =>
        obtain ⟨i, t, c2, A2, hi, rfl, rfl, hj, ht, hown, hbel⟩ := hrel
        have HJ := Lib.hid hj
        have HO := Lib.hid hown
        have HB := Lib.hid hbel
        have HT := Lib.hid ht
        have ht2 : t ≤ 1024 := by omega
        have hbs := hbel.size
        by_cases hlt : i < K
        · obtain ⟨b, o, A', n', c', rfl, hcell0, hrd, hb⟩ := HR.out.piece i hlt
          have hcell := (hbel.cell hb).trans hcell0
          have HRD := Lib.hid hrd
          have hn4 : n' ≤ 4096 := by have := HS.out i hlt; rw [hrd.len]; exact this
          have hti : t = 208 * i := by have := HKK.out; omega
          obtain ⟨m, hm⟩ : ∃ m, m = min 208 (L - 208 * i) := ⟨_, rfl⟩
          have hm2 : m ≤ 208 := by omega
          have hat : jAt ls L i = (n' == m) := by rw [jAt, ← hrd.len, hm]
          have HAT := Lib.hid hat
          have hmin : (if (L : Int) - (t : Int) < 208 then (L : Int) - (t : Int) else 208) = (m : Int) := by split <;> omega
          have hw : IntKind.i64.wrap ((L : Int) - (t : Int)) = (L : Int) - (t : Int) := IntWalk.i64_in _ (by omega)
          have i1 : (0 : Int) ≤ (i : Int) := by omega
          have i2 : (i : Int) < (K : Int) := by omega
          have HM := Lib.hid hm
          have HTI := Lib.hid hti
          clear hj hown hbel ht hti hm hat hrd hcell0
          by_cases hnm : n' = m
          · obtain rfl : m = n' := hnm.symm
            have hd2 : ((m : Int) != (m : Int)) = false := by simp
            have HRB := Lib.hid (HRD.out.below HB.out)
            go_wp2_with (at_builtin; refine wpList_app 27 Try.underlying27 rfl (.tmp 37) (.tmp 38) rfl rfl rfl HO.out HRB.out hbs (by omega) ?_; intro A3 c3 w3 hown3 hg3 hb3)
            go_roundw
            case rel =>
              refine ⟨i + 1, t + m, c3, A3, by omega, by go_num, rfl, ?_, by have := HTI.out; have := HM.out; have := HKK.out; omega, hown3.flat rfl (by rw [← HL.out]; exact hlt), HB.out.trans hb3⟩
              rw [jTo, HJ.out, HAT.out, beq_self_eq_true]; rfl
            case measure => first | (simp [intOf]; done) | (simp [intOf]; omega)
          · have hd2 : ((n' : Int) != (m : Int)) = true := by rw [bne_iff_ne]; omega
            have HAF : Hid (jOk ls L = false) := by
              show _ = _
              rw [jOk, jTo_bad (i := i) (by rw [HAT.out]; exact beq_eq_false_iff_ne.2 hnm) _ (by rw [← HL.out]; exact hlt), Bool.and_false]
            have HF := Lib.hid (j_bad HE.out (by simpa using HAF.out))
            clear hnm
            go_wp2_with fail
            go_ret2
            exact ⟨none, 0, 0, by rw [HF.out.1]; rfl, by rw [HF.out.2]; exact Own.nil _ _, HB.out⟩
        · obtain rfl : i = K := by omega
          have HAF : Hid (jOk ls L = true) := by
            show _ = _
            rw [jOk, ← HL.out, HJ.out, HKK.out]; simp
          have HF := Lib.hid (j_ok HE.out (by simpa using HAF.out))
          have hfl := HO.out
          rw [HL.out, List.take_length] at hfl
          have HFL := Lib.hid hfl
          clear hj hown hbel ht hfl
          go_wp2_with fail
          go_ret2
          exact ⟨A2, t, c2, by rw [HF.out.1]; rfl, by rw [HF.out.2]; exact HFL.out, HB.out⟩
    · have hd : ((k : Int) != (K : Int)) = true := by rw [bne_iff_ne]; omega
      have HAF : Hid (jOk ls L = false) := by
        show _ = _
        rw [jOk, ← HL.out, ← HKK.out, decide_eq_false hkk, Bool.false_and]
      have HF := Lib.hid (j_bad HE.out (by simpa using HAF.out))
      clear hkk
      go_enter Try.func19, Try.ntmps19
      go_wp2_with fail
      refine M.out.mono ?_
      rintro e w1 ⟨rfl, rfl⟩
      go_wp2_with fail
      go_ret2
      exact ⟨none, 0, 0, by rw [HF.out.1]; rfl, by rw [HF.out.2]; exact Own.nil _ _, Below.refl _ _⟩
  · have HF := Lib.hid (j_badE (ls := ls) he)
    have hd : (pcsE x != 0) = true := by rw [bne_iff_ne]; exact he
    obtain ⟨N, HN⟩ : ∃ N, Hid (pcsN x = N) := ⟨_, rfl⟩
    obtain ⟨E, HE⟩ : ∃ E, Hid (pcsE x = E) := ⟨_, rfl⟩
    rw [HN.out, HE.out] at hp
    rw [HE.out] at hd HF
    have M := Lib.hid hp
    clear he hp
    go_enter Try.func19, Try.ntmps19
    go_wp2_with fail
    refine M.out.mono ?_
    rintro e w1 ⟨rfl, rfl⟩
    go_wp2_with fail
    go_ret2
    exact ⟨none, 0, 0, by rw [HF.out.1]; rfl, by rw [HF.out.2]; exact Own.nil _ _, Below.refl _ _⟩
end Go.Proofs.Ytbfcpapibenndaa
