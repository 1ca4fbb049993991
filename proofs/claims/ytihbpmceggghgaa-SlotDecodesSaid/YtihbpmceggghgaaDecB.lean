/- The closures of slot.Decode: take. -/
import Derived.Test.YtihbpmceggghgaaDecA
set_option linter.unusedVariables false
set_option linter.unusedSimpArgs false
namespace Go.Proofs.Ytihbpmceggghgaa
open Go.RowKit

/-- What is asked of a test that is handed in. -/
def MayG (g : Nat) (lb : Array Value) (may : Nat → Bool) (N : Nat) (w : World) : Prop := ∀ v, v < N → ∀ W, Below w.heap.size w W → Calls Try.prog g (#[.int .u64 (v : Int)] ++ lb) W fun e w' => e = .returned (.bool (may v)) ∧ W = w'
theorem MayG.below {g : Nat} {lb : Array Value} {may : Nat → Bool} {N : Nat} {w W : World} (h : MayG g lb may N w) (hb : Below w.heap.size w W) : MayG g lb may N W :=
  fun v hv W' hb' => h v hv W' (hb.trans (hb'.mono hb.size))
set_option maxHeartbeats 1600000 in
theorem take_any (g : Nat) (lb : Array Value) (may : Nat → Bool) (size H : Nat) (A : Option Addr) (c : Nat) (l : List UInt8) (s : RdSt) (p : Nat) (w : World) (h : DS w H A c l s p) (eg : Enters Try.prog g) (hm : ∀ q, s = .ok q → MayG g lb may (256 ^ size) w) (h1 : 1 ≤ size) (h8 : size ≤ 8) :
    Calls Try.prog 39 #[.int .i64 (size : Int), fnV g lb, ptr (H + 3), ptr (H + 2), ptr (H + 4), ptr H] w fun e w' => ∃ p', e = .returned (.int .u64 ((tkR l size may s).1 : Int)) ∧ DS w' H A c l (tkR l size may s).2 p' ∧ Fr H w w' := by
  have hpl := h.pl
  have HE := Lib.hid eg
  clear eg
  cases s with
  | error f =>
    have k := h.bf.cell 0
    have e1 : stF (.error f) = (f : Int) := rfl
    rw [e1] at k
    have hf0 : (0 : Int) ≤ (f : Int) := by omega
    have HD := Lib.hid h
    clear h hm e1
    go_enter Try.func39, Try.ntmps39
    go_wp2
    go_ret
    exact ⟨p, rfl, HD.out, Fr.refl _ _⟩
  | ok p' =>
    obtain rfl : p = p' := h.at_ _ rfl
    have k := h.bf.cell 0
    have e1 : stF (.ok p) = -1 := rfl
    rw [e1] at k
    have k2 := h.bp.cell 0
    have k3 := h.bw.cell 0
    have k4 := h.bb.cell 0
    have hfr := h.bp.frozen 0

    by_cases hs : 224 < p + size
    · have hR : Hid (tkR l size may (.ok p) = (0, .error 224)) := tkR_bad (by unfold tk; rw [if_pos hs])
      have HC := Lib.hid (wrong_any H A c l p 224 w h (Nat.le_refl _))
      have hs2 : ((size : Int) > 224 - (p : Int)) := by omega
      clear h hm e1 hs
      go_enter Try.func39, Try.ntmps39
      go_wp2_with fail
      refine HC.out.mono ?_
      rintro e w1 ⟨rfl, hd1, hf1⟩
      have HD1 := Lib.hid hd1
      have HF1 := Lib.hid hf1
      clear hd1 hf1
      go_wp2_with fail
      go_ret
      rw [hR.out]
      exact ⟨p, rfl, HD1.out, HF1.out⟩
    · have hs2 : ¬ ((size : Int) > 224 - (p : Int)) := by omega
      obtain ⟨b, o, rfl, _⟩ := h.rd.at_ (by omega)
      have hcap := h.rd.cap
      have hmax := h.rd.max
      unfold maxLen at hmax
      have hpart := h.rd.part p size (c - p) (some ⟨b, o + p, none⟩) (fun _ => rfl) (by omega) (by omega) (by unfold maxLen; omega)
      have HC := Lib.hid (get_any _ _ _ _ w hpart h1 h8)
      have hv : num ((l.drop p).take size) < 256 ^ size := by
        have := num_lt ((l.drop p).take size)
        have hl : ((l.drop p).take size).length = size := by rw [List.length_take, List.length_drop, ← h.rd.len]; omega
        rw [hl] at this
        exact this
      have HM2 := Lib.hid (hm _ rfl _ hv w (Below.refl _ _))
      have HD := Lib.hid h
      obtain ⟨v, hve⟩ : ∃ v, num ((l.drop p).take size) = v := ⟨_, rfl⟩
      rw [hve] at HC HM2
      have HV : Hid (num ((l.drop p).take size) = v) := hve
      have hcp : ¬ (c = p) := by omega
      have hcp2 : ¬ ((c : Int) = (p : Int)) := by omega
      have hnn : ¬ (224 < p + size) := hs
      clear h hm e1 hpart hve hv
      have eg : ∀ (args : Array Value) (w : World), (callFunc g args).run Try.prog w = .ok (.enter g args) w := HE.out
      cases hb : may v with
      | true =>
        have hR : Hid (tkR l size may (.ok p) = (v, .ok (p + size))) := tkR_ok (by unfold tk; rw [if_neg hs, HV.out, if_pos hb])
        rw [hb] at HM2
        have HDM := Lib.hid (HD.out.move (p + size) (by omega))
        have hadd : (p : Int) + (size : Int) = ((p + size : Nat) : Int) := by omega
        have HF1 : Hid (Fr H w (w.setCell ⟨H + 2, 0, none⟩ (.int .i64 ((p + size : Nat) : Int)))) := (Fr.refl H w).set_ (.inl rfl) _
        rw [← hadd] at HDM HF1
        clear hb hs hadd HD
        go_enter Try.func39, Try.ntmps39
        go_wp2_with fail
        refine HC.out.mono ?_
        rintro e w1 ⟨rfl, rfl⟩
        go_wp2_with fail
        refine HM2.out.mono ?_
        rintro e w1 ⟨rfl, rfl⟩
        go_wp2_with fail
        go_ret
        rw [hR.out]
        exact ⟨p + size, rfl, HDM.out, HF1.out⟩
      | false =>
        have hR : Hid (tkR l size may (.ok p) = (0, .error p)) := tkR_bad (by unfold tk; rw [if_neg hs, HV.out, if_neg (by rw [hb]; decide)])
        rw [hb] at HM2
        have HW := Lib.hid (wrong_any H _ c l p p w HD.out hpl)
        clear hb hs HD
        go_enter Try.func39, Try.ntmps39
        go_wp2_with fail
        refine HC.out.mono ?_
        rintro e w1 ⟨rfl, rfl⟩
        go_wp2_with fail
        refine HM2.out.mono ?_
        rintro e w1 ⟨rfl, rfl⟩
        go_wp2_with fail
        refine HW.out.mono ?_
        rintro e w1 ⟨rfl, hd1, hf1⟩
        have HD1 := Lib.hid hd1
        have HF1 := Lib.hid hf1
        clear hd1 hf1
        go_wp2_with fail
        go_ret
        rw [hR.out]
        exact ⟨p, rfl, HD1.out, HF1.out⟩
end Go.Proofs.Ytihbpmceggghgaa
