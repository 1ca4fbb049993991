/- The closures of slot.Decode: text. -/
import Derived.Test.YtihbpmceggghgaaDecC
set_option linter.unusedVariables false
set_option linter.unusedSimpArgs false
namespace Go.Proofs.Ytihbpmceggghgaa
open Go.RowKit

set_option maxHeartbeats 1600000 in
theorem text_any (g : Nat) (lb : Array Value) (may : Nat → Bool) (H : Nat) (A : Option Addr) (c : Nat) (l : List UInt8) (s : RdSt) (p : Nat) (w : World) (h : DS w H A c l s p) (eg : Enters Try.prog g) (hm : ∀ q, s = .ok q → MayG g lb may 256 w) :
    Calls Try.prog 41 #[fnV g lb, ptr (H + 5), ptr (H + 2), ptr (H + 3), ptr H] w fun e w' => ∃ A' n' c', e = .returned (.slice A' n' c') ∧ Own w' w.heap.size A' n' c' (txR l may s).1 ∧ (∃ p', DS w' H A c l (txR l may s).2 p') ∧ Fr H w w' := by
  obtain ⟨W, hW⟩ : ∃ W, W = w.alloc (.cells #[fnV g lb] 59) := ⟨_, rfl⟩
  have hwW : Below w.heap.size w W := by rw [hW]; exact below_new1 _ _
  have hY : Blk W w.heap.size 59 #[fnV g lb] := by rw [hW]; exact Blk.new _ _ _
  have hdW := h.fr hwW
  obtain ⟨m2, hm2⟩ : ∃ m2 : Nat → Bool, m2 = fun v => may v && decide (v + p + 1 ≤ 224) := ⟨_, rfl⟩
  have HC := Lib.hid (take_any 42 #[ptr w.heap.size, ptr (H + 2)] m2 1 H A c l s p W hdW en_txt (fun q e => by rw [hm2]; exact may_txt h.pl hdW.bp hY eg ((hm q e).below hwW)) (by omega) (by omega))
  have HT : Hid (∀ q, s = .ok q → tx l may q = match tk l 1 m2 q with | .error f => .error f | .ok (v, q) => .ok ((l.drop q).take v, q + v)) := fun q e => by
    rw [hm2, h.at_ q e]; rfl
  have HM2 := Lib.hid hm2
  have HP0 : Hid (∀ q, s = .ok q → p = q) := h.at_
  have HLEN := Lib.hid h.rd.len
  have hK5 : W.cell? ⟨H + 5, 0, none⟩ = some (fnV 39 #[ptr (H + 3), ptr (H + 2), ptr (H + 4), ptr H]) := hdW.bt.cell 0
  have HW := Lib.hid hW
  have HwW := Lib.hid hwW
  have hws : w.heap.size < W.heap.size := hY.lt
  have hHs := h.size
  clear h eg hm hdW hY hW hwW hm2
  go_enter Try.func41, Try.ntmps41
  go_upto_region 1 with fail
  rw [← HW.out]
  go_wp2_with fail
  refine HC.out.mono ?_
  rintro e w1 ⟨p1, rfl, hd1, hf1⟩
  obtain ⟨t, ht⟩ : ∃ t, tkR l 1 m2 s = t := ⟨_, rfl⟩
  rw [ht] at hd1
  rw [ht]
  have HTT := Lib.hid ht
  clear ht
  obtain ⟨v, s'⟩ := t
  have k1 := hd1.bf.cell 0
  cases s' with
  | error f =>
    have e1 : stF (.error f) = (f : Int) := rfl
    rw [e1] at k1
    have hf0 : (0 : Int) ≤ (f : Int) := by omega
    have HD1 := Lib.hid hd1
    have HF1 := Lib.hid hf1
    clear hd1 hf1 e1
    go_wp2_with fail
    go_ret
    have hr : txR l may s = ([], .error f) := by
      have h2 := HTT.out
      cases s with
      | error f' => injection h2 with _ h2; injection h2 with h2; rw [h2]; rfl
      | ok q =>
        cases hk : tk l 1 m2 q with
        | error f' =>
          rw [tkR_bad hk] at h2
          injection h2 with _ h2
          injection h2 with h2
          rw [← h2]
          refine txR_bad ?_
          rw [HT.out q rfl, hk]
        | ok a => obtain ⟨v', q'⟩ := a; rw [tkR_ok hk] at h2; injection h2 with _ h2; cases h2
    rw [hr]
    exact ⟨none, 0, 0, rfl, Own.nil _ _, ⟨p1, HD1.out⟩, (Fr.of HwW.out).trans HF1.out⟩
  | ok q =>
    obtain rfl : p1 = q := hd1.at_ _ rfl
    obtain ⟨q0, rfl, hk⟩ : ∃ q0, s = .ok q0 ∧ tk l 1 m2 q0 = .ok (v, p1) := by
      have h2 := HTT.out
      cases s with
      | error f' => injection h2 with _ h2; cases h2
      | ok q =>
        refine ⟨q, rfl, ?_⟩
        cases hk : tk l 1 m2 q with
        | error f' => rw [tkR_bad hk] at h2; injection h2 with _ h2; cases h2
        | ok a =>
          obtain ⟨v', q'⟩ := a
          rw [tkR_ok hk] at h2
          injection h2 with h2 h3
          injection h3 with h3
          subst h2; subst h3; rfl
    have hr : txR l may (.ok q0) = ((l.drop p1).take v, .ok (p1 + v)) := txR_ok (by rw [HT.out q0 rfl, hk])
    obtain ⟨r1, r2, r3, r4⟩ := tk_ok hk
    have hv : p1 + v ≤ 224 := by
      rw [HM2.out] at r4
      simp only [Bool.and_eq_true, decide_eq_true_eq] at r4
      have := HP0.out q0 rfl
      omega
    have e1 : stF (.ok p1) = -1 := rfl
    rw [e1] at k1
    have k2 := hd1.bp.cell 0
    have hfr := hd1.bp.frozen 0
    have HDM := Lib.hid (hd1.move (p1 + v) hv)
    have HFM : Hid (Fr H W (w1.setCell ⟨H + 2, 0, none⟩ (.int .i64 ((p1 + v : Nat) : Int)))) := hf1.set_ (.inl rfl) _
    have hadd : ((p1 + v : Nat) : Int) = (p1 : Int) + (v : Int) := by omega
    rw [hadd] at HDM HFM
    have HR := Lib.hid hr
    clear hd1 hf1 e1 hr hk r1 r2 r3 r4 HC HT HTT HM2 HP0 hadd
    go_upto_region 5 with fail
    obtain ⟨W2, hW2⟩ : ∃ W2, W2 = w1.setCell ⟨H + 2, 0, none⟩ (.int .i64 ((p1 : Int) + (v : Int))) := ⟨_, rfl⟩
    rw [← hW2] at HDM HFM ⊢
    clear hW2 k1 k2 hfr
    have k2 := HDM.out.bp.cell 0
    have k4 := HDM.out.bb.cell 0
    have hsub : ((p1 + v : Nat) : Int) - (v : Int) = (p1 : Int) := by omega
    obtain ⟨b, o, rfl, _⟩ := HDM.out.rd.at_ (by omega)
    have hcap := HDM.out.rd.cap
    have hmax := HDM.out.rd.max
    unfold maxLen at hmax
    have hs2 := HDM.out.size
    have hH0 : H < W2.heap.size := by omega
    have hH2 : H + 2 < W2.heap.size := by omega
    have HOf : Hid (Own (W2.alloc (.cells #[] 5)) W2.heap.size (some ⟨W2.heap.size, 0, none⟩) 0 0 []) := Own.fresh W2 W2.heap.size [] 0 rfl (by omega) (Nat.le_refl _)
    have hbW : Below W2.heap.size W2 (W2.alloc (.cells #[] 5)) := below_new1 _ _
    have HRW : Hid (Rd (W2.alloc (.cells #[] 5)) (some ⟨b, o, none⟩) 224 c l) := HDM.out.rd.below hbW
    have HBW := Lib.hid hbW
    clear hbW
    by_cases hcp : c = p1
    · obtain rfl : p1 = 224 := by omega
      obtain rfl : c = 224 := by omega
      obtain rfl : v = 0 := by omega
      have HRP := Lib.hid (HRW.out.part 0 0 0 (some ⟨b, o, none⟩) (fun h => absurd h (by omega)) (by omega) (by omega) (by unfold maxLen; omega))
      go_wp2_with (at_builtin; refine wpList_app 34 Try.underlying34 rfl (.tmp 17) (.tmp 24) rfl rfl rfl HOf.out HRP.out (by simp) (by omega) ?_; intro A4 c4 w3 hown3 hg3 hb3)
      have HO3 : Hid (Own w3 W2.heap.size A4 0 c4 []) := hown3
      have hb : Below W2.heap.size W2 w3 := HBW.out.trans hb3
      go_ret
      rw [HR.out]
      exact ⟨A4, _, c4, rfl, HO3.out.mono (by have := HFM.out.size; omega), ⟨224, HDM.out.fr hb⟩, (Fr.of HwW.out).trans (HFM.out.trans (Fr.of hb))⟩
    · have hmm : p1 + v - p1 = v := by omega
      have HRP := Lib.hid (HRW.out.part p1 v (c - p1) (some ⟨b, o + p1, none⟩) (fun _ => rfl) (by omega) (by omega) (by unfold maxLen; omega))
      have HRQ : Hid (Rd (W2.alloc (.cells #[] 5)) (some ⟨b, o + p1, none⟩) (p1 + v - p1) (c - p1) ((l.drop p1).take v)) := by rw [hmm]; exact HRP.out
      clear HRP
      go_wp2_with (at_builtin; refine wpList_app 34 Try.underlying34 rfl (.tmp 17) (.tmp 24) rfl rfl rfl HOf.out HRQ.out (by simp) (by omega) ?_; intro A4 c4 w3 hown3 hg3 hb3)
      rw [List.nil_append, Nat.zero_add, hmm] at hown3
      have HO3 := Lib.hid hown3
      have hb : Below W2.heap.size W2 w3 := HBW.out.trans hb3
      go_ret
      rw [HR.out]
      exact ⟨A4, _, c4, rfl, HO3.out.mono (by have := HFM.out.size; omega), ⟨p1 + v, HDM.out.fr hb⟩, (Fr.of HwW.out).trans (HFM.out.trans (Fr.of hb))⟩
end Go.Proofs.Ytihbpmceggghgaa
