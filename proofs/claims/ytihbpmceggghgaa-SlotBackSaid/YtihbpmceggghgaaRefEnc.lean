/- Contract: donjonref12.Encode. -/
import Derived.Test.YtihbpmceggghgaaEnc
set_option linter.unusedVariables false
set_option linter.unusedSimpArgs false
namespace Go.Proofs.Ytihbpmceggghgaa
open Go.RowKit

set_option maxHeartbeats 1600000 in
theorem refencode_any (k l : Nat) (A : Option Addr) (n c : Nat) (es : List Ent) (w : World) (h : RdL w A n c es) (hk : k < 256) (hl : l < 256) (hin : esIn es) (hN : rE k l es = 0 → 3 + (entsB k es).length ≤ 140737488355328) :
    Calls Try.prog 18 #[NdV k l A n c] w fun e w' => ∃ A' n' c', e = .returned (.tuple #[.slice A' n' c', .int .i64 (encE k l es)]) ∧ Own w' w.heap.size A' n' c' (encV k l es) ∧ Below w.heap.size w w' := by
  obtain ⟨W, hW⟩ : ∃ W, W = w.alloc (.cells #[.int .u8 (k : Int), .int .u8 (l : Int), .slice A n c] 24) := ⟨_, rfl⟩
  have HWB : Hid (Below w.heap.size w W) := by rw [hW]; exact below_new1 _ _
  have KN : Hid (Blk W w.heap.size 24 (ndA k l A n c)) := by rw [hW]; exact Blk.new _ _ _
  have HR := Lib.hid (h.below HWB.out)
  have HM := Lib.hid (refright_any k l A n c es W HR.out hk hl)
  have HW := Lib.hid hW
  have HIN := Lib.hid hin
  clear h hW hin
  have d0 : W.cell? ⟨w.heap.size, 0, none⟩ = some (.int .u8 (k : Int)) := KN.out.cell 0
  have d1 : W.cell? ⟨w.heap.size, 1, none⟩ = some (.int .u8 (l : Int)) := KN.out.cell 1
  have d2 : W.cell? ⟨w.heap.size, 2, none⟩ = some (.slice A n c) := KN.out.cell 2
  by_cases hr : rE k l es = 0
  · have HALL := Lib.hid (right_all hr)
    have HNN := Lib.hid (hN hr)
    rw [hr] at HM
    obtain ⟨t, ht⟩ : ∃ t, 3 + (entsB k es).length = t := ⟨_, rfl⟩
    have HT := Lib.hid ht
    have HENC : Hid (encE k l es = (if t ≤ 224 then 0 else 3) ∧ encV k l es = if t ≤ 224 then nodeB k l es ++ List.replicate (224 - t) 0 else []) := by
      refine ⟨by rw [encE, if_pos hr, ht], ?_⟩
      rw [encV, ht]
      by_cases h2 : t ≤ 224
      · rw [if_pos ⟨hr, h2⟩, if_pos h2]
      · rw [if_neg (fun e => h2 e.2), if_neg h2]
    have htm : t ≤ 140737488355328 := by rw [← ht]; exact HNN.out
    clear hN hr ht
    go_enter Try.func18, Try.ntmps18
    go_wp2_with fail
    rw [← HW.out]
    refine HM.out.mono ?_
    rintro e w1 ⟨rfl, hb1⟩
    have KN1 := Lib.hid (KN.out.below hb1 KN.out.lt)
    have HB1 := Lib.hid (HWB.out.trans (hb1.mono HWB.out.size))
    have HR1 := Lib.hid (HR.out.below hb1)
    clear hb1 d0 d1 d2
    have d0 : w1.cell? ⟨w.heap.size, 0, none⟩ = some (.int .u8 (k : Int)) := KN1.out.cell 0
    have d1 : w1.cell? ⟨w.heap.size, 1, none⟩ = some (.int .u8 (l : Int)) := KN1.out.cell 1
    have d2 : w1.cell? ⟨w.heap.size, 2, none⟩ = some (.slice A n c) := KN1.out.cell 2
    go_wp2_with fail
    refine (bytes_any k l A n c es w1 HR1.out hk hl HIN.out HALL.out HNN.out).mono ?_
    rw [HT.out]
    rintro e w2 ⟨A2, c2, rfl, hown2, hb2⟩
    have HB2 := Lib.hid (HB1.out.trans (hb2.mono HB1.out.size))
    have HO2 : Hid (Own w2 w.heap.size A2 t c2 (nodeB k l es)) := Own.mono hown2 HB1.out.size
    clear hown2 hb2 d0 d1 d2
    by_cases h2 : t ≤ 224
    · have hdd : decide ((t : Int) > 224) = false := decide_eq_false (by omega)
      have he := HENC.out
      rw [if_pos h2, if_pos h2] at he
      have HENC2 := Lib.hid he
      clear he HENC
      go_wp2_with fail
      go_loopw [5] (fun z wr => ∃ (q : Nat) (A4 : Option Addr) (c4 : Nat), q ≤ 224 - t ∧ z = .slice A4 (t + q) c4 ∧ Own wr w.heap.size A4 (t + q) c4 (nodeB k l es ++ List.replicate q 0) ∧ Below w.heap.size w wr)
        (fun z _ => 224 - lenV z)
      case atStart => exact ⟨0, A2, c2, by omega, rfl, by simpa using HO2.out, HB2.out⟩
      case round =>
        clear HO2 HB2
        obtain ⟨q, A4, c4, hq, rfl, hown, hbel⟩ := hrel
        have HO := Lib.hid hown
        clear hown
        have hbs := hbel.size
        by_cases hlt : q < 224 - t
        · have hd3 : decide (((t + q : Nat) : Int) < 224) = true := decide_eq_true (by omega)
          have HF : Hid (Rd (wr.alloc (.cells #[.int .u8 0] 5)) (some ⟨wr.heap.size, 0, none⟩) 1 1 [0]) := Rd.fresh wr [0] 1 rfl (by omega)
          obtain ⟨N, HN⟩ : ∃ N, Hid (N = t + q) := ⟨_, rfl⟩
          rw [← HN.out] at HO hd3 ⊢
          have hN : N ≤ 223 := by have := HN.out; omega
          go_wp2_with (at_builtin; refine wpList_app 34 Try.underlying34 rfl (.tmp 19) (.tmp 20) rfl rfl rfl (HO.out.alloc _) HF.out (by simp; omega) (by omega) ?_; intro A5 c5 w5 hown5 hg5 hb5; have HO5 := Lib.hid hown5; have HB5 : Hid (Below w.heap.size w w5) := (hbel.alloc hbs _).trans hb5; clear hown5 hg5 hb5)
          go_roundw
          case rel =>
            refine ⟨q + 1, A5, c5, by omega, by rw [HN.out]; rfl, ?_, HB5.out⟩
            have := HO5.out
            rw [HN.out, List.append_assoc _ (List.replicate q 0)] at this
            rw [List.replicate_succ']
            exact this
          case measure => simp [lenV]; omega
        · obtain rfl : q = 224 - t := by omega
          have hd3 : decide (((t + (224 - t) : Nat) : Int) < 224) = false := decide_eq_false (by omega)
          go_wp2_with fail
          go_ret2
          exact ⟨A4, t + (224 - t), c4, by rw [HENC2.out.1]; rfl, by rw [HENC2.out.2]; exact HO.out, hbel⟩
    · have hdd : decide ((t : Int) > 224) = true := decide_eq_true (by omega)
      have he := HENC.out
      rw [if_neg h2, if_neg h2] at he
      have HENC2 := Lib.hid he
      clear he
      go_wp2_with fail
      go_ret2
      exact ⟨none, 0, 0, by rw [HENC2.out.1]; rfl, by rw [HENC2.out.2]; exact Own.nil _ _, HB2.out⟩
  · have HENC : Hid (encE k l es = rE k l es ∧ encV k l es = []) := ⟨by rw [encE, if_neg hr], by rw [encV, if_neg (fun e => hr e.1)]⟩
    have hb : (rE k l es != 0) = true := by rw [bne_iff_ne]; exact hr
    obtain ⟨E, HE⟩ : ∃ E, Hid (rE k l es = E) := ⟨_, rfl⟩
    rw [HE.out] at hb HM HENC
    clear hN hr
    go_enter Try.func18, Try.ntmps18
    go_wp2_with fail
    rw [← HW.out]
    refine HM.out.mono ?_
    rintro e w1 ⟨rfl, hb1⟩
    have HB1 := Lib.hid (HWB.out.trans (hb1.mono HWB.out.size))
    clear hb1 d0 d1 d2
    go_wp2_with fail
    go_ret2
    exact ⟨none, 0, 0, by rw [HENC.out.1]; rfl, by rw [HENC.out.2]; exact Own.nil _ _, HB1.out⟩
end Go.Proofs.Ytihbpmceggghgaa
