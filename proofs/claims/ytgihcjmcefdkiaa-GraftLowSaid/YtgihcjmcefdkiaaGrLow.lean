/- Contracts: graft.Low, and the reference's. -/
import Derived.Test.YtgihcjmcefdkiaaGrKnown
set_option linter.unusedVariables false
set_option linter.unusedSimpArgs false
namespace Go.Proofs.Ytgihcjmcefdkiaa
open Go.RowKit

def lowB (k l : Nat) (es : List Ent) : Bool := (rE k l es == 0) && decide (3 + (entsB k es).length ≤ 74)
set_option maxHeartbeats 1600000 in
theorem low_any (k l : Nat) (A : Option Addr) (n c : Nat) (es : List Ent) (w : World) (h : RdL w A n c es) (hk : k < 256) (hl : l < 256) (hin : esIn es) (hN : rE k l es = 0 → 3 + (entsB k es).length ≤ 140737488355328) :
    Calls Try.prog 20 #[NdV k l A n c] w fun e w' => e = .returned (.bool (lowB k l es)) ∧ Below w.heap.size w w' := by
  obtain ⟨W, hW⟩ : ∃ W, W = w.alloc (.cells #[.int .u8 (k : Int), .int .u8 (l : Int), .slice A n c] 24) := ⟨_, rfl⟩
  have HWB : Hid (Below w.heap.size w W) := by rw [hW]; exact below_new1 _ _
  have KN : Hid (Blk W w.heap.size 24 (ndA k l A n c)) := by rw [hW]; exact Blk.new _ _ _
  have HM := Lib.hid (size_any k l A n c es W (h.below HWB.out) hk hl hin hN)
  have HW := Lib.hid hW
  have d0 : W.cell? ⟨w.heap.size, 0, none⟩ = some (.int .u8 (k : Int)) := KN.out.cell 0
  have d1 : W.cell? ⟨w.heap.size, 1, none⟩ = some (.int .u8 (l : Int)) := KN.out.cell 1
  have d2 : W.cell? ⟨w.heap.size, 2, none⟩ = some (.slice A n c) := KN.out.cell 2
  by_cases hr : rE k l es = 0
  · obtain ⟨z, hz⟩ : ∃ z, sizeV k l es = z := ⟨_, rfl⟩
    have hzb : z ≤ 140737488355328 := by rw [← hz, sizeV, if_pos hr]; exact hN hr
    have HB : Hid (lowB k l es = decide ((3 : Int) * (z : Int) < 224)) := by
      show _ = _
      rw [← hz, lowB, hr, sizeV, if_pos hr, beq_self_eq_true, Bool.true_and, Bool.eq_iff_iff, decide_eq_true_iff, decide_eq_true_iff]
      omega
    rw [hr, hz] at HM
    clear h hW hin hN hr hz
    have hw : IntKind.i64.wrap ((3 : Int) * (z : Int)) = (3 : Int) * (z : Int) := IntWalk.i64_in _ (by omega)
    go_enter Try.func20, Try.ntmps20
    go_wp2_with fail
    rw [← HW.out]
    refine HM.out.mono ?_
    rintro e w1 ⟨rfl, hb1⟩
    have HB1 := Lib.hid (HWB.out.trans (hb1.mono HWB.out.size))
    clear hb1 d0 d1 d2
    go_wp2_with fail
    go_ret
    exact ⟨by rw [HB.out]; rfl, HB1.out⟩
  · have HB : Hid (lowB k l es = false) := by
      show _ = _
      rw [lowB, show (rE k l es == 0) = false by rw [beq_eq_false_iff_ne]; exact hr]; rfl
    have hb : (rE k l es == 0) = false := by rw [beq_eq_false_iff_ne]; exact hr
    obtain ⟨E, HE⟩ : ∃ E, Hid (rE k l es = E) := ⟨_, rfl⟩
    rw [HE.out] at hb HM
    rw [HB.out]
    clear h hW hin hN hr HB
    go_enter Try.func20, Try.ntmps20
    go_wp2_with fail
    rw [← HW.out]
    refine HM.out.mono ?_
    rintro e w1 ⟨rfl, hb1⟩
    have HB1 := Lib.hid (HWB.out.trans (hb1.mono HWB.out.size))
    clear hb1 d0 d1 d2
    go_wp2_with fail
    go_ret
    exact ⟨rfl, HB1.out⟩
set_option maxHeartbeats 1600000 in
theorem reflow_any (k l : Nat) (A : Option Addr) (n c : Nat) (es : List Ent) (w : World) (h : RdL w A n c es) (hk : k < 256) (hl : l < 256) (hin : esIn es) (hN : rE k l es = 0 → 3 + (entsB k es).length ≤ 140737488355328) :
    Calls Try.prog 21 #[NdV k l A n c] w fun e w' => e = .returned (.bool (lowB k l es)) ∧ Below w.heap.size w w' := by
  obtain ⟨W, hW⟩ : ∃ W, W = w.alloc (.cells #[.int .u8 (k : Int), .int .u8 (l : Int), .slice A n c] 24) := ⟨_, rfl⟩
  have HWB : Hid (Below w.heap.size w W) := by rw [hW]; exact below_new1 _ _
  have N0 : Hid (Nin W w.heap.size k l A n c es) := ⟨by rw [hW]; exact Blk.new _ _ _, h.below HWB.out⟩
  have HM := Lib.hid (refright_any k l A n c es W N0.out.rd hk hl)
  have HW := Lib.hid hW
  have HIN := Lib.hid hin
  have d0 := N0.out.c0
  have d1 := N0.out.c1
  have d2 := N0.out.c2
  by_cases hr : rE k l es = 0
  · obtain ⟨z, hz⟩ : ∃ z, sizeV k l es = z := ⟨_, rfl⟩
    have hzb : z ≤ 140737488355328 := by rw [← hz, sizeV, if_pos hr]; exact hN hr
    have HB : Hid (lowB k l es = decide ((z : Int) ≤ 74)) := by
      show _ = _
      rw [← hz, lowB, hr, sizeV, if_pos hr, beq_self_eq_true, Bool.true_and, Bool.eq_iff_iff, decide_eq_true_iff, decide_eq_true_iff]
      omega
    have HC := Lib.hid (fun V (hb : Below W.heap.size W V) => refsize_any k l A n c es V (N0.out.below hb).rd hk hl hin hr (hN hr))
    rw [hr] at HM
    rw [hz] at HC
    clear h hW hin hN hr hz
    go_enter Try.func21, Try.ntmps21
    go_wp2_with fail
    rw [← HW.out]
    refine HM.out.mono ?_
    rintro e w1 ⟨rfl, hb1⟩
    have N1 := Lib.hid (N0.out.below hb1)
    have HB1 := Lib.hid (HWB.out.trans (hb1.mono HWB.out.size))
    have HCC := Lib.hid (HC.out w1 hb1)
    clear hb1 d0 d1 d2 HC
    have d0 := N1.out.c0
    have d1 := N1.out.c1
    have d2 := N1.out.c2
    go_wp2_with fail
    refine HCC.out.mono ?_
    rintro e w2 ⟨rfl, hb2⟩
    have HB2 := Lib.hid (HB1.out.trans (hb2.mono HB1.out.size))
    clear hb2 d0 d1 d2 HCC
    go_wp2_with fail
    go_ret
    exact ⟨by rw [HB.out]; rfl, HB2.out⟩
  · have HB : Hid (lowB k l es = false) := by
      show _ = _
      rw [lowB, show (rE k l es == 0) = false by rw [beq_eq_false_iff_ne]; exact hr]; rfl
    have hb : (rE k l es == 0) = false := by rw [beq_eq_false_iff_ne]; exact hr
    obtain ⟨E, HE⟩ : ∃ E, Hid (rE k l es = E) := ⟨_, rfl⟩
    rw [HE.out] at hb HM
    rw [HB.out]
    clear h hW hin hN hr HB
    go_enter Try.func21, Try.ntmps21
    go_wp2_with fail
    rw [← HW.out]
    refine HM.out.mono ?_
    rintro e w1 ⟨rfl, hb1⟩
    have HB1 := Lib.hid (HWB.out.trans (hb1.mono HWB.out.size))
    clear hb1 d0 d1 d2
    go_wp2_with fail
    go_ret
    exact ⟨rfl, HB1.out⟩
end Go.Proofs.Ytgihcjmcefdkiaa
