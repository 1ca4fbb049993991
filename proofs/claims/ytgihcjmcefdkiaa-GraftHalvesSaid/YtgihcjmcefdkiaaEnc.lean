/- Contracts: a node's size and its bytes, as slot tells them and as the reference does. -/
import Derived.Test.YtgihcjmcefdkiaaCopyN
import Derived.Test.YtgihcjmcefdkiaaApp0
set_option linter.unusedVariables false
set_option linter.unusedSimpArgs false
namespace Go.Proofs.Ytgihcjmcefdkiaa
open Go.RowKit

/-- The size of a right node; 0 of another one. -/
def sizeV (k l : Nat) (es : List Ent) : Nat := if rE k l es = 0 then 3 + (entsB k es).length else 0
/-- What a node is encoded to. -/
def encE (k l : Nat) (es : List Ent) : Int := if rE k l es = 0 then (if 3 + (entsB k es).length ≤ 224 then 0 else 3) else rE k l es
def encV (k l : Nat) (es : List Ent) : List UInt8 := if rE k l es = 0 ∧ 3 + (entsB k es).length ≤ 224 then nodeB k l es ++ List.replicate (224 - (3 + (entsB k es).length)) 0 else []
theorem right_all {k l : Nat} {es : List Ent} (h : rE k l es = 0) : ∀ j, j < es.length → emay k j (es.getD j ent0) = true := fun j hj => ((right_may h).2.2.2 j hj).1
/-- What a node must be for its bytes to be written: its numbers in range, and not too many bytes. -/
def NdOk (k : Nat) (es : List Ent) : Prop := esIn es ∧ 3 + (entsB k es).length ≤ 140737488355328

set_option maxHeartbeats 1600000 in
theorem size_any (k l : Nat) (A : Option Addr) (n c : Nat) (es : List Ent) (w : World) (h : RdL w A n c es) (hk : k < 256) (hl : l < 256) (hin : esIn es) (hN : rE k l es = 0 → 3 + (entsB k es).length ≤ 140737488355328) :
    Calls Try.prog 36 #[NdV k l A n c] w fun e w' => e = .returned (.tuple #[.int .i64 (sizeV k l es : Int), .int .i64 (rE k l es)]) ∧ Below w.heap.size w w' := by
  obtain ⟨W, hW⟩ : ∃ W, W = w.alloc (.cells #[.int .u8 (k : Int), .int .u8 (l : Int), .slice A n c] 24) := ⟨_, rfl⟩
  have HWB : Hid (Below w.heap.size w W) := by rw [hW]; exact below_new1 _ _
  have KN : Hid (Blk W w.heap.size 24 (ndA k l A n c)) := by rw [hW]; exact Blk.new _ _ _
  have HR := Lib.hid (h.below HWB.out)
  have HM := Lib.hid (right_any k l A n c es W HR.out hk hl)
  have HW := Lib.hid hW
  have HIN := Lib.hid hin
  clear h hW hin
  have d0 : W.cell? ⟨w.heap.size, 0, none⟩ = some (.int .u8 (k : Int)) := KN.out.cell 0
  have d1 : W.cell? ⟨w.heap.size, 1, none⟩ = some (.int .u8 (l : Int)) := KN.out.cell 1
  have d2 : W.cell? ⟨w.heap.size, 2, none⟩ = some (.slice A n c) := KN.out.cell 2
  by_cases hr : rE k l es = 0
  · have hsz : sizeV k l es = 3 + (entsB k es).length := by rw [sizeV, if_pos hr]
    have HALL := Lib.hid (right_all hr)
    have HNN := Lib.hid (hN hr)
    rw [hr] at HM
    rw [hr, hsz]
    clear hN hr hsz
    go_enter Try.func36, Try.ntmps36
    go_wp2_with fail
    rw [← HW.out]
    refine HM.out.mono ?_
    rintro e w1 ⟨rfl, hb1⟩
    have KN1 := Lib.hid (KN.out.below hb1 KN.out.lt)
    have HB1 := Lib.hid (HWB.out.trans (hb1.mono HWB.out.size))
    have HR1 := Lib.hid (HR.out.below hb1)
    clear hb1 d0 d1 d2
    have d0 : w1.cell? ⟨w.heap.size, 0, none⟩ = some (.int .u8 (k : Int)) := KN1.out.cell 0
    have d1 : w1.cell? ⟨w.heap.size, 1, none⟩ = some (.int .u8 (l : Int)) := KN1.out.cell 1
    have d2 : w1.cell? ⟨w.heap.size, 2, none⟩ = some (.slice A n c) := KN1.out.cell 2
    go_wp2_with fail
    refine (write_any k l A n c es w1 HR1.out hk hl HIN.out HALL.out HNN.out).mono ?_
    rintro e w2 ⟨A2, c2, rfl, hown2, hb2⟩
    have HB2 := Lib.hid (HB1.out.trans (hb2.mono HB1.out.size))
    clear hown2 hb2 d0 d1 d2
    go_wp2_with fail
    go_ret2
    exact ⟨rfl, HB2.out⟩
  · have hsz : sizeV k l es = 0 := by rw [sizeV, if_neg hr]
    have hb : (rE k l es != 0) = true := by rw [bne_iff_ne]; exact hr
    obtain ⟨E, HE⟩ : ∃ E, Hid (rE k l es = E) := ⟨_, rfl⟩
    rw [hsz, HE.out]
    rw [HE.out] at hb HM
    clear hN hr hsz
    go_enter Try.func36, Try.ntmps36
    go_wp2_with fail
    rw [← HW.out]
    refine HM.out.mono ?_
    rintro e w1 ⟨rfl, hb1⟩
    have HB1 := Lib.hid (HWB.out.trans (hb1.mono HWB.out.size))
    clear hb1 d0 d1 d2
    go_wp2_with fail
    go_ret2
    exact ⟨rfl, HB1.out⟩
set_option maxHeartbeats 1600000 in
theorem refsize_any (k l : Nat) (A : Option Addr) (n c : Nat) (es : List Ent) (w : World) (h : RdL w A n c es) (hk : k < 256) (hl : l < 256) (hin : esIn es) (hr : rE k l es = 0) (hN : 3 + (entsB k es).length ≤ 140737488355328) :
    Calls Try.prog 45 #[NdV k l A n c] w fun e w' => e = .returned (.int .i64 (sizeV k l es : Int)) ∧ Below w.heap.size w w' := by
  obtain ⟨W, hW⟩ : ∃ W, W = w.alloc (.cells #[.int .u8 (k : Int), .int .u8 (l : Int), .slice A n c] 24) := ⟨_, rfl⟩
  have HWB : Hid (Below w.heap.size w W) := by rw [hW]; exact below_new1 _ _
  have KN : Hid (Blk W w.heap.size 24 (ndA k l A n c)) := by rw [hW]; exact Blk.new _ _ _
  have HM := Lib.hid (bytes_any k l A n c es W (h.below HWB.out) hk hl hin (right_all hr) hN)
  have hsz : sizeV k l es = 3 + (entsB k es).length := by rw [sizeV, if_pos hr]
  have HW := Lib.hid hW
  rw [hsz]
  clear h hW hin hr hN hsz
  have d0 : W.cell? ⟨w.heap.size, 0, none⟩ = some (.int .u8 (k : Int)) := KN.out.cell 0
  have d1 : W.cell? ⟨w.heap.size, 1, none⟩ = some (.int .u8 (l : Int)) := KN.out.cell 1
  have d2 : W.cell? ⟨w.heap.size, 2, none⟩ = some (.slice A n c) := KN.out.cell 2
  go_enter Try.func45, Try.ntmps45
  go_wp2_with fail
  rw [← HW.out]
  refine HM.out.mono ?_
  rintro e w2 ⟨A2, c2, rfl, hown2, hb2⟩
  have HB2 := Lib.hid (HWB.out.trans (hb2.mono HWB.out.size))
  clear hown2 hb2 d0 d1 d2
  go_wp2_with fail
  go_ret
  exact ⟨rfl, HB2.out⟩
end Go.Proofs.Ytgihcjmcefdkiaa
