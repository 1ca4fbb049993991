/- Contracts: a node's size and its bytes, as slot tells them and as the reference does. -/
import Derived.Test.YtihbpmceggghgaaCopyN
import Derived.Test.YtihbpmceggghgaaApp0
set_option linter.unusedVariables false
set_option linter.unusedSimpArgs false
namespace Go.Proofs.Ytihbpmceggghgaa
open Go.RowKit

/-- The size of a right node; 0 of another one. -/
def sizeV (k l : Nat) (es : List Ent) : Nat := if rE k l es = 0 then 3 + (entsB k es).length else 0
/-- What a node is encoded to. -/
def encE (k l : Nat) (es : List Ent) : Int := if rE k l es = 0 then (if 3 + (entsB k es).length ≤ 224 then 0 else 3) else rE k l es
def encV (k l : Nat) (es : List Ent) : List UInt8 := if rE k l es = 0 ∧ 3 + (entsB k es).length ≤ 224 then nodeB k l es ++ List.replicate (224 - (3 + (entsB k es).length)) 0 else []
theorem right_all {k l : Nat} {es : List Ent} (h : rE k l es = 0) : ∀ j, j < es.length → emay k j (es.getD j ent0) = true := fun j hj => ((right_may h).2.2.2 j hj).1
/-- What a node must be for its bytes to be written: its numbers in range, and not too many bytes. -/
def NdOk (k : Nat) (es : List Ent) : Prop := esIn es ∧ 3 + (entsB k es).length ≤ 140737488355328

set_option maxHeartbeats 1600000 in
theorem size_any (k l : Nat) (A : Option Addr) (n c : Nat) (es : List Ent) (w : World) (h : RdL w A n c es) (hk : k < 256) (hl : l < 256) (hin : esIn es) (hN : rE k l es = 0 → 3 + (entsB k es).length ≤ 140737488355328) :
    Calls Try.prog 13 #[NdV k l A n c] w fun e w' => e = .returned (.tuple #[.int .i64 (sizeV k l es : Int), .int .i64 (rE k l es)]) ∧ Below w.heap.size w w' := by
  obtain ⟨W, hW⟩ : ∃ W, W = w.alloc (.cells #[.int .u8 (k : Int), .int .u8 (l : Int), .slice A n c] 24) := ⟨_, rfl⟩
  have HWB : Hid (Below w.heap.size w W) := by rw [hW]; exact below_new1 _ _
  have KN : Hid (Blk W w.heap.size 24 (ndA k l A n c)) := by rw [hW]; exact Blk.new _ _ _
  have HR := Lib.hid (h.below HWB.out)
  have HM := Lib.hid (right_any k l A n c es W HR.out hk hl)
  have HW := Lib.hid hW
  have HIN := Lib.hid hin
  clear h hW hin
  have d0 : W.cell? ⟨w.heap.size, 0, none⟩ = some (.int .u8 (k : Int)) := KN.out.cell 0
  have d1 : W.cell? ⟨w.heap.size, 1, none⟩ = some (.int .u8 (l : Int)) := KN.out.cell 1
  have d2 : W.cell? ⟨w.heap.size, 2, none⟩ = some (.slice A n c) := KN.out.cell 2
  by_cases hr : rE k l es = 0
  · have hsz : sizeV k l es = 3 + (entsB k es).length := by rw [sizeV, if_pos hr]
    have HALL := Lib.hid (right_all hr)
    have HNN := Lib.hid (hN hr)
    rw [hr] at HM
    rw [hr, hsz]
    clear hN hr hsz
    go_enter Try.func13, Try.ntmps13
    go_wp2_with fail
    rw [← HW.out]
    refine HM.out.mono ?_
    rintro e w1 ⟨rfl, hb1⟩
    have KN1 := Lib.hid (KN.out.below hb1 KN.out.lt)
    have HB1 := Lib.hid (HWB.out.trans (hb1.mono HWB.out.size))
    have HR1 := Lib.hid (HR.out.below hb1)
    clear hb1 d0 d1 d2
    have d0 : w1.cell? ⟨w.heap.size, 0, none⟩ = some (.int .u8 (k : Int)) := KN1.out.cell 0
    have d1 : w1.cell? ⟨w.heap.size, 1, none⟩ = some (.int .u8 (l : Int)) := KN1.out.cell 1
    have d2 : w1.cell? ⟨w.heap.size, 2, none⟩ = some (.slice A n c) := KN1.out.cell 2
    go_wp2_with fail
    refine (write_any k l A n c es w1 HR1.out hk hl HIN.out HALL.out HNN.out).mono ?_
    rintro e w2 ⟨A2, c2, rfl, hown2, hb2⟩
    have HB2 := Lib.hid (HB1.out.trans (hb2.mono HB1.out.size))
    clear hown2 hb2 d0 d1 d2
    go_wp2_with fail
    go_ret2
    exact ⟨rfl, HB2.out⟩
  · have hsz : sizeV k l es = 0 := by rw [sizeV, if_neg hr]
    have hb : (rE k l es != 0) = true := by rw [bne_iff_ne]; exact hr
    obtain ⟨E, HE⟩ : ∃ E, Hid (rE k l es = E) := ⟨_, rfl⟩
    rw [hsz, HE.out]
    rw [HE.out] at hb HM
    clear hN hr hsz
    go_enter Try.func13, Try.ntmps13
    go_wp2_with fail
    rw [← HW.out]
    refine HM.out.mono ?_
    rintro e w1 ⟨rfl, hb1⟩
    have HB1 := Lib.hid (HWB.out.trans (hb1.mono HWB.out.size))
    clear hb1 d0 d1 d2
    go_wp2_with fail
    go_ret2
    exact ⟨rfl, HB1.out⟩
set_option maxHeartbeats 1600000 in
theorem refsize_any (k l : Nat) (A : Option Addr) (n c : Nat) (es : List Ent) (w : World) (h : RdL w A n c es) (hk : k < 256) (hl : l < 256) (hin : esIn es) (hr : rE k l es = 0) (hN : 3 + (entsB k es).length ≤ 140737488355328) :
    Calls Try.prog 16 #[NdV k l A n c] w fun e w' => e = .returned (.int .i64 (sizeV k l es : Int)) ∧ Below w.heap.size w w' := by
  obtain ⟨W, hW⟩ : ∃ W, W = w.alloc (.cells #[.int .u8 (k : Int), .int .u8 (l : Int), .slice A n c] 24) := ⟨_, rfl⟩
  have HWB : Hid (Below w.heap.size w W) := by rw [hW]; exact below_new1 _ _
  have KN : Hid (Blk W w.heap.size 24 (ndA k l A n c)) := by rw [hW]; exact Blk.new _ _ _
  have HM := Lib.hid (bytes_any k l A n c es W (h.below HWB.out) hk hl hin (right_all hr) hN)
  have hsz : sizeV k l es = 3 + (entsB k es).length := by rw [sizeV, if_pos hr]
  have HW := Lib.hid hW
  rw [hsz]
  clear h hW hin hr hN hsz
  have d0 : W.cell? ⟨w.heap.size, 0, none⟩ = some (.int .u8 (k : Int)) := KN.out.cell 0
  have d1 : W.cell? ⟨w.heap.size, 1, none⟩ = some (.int .u8 (l : Int)) := KN.out.cell 1
  have d2 : W.cell? ⟨w.heap.size, 2, none⟩ = some (.slice A n c) := KN.out.cell 2
  go_enter Try.func16, Try.ntmps16
  go_wp2_with fail
  rw [← HW.out]
  refine HM.out.mono ?_
  rintro e w2 ⟨A2, c2, rfl, hown2, hb2⟩
  have HB2 := Lib.hid (HWB.out.trans (hb2.mono HWB.out.size))
  clear hown2 hb2 d0 d1 d2
  go_wp2_with fail
  go_ret
  exact ⟨rfl, HB2.out⟩
set_option maxHeartbeats 1600000 in
theorem encode_any (k l : Nat) (A : Option Addr) (n c : Nat) (es : List Ent) (w : World) (h : RdL w A n c es) (hk : k < 256) (hl : l < 256) (hin : esIn es) (hN : rE k l es = 0 → 3 + (entsB k es).length ≤ 140737488355328) :
    Calls Try.prog 17 #[NdV k l A n c] w fun e w' => ∃ A' n' c', e = .returned (.tuple #[.slice A' n' c', .int .i64 (encE k l es)]) ∧ Own w' w.heap.size A' n' c' (encV k l es) ∧ Below w.heap.size w w' := by
  obtain ⟨W, hW⟩ : ∃ W, W = w.alloc (.cells #[.int .u8 (k : Int), .int .u8 (l : Int), .slice A n c] 24) := ⟨_, rfl⟩
  have HWB : Hid (Below w.heap.size w W) := by rw [hW]; exact below_new1 _ _
  have KN : Hid (Blk W w.heap.size 24 (ndA k l A n c)) := by rw [hW]; exact Blk.new _ _ _
  have HR := Lib.hid (h.below HWB.out)
  have HM := Lib.hid (right_any k l A n c es W HR.out hk hl)
  have HW := Lib.hid hW
  have HIN := Lib.hid hin
  clear h hW hin
  have d0 : W.cell? ⟨w.heap.size, 0, none⟩ = some (.int .u8 (k : Int)) := KN.out.cell 0
  have d1 : W.cell? ⟨w.heap.size, 1, none⟩ = some (.int .u8 (l : Int)) := KN.out.cell 1
  have d2 : W.cell? ⟨w.heap.size, 2, none⟩ = some (.slice A n c) := KN.out.cell 2
  by_cases hr : rE k l es = 0
  · have HALL := Lib.hid (right_all hr)
    have HNN := Lib.hid (hN hr)
    rw [hr] at HM
    obtain ⟨t, ht⟩ : ∃ t, 3 + (entsB k es).length = t := ⟨_, rfl⟩
    have HT := Lib.hid ht
    have HENC : Hid (encE k l es = (if t ≤ 224 then 0 else 3) ∧ encV k l es = if t ≤ 224 then nodeB k l es ++ List.replicate (224 - t) 0 else []) := by
      refine ⟨by rw [encE, if_pos hr, ht], ?_⟩
      rw [encV, ht]
      by_cases h2 : t ≤ 224
      · rw [if_pos ⟨hr, h2⟩, if_pos h2]
      · rw [if_neg (fun e => h2 e.2), if_neg h2]
    have htm : t ≤ 140737488355328 := by rw [← ht]; exact HNN.out
    clear hN hr ht
    go_enter Try.func17, Try.ntmps17
    go_wp2_with fail
    rw [← HW.out]
    refine HM.out.mono ?_
    rintro e w1 ⟨rfl, hb1⟩
    have KN1 := Lib.hid (KN.out.below hb1 KN.out.lt)
    have HB1 := Lib.hid (HWB.out.trans (hb1.mono HWB.out.size))
    have HR1 := Lib.hid (HR.out.below hb1)
    clear hb1 d0 d1 d2
    have d0 : w1.cell? ⟨w.heap.size, 0, none⟩ = some (.int .u8 (k : Int)) := KN1.out.cell 0
    have d1 : w1.cell? ⟨w.heap.size, 1, none⟩ = some (.int .u8 (l : Int)) := KN1.out.cell 1
    have d2 : w1.cell? ⟨w.heap.size, 2, none⟩ = some (.slice A n c) := KN1.out.cell 2
    go_wp2_with fail
    refine (write_any k l A n c es w1 HR1.out hk hl HIN.out HALL.out HNN.out).mono ?_
    rw [HT.out]
    rintro e w2 ⟨A2, c2, rfl, hown2, hb2⟩
    have HB2 := Lib.hid (HB1.out.trans (hb2.mono HB1.out.size))
    have HO2 : Hid (Own w2 w.heap.size A2 t c2 (nodeB k l es)) := Own.mono hown2 HB1.out.size
    clear hown2 hb2 d0 d1 d2
    by_cases h2 : t ≤ 224
    · have hdd : decide ((t : Int) > 224) = false := decide_eq_false (by omega)
      obtain ⟨m, hm⟩ : ∃ m, m = 224 - t := ⟨_, rfl⟩
      have hw : (224 : Int) - (t : Int) = (m : Int) := by omega
      have he := HENC.out
      rw [if_pos h2, if_pos h2, ← hm] at he
      have HENC2 := Lib.hid he
      have h224 : t + m = 224 := by omega
      have H224 := Lib.hid h224
      clear he hm h224
      go_wp2_with (at_builtin; refine wpList_app0 34 3 Try.underlying34 Try.underlying3 rfl (.tmp 16) (.tmp 19) rfl m rfl (by first | rfl | (congr 1; omega)) HO2.out HB2.out.size (by have := H224.out; omega) ?_; intro A3 c3 w3 hown3 hg3 hb3)
      go_ret2
      refine ⟨A3, t + m, c3, by rw [HENC2.out.1]; rfl, ?_, HB2.out.trans hb3⟩
      rw [HENC2.out.2]
      exact hown3
    · have hdd : decide ((t : Int) > 224) = true := decide_eq_true (by omega)
      have he := HENC.out
      rw [if_neg h2, if_neg h2] at he
      have HENC2 := Lib.hid he
      clear he
      go_wp2_with fail
      go_ret2
      exact ⟨none, 0, 0, by rw [HENC2.out.1]; rfl, by rw [HENC2.out.2]; exact Own.nil _ _, HB2.out⟩
  · have HENC : Hid (encE k l es = rE k l es ∧ encV k l es = []) := ⟨by rw [encE, if_neg hr], by rw [encV, if_neg (fun e => hr e.1)]⟩
    have hb : (rE k l es != 0) = true := by rw [bne_iff_ne]; exact hr
    obtain ⟨E, HE⟩ : ∃ E, Hid (rE k l es = E) := ⟨_, rfl⟩
    rw [HE.out] at hb HM HENC
    clear hN hr
    go_enter Try.func17, Try.ntmps17
    go_wp2_with fail
    rw [← HW.out]
    refine HM.out.mono ?_
    rintro e w1 ⟨rfl, hb1⟩
    have HB1 := Lib.hid (HWB.out.trans (hb1.mono HWB.out.size))
    clear hb1 d0 d1 d2
    go_wp2_with fail
    go_ret2
    exact ⟨none, 0, 0, by rw [HENC.out.1]; rfl, by rw [HENC.out.2]; exact Own.nil _ _, HB1.out⟩
end Go.Proofs.Ytihbpmceggghgaa
