/- Contracts: where a key would stand in a node, as the reference has it. -/
import Derived.Test.YtgihcjmcefdkiaaGrFind
set_option linter.unusedVariables false
set_option linter.unusedSimpArgs false
namespace Go.Proofs.Ytgihcjmcefdkiaa
open Go.RowKit

set_option maxRecDepth 100000 in
set_option maxHeartbeats 3200000 in
theorem reffind_any (k l : Nat) (A : Option Addr) (n c : Nat) (es : List Ent) (A' : Option Addr) (n' c' : Nat) (key : List UInt8) (w : World) (h : RdL w A n c es) (h' : Rd w A' n' c' key) :
    Calls Try.prog 23 #[NdV k l A n c, .slice A' n' c'] w fun e w' => e = .returned (.tuple #[.int .i64 (fndA es key : Int), .bool (fndB es key)]) ∧ Below w.heap.size w w' := by
  have hcap := h.cap
  have hmax := h.max
  unfold maxLen at hmax
  have HLn := Lib.hid h.len
  obtain ⟨W, hW⟩ : ∃ W, W = w.alloc (.cells #[.int .u8 (k : Int), .int .u8 (l : Int), .slice A n c] 24) := ⟨_, rfl⟩
  have HWB : Hid (Below w.heap.size w W) := by rw [hW]; exact below_new1 _ _
  have KN : Hid (Blk W w.heap.size 24 (ndA k l A n c)) := by rw [hW]; exact Blk.new _ _ _
  have HR := Lib.hid (h.below HWB.out)
  have HK := Lib.hid (h'.below HWB.out)
  have HW := Lib.hid hW
  clear h h' hW
  have hWs := KN.out.lt
  go_enter Try.func23, Try.ntmps23
  go_wp2_with fail
  rw [← HW.out]
  go_wp2_with fail
  go_loopw [6] (fun z wr => ∃ i : Nat, i ≤ n ∧ z = .int .i64 (i : Int) ∧ (∀ j, j < i → (!less (es.getD j ent0).key key) = false) ∧ Below W.heap.size W wr) (fun z _ => n - (intOf z).toNat)
  case atStart => exact ⟨0, Nat.zero_le _, rfl, fun j hj => absurd hj (by omega), Below.refl _ _⟩
  case round =>
    obtain ⟨i, hi, rfl, hto, hbel⟩ := hrel
    have HTO := Lib.hid hto
    have HBE := Lib.hid hbel
    have hbs := hbel.size
    have KNr := Lib.hid (KN.out.below hbel KN.out.lt)
    have HRr := Lib.hid (HR.out.below hbel)
    have HKr := Lib.hid (HK.out.below hbel)
    clear hto hbel
    by_cases hlt : i < n
    · obtain ⟨b, o, A1, n1, c1, A2, n2, c2, L, r, s, Ky, Va, rfl, hat, hrk, hrv, hent⟩ := HRr.out.pair i hlt
      have a0 := hat.c0
      have d2 : wr.cell? ⟨w.heap.size, 2, none⟩ = some (.slice (some ⟨b, o, none⟩) n c) := KNr.out.cell 2
      have i1 : (0 : Int) ≤ (i : Int) := by omega
      have i2 : (i : Int) < (n : Int) := by omega
      have HEN : Hid ((es.getD i ent0).key = Ky) := by show _ = _; rw [hent]
      have HRK := Lib.hid hrk
      have HAT := Lib.hid hat
      clear hat hrk hrv hent
      have HC := Lib.hid (refless_any A1 n1 c1 Ky A' n' c' key wr HRK.out HKr.out)
      obtain ⟨q, hq⟩ : ∃ q, less Ky key = q := ⟨_, rfl⟩
      rw [hq] at HC
      have HQ := Lib.hid hq
      clear hq
      go_wp2_with fail
      refine HC.out.mono ?_
      rintro e w3 ⟨rfl, hdr⟩
      have hb := hdr.below
      have HBV : Hid (Below W.heap.size W w3) := HBE.out.trans (hb.mono hbs)
      have KN3 := Lib.hid (KNr.out.below hb KNr.out.lt)
      have a3 := (HAT.out.below hb).c0
      have HS := Lib.hid (same_any A1 n1 c1 Ky A' n' c' key w3 (HRK.out.below hb) (HKr.out.below hb))
      clear hdr hb a0 d2 HC
      have d2 : w3.cell? ⟨w.heap.size, 2, none⟩ = some (.slice (some ⟨b, o, none⟩) n c) := KN3.out.cell 2
      cases q with
      | false =>
        have hA : fndA es key = i := firstAt_here HTO.out (by rw [← HLn.out]; exact hlt) (by rw [HEN.out, HQ.out]; rfl)
        have hB : fndB es key = (Ky == key) := by
          rw [fndB, hA, HEN.out, decide_eq_true (by rw [← HLn.out]; exact hlt), Bool.true_and]
        have HA := Lib.hid hA
        have HB := Lib.hid hB
        clear hA hB
        go_wp2_with fail
        refine HS.out.mono ?_
        rintro e w' ⟨rfl, rfl⟩
        go_wp2_with fail
        go_ret2
        exact ⟨by rw [HA.out, HB.out]; rfl, HWB.out.trans (HBV.out.mono (Nat.le_of_lt hWs))⟩
      | true =>
        have HN : Hid (∀ j, j < i + 1 → (!less (es.getD j ent0).key key) = false) := fun j hj => by
          by_cases e : j = i
          · rw [e, HEN.out, HQ.out]; rfl
          · exact HTO.out j (by omega)
        go_wp2_with fail
        go_roundw
        case rel => exact ⟨i + 1, by omega, by go_num, HN.out, HBV.out⟩
        case measure => first | (simp [intOf]; done) | (simp [intOf]; omega)
    · obtain rfl : i = n := by omega
      have d2 : wr.cell? ⟨w.heap.size, 2, none⟩ = some (.slice A i c) := KNr.out.cell 2
      have hA : fndA es key = i := by
        rw [fndA, ← HLn.out]; exact firstAt_none HTO.out
      have hB : fndB es key = false := by rw [fndB, hA, decide_eq_false (by rw [← HLn.out]; omega)]; rfl
      have HA := Lib.hid hA
      have HB := Lib.hid hB
      clear hA hB hi hlt
      go_wp2_with fail
      go_ret2
      exact ⟨by rw [HA.out, HB.out]; rfl, HWB.out.trans (HBE.out.mono (Nat.le_of_lt hWs))⟩
set_option maxRecDepth 100000 in
set_option maxHeartbeats 3200000 in
theorem refchild_any (k l : Nat) (A : Option Addr) (n c : Nat) (es : List Ent) (A' : Option Addr) (n' c' : Nat) (key : List UInt8) (w : World) (h : RdL w A n c es) (h' : Rd w A' n' c' key) :
    Calls Try.prog 25 #[NdV k l A n c, .slice A' n' c'] w fun e w' => e = .returned (.int .i64 (chdA es key)) ∧ Below w.heap.size w w' := by
  have hcap := h.cap
  have hmax := h.max
  unfold maxLen at hmax
  have HLn := Lib.hid h.len
  obtain ⟨W, hW⟩ : ∃ W, W = w.alloc (.cells #[.int .u8 (k : Int), .int .u8 (l : Int), .slice A n c] 24) := ⟨_, rfl⟩
  have HWB : Hid (Below w.heap.size w W) := by rw [hW]; exact below_new1 _ _
  have KN : Hid (Blk W w.heap.size 24 (ndA k l A n c)) := by rw [hW]; exact Blk.new _ _ _
  have HR := Lib.hid (h.below HWB.out)
  have HK := Lib.hid (h'.below HWB.out)
  have HW := Lib.hid hW
  clear h h' hW
  have hWs := KN.out.lt
  go_enter Try.func25, Try.ntmps25
  go_wp2_with fail
  rw [← HW.out]
  go_wp2_with fail
  go_loopw [5] (fun z wr => ∃ i : Nat, i ≤ n ∧ z = .int .i64 (i : Int) ∧ (∀ j, j < i → less key (es.getD j ent0).key = false) ∧ Below W.heap.size W wr) (fun z _ => n - (intOf z).toNat)
  case atStart => exact ⟨0, Nat.zero_le _, rfl, fun j hj => absurd hj (by omega), Below.refl _ _⟩
  case round =>
    obtain ⟨i, hi, rfl, hto, hbel⟩ := hrel
    have HTO := Lib.hid hto
    have HBE := Lib.hid hbel
    have hbs := hbel.size
    have KNr := Lib.hid (KN.out.below hbel KN.out.lt)
    have HRr := Lib.hid (HR.out.below hbel)
    have HKr := Lib.hid (HK.out.below hbel)
    clear hto hbel
    by_cases hlt : i < n
    · obtain ⟨b, o, A1, n1, c1, A2, n2, c2, L, r, s, Ky, Va, rfl, hat, hrk, hrv, hent⟩ := HRr.out.pair i hlt
      have a0 := hat.c0
      have d2 : wr.cell? ⟨w.heap.size, 2, none⟩ = some (.slice (some ⟨b, o, none⟩) n c) := KNr.out.cell 2
      have i1 : (0 : Int) ≤ (i : Int) := by omega
      have i2 : (i : Int) < (n : Int) := by omega
      have HEN : Hid ((es.getD i ent0).key = Ky) := by show _ = _; rw [hent]
      have HRK := Lib.hid hrk
      have HAT := Lib.hid hat
      clear hat hrk hrv hent
      have HC := Lib.hid (refless_any A' n' c' key A1 n1 c1 Ky wr HKr.out HRK.out)
      obtain ⟨q, hq⟩ : ∃ q, less key Ky = q := ⟨_, rfl⟩
      rw [hq] at HC
      have HQ := Lib.hid hq
      clear hq
      go_wp2_with fail
      refine HC.out.mono ?_
      rintro e w3 ⟨rfl, hdr⟩
      have hb := hdr.below
      have HBV : Hid (Below W.heap.size W w3) := HBE.out.trans (hb.mono hbs)
      clear hdr hb a0 d2 HC
      cases q with
      | true =>
        have HA : Hid (chdA es key = (i : Int) - 1) := by show _ = _; rw [chdA, firstAt_here HTO.out (by rw [← HLn.out]; exact hlt) (by rw [HEN.out]; exact HQ.out)]
        have hw1 : IntKind.i64.wrap ((i : Int) - 1) = (i : Int) - 1 := IntWalk.i64_in _ (by omega)
        go_wp2_with fail
        go_ret
        exact ⟨by rw [HA.out]; rfl, HWB.out.trans (HBV.out.mono (Nat.le_of_lt hWs))⟩
      | false =>
        have HN : Hid (∀ j, j < i + 1 → less key (es.getD j ent0).key = false) := fun j hj => by
          by_cases e : j = i
          · rw [e, HEN.out]; exact HQ.out
          · exact HTO.out j (by omega)
        go_wp2_with fail
        go_roundw
        case rel => exact ⟨i + 1, by omega, by go_num, HN.out, HBV.out⟩
        case measure => first | (simp [intOf]; done) | (simp [intOf]; omega)
    · obtain rfl : i = n := by omega
      have d2 : wr.cell? ⟨w.heap.size, 2, none⟩ = some (.slice A i c) := KNr.out.cell 2
      have HA : Hid (chdA es key = (i : Int) - 1) := by show _ = _; rw [chdA, ← HLn.out, firstAt_none HTO.out]
      have hw1 : IntKind.i64.wrap ((i : Int) - 1) = (i : Int) - 1 := IntWalk.i64_in _ (by omega)
      clear hi hlt
      go_wp2_with fail
      go_ret
      exact ⟨by rw [HA.out]; rfl, HWB.out.trans (HBE.out.mono (Nat.le_of_lt hWs))⟩
end Go.Proofs.Ytgihcjmcefdkiaa
