/- The walk of GraftLow. -/
import Derived.Test.YtgihcjmcefdkiaaGrLow
set_option linter.unusedVariables false
set_option linter.unusedSimpArgs false
namespace Go.Proofs.Ytgihcjmcefdkiaa
open Go.RowKit

set_option maxRecDepth 100000 in
set_option maxHeartbeats 3200000 in
theorem graftLow_walk (k l : Nat) (A : Option Addr) (n c : Nat) (es : List Ent) (w : World) (hk : k < 256) (hl : l < 256) (h : RdL w A n c es) (hin : esIn es) :
    Calls Try.prog 4 #[NdV k l A n c] w fun e w' => e = .returned (.bool true) ∧ Below w.heap.size w w' := by
  obtain ⟨W, hW⟩ : ∃ W, W = w.alloc (.cells #[.int .u8 (k : Int), .int .u8 (l : Int), .slice A n c] 24) := ⟨_, rfl⟩
  have HB0 : Hid (Below w.heap.size w W) := by rw [hW]; exact below_new1 _ _
  have N0 : Hid (Nin W w.heap.size k l A n c es) := by rw [hW]; exact Nin.new h k l
  have HWs : Hid (W.heap.size = w.heap.size + 1) := by rw [hW]; exact size_new _ _
  have HW := Lib.hid hW
  have HIN := Lib.hid hin
  clear h hW hin
  have d0 := N0.out.c0
  have d1 := N0.out.c1
  have d2 := N0.out.c2
  go_enter Try.func4, Try.ntmps4
  go_wp2_with fail
  rw [← HW.out]
  obtain ⟨W1, hW1⟩ : ∃ W1, W1 = W.alloc (.cells #[.int .u8 (k : Int), .int .u8 (l : Int), .slice A n c] 24) := ⟨_, rfl⟩
  have hb0 : Below W.heap.size W W1 := by rw [hW1]; exact below_new1 _ _
  have HM := Lib.hid (lheavy_any (some ⟨w.heap.size + 1, 0, none⟩) 1 1 [es] W1 (RdNs.one (by rw [hW1]; exact Blk.new' _ _ _ _ HWs.out) hk hl (N0.out.below hb0).rd))
  rw [← hW1]
  have HBa := Lib.hid hb0
  have sa := hb0.size
  clear hW1 hb0
  refine HM.out.mono ?_
  rintro e w1 ⟨b, rfl, hbb, hb⟩
  have HB1 : Hid (Below W.heap.size W w1) := HBa.out.trans (hb.mono sa)
  have N1 := Lib.hid (N0.out.below HB1.out)
  have HBB := Lib.hid hbb
  have s0 := HB0.out.size
  have s1 := HB1.out.size
  have HX1 : Hid (Below w.heap.size w w1) := HB0.out.trans (HB1.out.mono s0)
  have sx := HX1.out.size
  clear hb hbb d0 d1 d2 HM
  cases b with
  | true =>
    go_wp2_with (go_at_call 13; refine (known_any _).mono ?_; rintro e w3 ⟨rfl, hb3⟩)
    go_ret
    exact ⟨rfl, HX1.out.trans (hb3.mono sx)⟩
  | false =>
    have HO := Lib.hid (HBB.out rfl 0 (by simp))
    clear HBB
    have HR : Hid (rE k l es = 0 → 3 + (entsB k es).length ≤ 140737488355328) := HO.out.1.reach
    have TR : Hid (∀ V, Below W.heap.size W V → (fun V : World => V.cell? ⟨w.heap.size, 0, none⟩ = some (.int .u8 (k : Int)) ∧ V.cell? ⟨w.heap.size, 1, none⟩ = some (.int .u8 (l : Int)) ∧ V.cell? ⟨w.heap.size, 2, none⟩ = some (.slice A n c) ∧ Below W.heap.size W V) V) := fun V hb => by
      have n1 := N0.out.below hb
      exact ⟨n1.c0, n1.c1, n1.c2, hb⟩
    go_wp2_with fail
    refine region_gate 9 (fun V => V.cell? ⟨w.heap.size, 0, none⟩ = some (.int .u8 (k : Int)) ∧ V.cell? ⟨w.heap.size, 1, none⟩ = some (.int .u8 (l : Int)) ∧ V.cell? ⟨w.heap.size, 2, none⟩ = some (.slice A n c) ∧ Below W.heap.size W V) (by kernel_rfl) ?th1 (fun hHeld => ?tk1)
    case th1 => ((try dsimp only); exact TR.out _ HB1.out.drew)
    refine' takeV 0 (oi := _) (d := _) (v := _) ?ti2 ?td2 (by kernel_rfl) (by kernel_rfl) (by kernel_rfl) (by kernel_rfl) (by decide) (fun _ _ _ _ _ h => h) ?tg2 ?ty2 (by assumption) ?tr2
    case ti2 => (simp only [List.getElem?_toArray, List.getElem?_cons_succ, List.getElem?_cons_zero]; rfl)
    case td2 => exact rfl
    case tg2 => exact rfl
    case ty2 => (intro w hSw; (try dsimp only at hSw); go_split_ands; go_simp; try with_reducible rfl)
    simp only [List.setIfInBounds_toArray, List.set_cons_zero, List.set_cons_succ]
    refine' takeV 2 (oi := _) (d := _) (v := _) ?ti3 ?td3 (by kernel_rfl) (by kernel_rfl) (by kernel_rfl) (by kernel_rfl) (by decide) (fun _ _ _ _ _ h => h) ?tg3 ?ty3 (by assumption) ?tr3
    case ti3 => (simp only [List.getElem?_toArray, List.getElem?_cons_succ, List.getElem?_cons_zero]; rfl)
    case td3 => exact rfl
    case tg3 => exact rfl
    case ty3 => (intro w hSw; (try dsimp only at hSw); go_split_ands; go_simp; try with_reducible rfl)
    simp only [List.setIfInBounds_toArray, List.set_cons_zero, List.set_cons_succ]
    clear hHeld
    obtain ⟨V0, hV0⟩ : ∃ V0, V0 = w1.drew := ⟨_, rfl⟩
    have B0 : Hid (Below W.heap.size W V0) := by rw [hV0]; exact HB1.out.drew
    rw [← hV0]
    have HC1 := Lib.hid (low_any k l A n c es V0 (N0.out.below B0.out).rd hk hl HIN.out HR.out)
    clear hV0 HB1 N1
    have z0 := B0.out.size
    refine stepG 1 (by kernel_rfl) (by simp only [List.getElem?_toArray, List.getElem?_cons_succ, List.getElem?_cons_zero]; rfl) (fun K hK => ?_)
    go_simp
    refine (HC1.out).mono ?_
    rintro e v1 ⟨rfl, hb1⟩
    refine hK.out _ _ ?ts4 (fun hHeld => ?_)
    case ts4 => ((try dsimp only); exact TR.out _ (B0.out.trans (hb1.mono z0)))
    clear hK K
    have B1 : Hid (Below W.heap.size W v1) := B0.out.trans (hb1.mono z0)
    have HC2 := Lib.hid (reflow_any k l A n c es v1 (N0.out.below B1.out).rd hk hl HIN.out HR.out)
    have z1 := B1.out.size
    clear hHeld HC1 hb1
    refine stepG 3 (by kernel_rfl) (by simp only [List.getElem?_toArray, List.getElem?_cons_succ, List.getElem?_cons_zero]; rfl) (fun K hK => ?_)
    go_simp
    refine (HC2.out).mono ?_
    rintro e v2 ⟨rfl, hb1⟩
    refine hK.out _ _ ?ts5 (fun hHeld => ?_)
    case ts5 => ((try dsimp only); exact TR.out _ (B1.out.trans (hb1.mono z1)))
    clear hK K
    have B2 : Hid (Below W.heap.size W v2) := B1.out.trans (hb1.mono z1)
    have z2 := B2.out.size
    have HC3 := Lib.hid (known_any v2)
    have tok : (lowB k l es == lowB k l es) = true := beq_self_eq_true _
    clear hb1 HC2
    refine' takeV 4 (oi := _) (d := _) (v := _) ?ti6 ?td6 (by kernel_rfl) (by kernel_rfl) (by kernel_rfl) (by kernel_rfl) (by decide) (fun _ _ _ _ _ h => h) ?tg6 ?ty6 (by assumption) ?tr6
    case ti6 => (simp only [List.getElem?_toArray, List.getElem?_cons_succ, List.getElem?_cons_zero]; rfl)
    case td6 => exact rfl
    case tg6 => exact rfl
    case ty6 => (intro w hSw; (try dsimp only at hSw); go_split_ands; go_simp; try with_reducible rfl)
    simp only [List.setIfInBounds_toArray, List.set_cons_zero, List.set_cons_succ]
    refine' takeV 5 (oi := _) (d := _) (v := _) ?ti7 ?td7 (by kernel_rfl) (by kernel_rfl) (by kernel_rfl) (by kernel_rfl) (by decide) (fun _ _ _ _ _ h => h) ?tg7 ?ty7 (by assumption) ?tr7
    case ti7 => (simp only [List.getElem?_toArray, List.getElem?_cons_succ, List.getElem?_cons_zero]; rfl)
    case td7 => exact rfl
    case tg7 => exact rfl
    case ty7 => (intro w hSw; (try dsimp only at hSw); go_split_ands; go_simp; try with_reducible rfl)
    simp only [List.setIfInBounds_toArray, List.set_cons_zero, List.set_cons_succ]
    clear hHeld
    refine stepG 6 (by kernel_rfl) (by simp only [List.getElem?_toArray, List.getElem?_cons_succ, List.getElem?_cons_zero]; rfl) (fun K hK => ?_)
    go_simp
    refine (HC3.out).mono ?_
    rintro e v3 ⟨rfl, hb1⟩
    refine hK.out _ _ ?ts8 (fun hHeld => ?_)
    case ts8 => ((try dsimp only); exact TR.out _ (B2.out.trans (hb1.mono z2)))
    clear hK K
    have B3 : Hid (Below W.heap.size W v3) := B2.out.trans (hb1.mono z2)
    clear hb1 HC3
    refine' takeV 7 (oi := _) (d := _) (v := _) ?ti9 ?td9 (by kernel_rfl) (by kernel_rfl) (by kernel_rfl) (by kernel_rfl) (by decide) (fun _ _ _ _ _ h => h) ?tg9 ?ty9 (by assumption) ?tr9
    case ti9 => (simp only [List.getElem?_toArray, List.getElem?_cons_succ, List.getElem?_cons_zero]; rfl)
    case td9 => exact rfl
    case tg9 => exact rfl
    case ty9 => (intro w hSw; (try dsimp only at hSw); go_split_ands; go_simp; try with_reducible rfl)
    simp only [List.setIfInBounds_toArray, List.set_cons_zero, List.set_cons_succ]
    refine stepG 8 (by kernel_rfl) (by simp only [List.getElem?_toArray, List.getElem?_cons_succ, List.getElem?_cons_zero]; rfl) (fun K hK => ?_)
    go_simp
    refine hK.out _ _ ?ts10 (fun hHeld => ?_)
    case ts10 => ((try dsimp only); exact hHeld)
    clear hK K
    refine doneG (by kernel_rfl) ?_ _
    clear hHeld
    go_wp2_with fail
    go_ret
    exact ⟨rfl, HB0.out.trans (B3.out.mono s0)⟩
end Go.Proofs.Ytgihcjmcefdkiaa
