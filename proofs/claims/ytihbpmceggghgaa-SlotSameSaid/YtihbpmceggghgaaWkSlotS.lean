/- The walk of SlotSame. -/
import Derived.Test.YtihbpmceggghgaaWkSlotR
import Derived.Test.YtihbpmceggghgaaSame12
set_option linter.unusedVariables false
set_option linter.unusedSimpArgs false
namespace Go.Proofs.Ytihbpmceggghgaa
open Go.RowKit

set_option maxHeartbeats 3200000 in
theorem slotSame_walk (k l : Nat) (A : Option Addr) (n c : Nat) (es : List Ent) (k' l' : Nat) (A' : Option Addr) (n' c' : Nat) (es' : List Ent) (w : World) (hk : k < 256) (hl : l < 256) (h : RdL w A n c es) (hin : esIn es) (hk' : k' < 256) (hl' : l' < 256) (h' : RdL w A' n' c' es') (hin' : esIn es') :
    Calls Try.prog 5 #[NdV k l A n c, NdV k' l' A' n' c'] w fun e w' => e = .returned (.bool true) ∧ Below w.heap.size w w' := by
  obtain ⟨W, hW⟩ : ∃ W, W = (w.alloc (.cells #[.int .u8 (k : Int), .int .u8 (l : Int), .slice A n c] 24)).alloc (.cells #[.int .u8 (k' : Int), .int .u8 (l' : Int), .slice A' n' c'] 24) := ⟨_, rfl⟩
  have HB0 : Hid (Below w.heap.size w W) := by rw [hW]; exact (below_new _ _).alloc (by simp) _
  have N0 : Hid (Nin W w.heap.size k l A n c es) := ⟨by rw [hW]; exact (Blk.new _ _ _).alloc _, h.below HB0.out⟩
  have M0 : Hid (Nin W (w.heap.size + 1) k' l' A' n' c' es') := ⟨by rw [hW]; exact Blk.new' _ _ _ _ (by simp), h'.below HB0.out⟩
  have HW := Lib.hid hW
  clear h h' hW hin hin'
  have TR : Hid (∀ V, Below W.heap.size W V → ((V.cell? ⟨w.heap.size, 0, none⟩ = some (.int .u8 (k : Int)) ∧ V.cell? ⟨w.heap.size, 1, none⟩ = some (.int .u8 (l : Int)) ∧ V.cell? ⟨w.heap.size, 2, none⟩ = some (.slice A n c)) ∧ (V.cell? ⟨w.heap.size + 1, 0, none⟩ = some (.int .u8 (k' : Int)) ∧ V.cell? ⟨w.heap.size + 1, 1, none⟩ = some (.int .u8 (l' : Int)) ∧ V.cell? ⟨w.heap.size + 1, 2, none⟩ = some (.slice A' n' c')) ∧ Below W.heap.size W V)) :=
    fun V hb => ⟨⟨(N0.out.below hb).c0, (N0.out.below hb).c1, (N0.out.below hb).c2⟩, ⟨(M0.out.below hb).c0, (M0.out.below hb).c1, (M0.out.below hb).c2⟩, hb⟩
  have HM := Lib.hid (heavy_any k l A n c es W N0.out.rd hk hl)
  have d0 := N0.out.c0
  have d1 := N0.out.c1
  have d2 := N0.out.c2
  go_enter Try.func5, Try.ntmps5
  go_wp2_with fail
  rw [← HW.out]
  go_wp2_with fail
  refine HM.out.mono ?_
  rintro e w1 ⟨b, rfl, hbb, hb⟩
  have HB1 := Lib.hid hb
  clear hb hbb d0 d1 d2 HM
  have M1 := Lib.hid (M0.out.below HB1.out)
  cases b with
  | true =>
    go_wp2_with (go_at_call 10; refine (known_any _).mono ?_; rintro e w3 ⟨rfl, hb3⟩)
    go_ret
    have t1 := HB0.out.size
    have t2 := HB1.out.size
    exact ⟨rfl, (HB0.out.trans (HB1.out.mono t1)).trans (hb3.mono (by omega))⟩
  | false =>
    have HM := Lib.hid (heavy_any k' l' A' n' c' es' w1 M1.out.rd hk' hl')
    have d0 := M1.out.c0
    have d1 := M1.out.c1
    have d2 := M1.out.c2
    go_wp2_with fail
    refine HM.out.mono ?_
    rintro e w2 ⟨b, rfl, hbb, hb⟩
    have HB2 : Hid (Below W.heap.size W w2) := HB1.out.trans (hb.mono HB1.out.size)
    clear hb hbb d0 d1 d2 HM
    cases b with
    | true =>
      go_wp2_with (go_at_call 10; refine (known_any _).mono ?_; rintro e w3 ⟨rfl, hb3⟩)
      go_ret
      have t1 := HB0.out.size
      have t2 := HB2.out.size
      exact ⟨rfl, (HB0.out.trans (HB2.out.mono t1)).trans (hb3.mono (by omega))⟩
    | false =>
      go_wp2_with fail
      refine region_gate 16 (fun V => ((V.cell? ⟨w.heap.size, 0, none⟩ = some (.int .u8 (k : Int)) ∧ V.cell? ⟨w.heap.size, 1, none⟩ = some (.int .u8 (l : Int)) ∧ V.cell? ⟨w.heap.size, 2, none⟩ = some (.slice A n c)) ∧ (V.cell? ⟨w.heap.size + 1, 0, none⟩ = some (.int .u8 (k' : Int)) ∧ V.cell? ⟨w.heap.size + 1, 1, none⟩ = some (.int .u8 (l' : Int)) ∧ V.cell? ⟨w.heap.size + 1, 2, none⟩ = some (.slice A' n' c')) ∧ Below W.heap.size W V)) (by kernel_rfl) ?th1 (fun hHeld => ?tk1)
      case th1 => ((try dsimp only); exact TR.out _ HB2.out.drew)
      refine' takeV 0 (oi := _) (d := _) (v := _) ?ti2 ?td2 (by kernel_rfl) (by kernel_rfl) (by kernel_rfl) (by kernel_rfl) (by decide) (fun _ _ _ _ _ h => h) ?tg2 ?ty2 (by assumption) ?tr2
      case ti2 => (simp only [List.getElem?_toArray, List.getElem?_cons_succ, List.getElem?_cons_zero]; rfl)
      case td2 => exact rfl
      case tg2 => exact rfl
      case ty2 => (intro w hSw; (try dsimp only at hSw); go_split_ands; go_simp; try with_reducible rfl)
      simp only [List.setIfInBounds_toArray, List.set_cons_zero, List.set_cons_succ]
      refine' takeV 1 (oi := _) (d := _) (v := _) ?ti3 ?td3 (by kernel_rfl) (by kernel_rfl) (by kernel_rfl) (by kernel_rfl) (by decide) (fun _ _ _ _ _ h => h) ?tg3 ?ty3 (by assumption) ?tr3
      case ti3 => (simp only [List.getElem?_toArray, List.getElem?_cons_succ, List.getElem?_cons_zero]; rfl)
      case td3 => exact rfl
      case tg3 => exact rfl
      case ty3 => (intro w hSw; (try dsimp only at hSw); go_split_ands; go_simp; try with_reducible rfl)
      simp only [List.setIfInBounds_toArray, List.set_cons_zero, List.set_cons_succ]
      refine' takeV 3 (oi := _) (d := _) (v := _) ?ti4 ?td4 (by kernel_rfl) (by kernel_rfl) (by kernel_rfl) (by kernel_rfl) (by decide) (fun _ _ _ _ _ h => h) ?tg4 ?ty4 (by assumption) ?tr4
      case ti4 => (simp only [List.getElem?_toArray, List.getElem?_cons_succ, List.getElem?_cons_zero]; rfl)
      case td4 => exact rfl
      case tg4 => exact rfl
      case ty4 => (intro w hSw; (try dsimp only at hSw); go_split_ands; go_simp; try with_reducible rfl)
      simp only [List.setIfInBounds_toArray, List.set_cons_zero, List.set_cons_succ]
      refine' takeV 4 (oi := _) (d := _) (v := _) ?ti5 ?td5 (by kernel_rfl) (by kernel_rfl) (by kernel_rfl) (by kernel_rfl) (by decide) (fun _ _ _ _ _ h => h) ?tg5 ?ty5 (by assumption) ?tr5
      case ti5 => (simp only [List.getElem?_toArray, List.getElem?_cons_succ, List.getElem?_cons_zero]; rfl)
      case td5 => exact rfl
      case tg5 => exact rfl
      case ty5 => (intro w hSw; (try dsimp only at hSw); go_split_ands; go_simp; try with_reducible rfl)
      simp only [List.setIfInBounds_toArray, List.set_cons_zero, List.set_cons_succ]
      obtain ⟨V0, hV0⟩ : ∃ V0, V0 = w2.drew := ⟨_, rfl⟩
      rw [← hV0] at hHeld ⊢
      have BB0 : Hid (Below W.heap.size W V0) := by rw [hV0]; exact HB2.out.drew
      clear hV0 hHeld
      refine stepG 2 (by kernel_rfl) (by simp only [List.getElem?_toArray, List.getElem?_cons_succ, List.getElem?_cons_zero]; rfl) (fun K hK => ?_)
      go_simp
      refine (slotsame_any k l A n c es k' l' A' n' c' es' _ (N0.out.below BB0.out).rd (M0.out.below BB0.out).rd).mono ?_
      rintro e w3 ⟨rfl, hb3⟩
      refine hK.out _ _ ?ts6 (fun hHeld => ?_)
      case ts6 => ((try dsimp only); exact TR.out _ (BB0.out.trans (hb3.mono BB0.out.size)))
      clear hK K
      have BB1 : Hid (Below W.heap.size W w3) := BB0.out.trans (hb3.mono BB0.out.size)
      clear hb3 hHeld
      refine stepG 5 (by kernel_rfl) (by simp only [List.getElem?_toArray, List.getElem?_cons_succ, List.getElem?_cons_zero]; rfl) (fun K hK => ?_)
      go_simp
      refine (refsame_any k l A n c es k' l' A' n' c' es' _ (N0.out.below BB1.out).rd (M0.out.below BB1.out).rd hk hl hk' hl').mono ?_
      rintro e w4 ⟨rfl, hb4⟩
      refine hK.out _ _ ?ts7 (fun hHeld => ?_)
      case ts7 => ((try dsimp only); exact TR.out _ (BB1.out.trans (hb4.mono BB1.out.size)))
      clear hK K
      have BB2 : Hid (Below W.heap.size W w4) := BB1.out.trans (hb4.mono BB1.out.size)
      clear hb4
      refine' takeV 6 (oi := _) (d := _) (v := _) ?ti8 ?td8 (by kernel_rfl) (by kernel_rfl) (by kernel_rfl) (by kernel_rfl) (by decide) (fun _ _ _ _ _ h => h) ?tg8 ?ty8 (by assumption) ?tr8
      case ti8 => (simp only [List.getElem?_toArray, List.getElem?_cons_succ, List.getElem?_cons_zero]; rfl)
      case td8 => exact rfl
      case tg8 => exact rfl
      case ty8 => (intro w hSw; (try dsimp only at hSw); go_split_ands; go_simp; try with_reducible rfl)
      simp only [List.setIfInBounds_toArray, List.set_cons_zero, List.set_cons_succ]
      refine' takeV 7 (oi := _) (d := _) (v := _) ?ti9 ?td9 (by kernel_rfl) (by kernel_rfl) (by kernel_rfl) (by kernel_rfl) (by decide) (fun _ _ _ _ _ h => h) ?tg9 ?ty9 (by assumption) ?tr9
      case ti9 => (simp only [List.getElem?_toArray, List.getElem?_cons_succ, List.getElem?_cons_zero]; rfl)
      case td9 => exact rfl
      case tg9 => exact rfl
      case ty9 => (intro w hSw; (try dsimp only at hSw); go_split_ands; go_simp; try with_reducible rfl)
      simp only [List.setIfInBounds_toArray, List.set_cons_zero, List.set_cons_succ]
      refine' takeVg 8 (oi := _) (d := _) (v := _) ?ti10 ?td10 (by kernel_rfl) (by kernel_rfl) (by kernel_rfl) (by kernel_rfl) (by decide) (fun _ _ _ _ _ h => h) ?tg10 ?ty10 (by assumption) ?tr10
      case ti10 => (simp only [List.getElem?_toArray, List.getElem?_cons_succ, List.getElem?_cons_zero]; rfl)
      case td10 => exact rfl
      case tg10 => exact rfl
      case ty10 => (intro w hSw; (try dsimp only at hSw); go_split_ands; go_simp; try with_reducible rfl)
      simp only [List.setIfInBounds_toArray, List.set_cons_zero, List.set_cons_succ]
      refine' takeVg 9 (oi := _) (d := _) (v := _) ?ti11 ?td11 (by kernel_rfl) (by kernel_rfl) (by kernel_rfl) (by kernel_rfl) (by decide) (fun _ _ _ _ _ h => h) ?tg11 ?ty11 (by assumption) ?tr11
      case ti11 => (simp only [List.getElem?_toArray, List.getElem?_cons_succ, List.getElem?_cons_zero]; rfl)
      case td11 => exact rfl
      case tg11 => exact rfl
      case ty11 => (intro w hSw; (try dsimp only at hSw); go_split_ands; go_simp; try with_reducible rfl)
      simp only [List.setIfInBounds_toArray, List.set_cons_zero, List.set_cons_succ]
      clear hHeld
      have HRF := Lib.hid (slotsame_any k l A n c es k l A n c es w4 (N0.out.below BB2.out).rd (N0.out.below BB2.out).rd)
      rw [sameN_refl] at HRF
      refine stepG 10 (by kernel_rfl) (by simp only [List.getElem?_toArray, List.getElem?_cons_succ, List.getElem?_cons_zero]; rfl) (fun K hK => ?_)
      go_simp
      refine (HRF.out).mono ?_
      rintro e w5 ⟨rfl, hb5⟩
      refine hK.out _ _ ?ts12 (fun hHeld => ?_)
      case ts12 => ((try dsimp only); exact TR.out _ (BB2.out.trans (hb5.mono BB2.out.size)))
      clear hK K
      have BB3 : Hid (Below W.heap.size W w5) := BB2.out.trans (hb5.mono BB2.out.size)
      clear hb5
      refine' takeV 11 (oi := _) (d := _) (v := _) ?ti13 ?td13 (by kernel_rfl) (by kernel_rfl) (by kernel_rfl) (by kernel_rfl) (by decide) (fun _ _ _ _ _ h => h) ?tg13 ?ty13 (by assumption) ?tr13
      case ti13 => (simp only [List.getElem?_toArray, List.getElem?_cons_succ, List.getElem?_cons_zero]; rfl)
      case td13 => exact rfl
      case tg13 => exact rfl
      case ty13 => (intro w hSw; (try dsimp only at hSw); go_split_ands; go_simp; try with_reducible rfl)
      simp only [List.setIfInBounds_toArray, List.set_cons_zero, List.set_cons_succ]
      refine' takeV 12 (oi := _) (d := _) (v := _) ?ti14 ?td14 (by kernel_rfl) (by kernel_rfl) (by kernel_rfl) (by kernel_rfl) (by decide) (fun _ _ _ _ _ h => h) ?tg14 ?ty14 (by assumption) ?tr14
      case ti14 => (simp only [List.getElem?_toArray, List.getElem?_cons_succ, List.getElem?_cons_zero]; rfl)
      case td14 => exact rfl
      case tg14 => exact rfl
      case ty14 => (intro w hSw; (try dsimp only at hSw); go_split_ands; go_simp; try with_reducible rfl)
      simp only [List.setIfInBounds_toArray, List.set_cons_zero, List.set_cons_succ]
      clear hHeld
      refine stepG 13 (by kernel_rfl) (by simp only [List.getElem?_toArray, List.getElem?_cons_succ, List.getElem?_cons_zero]; rfl) (fun K hK => ?_)
      go_simp
      refine (known_any _).mono ?_
      rintro e w6 ⟨rfl, hb6⟩
      refine hK.out _ _ ?ts15 (fun hHeld => ?_)
      case ts15 => ((try dsimp only); exact TR.out _ (BB3.out.trans (hb6.mono BB3.out.size)))
      clear hK K
      have BB4 : Hid (Below W.heap.size W w6) := BB3.out.trans (hb6.mono BB3.out.size)
      clear hb6
      refine' takeV 14 (oi := _) (d := _) (v := _) ?ti16 ?td16 (by kernel_rfl) (by kernel_rfl) (by kernel_rfl) (by kernel_rfl) (by decide) (fun _ _ _ _ _ h => h) ?tg16 ?ty16 (by assumption) ?tr16
      case ti16 => (simp only [List.getElem?_toArray, List.getElem?_cons_succ, List.getElem?_cons_zero]; rfl)
      case td16 => exact rfl
      case tg16 => exact rfl
      case ty16 => (intro w hSw; (try dsimp only at hSw); go_split_ands; go_simp; try with_reducible rfl)
      simp only [List.setIfInBounds_toArray, List.set_cons_zero, List.set_cons_succ]
      refine' takeV 15 (oi := _) (d := _) (v := _) ?ti17 ?td17 (by kernel_rfl) (by kernel_rfl) (by kernel_rfl) (by kernel_rfl) (by decide) (fun _ _ _ _ _ h => h) ?tg17 ?ty17 (by assumption) ?tr17
      case ti17 => (simp only [List.getElem?_toArray, List.getElem?_cons_succ, List.getElem?_cons_zero]; rfl)
      case td17 => exact rfl
      case tg17 => exact rfl
      case ty17 => (intro w hSw; (try dsimp only at hSw); go_split_ands; go_simp; try with_reducible rfl)
      simp only [List.setIfInBounds_toArray, List.set_cons_zero, List.set_cons_succ]
      refine doneG (by kernel_rfl) ?_ _
      go_wp2_with fail
      go_ret
      exact ⟨rfl, HB0.out.trans (BB4.out.mono HB0.out.size)⟩
end Go.Proofs.Ytihbpmceggghgaa
