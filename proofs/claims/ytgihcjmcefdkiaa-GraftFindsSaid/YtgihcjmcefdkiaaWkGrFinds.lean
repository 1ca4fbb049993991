/- The walk of GraftFinds. -/
import Derived.Test.YtgihcjmcefdkiaaGrKnown
set_option linter.unusedVariables false
set_option linter.unusedSimpArgs false
namespace Go.Proofs.Ytgihcjmcefdkiaa
open Go.RowKit

set_option maxRecDepth 100000 in
set_option maxHeartbeats 3200000 in
theorem graftFinds_walk (k l : Nat) (A : Option Addr) (n c : Nat) (es : List Ent) (A' : Option Addr) (n' c' : Nat) (key : List UInt8) (w : World) (hk : k < 256) (hl : l < 256) (h : RdL w A n c es) (hin : esIn es) (h' : Rd w A' n' c' key) (hre : c' ≤ 140737488351232) :
    Calls Try.prog 5 #[NdV k l A n c, .slice A' n' c'] w fun e w' => e = .returned (.bool true) ∧ Below w.heap.size w w' := by
  have hcap := h'.cap
  obtain ⟨W, hW⟩ : ∃ W, W = w.alloc (.cells #[.int .u8 (k : Int), .int .u8 (l : Int), .slice A n c] 24) := ⟨_, rfl⟩
  have HB0 : Hid (Below w.heap.size w W) := by rw [hW]; exact below_new1 _ _
  have N0 : Hid (Nin W w.heap.size k l A n c es) := by rw [hW]; exact Nin.new h k l
  have HWs : Hid (W.heap.size = w.heap.size + 1) := by rw [hW]; exact size_new _ _
  have HK0 := Lib.hid (h'.below HB0.out)
  have HW := Lib.hid hW
  clear h h' hW hin
  have d0 := N0.out.c0
  have d1 := N0.out.c1
  have d2 := N0.out.c2
  go_enter Try.func5, Try.ntmps5
  go_wp2_with fail
  rw [← HW.out]
  obtain ⟨W1, hW1⟩ : ∃ W1, W1 = W.alloc (.cells #[.int .u8 (k : Int), .int .u8 (l : Int), .slice A n c] 24) := ⟨_, rfl⟩
  have hb0 : Below W.heap.size W W1 := by rw [hW1]; exact below_new1 _ _
  have HM := Lib.hid (lheavy_any (some ⟨w.heap.size + 1, 0, none⟩) 1 1 [es] W1 (RdNs.one (by rw [hW1]; exact Blk.new' _ _ _ _ HWs.out) hk hl (N0.out.below hb0).rd))
  rw [← hW1]
  have HBa := Lib.hid hb0
  have sa := hb0.size
  clear hW1 hb0
  refine HM.out.mono ?_
  rintro e w1 ⟨b, rfl, hbb, hb⟩
  have HB1 : Hid (Below W.heap.size W w1) := HBa.out.trans (hb.mono sa)
  have N1 := Lib.hid (N0.out.below HB1.out)
  have s0 := HB0.out.size
  have s1 := HB1.out.size
  have HX1 : Hid (Below w.heap.size w w1) := HB0.out.trans (HB1.out.mono s0)
  have sx := HX1.out.size
  clear hb hbb d0 d1 d2 HM
  cases b with
  | true =>
    go_wp2_with (go_at_call 13; refine (known_any _).mono ?_; rintro e w3 ⟨rfl, hb3⟩)
    go_ret
    exact ⟨rfl, HX1.out.trans (hb3.mono sx)⟩
  | false =>
    by_cases hlen : 4096 < n'
    · have hd : decide ((n' : Int) > 4096) = true := decide_eq_true (by omega)
      go_wp2_with (go_at_call 13; refine (known_any _).mono ?_; rintro e w3 ⟨rfl, hb3⟩)
      go_ret
      exact ⟨rfl, HX1.out.trans (hb3.mono sx)⟩
    · have hd : decide ((n' : Int) > 4096) = false := decide_eq_false (by omega)
      have HC := Lib.hid (find_any k l A n c es A' n' c' key w1 N1.out.rd (HK0.out.below HB1.out))
      obtain ⟨i, HI⟩ : ∃ i, Hid (fndA es key = i) := ⟨_, rfl⟩
      obtain ⟨q, HQ⟩ : ∃ q, Hid (fndB es key = q) := ⟨_, rfl⟩
      rw [HI.out, HQ.out] at HC
      have d0 := N1.out.c0
      have d1 := N1.out.c1
      have d2 := N1.out.c2
      go_wp2_with fail
      refine HC.out.mono ?_
      rintro e w2 ⟨rfl, hb⟩
      have HB2 : Hid (Below W.heap.size W w2) := HB1.out.trans (hb.mono s1)
      have N2 := Lib.hid (N0.out.below HB2.out)
      have s2 := HB2.out.size
      have HC2 := Lib.hid (reffind_any k l A n c es A' n' c' key w2 N2.out.rd (HK0.out.below HB2.out))
      rw [HI.out, HQ.out] at HC2
      clear hb d0 d1 d2 HC N1
      have d0 := N2.out.c0
      have d1 := N2.out.c1
      have d2 := N2.out.c2
      go_wp2_with fail
      refine HC2.out.mono ?_
      rintro e w3 ⟨rfl, hb⟩
      have HB3 : Hid (Below W.heap.size W w3) := HB2.out.trans (hb.mono s2)
      clear hb d0 d1 d2 HC2 N2 HBa
      have tok1 : ((i : Int) == (i : Int)) = true := beq_self_eq_true _
      have tok2 : (q == q) = true := beq_self_eq_true _
      have TR : Hid (∀ V, Below W.heap.size W V → (fun V : World => V.cell? ⟨w.heap.size, 0, none⟩ = some (.int .u8 (k : Int)) ∧ V.cell? ⟨w.heap.size, 1, none⟩ = some (.int .u8 (l : Int)) ∧ V.cell? ⟨w.heap.size, 2, none⟩ = some (.slice A n c) ∧ Below W.heap.size W V) V) := fun V hb => by
        have n1 := N0.out.below hb
        exact ⟨n1.c0, n1.c1, n1.c2, hb⟩
      go_wp2_with fail
      refine region_gate 21 (fun V => V.cell? ⟨w.heap.size, 0, none⟩ = some (.int .u8 (k : Int)) ∧ V.cell? ⟨w.heap.size, 1, none⟩ = some (.int .u8 (l : Int)) ∧ V.cell? ⟨w.heap.size, 2, none⟩ = some (.slice A n c) ∧ Below W.heap.size W V) (by kernel_rfl) ?th1 (fun hHeld => ?tk1)
      case th1 => ((try dsimp only); exact TR.out _ HB3.out.drew)
      refine' takeV 0 (oi := _) (d := _) (v := _) ?ti2 ?td2 (by kernel_rfl) (by kernel_rfl) (by kernel_rfl) (by kernel_rfl) (by decide) (fun _ _ _ _ _ h => h) ?tg2 ?ty2 (by assumption) ?tr2
      case ti2 => (simp only [List.getElem?_toArray, List.getElem?_cons_succ, List.getElem?_cons_zero]; rfl)
      case td2 => exact rfl
      case tg2 => exact rfl
      case ty2 => (intro w hSw; (try dsimp only at hSw); go_split_ands; go_simp; try with_reducible rfl)
      simp only [List.setIfInBounds_toArray, List.set_cons_zero, List.set_cons_succ]
      refine' takeV 1 (oi := _) (d := _) (v := _) ?ti3 ?td3 (by kernel_rfl) (by kernel_rfl) (by kernel_rfl) (by kernel_rfl) (by decide) (fun _ _ _ _ _ h => h) ?tg3 ?ty3 (by assumption) ?tr3
      case ti3 => (simp only [List.getElem?_toArray, List.getElem?_cons_succ, List.getElem?_cons_zero]; rfl)
      case td3 => exact rfl
      case tg3 => exact rfl
      case ty3 => (intro w hSw; (try dsimp only at hSw); go_split_ands; go_simp; try with_reducible rfl)
      simp only [List.setIfInBounds_toArray, List.set_cons_zero, List.set_cons_succ]
      refine' takeV 2 (oi := _) (d := _) (v := _) ?ti4 ?td4 (by kernel_rfl) (by kernel_rfl) (by kernel_rfl) (by kernel_rfl) (by decide) (fun _ _ _ _ _ h => h) ?tg4 ?ty4 (by assumption) ?tr4
      case ti4 => (simp only [List.getElem?_toArray, List.getElem?_cons_succ, List.getElem?_cons_zero]; rfl)
      case td4 => exact rfl
      case tg4 => exact rfl
      case ty4 => (intro w hSw; (try dsimp only at hSw); go_split_ands; go_simp; try with_reducible rfl)
      simp only [List.setIfInBounds_toArray, List.set_cons_zero, List.set_cons_succ]
      refine' takeV 3 (oi := _) (d := _) (v := _) ?ti5 ?td5 (by kernel_rfl) (by kernel_rfl) (by kernel_rfl) (by kernel_rfl) (by decide) (fun _ _ _ _ _ h => h) ?tg5 ?ty5 (by assumption) ?tr5
      case ti5 => (simp only [List.getElem?_toArray, List.getElem?_cons_succ, List.getElem?_cons_zero]; rfl)
      case td5 => exact rfl
      case tg5 => exact rfl
      case ty5 => (intro w hSw; (try dsimp only at hSw); go_split_ands; go_simp; try with_reducible rfl)
      simp only [List.setIfInBounds_toArray, List.set_cons_zero, List.set_cons_succ]
      refine' takeVg 4 (oi := _) (d := _) (v := _) ?ti6 ?td6 (by kernel_rfl) (by kernel_rfl) (by kernel_rfl) (by kernel_rfl) (by decide) (fun _ _ _ _ _ h => h) ?tg6 ?ty6 (by assumption) ?tr6
      case ti6 => (simp only [List.getElem?_toArray, List.getElem?_cons_succ, List.getElem?_cons_zero]; rfl)
      case td6 => exact rfl
      case tg6 => exact rfl
      case ty6 => (intro w hSw; (try dsimp only at hSw); go_split_ands; go_simp; try with_reducible rfl)
      simp only [List.setIfInBounds_toArray, List.set_cons_zero, List.set_cons_succ]
      refine' takeVg 5 (oi := _) (d := _) (v := _) ?ti7 ?td7 (by kernel_rfl) (by kernel_rfl) (by kernel_rfl) (by kernel_rfl) (by decide) (fun _ _ _ _ _ h => h) ?tg7 ?ty7 (by assumption) ?tr7
      case ti7 => (simp only [List.getElem?_toArray, List.getElem?_cons_succ, List.getElem?_cons_zero]; rfl)
      case td7 => exact rfl
      case tg7 => exact rfl
      case ty7 => (intro w hSw; (try dsimp only at hSw); go_split_ands; go_simp; try with_reducible rfl)
      simp only [List.setIfInBounds_toArray, List.set_cons_zero, List.set_cons_succ]
      refine' takeVg 6 (oi := _) (d := _) (v := _) ?ti8 ?td8 (by kernel_rfl) (by kernel_rfl) (by kernel_rfl) (by kernel_rfl) (by decide) (fun _ _ _ _ _ h => h) ?tg8 ?ty8 (by assumption) ?tr8
      case ti8 => (simp only [List.getElem?_toArray, List.getElem?_cons_succ, List.getElem?_cons_zero]; rfl)
      case td8 => exact rfl
      case tg8 => exact rfl
      case ty8 => (intro w hSw; (try dsimp only at hSw); go_split_ands; go_simp; try with_reducible rfl)
      simp only [List.setIfInBounds_toArray, List.set_cons_zero, List.set_cons_succ]
      refine' takeV 7 (oi := _) (d := _) (v := _) ?ti9 ?td9 (by kernel_rfl) (by kernel_rfl) (by kernel_rfl) (by kernel_rfl) (by decide) (fun _ _ _ _ _ h => h) ?tg9 ?ty9 (by assumption) ?tr9
      case ti9 => (simp only [List.getElem?_toArray, List.getElem?_cons_succ, List.getElem?_cons_zero]; rfl)
      case td9 => exact rfl
      case tg9 => exact rfl
      case ty9 => (intro w hSw; (try dsimp only at hSw); go_split_ands; go_simp; try with_reducible rfl)
      simp only [List.setIfInBounds_toArray, List.set_cons_zero, List.set_cons_succ]
      refine' takeV 8 (oi := _) (d := _) (v := _) ?ti10 ?td10 (by kernel_rfl) (by kernel_rfl) (by kernel_rfl) (by kernel_rfl) (by decide) (fun _ _ _ _ _ h => h) ?tg10 ?ty10 (by assumption) ?tr10
      case ti10 => (simp only [List.getElem?_toArray, List.getElem?_cons_succ, List.getElem?_cons_zero]; rfl)
      case td10 => exact rfl
      case tg10 => exact rfl
      case ty10 => (intro w hSw; (try dsimp only at hSw); go_split_ands; go_simp; try with_reducible rfl)
      simp only [List.setIfInBounds_toArray, List.set_cons_zero, List.set_cons_succ]
      refine' takeVg 9 (oi := _) (d := _) (v := _) ?ti11 ?td11 (by kernel_rfl) (by kernel_rfl) (by kernel_rfl) (by kernel_rfl) (by decide) (fun _ _ _ _ _ h => h) ?tg11 ?ty11 (by assumption) ?tr11
      case ti11 => (simp only [List.getElem?_toArray, List.getElem?_cons_succ, List.getElem?_cons_zero]; rfl)
      case td11 => exact rfl
      case tg11 => exact rfl
      case ty11 => (intro w hSw; (try dsimp only at hSw); go_split_ands; go_simp; try with_reducible rfl)
      simp only [List.setIfInBounds_toArray, List.set_cons_zero, List.set_cons_succ]
      refine' takeVg 10 (oi := _) (d := _) (v := _) ?ti12 ?td12 (by kernel_rfl) (by kernel_rfl) (by kernel_rfl) (by kernel_rfl) (by decide) (fun _ _ _ _ _ h => h) ?tg12 ?ty12 (by assumption) ?tr12
      case ti12 => (simp only [List.getElem?_toArray, List.getElem?_cons_succ, List.getElem?_cons_zero]; rfl)
      case td12 => exact rfl
      case tg12 => exact rfl
      case ty12 => (intro w hSw; (try dsimp only at hSw); go_split_ands; go_simp; try with_reducible rfl)
      simp only [List.setIfInBounds_toArray, List.set_cons_zero, List.set_cons_succ]
      refine' takeVg 12 (oi := _) (d := _) (v := _) ?ti13 ?td13 (by kernel_rfl) (by kernel_rfl) (by kernel_rfl) (by kernel_rfl) (by decide) (fun _ _ _ _ _ h => h) ?tg13 ?ty13 (by assumption) ?tr13
      case ti13 => (simp only [List.getElem?_toArray, List.getElem?_cons_succ, List.getElem?_cons_zero]; rfl)
      case td13 => exact rfl
      case tg13 => exact rfl
      case ty13 => (intro w hSw; (try dsimp only at hSw); go_split_ands; go_simp; try with_reducible rfl)
      simp only [List.setIfInBounds_toArray, List.set_cons_zero, List.set_cons_succ]
      refine' takeVg 13 (oi := _) (d := _) (v := _) ?ti14 ?td14 (by kernel_rfl) (by kernel_rfl) (by kernel_rfl) (by kernel_rfl) (by decide) (fun _ _ _ _ _ h => h) ?tg14 ?ty14 (by assumption) ?tr14
      case ti14 => (simp only [List.getElem?_toArray, List.getElem?_cons_succ, List.getElem?_cons_zero]; rfl)
      case td14 => exact rfl
      case tg14 => exact rfl
      case ty14 => (intro w hSw; (try dsimp only at hSw); go_split_ands; go_simp; try with_reducible rfl)
      simp only [List.setIfInBounds_toArray, List.set_cons_zero, List.set_cons_succ]
      clear hHeld
      obtain ⟨V0, hV0⟩ : ∃ V0, V0 = w3.drew := ⟨_, rfl⟩
      have B0 : Hid (Below W.heap.size W V0) := by rw [hV0]; exact HB3.out.drew
      rw [← hV0]
      obtain ⟨C, HCC⟩ : ∃ C, Hid (chdA es key = C) := ⟨_, rfl⟩
      have HC1 := Lib.hid (child_any k l A n c es A' n' c' key V0 (N0.out.below B0.out).rd (HK0.out.below B0.out))
      rw [HCC.out] at HC1
      clear hV0 HB3
      have z0 := B0.out.size
      refine stepG 11 (by kernel_rfl) (by simp only [List.getElem?_toArray, List.getElem?_cons_succ, List.getElem?_cons_zero]; rfl) (fun K hK => ?_)
      go_simp
      refine (HC1.out).mono ?_
      rintro e v1 ⟨rfl, hb1⟩
      refine hK.out _ _ ?ts15 (fun hHeld => ?_)
      case ts15 => ((try dsimp only); exact TR.out _ (B0.out.trans (hb1.mono z0)))
      clear hK K
      have B1 : Hid (Below W.heap.size W v1) := B0.out.trans (hb1.mono z0)
      have HC2 := Lib.hid (refchild_any k l A n c es A' n' c' key v1 (N0.out.below B1.out).rd (HK0.out.below B1.out))
      rw [HCC.out] at HC2
      have z1 := B1.out.size
      clear hHeld HC1 hb1
      refine stepG 14 (by kernel_rfl) (by simp only [List.getElem?_toArray, List.getElem?_cons_succ, List.getElem?_cons_zero]; rfl) (fun K hK => ?_)
      go_simp
      refine (HC2.out).mono ?_
      rintro e v2 ⟨rfl, hb1⟩
      refine hK.out _ _ ?ts16 (fun hHeld => ?_)
      case ts16 => ((try dsimp only); exact TR.out _ (B1.out.trans (hb1.mono z1)))
      clear hK K
      have B2 : Hid (Below W.heap.size W v2) := B1.out.trans (hb1.mono z1)
      have z2 := B2.out.size
      have HC3 := Lib.hid (known_any v2)
      have tok : (C == C) = true := beq_self_eq_true _
      clear hb1 HC2
      refine' takeVg 15 (oi := _) (d := _) (v := _) ?ti17 ?td17 (by kernel_rfl) (by kernel_rfl) (by kernel_rfl) (by kernel_rfl) (by decide) (fun _ _ _ _ _ h => h) ?tg17 ?ty17 (by assumption) ?tr17
      case ti17 => (simp only [List.getElem?_toArray, List.getElem?_cons_succ, List.getElem?_cons_zero]; rfl)
      case td17 => exact rfl
      case tg17 => exact rfl
      case ty17 => (intro w hSw; (try dsimp only at hSw); go_split_ands; go_simp; try with_reducible rfl)
      simp only [List.setIfInBounds_toArray, List.set_cons_zero, List.set_cons_succ]
      refine' takeV 16 (oi := _) (d := _) (v := _) ?ti18 ?td18 (by kernel_rfl) (by kernel_rfl) (by kernel_rfl) (by kernel_rfl) (by decide) (fun _ _ _ _ _ h => h) ?tg18 ?ty18 (by assumption) ?tr18
      case ti18 => (simp only [List.getElem?_toArray, List.getElem?_cons_succ, List.getElem?_cons_zero]; rfl)
      case td18 => exact rfl
      case tg18 => exact rfl
      case ty18 => (intro w hSw; (try dsimp only at hSw); go_split_ands; go_simp; try with_reducible rfl)
      simp only [List.setIfInBounds_toArray, List.set_cons_zero, List.set_cons_succ]
      refine' takeV 17 (oi := _) (d := _) (v := _) ?ti19 ?td19 (by kernel_rfl) (by kernel_rfl) (by kernel_rfl) (by kernel_rfl) (by decide) (fun _ _ _ _ _ h => h) ?tg19 ?ty19 (by assumption) ?tr19
      case ti19 => (simp only [List.getElem?_toArray, List.getElem?_cons_succ, List.getElem?_cons_zero]; rfl)
      case td19 => exact rfl
      case tg19 => exact rfl
      case ty19 => (intro w hSw; (try dsimp only at hSw); go_split_ands; go_simp; try with_reducible rfl)
      simp only [List.setIfInBounds_toArray, List.set_cons_zero, List.set_cons_succ]
      clear hHeld
      refine stepG 18 (by kernel_rfl) (by simp only [List.getElem?_toArray, List.getElem?_cons_succ, List.getElem?_cons_zero]; rfl) (fun K hK => ?_)
      go_simp
      refine (HC3.out).mono ?_
      rintro e v3 ⟨rfl, hb1⟩
      refine hK.out _ _ ?ts20 (fun hHeld => ?_)
      case ts20 => ((try dsimp only); exact TR.out _ (B2.out.trans (hb1.mono z2)))
      clear hK K
      have B3 : Hid (Below W.heap.size W v3) := B2.out.trans (hb1.mono z2)
      clear hb1 HC3
      refine' takeV 19 (oi := _) (d := _) (v := _) ?ti21 ?td21 (by kernel_rfl) (by kernel_rfl) (by kernel_rfl) (by kernel_rfl) (by decide) (fun _ _ _ _ _ h => h) ?tg21 ?ty21 (by assumption) ?tr21
      case ti21 => (simp only [List.getElem?_toArray, List.getElem?_cons_succ, List.getElem?_cons_zero]; rfl)
      case td21 => exact rfl
      case tg21 => exact rfl
      case ty21 => (intro w hSw; (try dsimp only at hSw); go_split_ands; go_simp; try with_reducible rfl)
      simp only [List.setIfInBounds_toArray, List.set_cons_zero, List.set_cons_succ]
      refine stepG 20 (by kernel_rfl) (by simp only [List.getElem?_toArray, List.getElem?_cons_succ, List.getElem?_cons_zero]; rfl) (fun K hK => ?_)
      go_simp
      refine hK.out _ _ ?ts22 (fun hHeld => ?_)
      case ts22 => ((try dsimp only); exact hHeld)
      clear hK K
      refine doneG (by kernel_rfl) ?_ _
      clear hHeld
      go_wp2_with fail
      go_ret
      exact ⟨rfl, HB0.out.trans (B3.out.mono s0)⟩
end Go.Proofs.Ytgihcjmcefdkiaa
