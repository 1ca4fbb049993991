/- Contracts: is a node more than is played? -/
import Derived.Test.YtihbpmceggghgaaBytes
set_option linter.unusedVariables false
set_option linter.unusedSimpArgs false
namespace Go.Proofs.Ytihbpmceggghgaa
open Go.RowKit

/-- What a node has that is not heavy. -/
def HOk (es : List Ent) : Prop := es.length ≤ 4000 ∧ ∀ j, j < es.length → (es.getD j ent0).key.length ≤ 4096 ∧ (es.getD j ent0).val.length ≤ 4096
def HeavyP (es : List Ent) (w : World) (e : Ending) (w' : World) : Prop := ∃ b : Bool, e = .returned (.bool b) ∧ (b = false → HOk es) ∧ Below w.heap.size w w'
theorem HeavyP.yes {es : List Ent} {w w' : World} (h : Below w.heap.size w w') : HeavyP es w (.returned (.bool true)) w' := ⟨true, rfl, (fun e => by cases e), h⟩
theorem HeavyP.no {es : List Ent} {w w' : World} (h : Below w.heap.size w w') (ho : HOk es) : HeavyP es w (.returned (.bool false)) w' := ⟨false, rfl, fun _ => ho, h⟩

set_option maxRecDepth 100000 in
set_option maxHeartbeats 3200000 in
theorem heavy_any (k l : Nat) (A : Option Addr) (n c : Nat) (es : List Ent) (w : World) (h : RdL w A n c es) (hk : k < 256) (hl : l < 256) :
    Calls Try.prog 9 #[NdV k l A n c] w (HeavyP es w) := by
  have hcap := h.cap
  have hmax := h.max
  unfold maxLen at hmax
  have HLn := Lib.hid h.len
  obtain ⟨W, hW⟩ : ∃ W, W = w.alloc (.cells #[.int .u8 (k : Int), .int .u8 (l : Int), .slice A n c] 24) := ⟨_, rfl⟩
  have HWB : Hid (Below w.heap.size w W) := by rw [hW]; exact below_new1 _ _
  have KN : Hid (Blk W w.heap.size 24 (ndA k l A n c)) := by rw [hW]; exact Blk.new _ _ _
  have HR := Lib.hid (h.below HWB.out)
  have HW := Lib.hid hW
  have hWs : w.heap.size < W.heap.size := KN.out.lt
  clear h hW
  go_enter Try.func9, Try.ntmps9
  go_wp2_with fail
  rw [← HW.out]
  go_loopw [3, 4] (fun u z wr => ∃ i sm : Nat, i ≤ n ∧ z = .int .i64 (i : Int) ∧ u = .int .i64 (sm : Int) ∧ i ≤ sm ∧ sm ≤ 4000 ∧ (∀ j, j < i → (es.getD j ent0).key.length ≤ 4096 ∧ (es.getD j ent0).val.length ≤ 4096) ∧ Below W.heap.size W wr) (fun _ z _ => n - (intOf z).toNat)
  case atStart => exact ⟨0, 0, Nat.zero_le _, rfl, rfl, Nat.le_refl _, by omega, fun j hj => by omega, Below.refl _ _⟩
  case round =>
    obtain ⟨i, sm, hi, rfl, rfl, him, hsm, hall, hbel⟩ := hrel
    have HALL := Lib.hid hall
    have HBE := Lib.hid hbel
    have hbs := hbel.size
    have d2 : wr.cell? ⟨w.heap.size, 2, none⟩ = some (.slice A n c) := (KN.out.below hbel KN.out.lt).cell 2
    clear hall hbel
    by_cases hlt : i < n
    · obtain ⟨b, o, A1, n1, c1, A2, n2, c2, rfl, hat0, hrk, hrv⟩ := HR.out.ent i hlt _ rfl
      have hat := hat0.below HBE.out
      have a0 := hat.c0
      have a1 := hat.c1
      have HK1 := Lib.hid hrk.len
      have HV1 := Lib.hid hrv.len
      have m1 := hrk.cap
      have m2 := hrk.max
      have m3 := hrv.cap
      have m4 := hrv.max
      unfold maxLen at m2 m4
      have i1 : (0 : Int) ≤ (i : Int) := by omega
      have i2 : (i : Int) < (n : Int) := by omega
      clear hat hat0 hrk hrv
      by_cases hb1 : 4096 < n1
      · have hd1 : decide ((n1 : Int) > 4096) = true := decide_eq_true (by omega)
        go_wp2_with fail
        go_ret
        exact HeavyP.yes (HWB.out.trans (HBE.out.mono (Nat.le_of_lt hWs)))
      · have hd1 : decide ((n1 : Int) > 4096) = false := decide_eq_false (by omega)
        by_cases hb2 : 4096 < n2
        · have hd2 : decide ((n2 : Int) > 4096) = true := decide_eq_true (by omega)
          go_wp2_with fail
          go_ret
          exact HeavyP.yes (HWB.out.trans (HBE.out.mono (Nat.le_of_lt hWs)))
        · have hd2 : decide ((n2 : Int) > 4096) = false := decide_eq_false (by omega)
          have HALL2 : Hid (∀ j, j < i + 1 → (es.getD j ent0).key.length ≤ 4096 ∧ (es.getD j ent0).val.length ≤ 4096) := fun j hj => by
            by_cases e : j = i
            · rw [e, ← HK1.out, ← HV1.out]; omega
            · exact HALL.out j (by omega)
          obtain ⟨q, hq⟩ : ∃ q, q = (n1 + n2) / 64 := ⟨_, rfl⟩
          have hq2 : q ≤ 128 := by omega
          have w1 : IntKind.i64.wrap ((sm : Int) + 1) = (sm : Int) + 1 := IntWalk.i64_in _ (by omega)
          have w2 : IntKind.i64.wrap ((n1 : Int) + (n2 : Int)) = (n1 : Int) + (n2 : Int) := IntWalk.i64_in _ (by omega)
          have w3 : ((n1 : Int) + (n2 : Int)).tdiv 64 = (q : Int) := by rw [Int.tdiv_eq_ediv_of_nonneg (by omega)]; omega
          have w4 : IntKind.i64.wrap (q : Int) = (q : Int) := IntWalk.i64_in _ (by omega)
          have w5 : IntKind.i64.wrap ((sm : Int) + 1 + (q : Int)) = (sm : Int) + 1 + (q : Int) := IntWalk.i64_in _ (by omega)
          clear hq
          go_wp2_with fail
          refine region_gate 20 (fun w' => w'.cell? ⟨w.heap.size, 2, none⟩ = some (.slice (some ⟨b, o, none⟩) n c) ∧ w'.cell? ⟨b, o + i * 9, none⟩ = some (.slice A1 n1 c1) ∧ w'.cell? ⟨b, o + i * 9 + 1, none⟩ = some (.slice A2 n2 c2)) (by kernel_rfl) ?th1 (fun hHeld => ?tk1)
          case th1 => ((try dsimp only); exact ⟨d2, a0, a1⟩)
          refine' takeV 0 (oi := _) (d := _) (v := _) ?ti2 ?td2 (by kernel_rfl) (by kernel_rfl) (by kernel_rfl) (by kernel_rfl) (by decide) (fun _ _ _ _ _ h => h) ?tg2 ?ty2 (by assumption) ?tr2
          case ti2 => (simp only [List.getElem?_toArray, List.getElem?_cons_succ, List.getElem?_cons_zero]; rfl)
          case td2 => exact rfl
          case tg2 => exact rfl
          case ty2 => (intro w hSw; (try dsimp only at hSw); go_split_ands; go_simp; try with_reducible rfl)
          simp only [List.setIfInBounds_toArray, List.set_cons_zero, List.set_cons_succ]
          refine' takeV 1 (oi := _) (d := _) (v := _) ?ti3 ?td3 (by kernel_rfl) (by kernel_rfl) (by kernel_rfl) (by kernel_rfl) (by decide) (fun _ _ _ _ _ h => h) ?tg3 ?ty3 (by assumption) ?tr3
          case ti3 => (simp only [List.getElem?_toArray, List.getElem?_cons_succ, List.getElem?_cons_zero]; rfl)
          case td3 => exact rfl
          case tg3 => exact rfl
          case ty3 => (intro w hSw; (try dsimp only at hSw); go_split_ands; go_simp; try with_reducible rfl)
          simp only [List.setIfInBounds_toArray, List.set_cons_zero, List.set_cons_succ]
          refine' takeV 2 (oi := _) (d := _) (v := _) ?ti4 ?td4 (by kernel_rfl) (by kernel_rfl) (by kernel_rfl) (by kernel_rfl) (by decide) (fun _ _ _ _ _ h => h) ?tg4 ?ty4 (by assumption) ?tr4
          case ti4 => (simp only [List.getElem?_toArray, List.getElem?_cons_succ, List.getElem?_cons_zero]; rfl)
          case td4 => exact rfl
          case tg4 => exact rfl
          case ty4 => (intro w hSw; (try dsimp only at hSw); go_split_ands; go_simp; try with_reducible rfl)
          simp only [List.setIfInBounds_toArray, List.set_cons_zero, List.set_cons_succ]
          refine' takeV 3 (oi := _) (d := _) (v := _) ?ti5 ?td5 (by kernel_rfl) (by kernel_rfl) (by kernel_rfl) (by kernel_rfl) (by decide) (fun _ _ _ _ _ h => h) ?tg5 ?ty5 (by assumption) ?tr5
          case ti5 => (simp only [List.getElem?_toArray, List.getElem?_cons_succ, List.getElem?_cons_zero]; rfl)
          case td5 => exact rfl
          case tg5 => exact rfl
          case ty5 => (intro w hSw; (try dsimp only at hSw); go_split_ands; go_simp; try with_reducible rfl)
          simp only [List.setIfInBounds_toArray, List.set_cons_zero, List.set_cons_succ]
          refine' takeV 4 (oi := _) (d := _) (v := _) ?ti6 ?td6 (by kernel_rfl) (by kernel_rfl) (by kernel_rfl) (by kernel_rfl) (by decide) (fun _ _ _ _ _ h => h) ?tg6 ?ty6 (by assumption) ?tr6
          case ti6 => (simp only [List.getElem?_toArray, List.getElem?_cons_succ, List.getElem?_cons_zero]; rfl)
          case td6 => exact rfl
          case tg6 => exact rfl
          case ty6 => (intro w hSw; (try dsimp only at hSw); go_split_ands; go_simp; try with_reducible rfl)
          simp only [List.setIfInBounds_toArray, List.set_cons_zero, List.set_cons_succ]
          refine' takeV 5 (oi := _) (d := _) (v := _) ?ti7 ?td7 (by kernel_rfl) (by kernel_rfl) (by kernel_rfl) (by kernel_rfl) (by decide) (fun _ _ _ _ _ h => h) ?tg7 ?ty7 (by assumption) ?tr7
          case ti7 => (simp only [List.getElem?_toArray, List.getElem?_cons_succ, List.getElem?_cons_zero]; rfl)
          case td7 => exact rfl
          case tg7 => exact rfl
          case ty7 => (intro w hSw; (try dsimp only at hSw); go_split_ands; go_simp; try with_reducible rfl)
          simp only [List.setIfInBounds_toArray, List.set_cons_zero, List.set_cons_succ]
          refine' takeV 6 (oi := _) (d := _) (v := _) ?ti8 ?td8 (by kernel_rfl) (by kernel_rfl) (by kernel_rfl) (by kernel_rfl) (by decide) (fun _ _ _ _ _ h => h) ?tg8 ?ty8 (by assumption) ?tr8
          case ti8 => (simp only [List.getElem?_toArray, List.getElem?_cons_succ, List.getElem?_cons_zero]; rfl)
          case td8 => exact rfl
          case tg8 => exact rfl
          case ty8 => (intro w hSw; (try dsimp only at hSw); go_split_ands; go_simp; try with_reducible rfl)
          simp only [List.setIfInBounds_toArray, List.set_cons_zero, List.set_cons_succ]
          refine' takeV 7 (oi := _) (d := _) (v := _) ?ti9 ?td9 (by kernel_rfl) (by kernel_rfl) (by kernel_rfl) (by kernel_rfl) (by decide) (fun _ _ _ _ _ h => h) ?tg9 ?ty9 (by assumption) ?tr9
          case ti9 => (simp only [List.getElem?_toArray, List.getElem?_cons_succ, List.getElem?_cons_zero]; rfl)
          case td9 => exact rfl
          case tg9 => exact rfl
          case ty9 => (intro w hSw; (try dsimp only at hSw); go_split_ands; go_simp; try with_reducible rfl)
          simp only [List.setIfInBounds_toArray, List.set_cons_zero, List.set_cons_succ]
          refine' takeV 8 (oi := _) (d := _) (v := _) ?ti10 ?td10 (by kernel_rfl) (by kernel_rfl) (by kernel_rfl) (by kernel_rfl) (by decide) (fun _ _ _ _ _ h => h) ?tg10 ?ty10 (by assumption) ?tr10
          case ti10 => (simp only [List.getElem?_toArray, List.getElem?_cons_succ, List.getElem?_cons_zero]; rfl)
          case td10 => exact rfl
          case tg10 => exact rfl
          case ty10 => (intro w hSw; (try dsimp only at hSw); go_split_ands; go_simp; try with_reducible rfl)
          simp only [List.setIfInBounds_toArray, List.set_cons_zero, List.set_cons_succ]
          refine' takeV 9 (oi := _) (d := _) (v := _) ?ti11 ?td11 (by kernel_rfl) (by kernel_rfl) (by kernel_rfl) (by kernel_rfl) (by decide) (fun _ _ _ _ _ h => h) ?tg11 ?ty11 (by assumption) ?tr11
          case ti11 => (simp only [List.getElem?_toArray, List.getElem?_cons_succ, List.getElem?_cons_zero]; rfl)
          case td11 => exact rfl
          case tg11 => exact rfl
          case ty11 => (intro w hSw; (try dsimp only at hSw); go_split_ands; go_simp; try with_reducible rfl)
          simp only [List.setIfInBounds_toArray, List.set_cons_zero, List.set_cons_succ]
          refine' takeV 10 (oi := _) (d := _) (v := _) ?ti12 ?td12 (by kernel_rfl) (by kernel_rfl) (by kernel_rfl) (by kernel_rfl) (by decide) (fun _ _ _ _ _ h => h) ?tg12 ?ty12 (by assumption) ?tr12
          case ti12 => (simp only [List.getElem?_toArray, List.getElem?_cons_succ, List.getElem?_cons_zero]; rfl)
          case td12 => exact rfl
          case tg12 => exact rfl
          case ty12 => (intro w hSw; (try dsimp only at hSw); go_split_ands; go_simp; try with_reducible rfl)
          simp only [List.setIfInBounds_toArray, List.set_cons_zero, List.set_cons_succ]
          refine' takeV 11 (oi := _) (d := _) (v := _) ?ti13 ?td13 (by kernel_rfl) (by kernel_rfl) (by kernel_rfl) (by kernel_rfl) (by decide) (fun _ _ _ _ _ h => h) ?tg13 ?ty13 (by assumption) ?tr13
          case ti13 => (simp only [List.getElem?_toArray, List.getElem?_cons_succ, List.getElem?_cons_zero]; rfl)
          case td13 => exact rfl
          case tg13 => exact rfl
          case ty13 => (intro w hSw; (try dsimp only at hSw); go_split_ands; go_simp; try with_reducible rfl)
          simp only [List.setIfInBounds_toArray, List.set_cons_zero, List.set_cons_succ]
          refine' takeV 12 (oi := _) (d := _) (v := _) ?ti14 ?td14 (by kernel_rfl) (by kernel_rfl) (by kernel_rfl) (by kernel_rfl) (by decide) (fun _ _ _ _ _ h => h) ?tg14 ?ty14 (by assumption) ?tr14
          case ti14 => (simp only [List.getElem?_toArray, List.getElem?_cons_succ, List.getElem?_cons_zero]; rfl)
          case td14 => exact rfl
          case tg14 => exact rfl
          case ty14 => (intro w hSw; (try dsimp only at hSw); go_split_ands; go_simp; try with_reducible rfl)
          simp only [List.setIfInBounds_toArray, List.set_cons_zero, List.set_cons_succ]
          refine' takeV 13 (oi := _) (d := _) (v := _) ?ti15 ?td15 (by kernel_rfl) (by kernel_rfl) (by kernel_rfl) (by kernel_rfl) (by decide) (fun _ _ _ _ _ h => h) ?tg15 ?ty15 (by assumption) ?tr15
          case ti15 => (simp only [List.getElem?_toArray, List.getElem?_cons_succ, List.getElem?_cons_zero]; rfl)
          case td15 => exact rfl
          case tg15 => exact rfl
          case ty15 => (intro w hSw; (try dsimp only at hSw); go_split_ands; go_simp; try with_reducible rfl)
          simp only [List.setIfInBounds_toArray, List.set_cons_zero, List.set_cons_succ]
          refine' takeV 14 (oi := _) (d := _) (v := _) ?ti16 ?td16 (by kernel_rfl) (by kernel_rfl) (by kernel_rfl) (by kernel_rfl) (by decide) (fun _ _ _ _ _ h => h) ?tg16 ?ty16 (by assumption) ?tr16
          case ti16 => (simp only [List.getElem?_toArray, List.getElem?_cons_succ, List.getElem?_cons_zero]; rfl)
          case td16 => exact rfl
          case tg16 => exact rfl
          case ty16 => (intro w hSw; (try dsimp only at hSw); go_split_ands; go_simp; try with_reducible rfl)
          simp only [List.setIfInBounds_toArray, List.set_cons_zero, List.set_cons_succ]
          refine' takeV 15 (oi := _) (d := _) (v := _) ?ti17 ?td17 (by kernel_rfl) (by kernel_rfl) (by kernel_rfl) (by kernel_rfl) (by decide) (fun _ _ _ _ _ h => h) ?tg17 ?ty17 (by assumption) ?tr17
          case ti17 => (simp only [List.getElem?_toArray, List.getElem?_cons_succ, List.getElem?_cons_zero]; rfl)
          case td17 => exact rfl
          case tg17 => exact rfl
          case ty17 => (intro w hSw; (try dsimp only at hSw); go_split_ands; go_simp; try with_reducible rfl)
          simp only [List.setIfInBounds_toArray, List.set_cons_zero, List.set_cons_succ]
          refine' takeV 16 (oi := _) (d := _) (v := _) ?ti18 ?td18 (by kernel_rfl) (by kernel_rfl) (by kernel_rfl) (by kernel_rfl) (by decide) (fun _ _ _ _ _ h => h) ?tg18 ?ty18 (by assumption) ?tr18
          case ti18 => (simp only [List.getElem?_toArray, List.getElem?_cons_succ, List.getElem?_cons_zero]; rfl)
          case td18 => exact rfl
          case tg18 => exact rfl
          case ty18 => (intro w hSw; (try dsimp only at hSw); go_split_ands; go_simp; try with_reducible rfl)
          simp only [List.setIfInBounds_toArray, List.set_cons_zero, List.set_cons_succ]
          refine' takeV 17 (oi := _) (d := _) (v := _) ?ti19 ?td19 (by kernel_rfl) (by kernel_rfl) (by kernel_rfl) (by kernel_rfl) (by decide) (fun _ _ _ _ _ h => h) ?tg19 ?ty19 (by assumption) ?tr19
          case ti19 => (simp only [List.getElem?_toArray, List.getElem?_cons_succ, List.getElem?_cons_zero]; rfl)
          case td19 => exact rfl
          case tg19 => exact rfl
          case ty19 => (intro w hSw; (try dsimp only at hSw); go_split_ands; go_simp; try with_reducible rfl)
          simp only [List.setIfInBounds_toArray, List.set_cons_zero, List.set_cons_succ]
          refine' takeV 18 (oi := _) (d := _) (v := _) ?ti20 ?td20 (by kernel_rfl) (by kernel_rfl) (by kernel_rfl) (by kernel_rfl) (by decide) (fun _ _ _ _ _ h => h) ?tg20 ?ty20 (by assumption) ?tr20
          case ti20 => (simp only [List.getElem?_toArray, List.getElem?_cons_succ, List.getElem?_cons_zero]; rfl)
          case td20 => exact rfl
          case tg20 => exact rfl
          case ty20 => (intro w hSw; (try dsimp only at hSw); go_split_ands; go_simp; try with_reducible rfl)
          simp only [List.setIfInBounds_toArray, List.set_cons_zero, List.set_cons_succ]
          refine' takeV 19 (oi := _) (d := _) (v := _) ?ti21 ?td21 (by kernel_rfl) (by kernel_rfl) (by kernel_rfl) (by kernel_rfl) (by decide) (fun _ _ _ _ _ h => h) ?tg21 ?ty21 (by assumption) ?tr21
          case ti21 => (simp only [List.getElem?_toArray, List.getElem?_cons_succ, List.getElem?_cons_zero]; rfl)
          case td21 => exact rfl
          case tg21 => exact rfl
          case ty21 => (intro w hSw; (try dsimp only at hSw); go_split_ands; go_simp; try with_reducible rfl)
          simp only [List.setIfInBounds_toArray, List.set_cons_zero, List.set_cons_succ]
          refine doneG (by kernel_rfl) ?_ _
          clear hHeld w1 w2 w3 w4 w5
          by_cases hs : 4000 < sm + 1 + q
          · have hd3 : decide ((sm : Int) + 1 + (q : Int) > 4000) = true := decide_eq_true (by omega)
            go_wp2_with fail
            go_ret
            exact HeavyP.yes (HWB.out.trans ((HBE.out.drew).mono (Nat.le_of_lt hWs)))
          · have hd3 : decide ((sm : Int) + 1 + (q : Int) > 4000) = false := decide_eq_false (by omega)
            go_wp2_with fail
            go_roundw
            case rel => exact ⟨i + 1, sm + 1 + q, by omega, by go_num, by go_num, by omega, by omega, HALL2.out, HBE.out.drew⟩
            case measure => first | (simp [intOf]; done) | (simp [intOf]; omega)
    · obtain rfl : i = n := by omega
      have HO : Hid (HOk es) := ⟨by rw [← HLn.out]; omega, by rw [← HLn.out]; exact HALL.out⟩
      clear hlt hi
      go_wp2_with fail
      go_ret
      exact HeavyP.no (HWB.out.trans (HBE.out.mono (Nat.le_of_lt hWs))) HO.out
end Go.Proofs.Ytihbpmceggghgaa
